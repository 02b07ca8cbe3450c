/-
  The document's answers, and the law ProductChain.
-/
import Derived.Test.YtpemblhbfafmpaaDoorM3
import Derived.Test.YtpemblhbfafmpaaDoorYW
import Derived.Test.YtpemblhbfafmpaaDoorP
namespace Go.Proofs.YtpemblhbfafmpaaDoor
open Go
attribute [local irreducible] G GO GR GT Fn FnV pt init exs pur sat own ImpS mat posL allV orL restX cellsX natsV rowTo rowX keysX lastP cntX
end Go.Proofs.YtpemblhbfafmpaaDoor
namespace Go.Proofs.YtpemblhbfafmpaaDoor
open Go
/-- The rows that have come, and some cells of the next one. -/
def linesK (X : Nat → Nat → Bool) (i k : Nat) : List (Nat × Nat) := lines X i ++ ((rowX X i).take k).map fun c => (i, c)
theorem linesK_nil (X : Nat → Nat → Bool) (i : Nat) : linesK X i 0 = lines X i := by
  unfold linesK; rw [List.take_zero, List.map_nil, List.append_nil]
theorem linesK_end (X : Nat → Nat → Bool) (i : Nat) : linesK X i (rowX X i).length = lines X (i + 1) := by
  unfold linesK; rw [List.take_length, lines_succ]
theorem linesK_succ (X : Nat → Nat → Bool) {i k c : Nat} (h : (rowX X i)[k]? = some c) : linesK X i (k + 1) = linesK X i k ++ [(i, c)] := by
  unfold linesK
  rw [List.take_add_one, h, List.map_append, List.append_assoc]; rfl
theorem lines_len (X : Nat → Nat → Bool) {i : Nat} (hi : i ≤ 1024) : (lines X i).length ≤ cntX X := by
  rw [← cellsX_len, lines_rest X hi, List.length_append]; omega
theorem linesK_len (X : Nat → Nat → Bool) {i : Nat} (hi : i < 1024) {k : Nat} (hk : k ≤ (rowX X i).length) : (linesK X i k).length ≤ cntX X ∧ (linesK X i k).length = (lines X i).length + k := by
  have h1 := lines_len X (i := i + 1) (by omega)
  rw [lines_succ, List.length_append, List.length_map] at h1
  unfold linesK
  rw [List.length_append, List.length_map, List.length_take]
  omega
theorem lines_more (X : Nat → Nat → Bool) (i : Nat) : (lines X (i + 1)).length = (lines X i).length + (rowX X i).length := by rw [lines_succ, List.length_append, List.length_map]
abbrev pairsV (l : List (Nat × Nat)) : List Value := cellsV (castL l)
theorem pairsV_one (l : List (Nat × Nat)) (i c : Nat) : pairsV l ++ [i64 (i : Nat), i64 (c : Nat)] = pairsV (l ++ [(i, c)]) := by
  simp [pairsV, cellsV, castL]
attribute [local irreducible] G GO GR GT Fn FnV pt init exs pur sat own ImpS mat posL allV orL exX putX restX cellsX natsV rowTo rowX keysX lastP cntX lines linesK
end Go.Proofs.YtpemblhbfafmpaaDoor
namespace Go.Proofs.YtpemblhbfafmpaaDoor
open Go
abbrev Cl := Int × Int
def ltC (p q : Cl) : Bool := decide (p.1 < q.1) || (decide (p.1 = q.1) && decide (p.2 < q.2))
def mrg : List Cl → List Cl → List Cl
  | [], ys => ys
  | xs, [] => xs
  | a :: xs, b :: ys => if ltC a b then a :: mrg xs (b :: ys) else if a = b then b :: mrg xs ys else b :: mrg (a :: xs) ys
termination_by xs ys => xs.length + ys.length
/-- Has the second one a cell that the first has not? -/
def mrgM : List Cl → List Cl → Bool
  | [], ys => !ys.isEmpty
  | _, [] => false
  | a :: xs, b :: ys => if ltC a b then mrgM xs (b :: ys) else if a = b then mrgM xs ys else true
termination_by xs ys => xs.length + ys.length
theorem mrg_nil (xs : List Cl) : mrg xs [] = xs := by cases xs <;> simp [mrg]
theorem mrg_nil' (ys : List Cl) : mrg [] ys = ys := by simp [mrg]
theorem mrgM_nil (xs : List Cl) : mrgM xs [] = false := by cases xs <;> simp [mrgM]
theorem mrgM_nil' (b : Cl) (ys : List Cl) : mrgM [] (b :: ys) = true := by simp [mrgM]
theorem mrg_lt {a b : Cl} {xs ys : List Cl} (h : ltC a b = true) : mrg (a :: xs) (b :: ys) = a :: mrg xs (b :: ys) := by rw [mrg, if_pos h]
theorem mrg_eq {a b : Cl} {xs ys : List Cl} (h : ltC a b = false) (e : a = b) : mrg (a :: xs) (b :: ys) = b :: mrg xs ys := by rw [mrg, if_neg (by simp [h]), if_pos e]
theorem mrg_gt {a b : Cl} {xs ys : List Cl} (h : ltC a b = false) (e : a ≠ b) : mrg (a :: xs) (b :: ys) = b :: mrg (a :: xs) ys := by rw [mrg, if_neg (by simp [h]), if_neg e]
theorem mrgM_lt {a b : Cl} {xs ys : List Cl} (h : ltC a b = true) : mrgM (a :: xs) (b :: ys) = mrgM xs (b :: ys) := by rw [mrgM, if_pos h]
theorem mrgM_eq {a b : Cl} {xs ys : List Cl} (h : ltC a b = false) (e : a = b) : mrgM (a :: xs) (b :: ys) = mrgM xs ys := by rw [mrgM, if_neg (by simp [h]), if_pos e]
theorem mrgM_gt {a b : Cl} {xs ys : List Cl} (h : ltC a b = false) (e : a ≠ b) : mrgM (a :: xs) (b :: ys) = true := by rw [mrgM, if_neg (by simp [h]), if_neg e]
theorem drop_at {α : Type} {l : List α} {k : Nat} {x : α} (h : l[k]? = some x) : l.drop k = x :: l.drop (k + 1) := by
  obtain ⟨hk, rfl⟩ := List.getElem?_eq_some_iff.1 h
  exact List.drop_eq_getElem_cons hk
theorem cellsV_snoc (l : List Cl) (p : Cl) : cellsV l ++ [i64 p.1, i64 p.2] = cellsV (l ++ [p]) := by simp [cellsV]
attribute [local irreducible] G GO GR GT GQ Fn FnV pt init exs pur sat own ImpS
theorem before_spec (p r : Cl) : Fn Tryd.prog 89 #[.agg #[i64 p.1, i64 p.2], .agg #[i64 r.1, i64 r.2]] [] (fun v Q => v = .bool (ltC p r) ∧ Q = []) := by
  obtain ⟨a, b⟩ := p
  obtain ⟨c, d⟩ := r
  refine Fn.mk2 Tryd.func89 rfl rfl fun w0 F => ?_
  unfold ltC
  dsimp only
  cases h1 : decide (a < c) with
  | true =>
    (refine G.seq ?_; refine G.region ?_; refine GO.box rfl rfl rfl fun b2 => ?_; refine GO.box rfl rfl rfl fun b3 => ?_; refine GO.assign rfl rfl ?_; refine GO.nil ?_; refine kthen_n ?_; refine G.seq ?_; refine G.region ?_; refine GO.fieldAddr rfl rfl ?_; refine GO.load1 rfl rfl rfl (Tk.t Tk.h) rfl ?_; refine GO.fieldAddr rfl rfl ?_; refine GO.load1 rfl rfl rfl Tk.h rfl ?_; refine GO.lti rfl rfl rfl ?_; refine GO.move rfl rfl ?_; refine GO.gF rfl rfl rfl (by assumption) ?_; refine GO.gF rfl rfl rfl (by assumption) ?_; refine GO.gF rfl rfl rfl (by assumption) ?_; refine GO.gF rfl rfl rfl (by assumption) ?_; refine GO.gF rfl rfl rfl (by assumption) ?_; refine GO.gF rfl rfl rfl (by assumption) ?_; refine GO.gU rfl rfl rfl ?_; refine GO.gU rfl rfl rfl ?_; refine GO.gU rfl rfl rfl ?_; refine GO.gU rfl rfl rfl ?_; refine GO.gU rfl rfl rfl ?_; refine GO.gF rfl rfl rfl (by assumption) ?_; refine GO.pickTa rfl rfl (by assumption) rfl ?_; refine GO.assign rfl rfl ?_; refine GO.nil ?_; refine kthen_n ?_; refine G.ret ?_)
    refine KF2.r1 rfl (RV.t rfl) ⟨by rw [Bool.true_or], rfl⟩ (ImpS.sb ?_)
    (skip; (refine Sb.s ?_; refine Sb.s ?_; exact Sb.r))
  | false =>
    cases h2 : decide (a = c) with
    | true =>
      (refine G.seq ?_; refine G.region ?_; refine GO.box rfl rfl rfl fun b2 => ?_; refine GO.box rfl rfl rfl fun b3 => ?_; refine GO.assign rfl rfl ?_; refine GO.nil ?_; refine kthen_n ?_; refine G.seq ?_; refine G.region ?_; refine GO.fieldAddr rfl rfl ?_; refine GO.load1 rfl rfl rfl (Tk.t Tk.h) rfl ?_; refine GO.fieldAddr rfl rfl ?_; refine GO.load1 rfl rfl rfl Tk.h rfl ?_; refine GO.lti rfl rfl rfl ?_; refine GO.move rfl rfl ?_; refine GO.gT rfl rfl (by assumption) ?_; refine GO.fieldAddr rfl rfl ?_; refine GO.gT rfl rfl (by assumption) ?_; refine GO.load1 rfl rfl rfl (Tk.t Tk.h) rfl ?_; refine GO.gT rfl rfl (by assumption) ?_; refine GO.fieldAddr rfl rfl ?_; refine GO.gT rfl rfl (by assumption) ?_; refine GO.load1 rfl rfl rfl Tk.h rfl ?_; refine GO.gT rfl rfl (by assumption) ?_; refine GO.eqi rfl rfl rfl ?_; refine GO.gT rfl rfl (by assumption) ?_; refine GO.move rfl rfl ?_; refine GO.gT rfl rfl (by assumption) ?_; refine GO.fieldAddr rfl rfl ?_; refine GO.gT rfl rfl (by assumption) ?_; refine GO.load1 rfl rfl rfl (Tk.t Tk.h) rfl ?_; refine GO.gT rfl rfl (by assumption) ?_; refine GO.fieldAddr rfl rfl ?_; refine GO.gT rfl rfl (by assumption) ?_; refine GO.load1 rfl rfl rfl Tk.h rfl ?_; refine GO.gT rfl rfl (by assumption) ?_; refine GO.lti rfl rfl rfl ?_; refine GO.gT rfl rfl (by assumption) ?_; refine GO.pickTa rfl rfl (by assumption) rfl ?_; refine GO.pickFa rfl rfl (by assumption) rfl ?_; refine GO.assign rfl rfl ?_; refine GO.nil ?_; refine kthen_n ?_; refine G.ret ?_)
      refine KF2.r1 rfl (RV.t rfl) ⟨by rw [Bool.false_or, Bool.true_and], rfl⟩ (ImpS.sb ?_)
      (skip; (refine Sb.s ?_; refine Sb.s ?_; exact Sb.r))
    | false =>
      (refine G.seq ?_; refine G.region ?_; refine GO.box rfl rfl rfl fun b2 => ?_; refine GO.box rfl rfl rfl fun b3 => ?_; refine GO.assign rfl rfl ?_; refine GO.nil ?_; refine kthen_n ?_; refine G.seq ?_; refine G.region ?_; refine GO.fieldAddr rfl rfl ?_; refine GO.load1 rfl rfl rfl (Tk.t Tk.h) rfl ?_; refine GO.fieldAddr rfl rfl ?_; refine GO.load1 rfl rfl rfl Tk.h rfl ?_; refine GO.lti rfl rfl rfl ?_; refine GO.move rfl rfl ?_; refine GO.gT rfl rfl (by assumption) ?_; refine GO.fieldAddr rfl rfl ?_; refine GO.gT rfl rfl (by assumption) ?_; refine GO.load1 rfl rfl rfl (Tk.t Tk.h) rfl ?_; refine GO.gT rfl rfl (by assumption) ?_; refine GO.fieldAddr rfl rfl ?_; refine GO.gT rfl rfl (by assumption) ?_; refine GO.load1 rfl rfl rfl Tk.h rfl ?_; refine GO.gT rfl rfl (by assumption) ?_; refine GO.eqi rfl rfl rfl ?_; refine GO.gT rfl rfl (by assumption) ?_; refine GO.move rfl rfl ?_; refine GO.gF rfl rfl rfl (by assumption) ?_; refine GO.gF rfl rfl rfl (by assumption) ?_; refine GO.gF rfl rfl rfl (by assumption) ?_; refine GO.gF rfl rfl rfl (by assumption) ?_; refine GO.gF rfl rfl rfl (by assumption) ?_; refine GO.gT rfl rfl (by assumption) ?_; refine GO.pickFa rfl rfl (by assumption) rfl ?_; refine GO.pickFa rfl rfl (by assumption) rfl ?_; refine GO.assign rfl rfl ?_; refine GO.nil ?_; refine kthen_n ?_; refine G.ret ?_)
      refine KF2.r1 rfl (RV.t rfl) ⟨by rw [Bool.false_or, Bool.false_and], rfl⟩ (ImpS.sb ?_)
      (skip; (refine Sb.s ?_; refine Sb.s ?_; exact Sb.r))
end Go.Proofs.YtpemblhbfafmpaaDoor
namespace Go.Proofs.YtpemblhbfafmpaaDoor
open Go
theorem EqR.celC {d : Nat} (p r : Cl) : EqR Tryd.prog (d + 2) 70 (.agg #[i64 p.1, i64 p.2]) (.agg #[i64 r.1, i64 r.2]) (decide (p = r)) := by
  have h := EqR.cell (d := d) (a := p.1) (b := p.2) (a' := r.1) (b' := r.2)
  rwa [show (decide (p.1 = r.1) && decide (p.2 = r.2)) = decide (p = r) by rw [Bool.eq_iff_iff, Bool.and_eq_true, decide_eq_true_iff, decide_eq_true_iff, decide_eq_true_iff]; exact ⟨fun h => Prod.ext h.1 h.2, fun h => by rw [h]; exact ⟨rfl, rfl⟩⟩] at h
attribute [local irreducible] G GO GR GT GQ Fn FnV pt init exs pur sat own ImpS cellsV
set_option maxHeartbeats 8000000 in
theorem merge_spec (R : HP) (va vb : Value) (la lb : List Cl) (ha : SlR R va la.length 2 (cellsV la)) (hb : SlR R vb lb.length 2 (cellsV lb)) (hn : (la.length + lb.length) * 16 ≤ 140737488355328) :
    Fn Tryd.prog 74 #[va, vb] [R] (fun r Q => ∃ v, r = .tuple #[v, .bool (mrgM la lb)] ∧ Q = [own 70 2 (mrg la lb).length v (cellsV (mrg la lb)), R]) := by
  obtain ⟨aa, ca, rfl, _, hra⟩ := ha
  obtain ⟨ab, cb, rfl, _, hrb⟩ := hb
  refine Fn.mk2 Tryd.func74 rfl rfl fun w0 F => ?_
  refine G.ownNil (T := 70) (sz := 2) ?_
  (refine G.seq ?_; refine G.region ?_; refine GO.assign rfl rfl ?_; refine GO.assign rfl rfl ?_; refine GO.nil ?_; refine kthen_n ?_; refine G.seq ?_; refine G.region ?_; refine GO.assign rfl rfl ?_; refine GO.nil ?_; refine kthen_n ?_; refine G.seq ?_; refine G.region ?_; refine GO.assign rfl rfl ?_; refine GO.nil ?_; refine kthen_n ?_; refine G.seq ?_; refine G.region ?_; refine GO.assign rfl rfl ?_; refine GO.assign rfl rfl ?_; refine GO.nil ?_; refine kthen_n ?_; refine G.seq ?_; refine G.block ?_)
  refine G.loop (fun st : Nat × Nat × Value × List Cl × Bool => [(0, .slice aa la.length ca), (1, .slice ab lb.length cb), (6, st.2.2.1), (7, .bool st.2.2.2.2), (8, i64 (st.1 : Nat)), (9, i64 (st.2.1 : Nat))])
    (fun st => own 70 2 st.2.2.2.1.length st.2.2.1 (cellsV st.2.2.2.1) :: R :: F)
    (fun st => st.1 ≤ la.length ∧ st.2.1 ≤ lb.length ∧ st.2.2.2.1 ++ mrg (la.drop st.1) (lb.drop st.2.1) = mrg la lb ∧ (st.2.2.2.2 || mrgM (la.drop st.1) (lb.drop st.2.1)) = mrgM la lb ∧ st.2.2.2.1.length ≤ st.1 + st.2.1)
    (fun st => (la.length - st.1) + (lb.length - st.2.1)) (0, 0, .slice none 0 0, [], false) ⟨Nat.zero_le _, Nat.zero_le _, rfl, rfl, Nat.le_refl _⟩ ?_ ?_ ?_
  · (refine SubE.c rfl rfl ?_; refine SubE.c rfl rfl ?_; refine SubE.c rfl rfl ?_; refine SubE.c rfl rfl ?_; refine SubE.c rfl rfl ?_; refine SubE.c rfl rfl ?_; exact SubE.n)
  · rw [show cellsV [] = [] by unfold cellsV; rfl]
    ((refine Sb.c Tk.h ?_; refine Sb.c Tk.h ?_); (exact Sb.r))
  rintro ⟨i, j, v, out, more⟩ ⟨hi, hj, hout, hmore, hlen⟩
  dsimp only at hi hj hout hmore hlen ⊢
  cases hx : la[i]? with
  | none =>
    have hil : i = la.length := by have := List.getElem?_eq_none_iff.1 hx; omega
    have hda : la.drop i = [] := List.drop_eq_nil_iff.2 (by omega)
    rw [hda] at hout hmore
    have d1 : decide ((i : Int) < (la.length : Int)) = false := decide_eq_false (by omega)
    cases hy : lb[j]? with
    | none =>
      have hjl : j = lb.length := by have := List.getElem?_eq_none_iff.1 hy; omega
      have hdb : lb.drop j = [] := List.drop_eq_nil_iff.2 (by omega)
      rw [hdb, mrg_nil, List.append_nil] at hout
      rw [hdb, mrgM_nil, Bool.or_false] at hmore
      have d2 : decide ((j : Int) < (lb.length : Int)) = false := decide_eq_false (by omega)
      (refine G.seq ?_; refine G.seq ?_; refine G.region ?_; refine GO.move rfl rfl ?_; refine GO.move rfl rfl ?_; refine GO.lenS rfl rfl ?_; refine GO.lti rfl rfl rfl ?_; refine GO.move rfl rfl ?_; refine GO.gT rfl rfl (by assumption) ?_; refine GO.move rfl rfl ?_; refine GO.gT rfl rfl (by assumption) ?_; refine GO.move rfl rfl ?_; refine GO.gT rfl rfl (by assumption) ?_; refine GO.lenS rfl rfl ?_; refine GO.gT rfl rfl (by assumption) ?_; refine GO.lti rfl rfl rfl ?_; refine GO.pickFa rfl rfl (by assumption) rfl ?_; refine GO.nil ?_; refine kthen_n ?_; refine G.condF rfl (by assumption) ?_; refine G.exit ?_; refine kthen_x ?_; refine kthen_x ?_; refine kblock_x ?_; refine kthen_n ?_; refine G.seq ?_; refine G.region ?_; refine GO.move rfl rfl ?_; refine GO.move rfl rfl ?_; refine GO.assign rfl rfl ?_; refine GO.assign rfl rfl ?_; refine GO.nil ?_; refine kthen_n ?_; refine G.ret ?_)
      refine KF2.r2 rfl (RV.t rfl) (RV.t rfl) ⟨v, by rw [hmore], rfl⟩ (ImpS.sb ?_)
      rw [← hout]
      ((refine Sb.c Tk.h ?_; refine Sb.c Tk.h ?_); (exact Sb.r))
    | some y =>
      have hjl := (List.getElem?_eq_some_iff.1 hy).1
      rw [drop_at hy] at hout hmore
      rw [mrg_nil'] at hout
      rw [mrgM_nil', Bool.or_true] at hmore
      have d2 : decide ((j : Int) < (lb.length : Int)) = true := decide_eq_true (by omega)
      have d3 : decide ((j : Int) = (lb.length : Int)) = false := decide_eq_false (by omega)
      obtain ⟨bb, ob, rfl, hr⟩ := hrb (by omega)
      have r1 : Rd R ⟨bb, ob + j * 2, none⟩ (i64 y.1) := hr _ _ (cellsV_get hy).1
      have r2 : Rd R ⟨bb, ob + j * 2 + 1, none⟩ (i64 y.2) := hr _ _ (cellsV_get hy).2
      (refine G.seq ?_; refine G.seq ?_; refine G.region ?_; refine GO.move rfl rfl ?_; refine GO.move rfl rfl ?_; refine GO.lenS rfl rfl ?_; refine GO.lti rfl rfl rfl ?_; refine GO.move rfl rfl ?_; refine GO.gT rfl rfl (by assumption) ?_; refine GO.move rfl rfl ?_; refine GO.gT rfl rfl (by assumption) ?_; refine GO.move rfl rfl ?_; refine GO.gT rfl rfl (by assumption) ?_; refine GO.lenS rfl rfl ?_; refine GO.gT rfl rfl (by assumption) ?_; refine GO.lti rfl rfl rfl ?_; refine GO.pickFa rfl rfl (by assumption) rfl ?_; refine GO.nil ?_; refine kthen_n ?_; refine G.condT rfl (by assumption) ?_; refine G.skip ?_; refine kthen_n ?_; refine G.block ?_; refine G.seq ?_; refine G.seq ?_)
      refine G.draw 21 (by kernel_rfl) ?_
      ((apply GQ.step; focus (intro Z; refine GO.move rfl rfl ?_; exact KQ.z)); (apply GQ.step; focus (intro Z; refine GO.move rfl rfl ?_; exact KQ.z)); (apply GQ.step; focus (intro Z; refine GO.lenS rfl rfl ?_; exact KQ.z)); (apply GQ.step; focus (intro Z; refine GO.eqi rfl rfl rfl ?_; exact KQ.z)); (apply GQ.step; focus (intro Z; refine GO.move rfl rfl ?_; exact KQ.z)); (apply GQ.step; focus (intro Z; refine GO.gT rfl rfl (by assumption) ?_; refine GO.move rfl rfl ?_; exact KQ.z)); (apply GQ.step; focus (intro Z; refine GO.gT rfl rfl (by assumption) ?_; refine GO.move rfl rfl ?_; exact KQ.z)); (apply GQ.step; focus (intro Z; refine GO.gT rfl rfl (by assumption) ?_; refine GO.lenS rfl rfl ?_; exact KQ.z)); (apply GQ.step; focus (intro Z; refine GO.gT rfl rfl (by assumption) ?_; refine GO.lti rfl rfl rfl ?_; exact KQ.z)); (apply GQ.step; focus (intro Z; refine GO.gT rfl rfl (by assumption) ?_; refine GO.move rfl rfl ?_; exact KQ.z)); (apply GQ.step; focus (intro Z; refine GO.gF rfl rfl rfl (by assumption) ?_; exact KQ.z)); (apply GQ.step; focus (intro Z; refine GO.gF rfl rfl rfl (by assumption) ?_; exact KQ.z)); (apply GQ.step; focus (intro Z; refine GO.gF rfl rfl rfl (by assumption) ?_; exact KQ.z)); (apply GQ.step; focus (intro Z; refine GO.gF rfl rfl rfl (by assumption) ?_; exact KQ.z)); (apply GQ.step; focus (intro Z; refine GO.gF rfl rfl rfl (by assumption) ?_; exact KQ.z)); (apply GQ.step; focus (intro Z; refine GO.gF rfl rfl rfl (by assumption) ?_; exact KQ.z)); (apply GQ.step; focus (intro Z; refine GO.gF rfl rfl rfl (by assumption) ?_; exact KQ.z)); (apply GQ.step; focus (intro Z; refine GO.gF rfl rfl rfl (by assumption) ?_; exact KQ.z)); (apply GQ.step; focus (intro Z; refine GO.gF rfl rfl rfl (by assumption) ?_; exact KQ.z)); (apply GQ.step; focus (intro Z; refine GO.gT rfl rfl (by assumption) ?_; refine GO.pickFa rfl rfl (by assumption) rfl ?_; exact KQ.z)); (apply GQ.step; focus (intro Z; refine GO.pickFa rfl rfl (by assumption) rfl ?_; exact KQ.z)); refine GQ.nil ?_)
      (refine GO.nil ?_; refine kthen_n ?_; refine G.condF rfl rfl ?_; refine G.skip ?_; refine kthen_n ?_; refine G.seq ?_; refine G.seq ?_)
      refine G.draw 15 (by kernel_rfl) ?_
      ((apply GQ.step; focus (intro Z; refine GO.move rfl rfl ?_; exact KQ.z)); (apply GQ.step; focus (intro Z; refine GO.move rfl rfl ?_; exact KQ.z)); (apply GQ.step; focus (intro Z; refine GO.lenS rfl rfl ?_; exact KQ.z)); (apply GQ.step; focus (intro Z; refine GO.lti rfl rfl rfl ?_; exact KQ.z)); (apply GQ.step; focus (intro Z; refine GO.move rfl rfl ?_; exact KQ.z)); (apply GQ.step; focus (intro Z; refine GO.gF rfl rfl rfl (by assumption) ?_; exact KQ.z)); (apply GQ.step; focus (intro Z; refine GO.gF rfl rfl rfl (by assumption) ?_; exact KQ.z)); (apply GQ.step; focus (intro Z; refine GO.gF rfl rfl rfl (by assumption) ?_; exact KQ.z)); (apply GQ.step; focus (intro Z; refine GO.gF rfl rfl rfl (by assumption) ?_; exact KQ.z)); (apply GQ.step; focus (intro Z; refine GO.gF rfl rfl rfl (by assumption) ?_; exact KQ.z)); (apply GQ.step; focus (intro Z; refine GO.gF rfl rfl rfl (by assumption) ?_; exact KQ.z)); (apply GQ.step; focus (intro Z; refine GO.gF rfl rfl rfl (by assumption) ?_; exact KQ.z)); (apply GQ.step; focus (intro Z; refine GO.gF rfl rfl rfl (by assumption) ?_; exact KQ.z)); (apply GQ.step; focus (intro Z; refine GO.gF rfl rfl rfl (by assumption) ?_; exact KQ.z)); (apply GQ.step; focus (intro Z; refine GO.pickFa rfl rfl (by assumption) rfl ?_; exact KQ.z)); refine GQ.nil ?_)
      (refine GO.nil ?_; refine kthen_n ?_; refine G.condF rfl rfl ?_; refine G.region ?_; refine GO.assign rfl rfl ?_; refine GO.nil ?_; refine kthen_n ?_; refine G.seq ?_; refine G.region ?_; refine GO.move rfl rfl ?_; refine GO.move rfl rfl ?_; refine GO.move rfl rfl ?_; refine GO.idxS rfl rfl rfl ⟨rfl, by omega⟩ ?_; refine GO.load2 rfl rfl rfl (Tk.t Tk.h) (by assumption) (by assumption) ?_)
      refine GO.buildSlice1 rfl rfl (by simp; rfl) rfl ⟨by omega, by omega⟩ fun bs => ?_
      refine GO.appendOwn (m := 1) (news := [i64 y.1, i64 y.2]) rfl rfl rfl (Tk.t Tk.h) Tk.h rfl (by simp [Value.oneCell']) ⟨by decide, rfl⟩ Nat.one_pos (by unfold maxLen; omega) (by omega) fun v4 => ?_
      rw [cellsV_snoc, show out.length + 1 = (out ++ [y]).length by rw [List.length_append]; rfl]
      (refine GO.assign rfl rfl ?_; refine GO.nil ?_; refine kthen_n ?_; refine G.region ?_; refine GO.move rfl rfl ?_; refine GO.addi rfl rfl rfl (by omega) ?_; refine GO.assign rfl rfl ?_; refine GO.nil ?_; refine kblock_n ?_; refine kthen_n ?_)
      refine ⟨(i, j + 1, v4, out ++ [y], true), ⟨by dsimp only; omega, by dsimp only; omega, by dsimp only; rw [hda, mrg_nil', List.append_assoc]; exact hout, by dsimp only; rw [Bool.true_or]; exact hmore, by dsimp only; rw [List.length_append, List.length_singleton]; omega⟩, by dsimp only; omega, ?_, ?_⟩
      · (refine SubE.c rfl rfl ?_; refine SubE.c rfl rfl ?_; refine SubE.c rfl rfl ?_; refine SubE.c rfl rfl ?_; refine SubE.c rfl rfl ?_; refine SubE.c rfl rfl ?_; exact SubE.n)
      · ((refine Sb.c Tk.h ?_; refine Sb.c (Tk.t Tk.h) ?_); (refine Sb.s ?_; exact Sb.r))
  | some x =>
    have hil := (List.getElem?_eq_some_iff.1 hx).1
    have d1 : decide ((i : Int) < (la.length : Int)) = true := decide_eq_true (by omega)
    have hdx := drop_at hx
    rw [hdx] at hout hmore
    obtain ⟨ba, oa, rfl, hrx⟩ := hra (by omega)
    have r1 : Rd R ⟨ba, oa + i * 2, none⟩ (i64 x.1) := hrx _ _ (cellsV_get hx).1
    have r2 : Rd R ⟨ba, oa + i * 2 + 1, none⟩ (i64 x.2) := hrx _ _ (cellsV_get hx).2
    cases hy : lb[j]? with
    | none =>
      have hjl : j = lb.length := by have := List.getElem?_eq_none_iff.1 hy; omega
      have hdb : lb.drop j = [] := List.drop_eq_nil_iff.2 (by omega)
      rw [hdb, mrg_nil] at hout
      rw [hdb, mrgM_nil] at hmore
      have d3 : decide ((j : Int) = (lb.length : Int)) = true := decide_eq_true (by omega)
      (refine G.seq ?_; refine G.seq ?_; refine G.region ?_; refine GO.move rfl rfl ?_; refine GO.move rfl rfl ?_; refine GO.lenS rfl rfl ?_; refine GO.lti rfl rfl rfl ?_; refine GO.move rfl rfl ?_; refine GO.gF rfl rfl rfl (by assumption) ?_; refine GO.gF rfl rfl rfl (by assumption) ?_; refine GO.gF rfl rfl rfl (by assumption) ?_; refine GO.gF rfl rfl rfl (by assumption) ?_; refine GO.pickTa rfl rfl (by assumption) rfl ?_; refine GO.nil ?_; refine kthen_n ?_; refine G.condT rfl rfl ?_; refine G.skip ?_; refine kthen_n ?_; refine G.block ?_; refine G.seq ?_; refine G.seq ?_)
      refine G.draw 21 (by kernel_rfl) ?_
      ((apply GQ.step; focus (intro Z; refine GO.move rfl rfl ?_; exact KQ.z)); (apply GQ.step; focus (intro Z; refine GO.move rfl rfl ?_; exact KQ.z)); (apply GQ.step; focus (intro Z; refine GO.lenS rfl rfl ?_; exact KQ.z)); (apply GQ.step; focus (intro Z; refine GO.eqi rfl rfl rfl ?_; exact KQ.z)); (apply GQ.step; focus (intro Z; refine GO.move rfl rfl ?_; exact KQ.z)); (apply GQ.step; focus (intro Z; refine GO.gF rfl rfl rfl (by assumption) ?_; exact KQ.z)); (apply GQ.step; focus (intro Z; refine GO.gF rfl rfl rfl (by assumption) ?_; exact KQ.z)); (apply GQ.step; focus (intro Z; refine GO.gF rfl rfl rfl (by assumption) ?_; exact KQ.z)); (apply GQ.step; focus (intro Z; refine GO.gF rfl rfl rfl (by assumption) ?_; exact KQ.z)); (apply GQ.step; focus (intro Z; refine GO.gF rfl rfl rfl (by assumption) ?_; exact KQ.z)); (apply GQ.step; focus (intro Z; refine GO.gU rfl rfl rfl ?_; exact KQ.z)); (apply GQ.step; focus (intro Z; refine GO.gU rfl rfl rfl ?_; exact KQ.z)); (apply GQ.step; focus (intro Z; refine GO.gU rfl rfl rfl ?_; exact KQ.z)); (apply GQ.step; focus (intro Z; refine GO.gU rfl rfl rfl ?_; exact KQ.z)); (apply GQ.step; focus (intro Z; refine GO.gU rfl rfl rfl ?_; exact KQ.z)); (apply GQ.step; focus (intro Z; refine GO.gU rfl rfl rfl ?_; exact KQ.z)); (apply GQ.step; focus (intro Z; refine GO.gU rfl rfl rfl ?_; exact KQ.z)); (apply GQ.step; focus (intro Z; refine GO.gU rfl rfl rfl ?_; exact KQ.z)); (apply GQ.step; focus (intro Z; refine GO.gU rfl rfl rfl ?_; exact KQ.z)); (apply GQ.step; focus (intro Z; refine GO.gF rfl rfl rfl (by assumption) ?_; exact KQ.z)); (apply GQ.step; focus (intro Z; refine GO.pickTa rfl rfl (by assumption) rfl ?_; exact KQ.z)); refine GQ.nil ?_)
      (refine GO.nil ?_; refine kthen_n ?_; refine G.condT rfl rfl ?_; refine G.seq ?_; refine G.region ?_; refine GO.move rfl rfl ?_; refine GO.move rfl rfl ?_; refine GO.move rfl rfl ?_; refine GO.idxS rfl rfl rfl ⟨rfl, by omega⟩ ?_; refine GO.load2 rfl rfl rfl (Tk.t Tk.h) (by assumption) (by assumption) ?_)
      refine GO.buildSlice1 rfl rfl (by simp; rfl) rfl ⟨by omega, by omega⟩ fun bs => ?_
      refine GO.appendOwn (m := 1) (news := [i64 x.1, i64 x.2]) rfl rfl rfl (Tk.t Tk.h) Tk.h rfl (by simp [Value.oneCell']) ⟨by decide, rfl⟩ Nat.one_pos (by unfold maxLen; omega) (by omega) fun v4 => ?_
      rw [cellsV_snoc, show out.length + 1 = (out ++ [x]).length by rw [List.length_append]; rfl]
      (refine GO.assign rfl rfl ?_; refine GO.nil ?_; refine kthen_n ?_; refine G.seq ?_; refine G.region ?_; refine GO.move rfl rfl ?_; refine GO.addi rfl rfl rfl (by omega) ?_; refine GO.assign rfl rfl ?_; refine GO.nil ?_; refine kthen_n ?_; refine G.exit ?_; refine kthen_x ?_; refine kblock_x ?_; refine kthen_n ?_)
      refine ⟨(i + 1, j, v4, out ++ [x], more), ⟨by dsimp only; omega, by dsimp only; omega, by dsimp only; rw [hdb, mrg_nil, List.append_assoc]; exact hout, by dsimp only; rw [hdb, mrgM_nil]; exact hmore, by dsimp only; rw [List.length_append, List.length_singleton]; omega⟩, by dsimp only; omega, ?_, ?_⟩
      · (refine SubE.c rfl rfl ?_; refine SubE.c rfl rfl ?_; refine SubE.c rfl rfl ?_; refine SubE.c rfl rfl ?_; refine SubE.c rfl rfl ?_; refine SubE.c rfl rfl ?_; exact SubE.n)
      · ((refine Sb.c Tk.h ?_; refine Sb.c (Tk.t Tk.h) ?_); (refine Sb.s ?_; exact Sb.r))
    | some y =>
      have hjl := (List.getElem?_eq_some_iff.1 hy).1
      have hdy := drop_at hy
      rw [hdy] at hout hmore
      have d3 : decide ((j : Int) = (lb.length : Int)) = false := decide_eq_false (by omega)
      obtain ⟨bb, ob, rfl, hry⟩ := hrb (by omega)
      have r3 : Rd R ⟨bb, ob + j * 2, none⟩ (i64 y.1) := hry _ _ (cellsV_get hy).1
      have r4 : Rd R ⟨bb, ob + j * 2 + 1, none⟩ (i64 y.2) := hry _ _ (cellsV_get hy).2
      (refine G.seq ?_; refine G.seq ?_; refine G.region ?_; refine GO.move rfl rfl ?_; refine GO.move rfl rfl ?_; refine GO.lenS rfl rfl ?_; refine GO.lti rfl rfl rfl ?_; refine GO.move rfl rfl ?_; refine GO.gF rfl rfl rfl (by assumption) ?_; refine GO.gF rfl rfl rfl (by assumption) ?_; refine GO.gF rfl rfl rfl (by assumption) ?_; refine GO.gF rfl rfl rfl (by assumption) ?_; refine GO.pickTa rfl rfl (by assumption) rfl ?_; refine GO.nil ?_; refine kthen_n ?_; refine G.condT rfl rfl ?_; refine G.skip ?_; refine kthen_n ?_; refine G.block ?_; refine G.seq ?_; refine G.seq ?_)
      refine G.draw 21 (by kernel_rfl) ?_
      ((apply GQ.step; focus (intro Z; refine GO.move rfl rfl ?_; exact KQ.z)); (apply GQ.step; focus (intro Z; refine GO.move rfl rfl ?_; exact KQ.z)); (apply GQ.step; focus (intro Z; refine GO.lenS rfl rfl ?_; exact KQ.z)); (apply GQ.step; focus (intro Z; refine GO.eqi rfl rfl rfl ?_; exact KQ.z)); (apply GQ.step; focus (intro Z; refine GO.move rfl rfl ?_; exact KQ.z)); (apply GQ.step; focus (intro Z; refine GO.gT rfl rfl (by assumption) ?_; refine GO.move rfl rfl ?_; exact KQ.z)); (apply GQ.step; focus (intro Z; refine GO.gT rfl rfl (by assumption) ?_; refine GO.move rfl rfl ?_; exact KQ.z)); (apply GQ.step; focus (intro Z; refine GO.gT rfl rfl (by assumption) ?_; refine GO.lenS rfl rfl ?_; exact KQ.z)); (apply GQ.step; focus (intro Z; refine GO.gT rfl rfl (by assumption) ?_; refine GO.lti rfl rfl rfl ?_; exact KQ.z)); (apply GQ.step; focus (intro Z; refine GO.gT rfl rfl (by assumption) ?_; refine GO.move rfl rfl ?_; exact KQ.z)); (apply GQ.step; focus (intro Z; refine GO.gT rfl rfl (by assumption) ?_; refine GO.move rfl rfl ?_; exact KQ.z)); (apply GQ.step; focus (intro Z; refine GO.gT rfl rfl (by assumption) ?_; refine GO.move rfl rfl ?_; exact KQ.z)); (apply GQ.step; focus (intro Z; refine GO.gT rfl rfl (by assumption) ?_; refine GO.idxS rfl rfl rfl ⟨rfl, by omega⟩ ?_; exact KQ.z)); (apply GQ.step; focus (intro Z; refine GO.gT rfl rfl (by assumption) ?_; refine GO.load2 rfl rfl rfl (Tk.t Tk.h) (by assumption) (by assumption) ?_; exact KQ.z)); (apply GQ.step; focus (intro Z; refine GO.gT rfl rfl (by assumption) ?_; refine GO.move rfl rfl ?_; exact KQ.z)); (apply GQ.step; focus (intro Z; refine GO.gT rfl rfl (by assumption) ?_; refine GO.move rfl rfl ?_; exact KQ.z)); (apply GQ.step; focus (intro Z; refine GO.gT rfl rfl (by assumption) ?_; refine GO.idxS rfl rfl rfl ⟨rfl, by omega⟩ ?_; exact KQ.z)); (apply GQ.step; focus (intro Z; refine GO.gT rfl rfl (by assumption) ?_; refine GO.load2 rfl rfl rfl (Tk.t Tk.h) (by assumption) (by assumption) ?_; exact KQ.z)))
      apply GQ.step; focus (intro Z; refine GO.gT rfl rfl (by assumption) ?_; refine GO.call2 rfl rfl rfl (before_spec x y) Tks.n ?_; rintro _ _ ⟨rfl, rfl⟩; exact KQ.z)
      cases hl : ltC x y with
      | true =>
        rw [mrg_lt hl] at hout
        rw [mrgM_lt hl] at hmore
        ((apply GQ.step; focus (intro Z; refine GO.gT rfl rfl (by assumption) ?_; refine GO.pickTa rfl rfl (by assumption) rfl ?_; exact KQ.z)); (apply GQ.step; focus (intro Z; refine GO.pickFa rfl rfl (by assumption) rfl ?_; exact KQ.z)); refine GQ.nil ?_)
        (refine GO.nil ?_; refine kthen_n ?_; refine G.condT rfl rfl ?_; refine G.seq ?_; refine G.region ?_; refine GO.move rfl rfl ?_; refine GO.move rfl rfl ?_; refine GO.move rfl rfl ?_; refine GO.idxS rfl rfl rfl ⟨rfl, by omega⟩ ?_; refine GO.load2 rfl rfl rfl (Tk.t Tk.h) (by assumption) (by assumption) ?_)
        refine GO.buildSlice1 rfl rfl (by simp; rfl) rfl ⟨by omega, by omega⟩ fun bs => ?_
        refine GO.appendOwn (m := 1) (news := [i64 x.1, i64 x.2]) rfl rfl rfl (Tk.t Tk.h) Tk.h rfl (by simp [Value.oneCell']) ⟨by decide, rfl⟩ Nat.one_pos (by unfold maxLen; omega) (by omega) fun v4 => ?_
        rw [cellsV_snoc, show out.length + 1 = (out ++ [x]).length by rw [List.length_append]; rfl]
        (refine GO.assign rfl rfl ?_; refine GO.nil ?_; refine kthen_n ?_; refine G.seq ?_; refine G.region ?_; refine GO.move rfl rfl ?_; refine GO.addi rfl rfl rfl (by omega) ?_; refine GO.assign rfl rfl ?_; refine GO.nil ?_; refine kthen_n ?_; refine G.exit ?_; refine kthen_x ?_; refine kblock_x ?_; refine kthen_n ?_)
        refine ⟨(i + 1, j, v4, out ++ [x], more), ⟨by dsimp only; omega, by dsimp only; omega, by dsimp only; rw [hdy, List.append_assoc]; exact hout, by dsimp only; rw [hdy]; exact hmore, by dsimp only; rw [List.length_append, List.length_singleton]; omega⟩, by dsimp only; omega, ?_, ?_⟩
        · (refine SubE.c rfl rfl ?_; refine SubE.c rfl rfl ?_; refine SubE.c rfl rfl ?_; refine SubE.c rfl rfl ?_; refine SubE.c rfl rfl ?_; refine SubE.c rfl rfl ?_; exact SubE.n)
        · ((refine Sb.c Tk.h ?_; refine Sb.c (Tk.t Tk.h) ?_); (refine Sb.s ?_; exact Sb.r))
      | false =>
        ((apply GQ.step; focus (intro Z; refine GO.gT rfl rfl (by assumption) ?_; refine GO.pickTa rfl rfl (by assumption) rfl ?_; exact KQ.z)); (apply GQ.step; focus (intro Z; refine GO.pickFa rfl rfl (by assumption) rfl ?_; exact KQ.z)); refine GQ.nil ?_)
        (refine GO.nil ?_; refine kthen_n ?_; refine G.condF rfl rfl ?_; refine G.skip ?_; refine kthen_n ?_; refine G.seq ?_; refine G.seq ?_)
        refine G.draw 15 (by kernel_rfl) ?_
        ((apply GQ.step; focus (intro Z; refine GO.move rfl rfl ?_; exact KQ.z)); (apply GQ.step; focus (intro Z; refine GO.move rfl rfl ?_; exact KQ.z)); (apply GQ.step; focus (intro Z; refine GO.lenS rfl rfl ?_; exact KQ.z)); (apply GQ.step; focus (intro Z; refine GO.lti rfl rfl rfl ?_; exact KQ.z)); (apply GQ.step; focus (intro Z; refine GO.move rfl rfl ?_; exact KQ.z)); (apply GQ.step; focus (intro Z; refine GO.gT rfl rfl (by assumption) ?_; refine GO.move rfl rfl ?_; exact KQ.z)); (apply GQ.step; focus (intro Z; refine GO.gT rfl rfl (by assumption) ?_; refine GO.move rfl rfl ?_; exact KQ.z)); (apply GQ.step; focus (intro Z; refine GO.gT rfl rfl (by assumption) ?_; refine GO.idxS rfl rfl rfl ⟨rfl, by omega⟩ ?_; exact KQ.z)); (apply GQ.step; focus (intro Z; refine GO.gT rfl rfl (by assumption) ?_; refine GO.load2 rfl rfl rfl (Tk.t Tk.h) (by assumption) (by assumption) ?_; exact KQ.z)); (apply GQ.step; focus (intro Z; refine GO.gT rfl rfl (by assumption) ?_; refine GO.move rfl rfl ?_; exact KQ.z)); (apply GQ.step; focus (intro Z; refine GO.gT rfl rfl (by assumption) ?_; refine GO.move rfl rfl ?_; exact KQ.z)); (apply GQ.step; focus (intro Z; refine GO.gT rfl rfl (by assumption) ?_; refine GO.idxS rfl rfl rfl ⟨rfl, by omega⟩ ?_; exact KQ.z)); (apply GQ.step; focus (intro Z; refine GO.gT rfl rfl (by assumption) ?_; refine GO.load2 rfl rfl rfl (Tk.t Tk.h) (by assumption) (by assumption) ?_; exact KQ.z)))
        apply GQ.step; focus (intro Z; refine GO.gT rfl rfl (by assumption) ?_; refine GO.eqlA (EqR.celC x y) rfl rfl rfl ?_; exact KQ.z)
        by_cases he : x = y
        · rw [decide_eq_true he]
          rw [mrg_eq hl he] at hout
          rw [mrgM_eq hl he] at hmore
          ((apply GQ.step; focus (intro Z; refine GO.pickTa rfl rfl (by assumption) rfl ?_; exact KQ.z)); refine GQ.nil ?_)
          (refine GO.nil ?_; refine kthen_n ?_; refine G.condT rfl rfl ?_; refine G.region ?_; refine GO.move rfl rfl ?_; refine GO.addi rfl rfl rfl (by omega) ?_; refine GO.assign rfl rfl ?_; refine GO.nil ?_; refine kthen_n ?_; refine G.seq ?_; refine G.region ?_; refine GO.move rfl rfl ?_; refine GO.move rfl rfl ?_; refine GO.move rfl rfl ?_; refine GO.idxS rfl rfl rfl ⟨rfl, by omega⟩ ?_; refine GO.load2 rfl rfl rfl (Tk.t Tk.h) (by assumption) (by assumption) ?_)
          refine GO.buildSlice1 rfl rfl (by simp; rfl) rfl ⟨by omega, by omega⟩ fun bs => ?_
          refine GO.appendOwn (m := 1) (news := [i64 y.1, i64 y.2]) rfl rfl rfl (Tk.t Tk.h) Tk.h rfl (by simp [Value.oneCell']) ⟨by decide, rfl⟩ Nat.one_pos (by unfold maxLen; omega) (by omega) fun v4 => ?_
          rw [cellsV_snoc, show out.length + 1 = (out ++ [y]).length by rw [List.length_append]; rfl]
          (refine GO.assign rfl rfl ?_; refine GO.nil ?_; refine kthen_n ?_; refine G.region ?_; refine GO.move rfl rfl ?_; refine GO.addi rfl rfl rfl (by omega) ?_; refine GO.assign rfl rfl ?_; refine GO.nil ?_; refine kblock_n ?_; refine kthen_n ?_)
          refine ⟨(i + 1, j + 1, v4, out ++ [y], more), ⟨by dsimp only; omega, by dsimp only; omega, by dsimp only; rw [List.append_assoc]; exact hout, by dsimp only; exact hmore, by dsimp only; rw [List.length_append, List.length_singleton]; omega⟩, by dsimp only; omega, ?_, ?_⟩
          · (refine SubE.c rfl rfl ?_; refine SubE.c rfl rfl ?_; refine SubE.c rfl rfl ?_; refine SubE.c rfl rfl ?_; refine SubE.c rfl rfl ?_; refine SubE.c rfl rfl ?_; exact SubE.n)
          · ((refine Sb.c Tk.h ?_; refine Sb.c (Tk.t Tk.h) ?_); (refine Sb.s ?_; exact Sb.r))
        · rw [decide_eq_false he]
          rw [mrg_gt hl he] at hout
          rw [mrgM_gt hl he, Bool.or_true] at hmore
          ((apply GQ.step; focus (intro Z; refine GO.pickTa rfl rfl (by assumption) rfl ?_; exact KQ.z)); refine GQ.nil ?_)
          (refine GO.nil ?_; refine kthen_n ?_; refine G.condF rfl rfl ?_; refine G.region ?_; refine GO.assign rfl rfl ?_; refine GO.nil ?_; refine kthen_n ?_; refine G.seq ?_; refine G.region ?_; refine GO.move rfl rfl ?_; refine GO.move rfl rfl ?_; refine GO.move rfl rfl ?_; refine GO.idxS rfl rfl rfl ⟨rfl, by omega⟩ ?_; refine GO.load2 rfl rfl rfl (Tk.t Tk.h) (by assumption) (by assumption) ?_)
          refine GO.buildSlice1 rfl rfl (by simp; rfl) rfl ⟨by omega, by omega⟩ fun bs => ?_
          refine GO.appendOwn (m := 1) (news := [i64 y.1, i64 y.2]) rfl rfl rfl (Tk.t Tk.h) Tk.h rfl (by simp [Value.oneCell']) ⟨by decide, rfl⟩ Nat.one_pos (by unfold maxLen; omega) (by omega) fun v4 => ?_
          rw [cellsV_snoc, show out.length + 1 = (out ++ [y]).length by rw [List.length_append]; rfl]
          (refine GO.assign rfl rfl ?_; refine GO.nil ?_; refine kthen_n ?_; refine G.region ?_; refine GO.move rfl rfl ?_; refine GO.addi rfl rfl rfl (by omega) ?_; refine GO.assign rfl rfl ?_; refine GO.nil ?_; refine kblock_n ?_; refine kthen_n ?_)
          refine ⟨(i, j + 1, v4, out ++ [y], true), ⟨by dsimp only; omega, by dsimp only; omega, by dsimp only; rw [hdx, List.append_assoc]; exact hout, by dsimp only; rw [Bool.true_or]; exact hmore, by dsimp only; rw [List.length_append, List.length_singleton]; omega⟩, by dsimp only; omega, ?_, ?_⟩
          · (refine SubE.c rfl rfl ?_; refine SubE.c rfl rfl ?_; refine SubE.c rfl rfl ?_; refine SubE.c rfl rfl ?_; refine SubE.c rfl rfl ?_; refine SubE.c rfl rfl ?_; exact SubE.n)
          · ((refine Sb.c Tk.h ?_; refine Sb.c (Tk.t Tk.h) ?_); (refine Sb.s ?_; exact Sb.r))
end Go.Proofs.YtpemblhbfafmpaaDoor
namespace Go.Proofs.YtpemblhbfafmpaaDoor
open Go
def srt (l : List Cl) : List Cl := if l.length < 2 then l else mrg (srt (l.take (l.length / 2))) (srt (l.drop (l.length / 2)))
termination_by l.length
decreasing_by
  · rw [List.length_take]; omega
  · rw [List.length_drop]; omega
theorem srt_small {l : List Cl} (h : l.length < 2) : srt l = l := by rw [srt, if_pos h]
theorem srt_big {l : List Cl} (h : ¬ l.length < 2) : srt l = mrg (srt (l.take (l.length / 2))) (srt (l.drop (l.length / 2))) := by rw [srt, if_neg h]
theorem mrg_len : ∀ (n : Nat) (xs ys : List Cl), xs.length + ys.length ≤ n → (mrg xs ys).length ≤ xs.length + ys.length
  | _, [], ys, _ => by rw [mrg_nil']; simp
  | _, x :: xs, [], _ => by rw [mrg_nil]; simp
  | 0, x :: xs, y :: ys, h => by simp at h
  | n + 1, x :: xs, y :: ys, h => by
    simp only [List.length_cons] at h ⊢
    cases hl : ltC x y with
    | true =>
      rw [mrg_lt hl, List.length_cons]
      have := mrg_len n xs (y :: ys) (by simp only [List.length_cons]; omega)
      simp only [List.length_cons] at this
      omega
    | false =>
      by_cases e : x = y
      · rw [mrg_eq hl e, List.length_cons]
        have := mrg_len n xs ys (by omega)
        omega
      · rw [mrg_gt hl e, List.length_cons]
        have := mrg_len n (x :: xs) ys (by simp only [List.length_cons]; omega)
        simp only [List.length_cons] at this
        omega
theorem srt_len : ∀ (n : Nat) (l : List Cl), l.length ≤ n → (srt l).length ≤ l.length
  | 0, l, h => by rw [srt_small (by omega)]; exact Nat.le_refl _
  | n + 1, l, h => by
    by_cases h2 : l.length < 2
    · rw [srt_small h2]; exact Nat.le_refl _
    · rw [srt_big h2]
      have h3 := mrg_len _ (srt (l.take (l.length / 2))) (srt (l.drop (l.length / 2))) (Nat.le_refl _)
      have h4 := srt_len n (l.take (l.length / 2)) (by rw [List.length_take]; omega)
      have h5 := srt_len n (l.drop (l.length / 2)) (by rw [List.length_drop]; omega)
      rw [List.length_take] at h4
      rw [List.length_drop] at h5
      omega
/-- A slice of cells that can be read, its room at least its length. -/
def SlC (q : HP) (v : Value) (l : List Cl) : Prop := ∃ a cap, v = .slice a l.length cap ∧ l.length ≤ cap ∧ (0 < l.length → ∃ b o, a = some ⟨b, o, none⟩ ∧ ∀ j u, (cellsV l)[j]? = some u → Rd q ⟨b, o + j, none⟩ u)
theorem SlC.slR {q : HP} {v : Value} {l : List Cl} (h : SlC q v l) : SlR q v l.length 2 (cellsV l) := let ⟨a, cap, h1, _, h3⟩ := h; ⟨a, cap, h1, cellsV_len l, h3⟩
theorem cellsV_take {l : List Cl} {h j : Nat} {u : Value} (hu : (cellsV (l.take h))[j]? = some u) : (cellsV l)[j]? = some u := by
  have e : cellsV l = cellsV (l.take h) ++ cellsV (l.drop h) := by rw [← cellsV_app, List.take_append_drop]
  rw [e, List.getElem?_append_left (List.getElem?_eq_some_iff.1 hu).1]
  exact hu
theorem cellsV_drop {l : List Cl} {h j : Nat} {u : Value} (hh : h ≤ l.length) (hu : (cellsV (l.drop h))[j]? = some u) : (cellsV l)[h * 2 + j]? = some u := by
  have e : cellsV l = cellsV (l.take h) ++ cellsV (l.drop h) := by rw [← cellsV_app, List.take_append_drop]
  have hl : (cellsV (l.take h)).length = h * 2 := by rw [cellsV_len, List.length_take]; omega
  rw [e, List.getElem?_append_right (by omega), hl, show h * 2 + j - h * 2 = j by omega]
  exact hu
theorem Sl.slR {q : HP} {v : Value} {l : List Cl} (h : Sl q v l.length 2 (cellsV l)) : SlR q v l.length 2 (cellsV l) := h
theorem cellsV_ones (l : List Cl) : ∀ u ∈ cellsV l, u.oneCell' = true := by
  intro u hu
  obtain ⟨p, _, hp⟩ := List.mem_flatMap.1 hu
  simp at hp
  rcases hp with rfl | rfl <;> rfl
attribute [local irreducible] G GO GR GT GQ Fn FnV pt init exs pur sat own ImpS cellsV
set_option maxHeartbeats 8000000 in
theorem sorted_spec : ∀ (n : Nat) (l : List Cl), l.length ≤ n → ∀ (R : HP) (v : Value), SlC R v l → l.length * 16 ≤ 140737488355328 →
    Fn Tryd.prog 64 #[v] [R] (fun r Q => Q = [own 70 2 (srt l).length r (cellsV (srt l)), R]) := by
  intro n
  induction n with
  | zero =>
    intro l hl R v hv hb
    obtain rfl : l = [] := List.eq_nil_of_length_eq_zero (by omega)
    have hv2 := hv.slR
    obtain ⟨a, cap, rfl, hc, hr⟩ := hv
    refine Fn.mk2 Tryd.func64 rfl rfl fun w0 F => ?_
    rw [srt_small (by simp)]
    (refine G.seq ?_; refine G.region ?_; refine GO.assign rfl rfl ?_; refine GO.nil ?_; refine kthen_n ?_; refine G.seq ?_; refine G.seq ?_; refine G.region ?_; refine GO.move rfl rfl ?_; refine GO.lenS rfl rfl ?_; refine GO.lti rfl rfl rfl ?_; refine GO.nil ?_; refine kthen_n ?_; refine G.condT rfl rfl ?_; refine G.seq ?_; refine G.region ?_)
    refine GO.buildSlice0 rfl fun v16 => ?_
    (refine GO.move rfl rfl ?_)
    refine GO.appendFrom (m := ([] : List Cl).length) (q := R) rfl rfl rfl Tk.h Tk.h hv2 (cellsV_ones _) ⟨by decide, rfl⟩ (by decide) (by decide) fun v12 => ?_
    rw [List.nil_append, Nat.zero_add]
    (refine GO.assign rfl rfl ?_; refine GO.nil ?_; refine kthen_n ?_; refine G.ret ?_; refine kthen_r ?_)
    refine KF2.r1 rfl (RV.t rfl) rfl (ImpS.sb ?_)
    ((refine Sb.c Tk.h ?_; refine Sb.c Tk.h ?_); (exact Sb.r))
  | succ n ih =>
    intro l hl R v hv hb
    have hv2 := hv.slR
    obtain ⟨a, cap, rfl, hc, hr⟩ := hv
    refine Fn.mk2 Tryd.func64 rfl rfl fun w0 F => ?_
    (refine G.seq ?_; refine G.region ?_; refine GO.assign rfl rfl ?_; refine GO.nil ?_; refine kthen_n ?_; refine G.seq ?_; refine G.seq ?_; refine G.region ?_; refine GO.move rfl rfl ?_; refine GO.lenS rfl rfl ?_; refine GO.lti rfl rfl rfl ?_; refine GO.nil ?_; refine kthen_n ?_)
    refine G.condD rfl (fun hlt => ?_) (fun hge => ?_)
    · rw [srt_small (by omega)]
      (refine G.seq ?_; refine G.region ?_)
      refine GO.buildSlice0 rfl fun v16 => ?_
      (refine GO.move rfl rfl ?_)
      refine GO.appendFrom (m := l.length) (q := R) rfl rfl rfl Tk.h Tk.h hv2 (cellsV_ones _) ⟨by decide, rfl⟩ (by unfold maxLen; omega) (by omega) fun v12 => ?_
      rw [List.nil_append, Nat.zero_add]
      (refine GO.assign rfl rfl ?_; refine GO.nil ?_; refine kthen_n ?_; refine G.ret ?_; refine kthen_r ?_)
      refine KF2.r1 rfl (RV.t rfl) rfl (ImpS.sb ?_)
      ((refine Sb.c Tk.h ?_; refine Sb.c Tk.h ?_); (exact Sb.r))
    · obtain ⟨bo, oo, rfl, hrd⟩ := hr (by omega)
      rw [srt_big (by omega)]
      have hA := srt_len _ (l.take (l.length / 2)) (Nat.le_refl _)
      have hB := srt_len _ (l.drop (l.length / 2)) (Nat.le_refl _)
      have hlt : (l.take (l.length / 2)).length = l.length / 2 := by rw [List.length_take]; omega
      have hld : (l.drop (l.length / 2)).length = l.length - l.length / 2 := List.length_drop
      have s1 : SlC R (.slice (some ⟨bo, oo, none⟩) (l.length / 2) cap) (l.take (l.length / 2)) := ⟨_, _, by rw [hlt], by omega, fun _ => ⟨bo, oo, rfl, fun j u hj => hrd _ _ (cellsV_take hj)⟩⟩
      have s2 : SlC R (.slice (some ⟨bo, oo + l.length / 2 * 2, none⟩) (l.length - l.length / 2) (cap - l.length / 2)) (l.drop (l.length / 2)) := ⟨_, _, by rw [hld], by omega, fun _ => ⟨bo, _, rfl, fun j u hj => by rw [Nat.add_assoc]; exact hrd _ _ (cellsV_drop (by omega) hj)⟩⟩
      have i1 := ih (l.take (l.length / 2)) (by omega) R _ s1 (by omega)
      have i2 := ih (l.drop (l.length / 2)) (by omega) R _ s2 (by omega)
      generalize srt (l.take (l.length / 2)) = A at hA i1 ⊢
      generalize srt (l.drop (l.length / 2)) = B at hB i2 ⊢
      (refine G.skip ?_; refine kthen_n ?_; refine G.seq ?_)
      refine G.drawT 14 14368 [] (R :: F) (by kernel_rfl) (keys_of rfl) (ImpS.sb Sb.r) ?_
      ((apply GR.step rfl; focus (intro Z; refine GO.move rfl rfl ?_; exact KQ.z)); (apply GR.step rfl; focus (intro Z; refine GO.move rfl rfl ?_; exact KQ.z)); (apply GR.step rfl; focus (intro Z; refine GO.lenS rfl rfl ?_; exact KQ.z)); (apply GR.step rfl; focus (intro Z; refine GO.quoi rfl rfl rfl (by omega) ?_; exact KQ.z)))
      apply GR.step rfl; focus (intro Z; refine GO.sliceHi (l := l.length / 2) rfl rfl rfl ⟨by omega, by omega⟩ ?_; exact KQ.z)
      (refine GR.skip rfl ?_; (apply GR.step rfl; focus (intro Z; refine GO.move rfl rfl ?_; exact KQ.z)); (apply GR.step rfl; focus (intro Z; refine GO.move rfl rfl ?_; exact KQ.z)); (apply GR.step rfl; focus (intro Z; refine GO.lenS rfl rfl ?_; exact KQ.z)); (apply GR.step rfl; focus (intro Z; refine GO.quoi rfl rfl rfl (by omega) ?_; exact KQ.z)))
      apply GR.step rfl; focus (intro Z; refine GO.sliceLo (l := l.length / 2) rfl rfl rfl ⟨by omega, by omega, by omega⟩ ?_; exact KQ.z)
      (refine GR.skip rfl ?_; refine GR.skip rfl ?_; refine GR.skip rfl ?_; refine GR.nil ?_)
      (repeat refine GT.skip rfl ?_)
      refine GT.step rfl ?_
      refine GO.call1 rfl rfl (i1) (Tks.c Tk.h Tks.n) ?_
      rintro v3 _ rfl
      refine GO.nil ⟨rfl, _, own 70 2 A.length v3 (cellsV A) :: R :: F, rfl, ImpS.sb (by ((refine Sb.c Tk.h ?_; refine Sb.c Tk.h ?_); (exact Sb.r))), ?_⟩
      (repeat refine GT.skip rfl ?_)
      refine GT.step rfl ?_
      refine GO.call1 rfl rfl (i2) (Tks.c (Tk.t Tk.h) Tks.n) ?_
      rintro v4 _ rfl
      refine GO.nil ⟨rfl, _, own 70 2 B.length v4 (cellsV B) :: own 70 2 A.length v3 (cellsV A) :: R :: F, rfl, ImpS.sb (by ((refine Sb.c Tk.h ?_; refine Sb.c (Tk.t Tk.h) ?_; refine Sb.c Tk.h ?_); (exact Sb.r))), ?_⟩
      refine GT.step rfl ?_
      refine GO.assign rfl rfl ?_
      refine GO.nil ⟨rfl, _, _, rfl, ImpS.refl, ?_⟩
      refine GT.step rfl ?_
      refine GO.assign rfl rfl ?_
      refine GO.nil ⟨rfl, _, _, rfl, ImpS.refl, ?_⟩
      refine GT.nil ?_
      refine GO.ownSl Tk.h fun sl4 => ?_
      refine GO.ownSl (Tk.t Tk.h) fun sl3 => ?_
      (refine GO.nil ?_; refine kthen_n ?_; refine G.seq ?_; refine G.region ?_; refine GO.move rfl rfl ?_; refine GO.move rfl rfl ?_)
      refine GO.merge (x := own 70 2 A.length v3 (cellsV A)) (y := own 70 2 B.length v4 (cellsV B)) (Tks.c (Tk.t Tk.h) (Tks.c Tk.h Tks.n)) ?_
      refine GO.call2 rfl rfl rfl (merge_spec (star [own 70 2 A.length v3 (cellsV A), own 70 2 B.length v4 (cellsV B)]) v3 v4 A B (Sl.sup (Sup.left _ _) sl3) (Sl.sup (Sup.right _ _) sl4) (by omega)) (Tks.c Tk.h Tks.n) ?_
      rintro _ _ ⟨v, rfl, rfl⟩
      (refine GO.move rfl rfl ?_; refine GO.extract rfl rfl rfl ?_; refine GO.extract rfl rfl rfl ?_; refine GO.assign rfl rfl ?_; refine GO.assign rfl rfl ?_; refine GO.nil ?_; refine kthen_n ?_; refine G.seq ?_; refine G.region ?_; refine GO.move rfl rfl ?_; refine GO.assign rfl rfl ?_; refine GO.nil ?_; refine kthen_n ?_; refine G.ret ?_)
      refine KF2.r1 rfl (RV.t rfl) rfl (ImpS.sb ?_)
      ((refine Sb.c Tk.h ?_; refine Sb.c (Tk.t Tk.h) ?_); (refine Sb.s ?_; exact Sb.r))
end Go.Proofs.YtpemblhbfafmpaaDoor
namespace Go.Proofs.YtpemblhbfafmpaaDoor
open Go
theorem ltC_iff (p r : Cl) : ltC p r = true ↔ p.1 < r.1 ∨ (p.1 = r.1 ∧ p.2 < r.2) := by
  unfold ltC
  simp only [Bool.or_eq_true, Bool.and_eq_true, decide_eq_true_eq]
theorem ltC_trans {a b c : Cl} (h1 : ltC a b = true) (h2 : ltC b c = true) : ltC a c = true := by rw [ltC_iff] at *; omega
theorem ltC_asymm {a b : Cl} (h : ltC a b = true) : ¬ ltC b a = true := by rw [ltC_iff] at *; omega
theorem ltC_irr (a : Cl) : ¬ ltC a a = true := by rw [ltC_iff]; omega
theorem ltC_tri {a b : Cl} (h : ltC a b = false) (e : a ≠ b) : ltC b a = true := by
  have h1 : ¬ ltC a b = true := by rw [h]; simp
  rw [ltC_iff] at *
  have : ¬ (a.1 = b.1 ∧ a.2 = b.2) := fun h => e (Prod.ext h.1 h.2)
  omega
/-- Rising, each once. -/
def Up (l : List Cl) : Prop := l.Pairwise fun a b => ltC a b = true
theorem mrg_mem : ∀ (n : Nat) (xs ys : List Cl), xs.length + ys.length ≤ n → ∀ p, p ∈ mrg xs ys ↔ p ∈ xs ∨ p ∈ ys
  | _, [], ys, _, p => by rw [mrg_nil']; simp
  | _, x :: xs, [], _, p => by rw [mrg_nil]; simp
  | 0, x :: xs, y :: ys, h, p => by simp at h
  | n + 1, x :: xs, y :: ys, h, p => by
    simp only [List.length_cons] at h
    cases hl : ltC x y with
    | true =>
      have ih := mrg_mem n xs (y :: ys) (by simp only [List.length_cons]; omega) p
      rw [mrg_lt hl, List.mem_cons, ih, List.mem_cons, List.mem_cons]
      exact ⟨fun h => by rcases h with h | h | h | h <;> simp [h], fun h => by rcases h with (h | h) | h | h <;> simp [h]⟩
    | false =>
      by_cases e : x = y
      · have ih := mrg_mem n xs ys (by omega) p
        rw [mrg_eq hl e, List.mem_cons, ih, List.mem_cons, List.mem_cons, e]
        exact ⟨fun h => by rcases h with h | h | h <;> simp [h], fun h => by rcases h with (h | h) | h | h <;> simp [h]⟩
      · have ih := mrg_mem n (x :: xs) ys (by simp only [List.length_cons]; omega) p
        rw [mrg_gt hl e, List.mem_cons, ih, List.mem_cons, List.mem_cons]
        exact ⟨fun h => by rcases h with h | (h | h) | h <;> simp [h], fun h => by rcases h with (h | h) | h | h <;> simp [h]⟩
theorem mrg_up : ∀ (n : Nat) (xs ys : List Cl), xs.length + ys.length ≤ n → Up xs → Up ys → Up (mrg xs ys)
  | _, [], ys, _, _, hy => by rw [mrg_nil']; exact hy
  | _, x :: xs, [], _, hx, _ => by rw [mrg_nil]; exact hx
  | 0, x :: xs, y :: ys, h, _, _ => by simp at h
  | n + 1, x :: xs, y :: ys, h, hx, hy => by
    simp only [List.length_cons] at h
    have hx' := List.pairwise_cons.1 hx
    have hy' := List.pairwise_cons.1 hy
    cases hl : ltC x y with
    | true =>
      rw [mrg_lt hl]
      refine List.pairwise_cons.2 ⟨fun p hp => ?_, mrg_up n xs (y :: ys) (by simp only [List.length_cons]; omega) hx'.2 hy⟩
      rcases (mrg_mem _ _ _ (Nat.le_refl _) p).1 hp with h | h
      · exact hx'.1 p h
      · rcases List.mem_cons.1 h with rfl | h
        · exact hl
        · exact ltC_trans hl (hy'.1 p h)
    | false =>
      by_cases e : x = y
      · subst e
        rw [mrg_eq hl rfl]
        refine List.pairwise_cons.2 ⟨fun p hp => ?_, mrg_up n xs ys (by omega) hx'.2 hy'.2⟩
        rcases (mrg_mem _ _ _ (Nat.le_refl _) p).1 hp with h | h
        · exact hx'.1 p h
        · exact hy'.1 p h
      · have hg := ltC_tri hl e
        rw [mrg_gt hl e]
        refine List.pairwise_cons.2 ⟨fun p hp => ?_, mrg_up n (x :: xs) ys (by simp only [List.length_cons]; omega) hx hy'.2⟩
        rcases (mrg_mem _ _ _ (Nat.le_refl _) p).1 hp with h | h
        · rcases List.mem_cons.1 h with rfl | h
          · exact hg
          · exact ltC_trans hg (hx'.1 p h)
        · exact hy'.1 p h
theorem mrgM_iff : ∀ (n : Nat) (xs ys : List Cl), xs.length + ys.length ≤ n → Up xs → Up ys → (mrgM xs ys = true ↔ ∃ p, p ∈ ys ∧ p ∉ xs)
  | _, [], [], _, _, _ => by rw [mrgM_nil]; simp
  | _, [], y :: ys, _, _, _ => by rw [mrgM_nil']; exact ⟨fun _ => ⟨y, by simp, by simp⟩, fun _ => rfl⟩
  | _, x :: xs, [], _, _, _ => by rw [mrgM_nil]; simp
  | 0, x :: xs, y :: ys, h, _, _ => by simp at h
  | n + 1, x :: xs, y :: ys, h, hx, hy => by
    simp only [List.length_cons] at h
    have hx' := List.pairwise_cons.1 hx
    have hy' := List.pairwise_cons.1 hy
    cases hl : ltC x y with
    | true =>
      rw [mrgM_lt hl, mrgM_iff n xs (y :: ys) (by simp only [List.length_cons]; omega) hx'.2 hy]
      constructor
      · rintro ⟨p, hp, hn⟩
        refine ⟨p, hp, fun hm => ?_⟩
        rcases List.mem_cons.1 hm with rfl | hm
        · rcases List.mem_cons.1 hp with rfl | hp
          · exact ltC_irr _ hl
          · exact ltC_irr _ (ltC_trans hl (hy'.1 _ hp))
        · exact hn hm
      · rintro ⟨p, hp, hn⟩
        exact ⟨p, hp, fun hm => hn (List.mem_cons_of_mem _ hm)⟩
    | false =>
      by_cases e : x = y
      · subst e
        rw [mrgM_eq hl rfl, mrgM_iff n xs ys (by omega) hx'.2 hy'.2]
        constructor
        · rintro ⟨p, hp, hn⟩
          refine ⟨p, List.mem_cons_of_mem _ hp, fun hm => ?_⟩
          rcases List.mem_cons.1 hm with rfl | hm
          · exact ltC_irr _ (hy'.1 _ hp)
          · exact hn hm
        · rintro ⟨p, hp, hn⟩
          rcases List.mem_cons.1 hp with rfl | hp
          · exact absurd (by simp) hn
          · exact ⟨p, hp, fun hm => hn (List.mem_cons_of_mem _ hm)⟩
      · have hg := ltC_tri hl e
        rw [mrgM_gt hl e]
        refine ⟨fun _ => ⟨y, by simp, fun hm => ?_⟩, fun _ => rfl⟩
        rcases List.mem_cons.1 hm with rfl | hm
        · exact e rfl
        · exact ltC_irr _ (ltC_trans hg (hx'.1 _ hm))
theorem srt_mem : ∀ (n : Nat) (l : List Cl), l.length ≤ n → ∀ p, p ∈ srt l ↔ p ∈ l
  | 0, l, h, p => by rw [srt_small (by omega)]
  | n + 1, l, h, p => by
    by_cases h2 : l.length < 2
    · rw [srt_small h2]
    · rw [srt_big h2, mrg_mem _ _ _ (Nat.le_refl _), srt_mem n (l.take (l.length / 2)) (by rw [List.length_take]; omega), srt_mem n (l.drop (l.length / 2)) (by rw [List.length_drop]; omega), ← List.mem_append, List.take_append_drop]
theorem srt_up : ∀ (n : Nat) (l : List Cl), l.length ≤ n → Up (srt l)
  | 0, l, h => by
    obtain rfl : l = [] := List.eq_nil_of_length_eq_zero (by omega)
    rw [srt_small (by simp)]; exact List.Pairwise.nil
  | n + 1, l, h => by
    by_cases h2 : l.length < 2
    · rw [srt_small h2]
      match l, h2 with
      | [], _ => exact List.Pairwise.nil
      | [x], _ => exact List.pairwise_singleton _ _
    · rw [srt_big h2]
      exact mrg_up _ _ _ (Nat.le_refl _) (srt_up n _ (by rw [List.length_take]; omega)) (srt_up n _ (by rw [List.length_drop]; omega))
theorem up_unique {l m : List Cl} (hl : Up l) (hm : Up m) (h : ∀ p, p ∈ l ↔ p ∈ m) : l = m := strict_unique (R := fun a b => ltC a b = true) (fun _ _ h => ltC_asymm h) hl hm h
theorem cells_up (X : Nat → Nat → Bool) : Up (castL (cellsX X)) := by
  unfold Up castL cellsX restX
  rw [List.map_map, List.pairwise_map]
  refine List.Pairwise.imp ?_ (List.Pairwise.filter _ (List.pairwise_lt_range' (s := 0) (n := 1048576 - 0) 1))
  intro a b hab
  rw [ltC_iff]
  show ((a / 1024 : Nat) : Int) < ((b / 1024 : Nat) : Int) ∨ (((a / 1024 : Nat) : Int) = ((b / 1024 : Nat) : Int) ∧ ((a % 1024 : Nat) : Int) < ((b % 1024 : Nat) : Int))
  omega
theorem cast_mem {s : Nat} {X : Nat → Nat → Bool} (hs : s ≤ 1024) (hx : ∀ r c, X r c = true → r < s ∧ c < s) (p : Cl) : p ∈ castL (cellsX X) ↔ 0 ≤ p.1 ∧ 0 ≤ p.2 ∧ X p.1.toNat p.2.toNat = true := by
  unfold castL
  rw [List.mem_map]
  constructor
  · rintro ⟨u, hu, rfl⟩
    refine ⟨by dsimp only; omega, by dsimp only; omega, ?_⟩
    show X ((u.1 : Int)).toNat ((u.2 : Int)).toNat = true
    rw [Int.toNat_natCast, Int.toNat_natCast]
    exact cellsX_true hu
  · rintro ⟨h1, h2, h3⟩
    refine ⟨(p.1.toNat, p.2.toNat), cellsX_pos hs hx h3, Prod.ext ?_ ?_⟩
    · show ((p.1.toNat : Nat) : Int) = p.1; omega
    · show ((p.2.toNat : Nat) : Int) = p.2; omega
theorem setL_mem {s : Nat} (r c : Nat) : ∀ (l : List Cl) (Y : Nat → Nat → Bool), inL s l = true → (setL Y l r c = true ↔ Y r c = true ∨ ((r : Int), (c : Int)) ∈ l)
  | [], Y, _ => by simp [setL]
  | p :: l, Y, h => by
    have hp : inM s p.1 p.2 = true ∧ inL s l = true := by unfold inL at h ⊢; simpa using h
    obtain ⟨m, n, e1, e2, _, _⟩ := inM_at hp.1
    show setL (addX Y p.1.toNat p.2.toNat) l r c = true ↔ _
    rw [setL_mem r c l _ hp.2, List.mem_cons]
    have ea : (addX Y p.1.toNat p.2.toNat r c = true) ↔ (Y r c = true ∨ ((r : Int), (c : Int)) = p) := by
      unfold addX
      rw [Bool.or_eq_true, Bool.and_eq_true, decide_eq_true_iff, decide_eq_true_iff]
      refine or_congr Iff.rfl ⟨fun h => Prod.ext ?_ ?_, fun h => ?_⟩
      · show (r : Int) = p.1; omega
      · show (c : Int) = p.2; omega
      · have h1 : (r : Int) = p.1 := congrArg Prod.fst h
        have h2 : (c : Int) = p.2 := congrArg Prod.snd h
        omega
    rw [ea, or_assoc]
/-- The reference's list is the matrix's. -/
theorem srt_cells {s : Nat} {l : List Cl} (hs : s ≤ 1024) (h : inL s l = true) : srt l = castL (cellsX (setL noX l)) := by
  have hall : ∀ p, p ∈ l → ∃ m n : Nat, p.1 = m ∧ p.2 = n ∧ m < s ∧ n < s := fun p hp => inM_at ((List.all_eq_true.1 h) p hp)
  have hm := fun r c => setL_mem (s := s) r c l noX h
  have hx : ∀ r c, setL noX l r c = true → r < s ∧ c < s := fun r c hx => by
    rcases (hm r c).1 hx with h0 | h0
    · cases h0
    · obtain ⟨m, n, e1, e2, h1, h2⟩ := hall _ h0
      have e1 : (r : Int) = m := e1
      have e2 : (c : Int) = n := e2
      omega
  refine up_unique (srt_up _ _ (Nat.le_refl _)) (cells_up _) fun p => ?_
  rw [srt_mem _ _ (Nat.le_refl _), cast_mem hs hx]
  constructor
  · intro hp
    obtain ⟨m, n, e1, e2, _, _⟩ := hall p hp
    refine ⟨by omega, by omega, (hm _ _).2 (.inr ?_)⟩
    rw [show (((p.1.toNat : Nat) : Int), ((p.2.toNat : Nat) : Int)) = p from Prod.ext (by show ((p.1.toNat : Nat) : Int) = p.1; omega) (by show ((p.2.toNat : Nat) : Int) = p.2; omega)]
    exact hp
  · rintro ⟨h1, h2, h3⟩
    rcases (hm _ _).1 h3 with h0 | h0
    · cases h0
    · rwa [show (((p.1.toNat : Nat) : Int), ((p.2.toNat : Nat) : Int)) = p from Prod.ext (by show ((p.1.toNat : Nat) : Int) = p.1; omega) (by show ((p.2.toNat : Nat) : Int) = p.2; omega)] at h0
end Go.Proofs.YtpemblhbfafmpaaDoor
namespace Go.Proofs.YtpemblhbfafmpaaDoor
open Go
abbrev refV (s : Int) (v : Value) : Value := .agg #[i64 s, v]
theorem built_ref (s : Int) : Tryd.prog.built 28 [(0, i64 s)] = some [i64 s, .slice none 0 0].toArray := by kernel_rfl
def inS (s : Int) (i : Int) : Bool := decide (0 ≤ i) && decide (i < s)
def refOk (s : Int) : Bool := !(decide (s < 1) || decide (1024 < s))
theorem refOk_t {s : Int} (h : refOk s = true) : 1 ≤ s ∧ s ≤ 1024 := by
  unfold refOk at h
  simp at h
  omega
theorem refOk_f {s : Int} (h : refOk s = false) : ¬ (1 ≤ s ∧ s ≤ 1024) := by
  unfold refOk at h
  simp at h
  omega
attribute [local irreducible] G GO GR GT GQ Fn FnV pt init exs pur sat own ImpS cellsV
set_option maxRecDepth 40000 in
theorem refIn_spec (s i : Int) (v : Value) (hv : v.oneCell' = true) : Fn Tryd.prog 52 #[refV s v, i64 i] [] (fun r Q => r = .bool (inS s i) ∧ Q = []) := by
  refine Fn.mk2 Tryd.func52 rfl rfl fun w0 F => ?_
  unfold inS
  (refine G.seq ?_; refine G.region ?_; refine GO.box rfl rfl rfl fun b2 => ?_; refine GO.assign rfl rfl ?_; refine GO.nil ?_; refine kthen_n ?_; refine G.seq ?_; refine G.region ?_; refine GO.move rfl rfl ?_; refine GO.gei rfl rfl rfl ?_; refine GO.move rfl rfl ?_)
  cases h1 : decide (0 ≤ i) with
  | true =>
    (refine GO.gT rfl rfl rfl ?_; refine GO.move rfl rfl ?_; refine GO.gT rfl rfl rfl ?_; refine GO.fieldAddr rfl rfl ?_; refine GO.gT rfl rfl rfl ?_; refine GO.load1 rfl rfl rfl Tk.h rfl ?_; refine GO.gT rfl rfl rfl ?_; refine GO.lti rfl rfl rfl ?_; refine GO.pickT rfl rfl rfl ?_; refine GO.assign rfl rfl ?_; refine GO.nil ?_; refine kthen_n ?_; refine G.ret ?_)
    refine KF2.r1 rfl (RV.t rfl) ⟨by rw [Bool.true_and], rfl⟩ (ImpS.sb ?_)
    (skip; (refine Sb.s ?_; exact Sb.r))
  | false =>
    (refine GO.gF rfl rfl rfl rfl ?_; refine GO.gF rfl rfl rfl rfl ?_; refine GO.gF rfl rfl rfl rfl ?_; refine GO.gF rfl rfl rfl rfl ?_; refine GO.pickF rfl rfl rfl ?_; refine GO.assign rfl rfl ?_; refine GO.nil ?_; refine kthen_n ?_; refine G.ret ?_)
    refine KF2.r1 rfl (RV.t rfl) ⟨by rw [Bool.false_and], rfl⟩ (ImpS.sb ?_)
    (skip; (refine Sb.s ?_; exact Sb.r))
set_option maxRecDepth 40000 in
theorem refNew_spec (s : Int) : Fn Tryd.prog 45 #[i64 s] [] (fun r Q => r = (if refOk s then .tuple #[refV s (.slice none 0 0), i64 0] else .tuple #[refV 0 (.slice none 0 0), i64 2]) ∧ Q = []) := by
  refine Fn.mk2 Tryd.func45 rfl rfl fun w0 F => ?_
  unfold refOk
  (refine G.seq ?_; refine G.region ?_; refine GO.alloc rfl fun b2 => ?_; refine GO.assign rfl rfl ?_; refine GO.nil ?_; refine kthen_n ?_; refine G.seq ?_; refine G.seq ?_; refine G.region ?_; refine GO.move rfl rfl ?_; refine GO.lti rfl rfl rfl ?_; refine GO.move rfl rfl ?_)
  by_cases a : s < 1
  · rw [show decide (s < 1) = true from decide_eq_true a]
    (refine GO.gF rfl rfl rfl rfl ?_; refine GO.gF rfl rfl rfl rfl ?_; refine GO.pickT rfl rfl rfl ?_; refine GO.nil ?_; refine kthen_n ?_; refine G.condT rfl rfl ?_; refine G.seq ?_; refine G.region ?_; refine GO.build0 rfl ?_; refine GO.storeW rfl rfl Tk.h ⟨rfl, rfl⟩ (by simp [Value.oneCell']) ?_; refine GO.assign rfl rfl ?_; refine GO.nil ?_; refine kthen_n ?_; refine G.ret ?_; refine kthen_r ?_)
    refine KF2.r2 rfl (RV.cW (n := 2) rfl rfl (by (exact Tk.h)) rfl) (RV.t rfl) ⟨rfl, rfl⟩ (ImpS.sb ?_)
    (skip; (refine Sb.s ?_; exact Sb.r))
  · rw [show decide (s < 1) = false from decide_eq_false a]
    (refine GO.gT rfl rfl rfl ?_; refine GO.move rfl rfl ?_; refine GO.gT rfl rfl rfl ?_; refine GO.gti rfl rfl rfl ?_; refine GO.pickF rfl rfl rfl ?_; refine GO.nil ?_; refine kthen_n ?_)
    by_cases b : 1024 < s
    · rw [show decide (1024 < s) = true from decide_eq_true b]
      (refine G.condT rfl rfl ?_; refine G.seq ?_; refine G.region ?_; refine GO.build0 rfl ?_; refine GO.storeW rfl rfl Tk.h ⟨rfl, rfl⟩ (by simp [Value.oneCell']) ?_; refine GO.assign rfl rfl ?_; refine GO.nil ?_; refine kthen_n ?_; refine G.ret ?_; refine kthen_r ?_)
      refine KF2.r2 rfl (RV.cW (n := 2) rfl rfl (by (exact Tk.h)) rfl) (RV.t rfl) ⟨rfl, rfl⟩ (ImpS.sb ?_)
      (skip; (refine Sb.s ?_; exact Sb.r))
    · rw [show decide (1024 < s) = false from decide_eq_false b]
      (refine G.condF rfl rfl ?_; refine G.skip ?_; refine kthen_n ?_; refine G.seq ?_; refine G.region ?_; refine GO.move rfl rfl ?_)
      refine GO.buildPart1 (built_ref s) rfl rfl ?_
      (refine GO.storeW rfl rfl Tk.h ⟨rfl, rfl⟩ (by simp [Value.oneCell']) ?_; refine GO.assign rfl rfl ?_; refine GO.nil ?_; refine kthen_n ?_; refine G.ret ?_)
      refine KF2.r2 rfl (RV.cW (n := 2) rfl rfl (by (exact Tk.h)) rfl) (RV.t rfl) ⟨rfl, rfl⟩ (ImpS.sb ?_)
      (skip; (refine Sb.s ?_; exact Sb.r))
theorem inM_inS (n : Nat) (a b : Int) : inM n a b = (inS n a && inS n b) := by
  unfold inM inS
  rw [Bool.decide_and, Bool.decide_and]
def refOfR (s : Int) (l : List Cl) (R : HP) (r : Value) (Q : List HP) : Prop :=
  (∃ n : Nat, s = n ∧ 1 ≤ n ∧ n ≤ 1024 ∧ inL n l = true ∧ ∃ v, r = .tuple #[refV n v, i64 0] ∧ Q = [own 70 2 (srt l).length v (cellsV (srt l)), R]) ∨
  (¬ (1 ≤ s ∧ s ≤ 1024 ∧ inL s.toNat l = true) ∧ r = .tuple #[refV 0 (.slice none 0 0), i64 2] ∧ Q = [R])
set_option maxHeartbeats 4000000 in
set_option maxRecDepth 40000 in
theorem refOf_spec (s : Int) (R : HP) (v : Value) (l : List Cl) (hv : SlC R v l) (hb : l.length * 16 ≤ 140737488355328) : Fn Tryd.prog 36 #[i64 s, v] [R] (refOfR s l R) := by
  have hv2 := hv
  obtain ⟨a, cap, rfl, hc, hr⟩ := hv
  refine Fn.mk2 Tryd.func36 rfl rfl fun w0 F => ?_
  (refine G.seq ?_; refine G.region ?_; refine GO.alloc rfl fun b4 => ?_; refine GO.assign rfl rfl ?_; refine GO.nil ?_; refine kthen_n ?_; refine G.seq ?_; refine G.region ?_; refine GO.move rfl rfl ?_)
  refine GO.call1 rfl rfl (refNew_spec s) Tks.n ?_
  rintro _ _ ⟨rfl, rfl⟩
  cases hok : refOk s with
  | false =>
    rw [if_neg (by simp)]
    (refine GO.move rfl rfl ?_; refine GO.extract rfl rfl rfl ?_; refine GO.extract rfl rfl rfl ?_; refine GO.alloc rfl fun b6 => ?_; refine GO.storeW rfl rfl Tk.h ⟨rfl, rfl⟩ (by simp [Value.oneCell']) ?_; refine GO.assign rfl rfl ?_; refine GO.nil ?_; refine kthen_n ?_; refine G.seq ?_; refine G.seq ?_; refine G.region ?_; refine GO.move rfl rfl ?_; refine GO.nei rfl rfl rfl ?_; refine GO.nil ?_; refine kthen_n ?_; refine G.condT rfl rfl ?_; refine G.seq ?_; refine G.region ?_; refine GO.build0 rfl ?_; refine GO.move rfl rfl ?_; refine GO.storeW rfl rfl (Tk.t Tk.h) ⟨rfl, rfl⟩ (by simp [Value.oneCell']) ?_; refine GO.assign rfl rfl ?_; refine GO.nil ?_; refine kthen_n ?_; refine G.ret ?_; refine kthen_r ?_)
    refine KF2.r2 rfl (RV.cW (n := 2) rfl rfl (by (exact Tk.h)) rfl) (RV.t rfl) (.inr ⟨fun h => refOk_f hok ⟨h.1, h.2.1⟩, rfl, rfl⟩) (ImpS.sb ?_)
    ((refine Sb.c (Tk.t (Tk.t Tk.h)) ?_); (refine Sb.s ?_; refine Sb.s ?_; exact Sb.r))
  | true =>
    rw [if_pos rfl]
    obtain ⟨n, rfl⟩ := Int.eq_ofNat_of_zero_le (show 0 ≤ s by have := refOk_t hok; omega)
    have hn := refOk_t hok
    clear hok
    (refine GO.move rfl rfl ?_; refine GO.extract rfl rfl rfl ?_; refine GO.extract rfl rfl rfl ?_; refine GO.alloc rfl fun b6 => ?_; refine GO.storeW rfl rfl Tk.h ⟨rfl, rfl⟩ (by simp [Value.oneCell']) ?_; refine GO.assign rfl rfl ?_; refine GO.nil ?_; refine kthen_n ?_; refine G.seq ?_; refine G.seq ?_; refine G.region ?_; refine GO.move rfl rfl ?_; refine GO.neF rfl rfl rfl rfl ?_; refine GO.nil ?_; refine kthen_n ?_; refine G.condF rfl rfl ?_; refine G.skip ?_; refine kthen_n ?_; refine G.seq ?_; refine G.seq ?_; refine G.region ?_; refine GO.assign rfl rfl ?_; refine GO.nil ?_; refine kthen_n ?_; refine G.block ?_)
    refine G.loop (fun k : Nat => [(1, .slice a l.length cap), (4, .pointer (some ⟨b4, 0, none⟩)), (6, .pointer (some ⟨b6, 0, none⟩)), (8, i64 k)])
      (fun k => pt b4 (row [i64 0, .slice none 0 0] 28) :: pt b6 (row [i64 (n : Nat), .slice none 0 0] 28) :: R :: F) (fun k => k ≤ l.length ∧ inL n (l.take k) = true) (fun k => l.length - k) 0 ⟨by omega, by simp [inL]⟩ ?_ ?_ ?_
    · (refine SubE.c rfl rfl ?_; refine SubE.c rfl rfl ?_; refine SubE.c rfl rfl ?_; refine SubE.c rfl rfl ?_; exact SubE.n)
    · ((refine Sb.c (Tk.t Tk.h) ?_; refine Sb.c Tk.h ?_; refine Sb.c Tk.h ?_); (exact Sb.r))
    rintro k ⟨hk, hall⟩
    (refine G.seq ?_; refine G.seq ?_; refine G.region ?_; refine GO.move rfl rfl ?_; refine GO.move rfl rfl ?_; refine GO.lenS rfl rfl ?_; refine GO.lti rfl rfl rfl ?_; refine GO.nil ?_; refine kthen_n ?_)
    refine G.condD rfl (fun hlt => ?_) (fun hge => ?_)
    · have hlt' : k < l.length := by omega
      obtain ⟨b', o, rfl, hrd⟩ := hr (by omega)
      obtain ⟨p, hp⟩ : ∃ p, l[k]? = some p := ⟨l[k], by simp [hlt']⟩
      have r1 : Rd R ⟨b', o + k * 2, none⟩ (i64 p.1) := hrd _ _ (cellsV_get hp).1
      have r2 : Rd R ⟨b', o + k * 2 + 1, none⟩ (i64 p.2) := hrd _ _ (cellsV_get hp).2
      (refine G.skip ?_; refine kthen_n ?_; refine G.seq ?_; refine G.block ?_; refine G.seq ?_)
      refine G.draw 18 (by kernel_rfl) ?_
      ((apply GQ.step; focus (intro Z; refine GO.loadW rfl rfl rfl (Tk.t Tk.h) rfl ?_; exact KQ.z)); (apply GQ.step; focus (intro Z; refine GO.move rfl rfl ?_; exact KQ.z)); (apply GQ.step; focus (intro Z; refine GO.move rfl rfl ?_; exact KQ.z)); (apply GQ.step; focus (intro Z; refine GO.idxS rfl rfl rfl ⟨rfl, by omega⟩ ?_; exact KQ.z)); (apply GQ.step; focus (intro Z; refine GO.fieldAddr rfl rfl ?_; exact KQ.z)); (apply GQ.step; focus (intro Z; refine GO.loadQ rfl rfl rfl (Tk.t (Tk.t Tk.h)) (by assumption) ?_; exact KQ.z)))
      apply GQ.step; focus (intro Z; refine GO.call2 rfl rfl rfl (refIn_spec (n : Int) p.1 (.slice none 0 0) rfl) Tks.n ?_; rintro _ _ ⟨rfl, rfl⟩; exact KQ.z)
      cases h1 : inS n p.1 with
      | false =>
        ((apply GQ.step; focus (intro Z; refine GO.not rfl rfl ?_; exact KQ.z)); (apply GQ.step; focus (intro Z; refine GO.move rfl rfl ?_; exact KQ.z)); (apply GQ.step; focus (intro Z; refine GO.gF rfl rfl rfl rfl ?_; exact KQ.z)); (apply GQ.step; focus (intro Z; refine GO.gF rfl rfl rfl rfl ?_; exact KQ.z)); (apply GQ.step; focus (intro Z; refine GO.gF rfl rfl rfl rfl ?_; exact KQ.z)); (apply GQ.step; focus (intro Z; refine GO.gF rfl rfl rfl rfl ?_; exact KQ.z)); (apply GQ.step; focus (intro Z; refine GO.gF rfl rfl rfl rfl ?_; exact KQ.z)); (apply GQ.step; focus (intro Z; refine GO.gF rfl rfl rfl rfl ?_; exact KQ.z)); (apply GQ.step; focus (intro Z; refine GO.gF rfl rfl rfl rfl ?_; exact KQ.z)); (apply GQ.step; focus (intro Z; refine GO.gF rfl rfl rfl rfl ?_; exact KQ.z)); (apply GQ.step; focus (intro Z; refine GO.pickT rfl rfl rfl ?_; exact KQ.z)); refine GQ.nil ?_)
        (refine GO.nil ?_; refine kthen_n ?_; refine G.condT rfl rfl ?_; refine G.seq ?_; refine G.region ?_; refine GO.build0 rfl ?_; refine GO.storeW rfl rfl Tk.h ⟨rfl, rfl⟩ (by simp [Value.oneCell']) ?_; refine GO.assign rfl rfl ?_; refine GO.nil ?_; refine kthen_n ?_; refine G.ret ?_; refine kblock_r ?_; refine kthen_r ?_; refine kthen_r ?_; refine kblock_r ?_; refine kthen_r ?_)
        refine KF2.r2 rfl (RV.cW (n := 2) rfl rfl (by (exact Tk.h)) rfl) (RV.t rfl) (.inr ⟨fun h => ?_, rfl, rfl⟩) (ImpS.sb ?_)
        · have h3 := h.2.2
          rw [Int.toNat_natCast, inL_not hp (by rw [inM_inS, h1]; rfl)] at h3
          cases h3
        · ((refine Sb.c (Tk.t (Tk.t Tk.h)) ?_); (refine Sb.s ?_; refine Sb.s ?_; exact Sb.r))
      | true =>
        ((apply GQ.step; focus (intro Z; refine GO.not rfl rfl ?_; exact KQ.z)); (apply GQ.step; focus (intro Z; refine GO.move rfl rfl ?_; exact KQ.z)); (apply GQ.step; focus (intro Z; refine GO.gT rfl rfl rfl ?_; refine GO.loadW rfl rfl rfl (Tk.t Tk.h) rfl ?_; exact KQ.z)); (apply GQ.step; focus (intro Z; refine GO.gT rfl rfl rfl ?_; refine GO.move rfl rfl ?_; exact KQ.z)); (apply GQ.step; focus (intro Z; refine GO.gT rfl rfl rfl ?_; refine GO.move rfl rfl ?_; exact KQ.z)); (apply GQ.step; focus (intro Z; refine GO.gT rfl rfl rfl ?_; refine GO.idxS rfl rfl rfl ⟨rfl, by omega⟩ ?_; exact KQ.z)); (apply GQ.step; focus (intro Z; refine GO.gT rfl rfl rfl ?_; refine GO.fieldAddr rfl rfl ?_; exact KQ.z)); (apply GQ.step; focus (intro Z; refine GO.gT rfl rfl rfl ?_; refine GO.loadQ rfl rfl rfl (Tk.t (Tk.t Tk.h)) (by assumption) ?_; exact KQ.z)))
        apply GQ.step; focus (intro Z; refine GO.gT rfl rfl rfl ?_; refine GO.call2 rfl rfl rfl (refIn_spec (n : Int) p.2 (.slice none 0 0) rfl) Tks.n ?_; rintro _ _ ⟨rfl, rfl⟩; exact KQ.z)
        cases h2 : inS n p.2 with
        | false =>
          ((apply GQ.step; focus (intro Z; refine GO.gT rfl rfl rfl ?_; refine GO.not rfl rfl ?_; exact KQ.z)); (apply GQ.step; focus (intro Z; refine GO.pickF rfl rfl rfl ?_; exact KQ.z)); refine GQ.nil ?_)
          (refine GO.nil ?_; refine kthen_n ?_; refine G.condT rfl rfl ?_; refine G.seq ?_; refine G.region ?_; refine GO.build0 rfl ?_; refine GO.storeW rfl rfl Tk.h ⟨rfl, rfl⟩ (by simp [Value.oneCell']) ?_; refine GO.assign rfl rfl ?_; refine GO.nil ?_; refine kthen_n ?_; refine G.ret ?_; refine kblock_r ?_; refine kthen_r ?_; refine kthen_r ?_; refine kblock_r ?_; refine kthen_r ?_)
          refine KF2.r2 rfl (RV.cW (n := 2) rfl rfl (by (exact Tk.h)) rfl) (RV.t rfl) (.inr ⟨fun h => ?_, rfl, rfl⟩) (ImpS.sb ?_)
          · have h3 := h.2.2
            rw [Int.toNat_natCast, inL_not hp (by rw [inM_inS, h2]; exact Bool.and_false _)] at h3
            cases h3
          · ((refine Sb.c (Tk.t (Tk.t Tk.h)) ?_); (refine Sb.s ?_; refine Sb.s ?_; exact Sb.r))
        | true =>
          ((apply GQ.step; focus (intro Z; refine GO.gT rfl rfl rfl ?_; refine GO.not rfl rfl ?_; exact KQ.z)); (apply GQ.step; focus (intro Z; refine GO.pickF rfl rfl rfl ?_; exact KQ.z)); refine GQ.nil ?_)
          (refine GO.nil ?_; refine kthen_n ?_; refine G.condF rfl rfl ?_; refine G.skip ?_; refine kblock_n ?_; refine kthen_n ?_; refine G.region ?_; refine GO.move rfl rfl ?_; refine GO.addi rfl rfl rfl (by omega) ?_; refine GO.assign rfl rfl ?_; refine GO.nil ?_; refine kthen_n ?_)
          refine ⟨k + 1, ⟨by omega, inL_succ hp hall (by rw [inM_inS, h1, h2]; rfl)⟩, by omega, ?_, ?_⟩
          · (refine SubE.c rfl rfl ?_; refine SubE.c rfl rfl ?_; refine SubE.c rfl rfl ?_; refine SubE.c rfl rfl ?_; exact SubE.n)
          · ((refine Sb.c Tk.h ?_; refine Sb.c Tk.h ?_; refine Sb.c Tk.h ?_); (exact Sb.r))
    · obtain rfl : k = l.length := by omega
      rw [List.take_length] at hall
      (refine G.exit ?_; refine kthen_x ?_; refine kthen_x ?_; refine kblock_x ?_; refine kthen_n ?_; refine G.seq ?_; refine G.region ?_; refine GO.move rfl rfl ?_)
      refine GO.call1 rfl rfl (sorted_spec _ l (Nat.le_refl _) R (.slice a l.length cap) hv2 hb) (Tks.c (Tk.t (Tk.t Tk.h)) Tks.n) ?_
      rintro v2 _ rfl
      refine GO.ownOne Tk.h fun hone => ?_
      (refine GO.fieldAddr rfl rfl ?_; refine GO.store1 rfl rfl (by assumption) (Tk.t (Tk.t (Tk.t Tk.h))) (by simp) ?_; refine GO.nil ?_; refine kthen_n ?_; refine G.seq ?_; refine G.region ?_; refine GO.loadW rfl rfl rfl Tk.h rfl ?_; refine GO.storeW rfl rfl (Tk.t (Tk.t (Tk.t Tk.h))) ⟨rfl, rfl⟩ (by simp [Value.oneCell']; assumption) ?_; refine GO.assign rfl rfl ?_; refine GO.nil ?_; refine kthen_n ?_; refine G.ret ?_)
      refine KF2.r2 rfl (RV.cW (n := 2) rfl rfl (by (exact Tk.h)) rfl) (RV.t rfl) (.inl ⟨n, rfl, by omega, by omega, hall, v2, rfl, rfl⟩) (ImpS.sb ?_)
      ((refine Sb.c (Tk.t (Tk.t Tk.h)) ?_; refine Sb.c (Tk.t (Tk.t Tk.h)) ?_); (refine Sb.s ?_; refine Sb.s ?_; exact Sb.r))
end Go.Proofs.YtpemblhbfafmpaaDoor
namespace Go.Proofs.YtpemblhbfafmpaaDoor
open Go
/-- None, or a side and cells. -/
abbrev OptM := Option (Nat × (Nat → Nat → Bool))
def sideO : OptM → Nat
  | none => 0
  | some (s, _) => s
def setO : OptM → Nat → Nat → Bool
  | none => noX
  | some (_, X) => X
def nilO : OptM → Bool
  | none => true
  | some _ => false
/-- v is such a matrix, that the piece R holds. -/
structure HasO (R : HP) (v : Value) (o : OptM) : Prop where
  side : Fn Tryd.prog 46 #[v] [R] (fun r Q => r = i64 (sideO o) ∧ Q = [R])
  len : Fn Tryd.prog 35 #[v] [R] (fun r Q => r = i64 (cntX (setO o)) ∧ Q = [R])
  cells : Fn Tryd.prog 47 #[v] [R] (fun r Q => ∃ b3 v', r = .func (.func 71) #[] #[.pointer (some ⟨b3, 0, none⟩)] ∧ Q = [bkM (setO o) b3 v', R])
  blocks : o ≠ none → Fn Tryd.prog 66 #[v] [R] (fun r Q => ∃ b3 v', r = .func (.func 88) #[] #[.pointer (some ⟨b3, 0, none⟩)] ∧ Q = [bkM (setO o) b3 v', R])
  form : (o = none ∧ v = .pointer none) ∨ (o ≠ none ∧ ∃ b, v = ptrV b)
theorem HasO.one (s b : Nat) (X : Nat → Nat → Bool) : HasO (mat s X b) (ptrV b) (some (s, X)) := ⟨side_mat s b X, len_mat s b X, mcells_mat s b X, fun _ => blocks_mat s b X, .inr ⟨by simp, b, rfl⟩⟩
theorem Fn.leftV {P : Program} {f : FuncId} {args : Array Value} {A B : HP} {S : Value → Prop} (h : Fn P f args [A] (fun r Q => S r ∧ Q = [A])) : Fn P f args [star [A, B]] (fun r Q => S r ∧ Q = [star [A, B]]) :=
  (Fn.left (S := fun r N => S r ∧ N = []) (h.mono fun r Q hq => ⟨[], ⟨hq.1, rfl⟩, hq.2⟩)).mono fun r Q hq => by obtain ⟨N, ⟨h1, rfl⟩, h2⟩ := hq; exact ⟨h1, h2⟩
theorem Fn.rightV {P : Program} {f : FuncId} {args : Array Value} {A B : HP} {S : Value → Prop} (h : Fn P f args [B] (fun r Q => S r ∧ Q = [B])) : Fn P f args [star [A, B]] (fun r Q => S r ∧ Q = [star [A, B]]) :=
  (Fn.right (S := fun r N => S r ∧ N = []) (h.mono fun r Q hq => ⟨[], ⟨hq.1, rfl⟩, hq.2⟩)).mono fun r Q hq => by obtain ⟨N, ⟨h1, rfl⟩, h2⟩ := hq; exact ⟨h1, h2⟩
theorem Fn.leftI {P : Program} {f : FuncId} {args : Array Value} {A B : HP} {S : Value → HP → Prop} (h : Fn P f args [A] (fun r Q => ∃ p, S r p ∧ Q = [p, A])) : Fn P f args [star [A, B]] (fun r Q => ∃ p, S r p ∧ Q = [p, star [A, B]]) :=
  (Fn.left (S := fun r N => ∃ p, S r p ∧ N = [p]) (h.mono fun r Q hq => by obtain ⟨p, h1, h2⟩ := hq; exact ⟨[p], ⟨p, h1, rfl⟩, h2⟩)).mono fun r Q hq => by obtain ⟨N, ⟨p, h1, rfl⟩, h2⟩ := hq; exact ⟨p, h1, h2⟩
theorem Fn.rightI {P : Program} {f : FuncId} {args : Array Value} {A B : HP} {S : Value → HP → Prop} (h : Fn P f args [B] (fun r Q => ∃ p, S r p ∧ Q = [p, B])) : Fn P f args [star [A, B]] (fun r Q => ∃ p, S r p ∧ Q = [p, star [A, B]]) :=
  (Fn.right (S := fun r N => ∃ p, S r p ∧ N = [p]) (h.mono fun r Q hq => by obtain ⟨p, h1, h2⟩ := hq; exact ⟨[p], ⟨p, h1, rfl⟩, h2⟩)).mono fun r Q hq => by obtain ⟨N, ⟨p, h1, rfl⟩, h2⟩ := hq; exact ⟨p, h1, h2⟩
theorem HasO.left {A B : HP} {v : Value} {o : OptM} (h : HasO A v o) : HasO (star [A, B]) v o :=
  ⟨Fn.leftV (S := fun r => r = i64 (sideO o)) h.side, Fn.leftV (S := fun r => r = i64 (cntX (setO o))) h.len,
   (Fn.leftI (S := fun r p => ∃ b3 v', r = .func (.func 71) #[] #[.pointer (some ⟨b3, 0, none⟩)] ∧ p = bkM (setO o) b3 v') (h.cells.mono fun r Q hq => by obtain ⟨b3, v', h1, h2⟩ := hq; exact ⟨_, ⟨b3, v', h1, rfl⟩, h2⟩)).mono fun r Q hq => by obtain ⟨p, ⟨b3, v', h1, rfl⟩, h2⟩ := hq; exact ⟨b3, v', h1, h2⟩,
   fun hne => (Fn.leftI (S := fun r p => ∃ b3 v', r = .func (.func 88) #[] #[.pointer (some ⟨b3, 0, none⟩)] ∧ p = bkM (setO o) b3 v') ((h.blocks hne).mono fun r Q hq => by obtain ⟨b3, v', h1, h2⟩ := hq; exact ⟨_, ⟨b3, v', h1, rfl⟩, h2⟩)).mono fun r Q hq => by obtain ⟨p, ⟨b3, v', h1, rfl⟩, h2⟩ := hq; exact ⟨b3, v', h1, h2⟩, h.form⟩
theorem HasO.right {A B : HP} {v : Value} {o : OptM} (h : HasO B v o) : HasO (star [A, B]) v o :=
  ⟨Fn.rightV (S := fun r => r = i64 (sideO o)) h.side, Fn.rightV (S := fun r => r = i64 (cntX (setO o))) h.len,
   (Fn.rightI (S := fun r p => ∃ b3 v', r = .func (.func 71) #[] #[.pointer (some ⟨b3, 0, none⟩)] ∧ p = bkM (setO o) b3 v') (h.cells.mono fun r Q hq => by obtain ⟨b3, v', h1, h2⟩ := hq; exact ⟨_, ⟨b3, v', h1, rfl⟩, h2⟩)).mono fun r Q hq => by obtain ⟨p, ⟨b3, v', h1, rfl⟩, h2⟩ := hq; exact ⟨b3, v', h1, h2⟩,
   fun hne => (Fn.rightI (S := fun r p => ∃ b3 v', r = .func (.func 88) #[] #[.pointer (some ⟨b3, 0, none⟩)] ∧ p = bkM (setO o) b3 v') ((h.blocks hne).mono fun r Q hq => by obtain ⟨b3, v', h1, h2⟩ := hq; exact ⟨_, ⟨b3, v', h1, rfl⟩, h2⟩)).mono fun r Q hq => by obtain ⟨p, ⟨b3, v', h1, rfl⟩, h2⟩ := hq; exact ⟨b3, v', h1, h2⟩, h.form⟩
theorem HasO.hasM {R : HP} {v : Value} {s : Nat} {X : Nat → Nat → Bool} (h : HasO R v (some (s, X))) : HasM R v s X := ⟨h.side, h.blocks (by simp)⟩
theorem posL_no : posL noX = [] := by
  unfold posL
  rw [List.filter_eq_nil_iff]
  intro z _ h
  obtain ⟨r, c, _, _, hx⟩ := hasB_iff.1 h
  cases hx
theorem ImpS.nilOwn {el : TypeId} {sz : Nat} {H : List HP} : ImpS H (Go.Proofs.YtpemblhbfafmpaaDoor.own el sz 0 (.slice none 0 0) [] :: H) := fun _ _ s => own_nil s
/-- The reference's matrix, beside. -/
def RefO (q : HP) (rv : Value) (o : OptM) : Prop := ∃ v, rv = refV (sideO o) v ∧ v.oneCell' = true ∧ SlC q v (castL (cellsX (setO o)))
attribute [local irreducible] G GO GR GT Fn FnV pt init exs pur sat own ImpS mat posL allV orL restX cellsX
theorem cells_nil : Fn Tryd.prog 47 #[.pointer none] [] (fun r Q => ∃ b3 v', r = .func (.func 71) #[] #[.pointer (some ⟨b3, 0, none⟩)] ∧ Q = [bkM noX b3 v']) := by
  refine Fn.mk2 Tryd.func47 rfl rfl fun w0 F => ?_
  (refine G.seq ?_; refine G.region ?_; refine GO.assign rfl rfl ?_; refine GO.nil ?_; refine kthen_n ?_; refine G.seq ?_; refine G.region ?_; refine GO.move rfl rfl ?_)
  refine GO.call1 rfl rfl (all_nil) Tks.n ?_
  rintro _ _ ⟨rfl, rfl⟩
  (refine GO.alloc rfl fun b3 => ?_; refine GO.store1 rfl rfl rfl Tk.h (by decide) ?_; refine GO.nil ?_; refine kthen_n ?_; refine G.seq ?_; refine G.region ?_; refine GO.makeFunc1 rfl rfl ?_; refine GO.assign rfl rfl ?_; refine GO.nil ?_; refine kthen_n ?_; refine G.ret ?_)
  refine KF2.r1 rfl (RV.t rfl) ⟨b3, .slice none 0 0, rfl, rfl⟩ ?_
  refine ImpS.flat (k := [_, _]) (M := F) ?_
  rw [posL_no, show allV noX [] = [] by unfold allV; rfl, show ([] : List Nat).length = 0 from rfl]
  refine ImpS.trans (ImpS.nilOwn (el := 96) (sz := 66)) (ImpS.sb ?_)
  ((refine Sb.c (Tk.t Tk.h) ?_; refine Sb.c Tk.h ?_); (exact Sb.r))
theorem HasO.nil (R : HP) : HasO R (.pointer none) none :=
  ⟨(Fn.frame side_nil [R]).mono fun r Q h => by obtain ⟨Q', ⟨h1, rfl⟩, rfl⟩ := h; exact ⟨h1, rfl⟩,
   (Fn.frame len_nil [R]).mono fun r Q h => by obtain ⟨Q', ⟨h1, rfl⟩, rfl⟩ := h; exact ⟨by rw [h1]; show i64 0 = i64 (cntX noX); rw [cntX_no]; rfl, rfl⟩,
   (Fn.frame cells_nil [R]).mono fun r Q h => by obtain ⟨Q', ⟨b3, v', h1, rfl⟩, rfl⟩ := h; exact ⟨b3, v', h1, rfl⟩,
   fun h => absurd rfl h, .inl ⟨rfl, rfl⟩⟩
end Go.Proofs.YtpemblhbfafmpaaDoor
namespace Go.Proofs.YtpemblhbfafmpaaDoor
open Go
structure WfO (o : OptM) : Prop where
  some : ∀ s X, o = some (s, X) → 1 ≤ s ∧ s ≤ 1024
theorem eqNil_none {d : Nat} : True := trivial
attribute [local irreducible] G GO GR GT Fn FnV pt init exs pur sat own ImpS mat posL allV orL restX cellsX cellsV
set_option maxHeartbeats 8000000 in
theorem osame_spec (R z q : HP) (hq : Tab q) (v rv : Value) (o : OptM) (ho : HasO R v o) (hr : RefO z rv o) (hw : WfO o) (hc : ¬ 1048576 < (cellsX (setO o)).length) :
    Fn Tryd.prog 17 #[v, rv] [R, z, q] (fun r Q => r = .bool true ∧ Q = [R, z, q]) := by
  obtain ⟨v2, rfl, hone, hsl⟩ := hr
  have hlen := cellsX_len (setO o)
  have hcl := castL_len (cellsX (setO o))
  obtain ⟨a, cap, rfl, hcap, hrd⟩ := hsl
  refine Fn.mk2 Tryd.func17 rfl rfl fun w0 F => ?_
  rw [hcl] at hrd ⊢
  rcases ho.form with ⟨rfl, rfl⟩ | ⟨hne, b, rfl⟩
  · (refine G.seq ?_; refine G.region ?_; refine GO.box rfl rfl rfl fun b3 => ?_; refine GO.alloc rfl fun b4 => ?_; refine GO.nil ?_; refine kthen_n ?_; refine G.seq ?_; refine G.seq ?_)
    refine G.draw 21 (by kernel_rfl) ?_
    ((apply GQ.step; focus (intro Z; refine GO.move rfl rfl ?_; exact KQ.z)); (apply GQ.step; focus (intro Z; refine GO.eqNilP rfl rfl ?_; exact KQ.z)); (apply GQ.step; focus (intro Z; refine GO.fieldAddr rfl rfl ?_; exact KQ.z)); (apply GQ.step; focus (intro Z; refine GO.load1 rfl rfl rfl (Tk.t Tk.h) rfl ?_; exact KQ.z)); (apply GQ.step; focus (intro Z; refine GO.eqT rfl rfl rfl rfl ?_; exact KQ.z)))
    apply GQ.step; focus (intro Z; refine GO.neqF rfl rfl rfl rfl ?_; exact KQ.z)
    ((apply GQ.step; focus (intro Z; refine GO.move rfl rfl ?_; exact KQ.z)); (apply GQ.step; focus (intro Z; refine GO.gT rfl rfl rfl ?_; refine GO.move rfl rfl ?_; exact KQ.z)))
    apply GQ.step; focus (intro Z; refine GO.gT rfl rfl rfl ?_; refine GO.call1 rfl rfl (ho.side) (Tks.c (Tk.t (Tk.t Tk.h)) Tks.n) ?_; rintro _ _ ⟨rfl, rfl⟩; refine GO.nil (KQ.s ?_); ((refine Sb.c (Tk.t Tk.h) ?_; refine Sb.c (Tk.t Tk.h) ?_; refine Sb.c Tk.h ?_; refine Sb.c Tk.h ?_; refine Sb.c Tk.h ?_); (exact Sb.r)))
    ((apply GQ.step; focus (intro Z; refine GO.gT rfl rfl rfl ?_; refine GO.fieldAddr rfl rfl ?_; exact KQ.z)); (apply GQ.step; focus (intro Z; refine GO.gT rfl rfl rfl ?_; refine GO.load1 rfl rfl rfl (Tk.t Tk.h) rfl ?_; exact KQ.z)); (apply GQ.step; focus (intro Z; refine GO.gT rfl rfl rfl ?_; refine GO.neF rfl rfl rfl rfl ?_; exact KQ.z)); (apply GQ.step; focus (intro Z; refine GO.pickF rfl rfl rfl ?_; exact KQ.z)); (apply GQ.step; focus (intro Z; refine GO.move rfl rfl ?_; exact KQ.z)); (apply GQ.step; focus (intro Z; refine GO.gT rfl rfl rfl ?_; refine GO.move rfl rfl ?_; exact KQ.z)))
    apply GQ.step; focus (intro Z; refine GO.gT rfl rfl rfl ?_; refine GO.call1 rfl rfl (ho.len) (Tks.c (Tk.t (Tk.t Tk.h)) Tks.n) ?_; rintro _ _ ⟨rfl, rfl⟩; refine GO.nil (KQ.s ?_); ((refine Sb.c (Tk.t Tk.h) ?_; refine Sb.c (Tk.t Tk.h) ?_; refine Sb.c Tk.h ?_; refine Sb.c Tk.h ?_; refine Sb.c Tk.h ?_); (exact Sb.r)))
    rw [← hlen]
    ((apply GQ.step; focus (intro Z; refine GO.gT rfl rfl rfl ?_; refine GO.fieldAddr rfl rfl ?_; exact KQ.z)); (apply GQ.step; focus (intro Z; refine GO.gT rfl rfl rfl ?_; refine GO.load1 rfl rfl rfl (Tk.t Tk.h) rfl ?_; exact KQ.z)); (apply GQ.step; focus (intro Z; refine GO.gT rfl rfl rfl ?_; refine GO.lenS rfl rfl ?_; exact KQ.z)); (apply GQ.step; focus (intro Z; refine GO.gT rfl rfl rfl ?_; refine GO.neF rfl rfl rfl rfl ?_; exact KQ.z)); (apply GQ.step; focus (intro Z; refine GO.pickF rfl rfl rfl ?_; exact KQ.z)); refine GQ.nil ?_)
    (refine GO.nil ?_; refine kthen_n ?_; refine G.condF rfl rfl ?_; refine G.skip ?_; refine kthen_n ?_; refine G.seq ?_; refine G.region ?_; refine GO.alloc rfl fun b5 => ?_; refine GO.store1 rfl rfl rfl Tk.h (by decide) ?_; refine GO.nil ?_; refine kthen_n ?_; refine G.seq ?_; refine G.region ?_; refine GO.move rfl rfl ?_)
    refine GO.call1 rfl rfl (ho.cells) (Tks.c (Tk.t (Tk.t (Tk.t Tk.h))) Tks.n) ?_
    rintro _ _ ⟨bI, vI, rfl, rfl⟩
    (refine GO.assign rfl rfl ?_; refine GO.nil ?_; refine kthen_n ?_; refine G.seq ?_; refine G.seq ?_; refine G.region ?_; refine GO.move rfl rfl ?_)
    refine GO.eqNilF rfl rfl ?_
    (refine GO.nil ?_; refine kthen_n ?_; refine G.condF rfl rfl ?_; refine G.skip ?_; refine kthen_n ?_; refine G.seq ?_; refine G.seq ?_; refine G.region ?_; refine GO.move rfl rfl ?_; refine GO.nil ?_; refine kthen_n ?_; refine G.block ?_)
    refine G.rangeF (F := R :: pt b4 (row [.bool false] 4) :: F) (psl := [35, 36]) (v := .func (.func 71) #[] #[.pointer (some ⟨bI, 0, none⟩)]) (xs := (cellsX (setO (none : OptM))).map celV) (Sh := [q]) (Gm := [bkM (setO (none : OptM)) bI vI])
      (fun k => [pt b3 (row [i64 ((sideO (none : OptM) : Nat) : Int), .slice a (cellsX (setO (none : OptM))).length cap] 28), pt b5 (row [i64 (k : Nat)] 3), z])
      (fun _ _ => [pur False]) (fun _ h => by cases h) rfl (fun u hu => by obtain ⟨p, _, rfl⟩ := List.mem_map.1 hu; rfl) rfl (mcells_seq q hq (setO (none : OptM)) bI vI) ?_ (fun lp Lr Lb w1 F1 k uu huu => ?_) ?_ ?_
    · (refine Tks.c (Tk.t (Tk.t (Tk.t (Tk.t Tk.h)))) ?_; refine Tks.c (Tk.t (Tk.t Tk.h)) ?_; refine Tks.c (Tk.t (Tk.t (Tk.t Tk.h))) ?_; refine Tks.c (Tk.t (Tk.t (Tk.t Tk.h))) ?_; exact Tks.n)
    · obtain ⟨p, hp, rfl⟩ : ∃ p, (cellsX (setO (none : OptM)))[k]? = some p ∧ uu = celV p := by
        rw [List.getElem?_map] at huu
        cases hcc : (cellsX (setO (none : OptM)))[k]? with
        | none => simp [hcc] at huu
        | some p => simp [hcc] at huu; exact ⟨p, rfl, huu.symm⟩
      have hkl := (List.getElem?_eq_some_iff.1 hp).1
      have hpc : (castL (cellsX (setO (none : OptM))))[k]? = some ((p.1 : Int), (p.2 : Int)) := by unfold castL; rw [List.getElem?_map, hp]; rfl
      obtain ⟨bo, oo, rfl, hr2⟩ := hrd (by omega)
      have r1 : Rd z ⟨bo, oo + k * 2, none⟩ (i64 ((p.1 : Nat) : Int)) := hr2 _ _ (cellsV_get hpc).1
      have r2 : Rd z ⟨bo, oo + k * 2 + 1, none⟩ (i64 ((p.2 : Nat) : Int)) := hr2 _ _ (cellsV_get hpc).2
      have d1 : decide (((cellsX (setO (none : OptM))).length : Int) ≤ (k : Int)) = false := decide_eq_false (by omega)
      have hceq := EqR.celC (d := 9998) ((p.1 : Int), (p.2 : Int)) ((p.1 : Int), (p.2 : Int))
      rw [decide_eq_true rfl] at hceq
      change G _ _ _ _ ((36, i64 (p.2 : Nat)) :: (35, i64 (p.1 : Nat)) :: _) (pt b3 (row [i64 ((sideO (none : OptM) : Nat) : Int), .slice (some ⟨bo, oo, none⟩) (cellsX (setO (none : OptM))).length cap] 28) :: pt b5 (row [i64 (k : Nat)] 3) :: z :: q :: F1)
      (refine G.seq ?_; refine G.region ?_; refine GO.assign rfl rfl ?_; refine GO.nil ?_; refine kthen_n ?_; refine G.region ?_; refine GO.assign rfl rfl ?_; refine GO.nil ?_)
      refine kA_n ?_
      (refine G.block ?_; refine G.seq ?_; refine G.seq ?_; refine G.region ?_; refine GO.load1 rfl rfl rfl (Tk.t Tk.h) rfl ?_; refine GO.fieldAddr rfl rfl ?_; refine GO.load1 rfl rfl rfl Tk.h rfl ?_; refine GO.lenS rfl rfl ?_; refine GO.gei rfl rfl rfl ?_; refine GO.move rfl rfl ?_; refine GO.gT rfl rfl (by assumption) ?_; refine GO.fieldAddr rfl rfl ?_; refine GO.gT rfl rfl (by assumption) ?_; refine GO.load1 rfl rfl rfl Tk.h rfl ?_; refine GO.gT rfl rfl (by assumption) ?_; refine GO.load1 rfl rfl rfl (Tk.t Tk.h) rfl ?_; refine GO.gT rfl rfl (by assumption) ?_; refine GO.idxS rfl rfl rfl ⟨rfl, by omega⟩ ?_; refine GO.gT rfl rfl (by assumption) ?_; refine GO.load2 rfl rfl rfl (Tk.t (Tk.t Tk.h)) (by assumption) (by assumption) ?_; refine GO.gT rfl rfl (by assumption) ?_; refine GO.move rfl rfl ?_; refine GO.gT rfl rfl (by assumption) ?_; refine GO.move rfl rfl ?_; refine GO.gT rfl rfl (by assumption) ?_; refine GO.build2 rfl rfl rfl rfl ?_; refine GO.gT rfl rfl (by assumption) ?_)
      refine GO.neqA hceq rfl rfl rfl ?_
      (refine GO.pickFa rfl rfl (by assumption) rfl ?_; refine GO.nil ?_; refine kthen_n ?_; refine G.condF rfl rfl ?_; refine G.skip ?_; refine kthen_n ?_; refine G.region ?_; refine GO.load1 rfl rfl rfl (Tk.t Tk.h) rfl ?_; refine GO.addi rfl rfl rfl (by omega) ?_; refine GO.store1 rfl rfl rfl (Tk.t Tk.h) (by simp) ?_; refine GO.nil ?_; refine kblock_n ?_)
      refine kB_n (ImpS.sb ?_)
      ((refine Sb.c (Tk.t Tk.h) ?_; refine Sb.c Tk.h ?_; refine Sb.c Tk.h ?_; refine Sb.c Tk.h ?_); (exact Sb.r))
    · rw [List.length_map]
      change G _ _ _ _ _ (pt b3 (row [i64 ((sideO (none : OptM) : Nat) : Int), .slice a (cellsX (setO (none : OptM))).length cap] 28) :: pt b5 (row [i64 ((cellsX (setO (none : OptM))).length : Nat)] 3) :: z :: q :: bkM (setO (none : OptM)) bI vI :: R :: pt b4 (row [.bool false] 4) :: F)
      (refine G.seq ?_; refine G.region ?_; refine GO.load1 rfl rfl rfl (Tk.t Tk.h) rfl ?_; refine GO.fieldAddr rfl rfl ?_; refine GO.load1 rfl rfl rfl Tk.h rfl ?_; refine GO.lenS rfl rfl ?_; refine GO.eqT rfl rfl rfl rfl ?_; refine GO.store1 rfl rfl rfl (Tk.t (Tk.t (Tk.t (Tk.t (Tk.t (Tk.t Tk.h)))))) (by decide) ?_; refine GO.nil ?_; refine kthen_n ?_; refine G.ret ?_)
      refine KF2.r1 rfl (RV.c1 rfl rfl (by (exact Tk.h)) rfl) ⟨rfl, rfl⟩ (ImpS.sb ?_)
      ((refine Sb.c (Tk.t (Tk.t (Tk.t (Tk.t (Tk.t (Tk.t Tk.h)))))) ?_; refine Sb.c (Tk.t (Tk.t (Tk.t Tk.h))) ?_; refine Sb.c (Tk.t (Tk.t (Tk.t Tk.h))) ?_); (refine Sb.s ?_; refine Sb.s ?_; refine Sb.s ?_; refine Sb.s ?_; exact Sb.r))
    · intro i jc hi
      exact G.pur fun h => h.elim
  · obtain ⟨⟨s, X⟩, rfl⟩ := Option.ne_none_iff_exists'.1 hne
    have hs := hw.some s X rfl
    (refine G.seq ?_; refine G.region ?_; refine GO.box rfl rfl rfl fun b3 => ?_; refine GO.alloc rfl fun b4 => ?_; refine GO.nil ?_; refine kthen_n ?_; refine G.seq ?_; refine G.seq ?_)
    refine G.draw 21 (by kernel_rfl) ?_
    ((apply GQ.step; focus (intro Z; refine GO.move rfl rfl ?_; exact KQ.z)); (apply GQ.step; focus (intro Z; refine GO.eqNilP rfl rfl ?_; exact KQ.z)); (apply GQ.step; focus (intro Z; refine GO.fieldAddr rfl rfl ?_; exact KQ.z)); (apply GQ.step; focus (intro Z; refine GO.load1 rfl rfl rfl (Tk.t Tk.h) rfl ?_; exact KQ.z)); (apply GQ.step; focus (intro Z; refine GO.eqi rfl rfl rfl ?_; exact KQ.z)))
    apply GQ.step; focus (intro Z; refine GO.neqF rfl rfl rfl (by show false = decide (((s : Nat) : Int) = 0); rw [decide_eq_false (by omega)]) ?_; exact KQ.z)
    ((apply GQ.step; focus (intro Z; refine GO.move rfl rfl ?_; exact KQ.z)); (apply GQ.step; focus (intro Z; refine GO.gT rfl rfl rfl ?_; refine GO.move rfl rfl ?_; exact KQ.z)))
    apply GQ.step; focus (intro Z; refine GO.gT rfl rfl rfl ?_; refine GO.call1 rfl rfl (ho.side) (Tks.c (Tk.t (Tk.t Tk.h)) Tks.n) ?_; rintro _ _ ⟨rfl, rfl⟩; refine GO.nil (KQ.s ?_); ((refine Sb.c (Tk.t Tk.h) ?_; refine Sb.c (Tk.t Tk.h) ?_; refine Sb.c Tk.h ?_; refine Sb.c Tk.h ?_; refine Sb.c Tk.h ?_); (exact Sb.r)))
    ((apply GQ.step; focus (intro Z; refine GO.gT rfl rfl rfl ?_; refine GO.fieldAddr rfl rfl ?_; exact KQ.z)); (apply GQ.step; focus (intro Z; refine GO.gT rfl rfl rfl ?_; refine GO.load1 rfl rfl rfl (Tk.t Tk.h) rfl ?_; exact KQ.z)); (apply GQ.step; focus (intro Z; refine GO.gT rfl rfl rfl ?_; refine GO.neF rfl rfl rfl rfl ?_; exact KQ.z)); (apply GQ.step; focus (intro Z; refine GO.pickF rfl rfl rfl ?_; exact KQ.z)); (apply GQ.step; focus (intro Z; refine GO.move rfl rfl ?_; exact KQ.z)); (apply GQ.step; focus (intro Z; refine GO.gT rfl rfl rfl ?_; refine GO.move rfl rfl ?_; exact KQ.z)))
    apply GQ.step; focus (intro Z; refine GO.gT rfl rfl rfl ?_; refine GO.call1 rfl rfl (ho.len) (Tks.c (Tk.t (Tk.t Tk.h)) Tks.n) ?_; rintro _ _ ⟨rfl, rfl⟩; refine GO.nil (KQ.s ?_); ((refine Sb.c (Tk.t Tk.h) ?_; refine Sb.c (Tk.t Tk.h) ?_; refine Sb.c Tk.h ?_; refine Sb.c Tk.h ?_; refine Sb.c Tk.h ?_); (exact Sb.r)))
    rw [← hlen]
    ((apply GQ.step; focus (intro Z; refine GO.gT rfl rfl rfl ?_; refine GO.fieldAddr rfl rfl ?_; exact KQ.z)); (apply GQ.step; focus (intro Z; refine GO.gT rfl rfl rfl ?_; refine GO.load1 rfl rfl rfl (Tk.t Tk.h) rfl ?_; exact KQ.z)); (apply GQ.step; focus (intro Z; refine GO.gT rfl rfl rfl ?_; refine GO.lenS rfl rfl ?_; exact KQ.z)); (apply GQ.step; focus (intro Z; refine GO.gT rfl rfl rfl ?_; refine GO.neF rfl rfl rfl rfl ?_; exact KQ.z)); (apply GQ.step; focus (intro Z; refine GO.pickF rfl rfl rfl ?_; exact KQ.z)); refine GQ.nil ?_)
    (refine GO.nil ?_; refine kthen_n ?_; refine G.condF rfl rfl ?_; refine G.skip ?_; refine kthen_n ?_; refine G.seq ?_; refine G.region ?_; refine GO.alloc rfl fun b5 => ?_; refine GO.store1 rfl rfl rfl Tk.h (by decide) ?_; refine GO.nil ?_; refine kthen_n ?_; refine G.seq ?_; refine G.region ?_; refine GO.move rfl rfl ?_)
    refine GO.call1 rfl rfl (ho.cells) (Tks.c (Tk.t (Tk.t (Tk.t Tk.h))) Tks.n) ?_
    rintro _ _ ⟨bI, vI, rfl, rfl⟩
    (refine GO.assign rfl rfl ?_; refine GO.nil ?_; refine kthen_n ?_; refine G.seq ?_; refine G.seq ?_; refine G.region ?_; refine GO.move rfl rfl ?_)
    refine GO.eqNilF rfl rfl ?_
    (refine GO.nil ?_; refine kthen_n ?_; refine G.condF rfl rfl ?_; refine G.skip ?_; refine kthen_n ?_; refine G.seq ?_; refine G.seq ?_; refine G.region ?_; refine GO.move rfl rfl ?_; refine GO.nil ?_; refine kthen_n ?_; refine G.block ?_)
    refine G.rangeF (F := R :: pt b4 (row [.bool false] 4) :: F) (psl := [35, 36]) (v := .func (.func 71) #[] #[.pointer (some ⟨bI, 0, none⟩)]) (xs := (cellsX (setO (some (s, X) : OptM))).map celV) (Sh := [q]) (Gm := [bkM (setO (some (s, X) : OptM)) bI vI])
      (fun k => [pt b3 (row [i64 ((sideO (some (s, X) : OptM) : Nat) : Int), .slice a (cellsX (setO (some (s, X) : OptM))).length cap] 28), pt b5 (row [i64 (k : Nat)] 3), z])
      (fun _ _ => [pur False]) (fun _ h => by cases h) rfl (fun u hu => by obtain ⟨p, _, rfl⟩ := List.mem_map.1 hu; rfl) rfl (mcells_seq q hq (setO (some (s, X) : OptM)) bI vI) ?_ (fun lp Lr Lb w1 F1 k uu huu => ?_) ?_ ?_
    · (refine Tks.c (Tk.t (Tk.t (Tk.t (Tk.t Tk.h)))) ?_; refine Tks.c (Tk.t (Tk.t Tk.h)) ?_; refine Tks.c (Tk.t (Tk.t (Tk.t Tk.h))) ?_; refine Tks.c (Tk.t (Tk.t (Tk.t Tk.h))) ?_; exact Tks.n)
    · obtain ⟨p, hp, rfl⟩ : ∃ p, (cellsX (setO (some (s, X) : OptM)))[k]? = some p ∧ uu = celV p := by
        rw [List.getElem?_map] at huu
        cases hcc : (cellsX (setO (some (s, X) : OptM)))[k]? with
        | none => simp [hcc] at huu
        | some p => simp [hcc] at huu; exact ⟨p, rfl, huu.symm⟩
      have hkl := (List.getElem?_eq_some_iff.1 hp).1
      have hpc : (castL (cellsX (setO (some (s, X) : OptM))))[k]? = some ((p.1 : Int), (p.2 : Int)) := by unfold castL; rw [List.getElem?_map, hp]; rfl
      obtain ⟨bo, oo, rfl, hr2⟩ := hrd (by omega)
      have r1 : Rd z ⟨bo, oo + k * 2, none⟩ (i64 ((p.1 : Nat) : Int)) := hr2 _ _ (cellsV_get hpc).1
      have r2 : Rd z ⟨bo, oo + k * 2 + 1, none⟩ (i64 ((p.2 : Nat) : Int)) := hr2 _ _ (cellsV_get hpc).2
      have d1 : decide (((cellsX (setO (some (s, X) : OptM))).length : Int) ≤ (k : Int)) = false := decide_eq_false (by omega)
      have hceq := EqR.celC (d := 9998) ((p.1 : Int), (p.2 : Int)) ((p.1 : Int), (p.2 : Int))
      rw [decide_eq_true rfl] at hceq
      change G _ _ _ _ ((36, i64 (p.2 : Nat)) :: (35, i64 (p.1 : Nat)) :: _) (pt b3 (row [i64 ((sideO (some (s, X) : OptM) : Nat) : Int), .slice (some ⟨bo, oo, none⟩) (cellsX (setO (some (s, X) : OptM))).length cap] 28) :: pt b5 (row [i64 (k : Nat)] 3) :: z :: q :: F1)
      (refine G.seq ?_; refine G.region ?_; refine GO.assign rfl rfl ?_; refine GO.nil ?_; refine kthen_n ?_; refine G.region ?_; refine GO.assign rfl rfl ?_; refine GO.nil ?_)
      refine kA_n ?_
      (refine G.block ?_; refine G.seq ?_; refine G.seq ?_; refine G.region ?_; refine GO.load1 rfl rfl rfl (Tk.t Tk.h) rfl ?_; refine GO.fieldAddr rfl rfl ?_; refine GO.load1 rfl rfl rfl Tk.h rfl ?_; refine GO.lenS rfl rfl ?_; refine GO.gei rfl rfl rfl ?_; refine GO.move rfl rfl ?_; refine GO.gT rfl rfl (by assumption) ?_; refine GO.fieldAddr rfl rfl ?_; refine GO.gT rfl rfl (by assumption) ?_; refine GO.load1 rfl rfl rfl Tk.h rfl ?_; refine GO.gT rfl rfl (by assumption) ?_; refine GO.load1 rfl rfl rfl (Tk.t Tk.h) rfl ?_; refine GO.gT rfl rfl (by assumption) ?_; refine GO.idxS rfl rfl rfl ⟨rfl, by omega⟩ ?_; refine GO.gT rfl rfl (by assumption) ?_; refine GO.load2 rfl rfl rfl (Tk.t (Tk.t Tk.h)) (by assumption) (by assumption) ?_; refine GO.gT rfl rfl (by assumption) ?_; refine GO.move rfl rfl ?_; refine GO.gT rfl rfl (by assumption) ?_; refine GO.move rfl rfl ?_; refine GO.gT rfl rfl (by assumption) ?_; refine GO.build2 rfl rfl rfl rfl ?_; refine GO.gT rfl rfl (by assumption) ?_)
      refine GO.neqA hceq rfl rfl rfl ?_
      (refine GO.pickFa rfl rfl (by assumption) rfl ?_; refine GO.nil ?_; refine kthen_n ?_; refine G.condF rfl rfl ?_; refine G.skip ?_; refine kthen_n ?_; refine G.region ?_; refine GO.load1 rfl rfl rfl (Tk.t Tk.h) rfl ?_; refine GO.addi rfl rfl rfl (by omega) ?_; refine GO.store1 rfl rfl rfl (Tk.t Tk.h) (by simp) ?_; refine GO.nil ?_; refine kblock_n ?_)
      refine kB_n (ImpS.sb ?_)
      ((refine Sb.c (Tk.t Tk.h) ?_; refine Sb.c Tk.h ?_; refine Sb.c Tk.h ?_; refine Sb.c Tk.h ?_); (exact Sb.r))
    · rw [List.length_map]
      change G _ _ _ _ _ (pt b3 (row [i64 ((sideO (some (s, X) : OptM) : Nat) : Int), .slice a (cellsX (setO (some (s, X) : OptM))).length cap] 28) :: pt b5 (row [i64 ((cellsX (setO (some (s, X) : OptM))).length : Nat)] 3) :: z :: q :: bkM (setO (some (s, X) : OptM)) bI vI :: R :: pt b4 (row [.bool false] 4) :: F)
      (refine G.seq ?_; refine G.region ?_; refine GO.load1 rfl rfl rfl (Tk.t Tk.h) rfl ?_; refine GO.fieldAddr rfl rfl ?_; refine GO.load1 rfl rfl rfl Tk.h rfl ?_; refine GO.lenS rfl rfl ?_; refine GO.eqT rfl rfl rfl rfl ?_; refine GO.store1 rfl rfl rfl (Tk.t (Tk.t (Tk.t (Tk.t (Tk.t (Tk.t Tk.h)))))) (by decide) ?_; refine GO.nil ?_; refine kthen_n ?_; refine G.ret ?_)
      refine KF2.r1 rfl (RV.c1 rfl rfl (by (exact Tk.h)) rfl) ⟨rfl, rfl⟩ (ImpS.sb ?_)
      ((refine Sb.c (Tk.t (Tk.t (Tk.t (Tk.t (Tk.t (Tk.t Tk.h)))))) ?_; refine Sb.c (Tk.t (Tk.t (Tk.t Tk.h))) ?_; refine Sb.c (Tk.t (Tk.t (Tk.t Tk.h))) ?_); (refine Sb.s ?_; refine Sb.s ?_; refine Sb.s ?_; refine Sb.s ?_; exact Sb.r))
    · intro i jc hi
      exact G.pur fun h => h.elim
end Go.Proofs.YtpemblhbfafmpaaDoor
namespace Go.Proofs.YtpemblhbfafmpaaDoor
open Go
/-- How many cells stand in rows ahead of one. -/
def preN (X : Nat → Nat → Bool) (i : Nat) : Nat := (lines X i).length
theorem preN_zero (X : Nat → Nat → Bool) : preN X 0 = 0 := rfl
theorem preN_succ (X : Nat → Nat → Bool) (i : Nat) : preN X (i + 1) = preN X i + (rowX X i).length := lines_more X i
def fstA (X : Nat → Nat → Bool) (k : Nat) : Nat → Nat := fun j => match j with | 0 => 0 | j + 1 => (colsK X k j).length
def fstB (X : Nat → Nat → Bool) (i : Nat) : Nat → Nat := fun j => if j ≤ i then preN X j else (rowX X (j - 1)).length
theorem fstA_zero (X : Nat → Nat → Bool) : fstA X 0 = fun _ => 0 := by
  funext j
  cases j <;> rfl
theorem fstA_succ {X : Nat → Nat → Bool} {k r c : Nat} (h : (cellsX X)[k]? = some (r, c)) : fstA X (k + 1) = upd (fstA X k) (r + 1) (fstA X k (r + 1) + 1) := by
  funext j
  unfold upd
  by_cases e : j = r + 1
  · subst e
    rw [if_pos rfl]
    show (colsK X (k + 1) r).length = (colsK X k r).length + 1
    rw [colsK_at h, List.length_append]; rfl
  · rw [if_neg e]
    cases j with
    | zero => rfl
    | succ j =>
      show (colsK X (k + 1) j).length = (colsK X k j).length
      rw [colsK_ne h (by omega)]
theorem fstB_zero {s : Nat} {X : Nat → Nat → Bool} (hs : s ≤ 1024) (hin : ∀ r c, X r c = true → r < s ∧ c < s) {j : Nat} (hj : j < s + 1) : fstA X (cellsX X).length j = fstB X 0 j := by
  unfold fstB
  cases j with
  | zero => rfl
  | succ j =>
    rw [if_neg (by omega)]
    show (colsK X (cellsX X).length j).length = (rowX X (j + 1 - 1)).length
    rw [colsK_end hs hin (by omega), Nat.add_sub_cancel]
theorem fstB_succ (X : Nat → Nat → Bool) (i : Nat) : fstB X (i + 1) = upd (fstB X i) (i + 1) (fstB X i (i + 1) + fstB X i i) := by
  funext j
  unfold upd fstB
  by_cases e : j = i + 1
  · subst e
    rw [if_pos rfl, if_pos (Nat.le_refl _), if_neg (by omega), if_pos (Nat.le_refl _), preN_succ, Nat.add_sub_cancel, Nat.add_comm]
  · rw [if_neg e]
    by_cases h : j ≤ i
    · rw [if_pos h, if_pos (by omega)]
    · rw [if_neg h, if_neg (by omega)]
abbrev numR (b : Nat) (f : Nat → Nat) (n : Nat) : HP := pt b (row (rowV (fun x : Nat => i64 (x : Nat)) f n) 3)
theorem rowV_ext {α : Type} {f : α → Value} {o o' : Nat → α} {n : Nat} (h : ∀ j, j < n → o j = o' j) : rowV f o n = rowV f o' n := List.map_congr_left fun j hj => by rw [h j (List.mem_range.1 hj)]
attribute [local irreducible] G GO GR GT Fn FnV pt init exs pur sat own ImpS mat posL allV orL restX cellsX cellsV fstA fstB preN
set_option maxHeartbeats 8000000 in
theorem rfirst_spec (z : HP) (rv : Value) (s : Nat) (X : Nat → Nat → Bool) (hr : RefO z rv (some (s, X))) (hs : 1 ≤ s ∧ s ≤ 1024) (hin : ∀ r c, X r c = true → r < s ∧ c < s) :
    Fn Tryd.prog 68 #[rv] [z] (fun r Q => ∃ b, r = .slice (some ⟨b, 0, none⟩) (s + 1) (s + 1) ∧ Q = [numR b (preN X) (s + 1), z]) := by
  obtain ⟨v2, rfl, hone, hsl⟩ := hr
  have hmx := cnt_max X
  have hlen := cellsX_len X
  have hcl := castL_len (cellsX X)
  have hpl : ∀ j, j ≤ s → ¬ 1048576 < preN X j := fun j hj => by have := lines_len X (i := j) (by omega); unfold preN; omega
  have hrl : ∀ j, ¬ 1048576 < (rowX X j).length := fun j => by have := rowX_len (side := s) (X := X) j; omega
  have hco : ∀ k j, ¬ 1048576 < (colsK X k j).length := fun k j => by have := colsK_len X k j; omega
  obtain ⟨a, cap, rfl, hcap, hrd⟩ := hsl
  rw [show setO (some (s, X)) = X from rfl] at hrd ⊢
  rw [hcl] at hrd ⊢
  rw [show sideO (some (s, X)) = s from rfl]
  refine Fn.mk2 Tryd.func68 rfl rfl fun w0 F => ?_
  (refine G.seq ?_; refine G.region ?_; refine GO.box rfl rfl rfl fun b1 => ?_; refine GO.assign rfl rfl ?_; refine GO.nil ?_; refine kthen_n ?_; refine G.seq ?_; refine G.region ?_; refine GO.fieldAddr rfl rfl ?_; refine GO.load1 rfl rfl rfl Tk.h rfl ?_; refine GO.addi rfl rfl rfl (by omega) ?_)
  refine GO.chg (i64 ((s + 1 : Nat) : Int)) (by congr 1) ?_
  refine GO.make1 (n := s + 1) rfl rfl rfl ⟨rfl, rfl⟩ ⟨by omega, by omega⟩ fun bn => ?_
  rw [show List.replicate (s + 1) (Value.int IntKind.i64 0) = rowV (fun x : Nat => i64 (x : Nat)) (fun _ => 0) (s + 1) from rowV_const (f := fun x : Nat => i64 (x : Nat)) (a := 0), ← fstA_zero X]
  (refine GO.assign rfl rfl ?_; refine GO.nil ?_; refine kthen_n ?_; refine G.seq ?_; refine G.seq ?_; refine G.region ?_; refine GO.assign rfl rfl ?_; refine GO.nil ?_; refine kthen_n ?_; refine G.block ?_)
  refine G.loop (fun k : Nat => [(1, .pointer (some ⟨b1, 0, none⟩)), (3, .slice (some ⟨bn, 0, none⟩) (s + 1) (s + 1)), (4, i64 k)])
    (fun k => numR bn (fstA X k) (s + 1) :: pt b1 (row [i64 (s : Nat), .slice a (cellsX X).length cap] 28) :: z :: F) (fun k => k ≤ (cellsX X).length) (fun k => (cellsX X).length - k) 0 (by omega) ?_ ?_ ?_
  · (refine SubE.c rfl rfl ?_; refine SubE.c rfl rfl ?_; refine SubE.c rfl rfl ?_; exact SubE.n)
  · ((refine Sb.c Tk.h ?_; refine Sb.c Tk.h ?_; refine Sb.c Tk.h ?_); (exact Sb.r))
  · rintro k hk
    (refine G.seq ?_; refine G.seq ?_; refine G.region ?_; refine GO.move rfl rfl ?_; refine GO.fieldAddr rfl rfl ?_; refine GO.load1 rfl rfl rfl (Tk.t Tk.h) rfl ?_; refine GO.lenS rfl rfl ?_; refine GO.lti rfl rfl rfl ?_; refine GO.nil ?_; refine kthen_n ?_)
    refine G.condD rfl (fun hlt => ?_) (fun hge => ?_)
    · have hkl : k < (cellsX X).length := by omega
      obtain ⟨p, hp⟩ : ∃ p, (cellsX X)[k]? = some p := ⟨_, List.getElem?_eq_getElem hkl⟩
      obtain ⟨r, c⟩ := p
      have hpc : (castL (cellsX X))[k]? = some ((r : Int), (c : Int)) := by unfold castL; rw [List.getElem?_map, hp]; rfl
      have hrs := (hin _ _ (cellsX_true (List.mem_of_getElem? hp))).1
      dsimp only at hrs
      have hsu := fstA_succ hp
      have hcb := hco k r
      have hfe : fstA X k (r + 1) = (colsK X k r).length := by unfold fstA; rfl
      rw [← hfe] at hcb
      obtain ⟨bo, oo, rfl, hr2⟩ := hrd (by omega)
      have r1 : Rd z ⟨bo, oo + k * 2, none⟩ (i64 ((r : Nat) : Int)) := hr2 _ _ (cellsV_get hpc).1
      have hr1 : r + 1 < s + 1 := by omega
      (refine G.skip ?_; refine kthen_n ?_; refine G.seq ?_; refine G.block ?_; refine G.region ?_; refine GO.move rfl rfl ?_; refine GO.fieldAddr rfl rfl ?_; refine GO.load1 rfl rfl rfl (Tk.t Tk.h) rfl ?_; refine GO.move rfl rfl ?_; refine GO.idxS rfl rfl rfl ⟨rfl, by omega⟩ ?_; refine GO.fieldAddr rfl rfl ?_; refine GO.loadQ rfl rfl rfl (Tk.t (Tk.t Tk.h)) (by assumption) ?_; refine GO.addi rfl rfl rfl (by omega) ?_; refine GO.idxS rfl rfl rfl ⟨rfl, by omega⟩ ?_; refine GO.load1 rfl rfl rfl Tk.h (rowV_get1 (by assumption)) ?_)
      refine GO.chg (i64 ((fstA X k (r + 1) : Nat) : Int)) rfl ?_
      (refine GO.addi rfl rfl rfl (by omega) ?_; refine GO.idxS rfl rfl rfl ⟨rfl, by omega⟩ ?_)
      refine GO.store1 rfl rfl rfl Tk.h (by rw [rowV_len (α := Nat) (f := fun x : Nat => i64 (x : Nat)) (o := fstA X k) (n := s + 1)]; show 0 + (r + 1) * 1 < s + 1; omega) ?_
      rw [show Value.int IntKind.i64 (((fstA X k (r + 1) : Nat) : Int) + 1) = i64 ((fstA X k (r + 1) + 1 : Nat) : Int) from by congr 1, rowV_set (α := Nat) (f := fun x : Nat => i64 (x : Nat)), ← hsu]
      (refine GO.nil ?_; refine kblock_n ?_; refine kthen_n ?_; refine G.region ?_; refine GO.move rfl rfl ?_; refine GO.addi rfl rfl rfl (by omega) ?_; refine GO.assign rfl rfl ?_; refine GO.nil ?_; refine kthen_n ?_)
      refine ⟨k + 1, by omega, by omega, ?_, ?_⟩
      · (refine SubE.c rfl rfl ?_; refine SubE.c rfl rfl ?_; refine SubE.c rfl rfl ?_; exact SubE.n)
      · ((refine Sb.c Tk.h ?_; refine Sb.c Tk.h ?_; refine Sb.c Tk.h ?_); (exact Sb.r))
    · obtain rfl : k = (cellsX X).length := by omega
      have e : numR bn (fstA X (cellsX X).length) (s + 1) = numR bn (fstB X 0) (s + 1) := by
        show pt bn (row (rowV (fun x : Nat => i64 (x : Nat)) (fstA X (cellsX X).length) (s + 1)) _) = _
        rw [rowV_ext fun j hj => fstB_zero hs.2 hin hj]
      rw [e]
      clear e
      (refine G.exit ?_; refine kthen_x ?_; refine kthen_x ?_; refine kblock_x ?_; refine kthen_n ?_; refine G.seq ?_; refine G.seq ?_; refine G.region ?_; refine GO.assign rfl rfl ?_; refine GO.nil ?_; refine kthen_n ?_; refine G.block ?_)
      refine G.loop (fun i : Nat => [(1, .pointer (some ⟨b1, 0, none⟩)), (3, .slice (some ⟨bn, 0, none⟩) (s + 1) (s + 1)), (5, i64 i)])
        (fun i => numR bn (fstB X i) (s + 1) :: pt b1 (row [i64 (s : Nat), .slice a (cellsX X).length cap] 28) :: z :: F) (fun i => i ≤ s) (fun i => s - i) 0 (by omega) ?_ ?_ ?_
      · (refine SubE.c rfl rfl ?_; refine SubE.c rfl rfl ?_; refine SubE.c rfl rfl ?_; exact SubE.n)
      · ((refine Sb.c Tk.h ?_; refine Sb.c Tk.h ?_; refine Sb.c Tk.h ?_); (exact Sb.r))
      · rintro i hi
        (refine G.seq ?_; refine G.seq ?_; refine G.region ?_; refine GO.move rfl rfl ?_; refine GO.fieldAddr rfl rfl ?_; refine GO.load1 rfl rfl rfl (Tk.t Tk.h) rfl ?_; refine GO.lti rfl rfl rfl ?_; refine GO.nil ?_; refine kthen_n ?_)
        refine G.condD rfl (fun hlt => ?_) (fun hge => ?_)
        · have his : i < s := by omega
          have hi1 : i + 1 < s + 1 := by omega
          have hi0 : i < s + 1 := by omega
          have hfs := fstB_succ X i
          have b1' : ¬ 1048576 < fstB X i (i + 1) := by unfold fstB; rw [if_neg (by omega)]; exact hrl _
          have b2' : ¬ 1048576 < fstB X i i := by unfold fstB; rw [if_pos (Nat.le_refl _)]; exact hpl i (by omega)
          (refine G.skip ?_; refine kthen_n ?_; refine G.seq ?_; refine G.block ?_)
          refine G.draw 13 (by kernel_rfl) ?_
          ((apply GQ.step; focus (intro Z; refine GO.move rfl rfl ?_; exact KQ.z)); (apply GQ.step; focus (intro Z; refine GO.move rfl rfl ?_; exact KQ.z)); (apply GQ.step; focus (intro Z; refine GO.addi rfl rfl rfl (by omega) ?_; exact KQ.z)); (apply GQ.step; focus (intro Z; refine GO.move rfl rfl ?_; exact KQ.z)); (apply GQ.step; focus (intro Z; refine GO.move rfl rfl ?_; exact KQ.z)); (apply GQ.step; focus (intro Z; refine GO.addi rfl rfl rfl (by omega) ?_; exact KQ.z)); (apply GQ.step; focus (intro Z; refine GO.idxS rfl rfl rfl ⟨rfl, by omega⟩ ?_; exact KQ.z)); (apply GQ.step; focus (intro Z; refine GO.load1 rfl rfl rfl Tk.h (rowV_get1 (by assumption)) ?_; exact KQ.z)); (apply GQ.step; focus (intro Z; refine GO.move rfl rfl ?_; exact KQ.z)); (apply GQ.step; focus (intro Z; refine GO.move rfl rfl ?_; exact KQ.z)); (apply GQ.step; focus (intro Z; refine GO.idxS rfl rfl rfl ⟨rfl, by omega⟩ ?_; exact KQ.z)); (apply GQ.step; focus (intro Z; refine GO.load1 rfl rfl rfl Tk.h (rowV_get1 (by assumption)) ?_; exact KQ.z)))
          apply GQ.step; focus (intro Z; refine GO.addi rfl rfl rfl (by show -9223372036854775808 ≤ ((fstB X i (i + 1) : Nat) : Int) + ((fstB X i i : Nat) : Int) ∧ ((fstB X i (i + 1) : Nat) : Int) + ((fstB X i i : Nat) : Int) ≤ 9223372036854775807; omega) ?_; exact KQ.z)
          (refine GQ.nil ?_)
          (refine GO.idxS rfl rfl rfl ⟨rfl, by omega⟩ ?_)
          refine GO.store1 rfl rfl rfl Tk.h (by rw [rowV_len (α := Nat) (f := fun x : Nat => i64 (x : Nat)) (o := fstB X i) (n := s + 1)]; show 0 + (i + 1) * 1 < s + 1; omega) ?_
          rw [show Value.int IntKind.i64 (((fstB X i (i + 1) : Nat) : Int) + ((fstB X i i : Nat) : Int)) = i64 ((fstB X i (i + 1) + fstB X i i : Nat) : Int) from by congr 1, rowV_set (α := Nat) (f := fun x : Nat => i64 (x : Nat)), ← hfs]
          (refine GO.nil ?_; refine kblock_n ?_; refine kthen_n ?_; refine G.region ?_; refine GO.move rfl rfl ?_; refine GO.addi rfl rfl rfl (by omega) ?_; refine GO.assign rfl rfl ?_; refine GO.nil ?_; refine kthen_n ?_)
          refine ⟨i + 1, by omega, by omega, ?_, ?_⟩
          · (refine SubE.c rfl rfl ?_; refine SubE.c rfl rfl ?_; refine SubE.c rfl rfl ?_; exact SubE.n)
          · ((refine Sb.c Tk.h ?_; refine Sb.c Tk.h ?_; refine Sb.c Tk.h ?_); (exact Sb.r))
        · obtain rfl : i = s := by omega
          have e : numR bn (fstB X i) (i + 1) = numR bn (preN X) (i + 1) := by
            show pt bn (row (rowV (fun x : Nat => i64 (x : Nat)) (fstB X i) (i + 1)) _) = _
            rw [rowV_ext fun j hj => show fstB X i j = preN X j by unfold fstB; rw [if_pos (by omega)]]
          rw [e]
          (refine G.exit ?_; refine kthen_x ?_; refine kthen_x ?_; refine kblock_x ?_; refine kthen_n ?_; refine G.seq ?_; refine G.region ?_; refine GO.move rfl rfl ?_; refine GO.assign rfl rfl ?_; refine GO.nil ?_; refine kthen_n ?_; refine G.ret ?_)
          refine KF2.r1 rfl (RV.t rfl) ⟨bn, rfl, rfl⟩ (ImpS.sb ?_)
          ((refine Sb.c Tk.h ?_; refine Sb.c (Tk.t Tk.h) ?_); (refine Sb.s ?_; exact Sb.r))
end Go.Proofs.YtpemblhbfafmpaaDoor
namespace Go.Proofs.YtpemblhbfafmpaaDoor
open Go
theorem line_get {X : Nat → Nat → Bool} {i m c : Nat} (hi : i < 1024) (h : (rowX X i)[m]? = some c) : (cellsX X)[preN X i + m]? = some (i, c) := by
  have hm := (List.getElem?_eq_some_iff.1 h).1
  rw [lines_rest X (i := i + 1) (by omega), lines_succ, List.append_assoc]
  unfold preN
  rw [List.getElem?_append_right (by omega), Nat.add_sub_cancel_left, List.getElem?_append_left (by rw [List.length_map]; exact hm), List.getElem?_map, h]; rfl
/-- Met: by a row's first columns. -/
def metA (X Y : Nat → Nat → Bool) (i m : Nat) : Nat → Bool := fun j => ((rowX X i).take m).any fun c => Y c j
/-- .. and by the first cells of one more row. -/
def metB (f : Nat → Bool) (l : List Nat) (t : Nat) : Nat → Bool := fun j => f j || (l.take t).any fun x => decide (x = j)
theorem metA_zero (X Y : Nat → Nat → Bool) (i : Nat) : metA X Y i 0 = fun _ => false := rfl
theorem metB_zero (f : Nat → Bool) (l : List Nat) : metB f l 0 = f := by funext j; simp [metB]
theorem metB_succ {f : Nat → Bool} {l : List Nat} {t x : Nat} (h : l[t]? = some x) : metB f l (t + 1) = upd (metB f l t) x true := by
  funext j
  unfold metB upd
  rw [List.take_add_one, h]
  by_cases e : j = x
  · subst e; simp
  · rw [if_neg e]
    have e2 : decide (x = j) = false := decide_eq_false fun h => e h.symm
    simp [List.any_append, e2]
theorem metB_end {s : Nat} {X Y : Nat → Nat → Bool} (hs : s ≤ 1024) (hy : ∀ r c, Y r c = true → r < s ∧ c < s) {i m c : Nat} (h : (rowX X i)[m]? = some c) : metB (metA X Y i m) (rowX Y c) (rowX Y c).length = metA X Y i (m + 1) := by
  funext j
  unfold metB metA
  rw [List.take_length, List.take_add_one, h, List.any_append]
  refine congrArg _ ?_
  rw [Bool.eq_iff_iff, List.any_eq_true]
  simp only [Option.toList_some, List.any_cons, List.any_nil, Bool.or_false, decide_eq_true_eq]
  constructor
  · rintro ⟨x, hx, rfl⟩
    exact (List.mem_filter.1 hx).2
  · intro hj
    have := (hy _ _ hj).2
    exact ⟨j, List.mem_filter.2 ⟨List.mem_range.2 (by omega), hj⟩, rfl⟩
theorem metA_end (X Y : Nat → Nat → Bool) (i : Nat) : metA X Y i (rowX X i).length = fun j => mulX X Y i j := by
  funext j
  unfold metA mulX rowX
  rw [List.take_length, List.any_filter]
theorem rowX_none {X Y : Nat → Nat → Bool} {i : Nat} (h : (rowX X i).length = 0) : rowX (mulX X Y) i = [] := by
  refine List.filter_eq_nil_iff.2 fun c hc => ?_
  have e := congrFun (metA_end X Y i) c
  rw [h] at e
  have e : (false : Bool) = mulX X Y i c := e
  rw [← e]
  simp
/-- What is told: all rows ahead, and of one row its first columns. -/
def toldX (Z : Nat → Nat → Bool) (i j : Nat) : List (Nat × Nat) := lines Z i ++ (rowTo Z i j).map fun c => (i, c)
theorem rowTo_zero (Z : Nat → Nat → Bool) (i : Nat) : rowTo Z i 0 = [] := rfl
theorem toldX_zero (Z : Nat → Nat → Bool) (i : Nat) : toldX Z i 0 = lines Z i := by unfold toldX; rw [rowTo_zero, List.map_nil, List.append_nil]
theorem rowTo_one (Z : Nat → Nat → Bool) (i j : Nat) : rowTo Z i (j + 1) = rowTo Z i j ++ (if Z i j then [j] else []) := by
  unfold rowTo
  rw [List.range_succ, List.filter_append]
  cases h : Z i j <;> simp [h]
theorem toldX_yes {Z : Nat → Nat → Bool} {i j : Nat} (h : Z i j = true) : toldX Z i (j + 1) = toldX Z i j ++ [(i, j)] := by
  unfold toldX; rw [rowTo_one, h, if_pos rfl, List.map_append, List.append_assoc]; rfl
theorem toldX_no {Z : Nat → Nat → Bool} {i j : Nat} (h : Z i j = false) : toldX Z i (j + 1) = toldX Z i j := by
  unfold toldX; rw [rowTo_one, h, if_neg (by simp), List.append_nil]
theorem toldX_end {s : Nat} {Z : Nat → Nat → Bool} (hs : s ≤ 1024) (hin : ∀ r c, Z r c = true → r < s ∧ c < s) (i : Nat) : toldX Z i s = lines Z (i + 1) := by
  unfold toldX; rw [rowTo_end hin (Nat.le_refl _) hs, lines_succ]
theorem told_none {X Y : Nat → Nat → Bool} {i : Nat} (h : (rowX X i).length = 0) : lines (mulX X Y) (i + 1) = lines (mulX X Y) i := by
  rw [lines_succ, rowX_none h, List.map_nil, List.append_nil]
theorem castL_snoc (l : List (Nat × Nat)) (p : Nat × Nat) : castL (l ++ [p]) = castL l ++ [((p.1 : Int), (p.2 : Int))] := by unfold castL; rw [List.map_append]; rfl
theorem toldX_len (Z : Nat → Nat → Bool) {i j : Nat} (hi : i < 1024) (hj : j ≤ 1024) : ¬ 1049600 < (toldX Z i j).length := by
  have h2 := lines_len Z (i := i) (by omega)
  have h3 := rowTo_len Z i j
  have h4 := cnt_max Z
  unfold toldX
  rw [List.length_append, List.length_map]
  omega
end Go.Proofs.YtpemblhbfafmpaaDoor
namespace Go.Proofs.YtpemblhbfafmpaaDoor
open Go
attribute [local irreducible] G GO GR GT Fn FnV pt init exs pur sat own ImpS mat posL allV orL restX cellsX cellsV fstA fstB preN metA metB toldX lines rowX
set_option maxHeartbeats 8000000 in
theorem times_spec (z : HP) (ra rb : Value) (s : Nat) (X Y : Nat → Nat → Bool) (hra : RefO z ra (some (s, X))) (hrb : RefO z rb (some (s, Y))) (hs : 1 ≤ s ∧ s ≤ 1024) (hx : ∀ r c, X r c = true → r < s ∧ c < s) (hy : ∀ r c, Y r c = true → r < s ∧ c < s) :
    Fn Tryd.prog 40 #[ra, rb] [z] (fun r Q => ∃ v, r = refV s v ∧ Q = [own 70 2 (cellsX (mulX X Y)).length v (pairsV (cellsX (mulX X Y))), z]) := by
  have hzin := mulX_in hx hy
  have hend := fun i => metA_end X Y i
  have hnone := fun i (h : (rowX X i).length = 0) => told_none (Y := Y) h
  have hall := lines_all hs.2 hzin
  rw [← hall]
  clear hall
  generalize mulX X Y = Z at hzin hend hnone ⊢
  have f1 := rfirst_spec z _ s X hra hs hx
  have f2 := rfirst_spec z _ s Y hrb hs hy
  have hpX : ∀ j, j ≤ s → ¬ 1048576 < preN X j := fun j hj => by have := lines_len X (i := j) (by omega); have := cnt_max X; unfold preN; omega
  have hpY : ∀ j, j ≤ s → ¬ 1048576 < preN Y j := fun j hj => by have := lines_len Y (i := j) (by omega); have := cnt_max Y; unfold preN; omega
  obtain ⟨va, rfl, honea, aa, capa, rfl, hcapa, hrda⟩ := hra
  obtain ⟨vb, rfl, honeb, ab, capb, rfl, hcapb, hrdb⟩ := hrb
  change Fn _ _ #[refV s (.slice aa (castL (cellsX X)).length capa)] _ _ at f1
  change Fn _ _ #[refV s (.slice ab (castL (cellsX Y)).length capb)] _ _ at f2
  change Fn _ _ #[refV s (.slice aa (castL (cellsX X)).length capa), refV s (.slice ab (castL (cellsX Y)).length capb)] _ _
  change (castL (cellsX X)).length ≤ capa at hcapa
  change (castL (cellsX Y)).length ≤ capb at hcapb
  change 0 < (castL (cellsX X)).length → ∃ b o, aa = some ⟨b, o, none⟩ ∧ ∀ j u, (cellsV (castL (cellsX X)))[j]? = some u → Rd z ⟨b, o + j, none⟩ u at hrda
  change 0 < (castL (cellsX Y)).length → ∃ b o, ab = some ⟨b, o, none⟩ ∧ ∀ j u, (cellsV (castL (cellsX Y)))[j]? = some u → Rd z ⟨b, o + j, none⟩ u at hrdb
  rw [castL_len] at f1 f2 hcapa hcapb hrda hrdb
  rw [castL_len, castL_len]
  refine Fn.mk2 Tryd.func40 rfl rfl fun w0 F => ?_
  (refine G.seq ?_; refine G.region ?_; refine GO.box rfl rfl rfl fun b2 => ?_; refine GO.box rfl rfl rfl fun b3 => ?_; refine GO.alloc rfl fun b4 => ?_; refine GO.nil ?_; refine kthen_n ?_; refine G.seq ?_; refine G.region ?_; refine GO.fieldAddr rfl rfl ?_; refine GO.load1 rfl rfl rfl (Tk.t (Tk.t Tk.h)) rfl ?_)
  refine GO.buildPart1 (built_ref (s : Nat)) rfl rfl ?_
  (refine GO.alloc rfl fun b5 => ?_; refine GO.storeW rfl rfl Tk.h ⟨rfl, rfl⟩ (by simp [Value.oneCell']) ?_; refine GO.nil ?_; refine kthen_n ?_; refine G.seq ?_)
  refine G.drawT 6 58 [pt b2 (row [i64 (s : Nat), .slice aa (cellsX X).length capa] 28), pt b3 (row [i64 (s : Nat), .slice ab (cellsX Y).length capb] 28)] (z :: pt b5 (row [i64 (s : Nat), .slice none 0 0] 28) :: pt b4 (row [i64 0, .slice none 0 0] 28) :: F) (by kernel_rfl) (keys_of rfl) (ImpS.sb (by ((refine Sb.c (Tk.t (Tk.t (Tk.t Tk.h))) ?_; refine Sb.c (Tk.t (Tk.t Tk.h)) ?_; refine Sb.c (Tk.t (Tk.t Tk.h)) ?_; refine Sb.c Tk.h ?_; refine Sb.c Tk.h ?_); (exact Sb.r)))) ?_
  ((apply GR.step rfl; focus (intro Z; refine GO.loadW rfl rfl rfl Tk.h rfl ?_; exact KQ.z)); refine GR.skip rfl ?_; (apply GR.step rfl; focus (intro Z; refine GO.loadW rfl rfl rfl (Tk.t Tk.h) rfl ?_; exact KQ.z)); refine GR.skip rfl ?_; refine GR.skip rfl ?_; refine GR.skip rfl ?_; refine GR.nil ?_)
  (repeat refine GT.skip rfl ?_)
  refine GT.step rfl ?_
  refine GO.call1 rfl rfl (f1) (Tks.c (Tk.t (Tk.t Tk.h)) Tks.n) ?_
  rintro _ _ ⟨bA, rfl, rfl⟩
  refine GO.nil ⟨rfl, _, numR bA (preN X) (s + 1) :: z :: pt b5 (row [i64 (s : Nat), .slice none 0 0] 28) :: pt b4 (row [i64 0, .slice none 0 0] 28) :: F, rfl, ImpS.sb (by ((refine Sb.c (Tk.t (Tk.t Tk.h)) ?_; refine Sb.c (Tk.t (Tk.t Tk.h)) ?_; refine Sb.c Tk.h ?_; refine Sb.c Tk.h ?_; refine Sb.c Tk.h ?_; refine Sb.c Tk.h ?_); (exact Sb.r))), ?_⟩
  (repeat refine GT.skip rfl ?_)
  refine GT.step rfl ?_
  refine GO.call1 rfl rfl (f2) (Tks.c (Tk.t (Tk.t (Tk.t Tk.h))) Tks.n) ?_
  rintro _ _ ⟨bB, rfl, rfl⟩
  refine GO.nil ⟨rfl, _, numR bB (preN Y) (s + 1) :: numR bA (preN X) (s + 1) :: z :: pt b5 (row [i64 (s : Nat), .slice none 0 0] 28) :: pt b4 (row [i64 0, .slice none 0 0] 28) :: F, rfl, ImpS.sb (by ((refine Sb.c (Tk.t (Tk.t Tk.h)) ?_; refine Sb.c (Tk.t (Tk.t Tk.h)) ?_; refine Sb.c Tk.h ?_; refine Sb.c (Tk.t Tk.h) ?_; refine Sb.c Tk.h ?_; refine Sb.c Tk.h ?_; refine Sb.c Tk.h ?_); (exact Sb.r))), ?_⟩
  (repeat refine GT.skip rfl ?_)
  refine GT.step rfl ?_
  refine GO.assign rfl rfl ?_
  refine GO.nil ⟨rfl, _, _, rfl, ImpS.refl, ?_⟩
  refine GT.step rfl ?_
  refine GO.assign rfl rfl ?_
  refine GO.nil ⟨rfl, _, _, rfl, ImpS.refl, ?_⟩
  refine GT.nil ?_
  (refine GO.nil ?_; refine kthen_n ?_; refine G.seq ?_; refine G.seq ?_; refine G.region ?_; refine GO.assign rfl rfl ?_; refine GO.nil ?_; refine kthen_n ?_; refine G.block ?_)
  refine G.ownNil (T := 70) (sz := 2) ?_
  have hl0 : lines Z 0 = [] := by unfold lines; rfl
  refine G.loop2 (fun (i : Nat) (v : Value) => [(2, ptrV b2), (3, ptrV b3), (4, ptrV b4), (5, ptrV b5), (6, .slice (some ⟨bA, 0, none⟩) (s + 1) (s + 1)), (7, .slice (some ⟨bB, 0, none⟩) (s + 1) (s + 1)), (8, i64 i)])
    (fun i v => pt b5 (row [i64 (s : Nat), v] 28) :: own 70 2 (lines Z i).length v (pairsV (lines Z i)) :: pt b2 (row [i64 (s : Nat), .slice aa (cellsX X).length capa] 28) :: pt b3 (row [i64 (s : Nat), .slice ab (cellsX Y).length capb] 28) :: pt b4 (row [i64 0, .slice none 0 0] 28) :: numR bA (preN X) (s + 1) :: numR bB (preN Y) (s + 1) :: z :: F) (fun i v => i ≤ s ∧ v.oneCell' = true) (fun i _ => s - i) 0 (.slice none 0 0) ⟨by omega, rfl⟩ ?_ ?_ ?_
  · (refine SubE.c rfl rfl ?_; refine SubE.c rfl rfl ?_; refine SubE.c rfl rfl ?_; refine SubE.c rfl rfl ?_; refine SubE.c rfl rfl ?_; refine SubE.c rfl rfl ?_; refine SubE.c rfl rfl ?_; exact SubE.n)
  · rw [hl0, show pairsV [] = [] by unfold pairsV cellsV; rfl]
    ((refine Sb.c (Tk.t (Tk.t (Tk.t (Tk.t (Tk.t (Tk.t Tk.h)))))) ?_; refine Sb.c Tk.h ?_; refine Sb.c Tk.h ?_; refine Sb.c Tk.h ?_; refine Sb.c (Tk.t (Tk.t (Tk.t Tk.h))) ?_; refine Sb.c (Tk.t Tk.h) ?_; refine Sb.c Tk.h ?_; refine Sb.c Tk.h ?_); (exact Sb.r))
  rintro i v ⟨hi, hone⟩
  (refine G.seq ?_; refine G.seq ?_; refine G.region ?_; refine GO.move rfl rfl ?_; refine GO.fieldAddr rfl rfl ?_; refine GO.load1 rfl rfl rfl (Tk.t (Tk.t Tk.h)) rfl ?_; refine GO.lti rfl rfl rfl ?_; refine GO.nil ?_; refine kthen_n ?_)
  refine G.condD rfl (fun hlt => ?_) (fun hge => ?_)
  · have his : i < s := by omega
    have hi1 : i + 1 < s + 1 := by omega
    have hi0 : i < s + 1 := by omega
    have hps := preN_succ X i
    have hpi := hpX i (by omega)
    have hpj := hpX (i + 1) (by omega)
    (refine G.skip ?_; refine kthen_n ?_; refine G.seq ?_; refine G.block ?_; refine G.seq ?_; refine G.seq ?_)
    refine G.draw 10 (by kernel_rfl) ?_
    ((apply GQ.step; focus (intro Z; refine GO.move rfl rfl ?_; exact KQ.z)); (apply GQ.step; focus (intro Z; refine GO.move rfl rfl ?_; exact KQ.z)); (apply GQ.step; focus (intro Z; refine GO.idxS rfl rfl rfl ⟨rfl, by omega⟩ ?_; exact KQ.z)); (apply GQ.step; focus (intro Z; refine GO.load1 rfl rfl rfl (Tk.t (Tk.t (Tk.t (Tk.t (Tk.t Tk.h))))) (rowV_get1 (by assumption)) ?_; exact KQ.z)); (apply GQ.step; focus (intro Z; refine GO.move rfl rfl ?_; exact KQ.z)); (apply GQ.step; focus (intro Z; refine GO.move rfl rfl ?_; exact KQ.z)); (apply GQ.step; focus (intro Z; refine GO.addi rfl rfl rfl (by omega) ?_; exact KQ.z)); (apply GQ.step; focus (intro Z; refine GO.idxS rfl rfl rfl ⟨rfl, by omega⟩ ?_; exact KQ.z)); (apply GQ.step; focus (intro Z; refine GO.load1 rfl rfl rfl (Tk.t (Tk.t (Tk.t (Tk.t (Tk.t Tk.h))))) (rowV_get1 (by assumption)) ?_; exact KQ.z)); (apply GQ.step; focus (intro Z; refine GO.eqi rfl rfl rfl ?_; exact KQ.z)); refine GQ.nil ?_)
    (refine GO.nil ?_; refine kthen_n ?_)
    refine G.condD rfl (fun heq => ?_) (fun hneq => ?_)
    · have heq2 : preN X i = preN X (i + 1) := Int.ofNat.inj heq
      have hno := hnone i (by omega)
      (refine G.exit ?_; refine kthen_x ?_; refine kblock_x ?_; refine kthen_n ?_; refine G.region ?_; refine GO.move rfl rfl ?_; refine GO.addi rfl rfl rfl (by omega) ?_; refine GO.assign rfl rfl ?_; refine GO.nil ?_; refine kthen_n ?_)
      refine ⟨i + 1, v, ⟨by omega, hone⟩, by omega, ?_, ?_⟩
      · (refine SubE.c rfl rfl ?_; refine SubE.c rfl rfl ?_; refine SubE.c rfl rfl ?_; refine SubE.c rfl rfl ?_; refine SubE.c rfl rfl ?_; refine SubE.c rfl rfl ?_; refine SubE.c rfl rfl ?_; exact SubE.n)
      · rw [hno]
        ((refine Sb.c Tk.h ?_; refine Sb.c Tk.h ?_; refine Sb.c Tk.h ?_; refine Sb.c Tk.h ?_; refine Sb.c Tk.h ?_; refine Sb.c Tk.h ?_; refine Sb.c Tk.h ?_; refine Sb.c Tk.h ?_); (exact Sb.r))
    · clear hneq
      (refine G.skip ?_; refine kthen_n ?_; refine G.seq ?_; refine G.region ?_; refine GO.fieldAddr rfl rfl ?_; refine GO.load1 rfl rfl rfl (Tk.t (Tk.t Tk.h)) rfl ?_)
      refine GO.make1 (n := s) rfl rfl rfl ⟨rfl, rfl⟩ ⟨by omega, by omega⟩ fun bm => ?_
      rw [show List.replicate s (Value.bool false) = rowV (fun x : Bool => Value.bool x) (fun _ => false) s from rowV_const (f := fun x : Bool => Value.bool x) (a := false), ← metA_zero X Y i]
      (refine GO.assign rfl rfl ?_; refine GO.nil ?_; refine kthen_n ?_; refine G.seq ?_; refine G.seq ?_; refine G.region ?_; refine GO.move rfl rfl ?_; refine GO.move rfl rfl ?_; refine GO.idxS rfl rfl rfl ⟨rfl, by omega⟩ ?_; refine GO.load1 rfl rfl rfl (Tk.t (Tk.t (Tk.t (Tk.t (Tk.t (Tk.t Tk.h)))))) (rowV_get1 (by assumption)) ?_; refine GO.assign rfl rfl ?_; refine GO.nil ?_; refine kthen_n ?_; refine G.block ?_)
      refine G.loop (fun m : Nat => [(2, ptrV b2), (3, ptrV b3), (4, ptrV b4), (5, ptrV b5), (6, .slice (some ⟨bA, 0, none⟩) (s + 1) (s + 1)), (7, .slice (some ⟨bB, 0, none⟩) (s + 1) (s + 1)), (8, i64 i), (9, .slice (some ⟨bm, 0, none⟩) s s), (10, i64 ((preN X i + m : Nat) : Int))])
        (fun m => onR bm (metA X Y i m) s :: pt b5 (row [i64 (s : Nat), v] 28) :: own 70 2 (lines Z i).length v (pairsV (lines Z i)) :: pt b2 (row [i64 (s : Nat), .slice aa (cellsX X).length capa] 28) :: pt b3 (row [i64 (s : Nat), .slice ab (cellsX Y).length capb] 28) :: pt b4 (row [i64 0, .slice none 0 0] 28) :: numR bA (preN X) (s + 1) :: numR bB (preN Y) (s + 1) :: z :: F) (fun m => m ≤ (rowX X i).length) (fun m => (rowX X i).length - m) 0 (by omega) ?_ ?_ ?_
      · (refine SubE.c rfl rfl ?_; refine SubE.c rfl rfl ?_; refine SubE.c rfl rfl ?_; refine SubE.c rfl rfl ?_; refine SubE.c rfl rfl ?_; refine SubE.c rfl rfl ?_; refine SubE.c rfl rfl ?_; refine SubE.c rfl rfl ?_; refine SubE.c rfl rfl ?_; exact SubE.n)
      · ((refine Sb.c Tk.h ?_; refine Sb.c Tk.h ?_; refine Sb.c Tk.h ?_; refine Sb.c Tk.h ?_; refine Sb.c Tk.h ?_; refine Sb.c Tk.h ?_; refine Sb.c Tk.h ?_; refine Sb.c Tk.h ?_; refine Sb.c Tk.h ?_); (exact Sb.r))
      · rintro m hm
        (refine G.seq ?_; refine G.seq ?_; refine G.region ?_; refine GO.move rfl rfl ?_; refine GO.move rfl rfl ?_; refine GO.move rfl rfl ?_; refine GO.addi rfl rfl rfl (by omega) ?_; refine GO.idxS rfl rfl rfl ⟨rfl, by omega⟩ ?_; refine GO.load1 rfl rfl rfl (Tk.t (Tk.t (Tk.t (Tk.t (Tk.t (Tk.t Tk.h)))))) (rowV_get1 (by assumption)) ?_; refine GO.lti rfl rfl rfl ?_; refine GO.nil ?_; refine kthen_n ?_)
        refine G.condD rfl (fun hlt2 => ?_) (fun hge => ?_)
        · have hlt3 : preN X i + m < preN X (i + 1) := Int.ofNat_lt.1 hlt2
          have hm2 : m < (rowX X i).length := by omega
          obtain ⟨c, hc⟩ : ∃ c, (rowX X i)[m]? = some c := ⟨_, List.getElem?_eq_getElem hm2⟩
          have hcell := line_get (X := X) (by omega) hc
          have hkl := (List.getElem?_eq_some_iff.1 hcell).1
          have hpc : (castL (cellsX X))[preN X i + m]? = some ((i : Int), (c : Int)) := by unfold castL; rw [List.getElem?_map, hcell]; rfl
          have hXic := cellsX_true (List.mem_of_getElem? hcell)
          have hcs := (hx _ _ hXic).2
          dsimp only at hcs
          obtain ⟨bo, oo, rfl, hr⟩ := hrda (by omega)
          have r2 : Rd z ⟨bo, oo + (preN X i + m) * 2 + 1, none⟩ (i64 ((c : Nat) : Int)) := hr _ _ (cellsV_get hpc).2
          have hc0 : c < s + 1 := by omega
          have hc1 : c + 1 < s + 1 := by omega
          have hpsY := preN_succ Y c
          have hpc0 := hpY c (by omega)
          have hpc1 := hpY (c + 1) (by omega)
          have hme := metB_end (X := X) (Y := Y) (m := m) hs.2 hy hc
          (refine G.skip ?_; refine kthen_n ?_; refine G.seq ?_; refine G.block ?_; refine G.seq ?_; refine G.region ?_; refine GO.move rfl rfl ?_; refine GO.fieldAddr rfl rfl ?_; refine GO.load1 rfl rfl rfl (Tk.t (Tk.t (Tk.t Tk.h))) rfl ?_; refine GO.move rfl rfl ?_; refine GO.idxS rfl rfl rfl ⟨rfl, by omega⟩ ?_; refine GO.fieldAddr rfl rfl ?_; refine GO.loadQ rfl rfl rfl (Tk.t (Tk.t (Tk.t (Tk.t (Tk.t (Tk.t (Tk.t (Tk.t Tk.h)))))))) (by assumption) ?_; refine GO.idxS rfl rfl rfl ⟨rfl, by omega⟩ ?_; refine GO.load1 rfl rfl rfl (Tk.t (Tk.t (Tk.t (Tk.t (Tk.t (Tk.t (Tk.t Tk.h))))))) (rowV_get1 (by assumption)) ?_; refine GO.assign rfl rfl ?_; refine GO.nil ?_; refine kthen_n ?_; refine G.block ?_)
          rw [← metB_zero (metA X Y i m) (rowX Y c)]
          refine G.loop (fun t : Nat => [(2, ptrV b2), (3, ptrV b3), (4, ptrV b4), (5, ptrV b5), (6, .slice (some ⟨bA, 0, none⟩) (s + 1) (s + 1)), (7, .slice (some ⟨bB, 0, none⟩) (s + 1) (s + 1)), (8, i64 i), (9, .slice (some ⟨bm, 0, none⟩) s s), (10, i64 ((preN X i + m : Nat) : Int)), (11, i64 ((preN Y c + t : Nat) : Int))])
            (fun t => onR bm (metB (metA X Y i m) (rowX Y c) t) s :: pt b5 (row [i64 (s : Nat), v] 28) :: own 70 2 (lines Z i).length v (pairsV (lines Z i)) :: pt b2 (row [i64 (s : Nat), .slice (some ⟨bo, oo, none⟩) (cellsX X).length capa] 28) :: pt b3 (row [i64 (s : Nat), .slice ab (cellsX Y).length capb] 28) :: pt b4 (row [i64 0, .slice none 0 0] 28) :: numR bA (preN X) (s + 1) :: numR bB (preN Y) (s + 1) :: z :: F) (fun t => t ≤ (rowX Y c).length) (fun t => (rowX Y c).length - t) 0 (by omega) ?_ ?_ ?_
          · (refine SubE.c rfl rfl ?_; refine SubE.c rfl rfl ?_; refine SubE.c rfl rfl ?_; refine SubE.c rfl rfl ?_; refine SubE.c rfl rfl ?_; refine SubE.c rfl rfl ?_; refine SubE.c rfl rfl ?_; refine SubE.c rfl rfl ?_; refine SubE.c rfl rfl ?_; refine SubE.c rfl rfl ?_; exact SubE.n)
          · ((refine Sb.c Tk.h ?_; refine Sb.c Tk.h ?_; refine Sb.c Tk.h ?_; refine Sb.c Tk.h ?_; refine Sb.c Tk.h ?_; refine Sb.c Tk.h ?_; refine Sb.c Tk.h ?_; refine Sb.c Tk.h ?_; refine Sb.c Tk.h ?_); (exact Sb.r))
          · rintro t ht
            (refine G.seq ?_; refine G.seq ?_; refine G.region ?_; refine GO.move rfl rfl ?_; refine GO.move rfl rfl ?_; refine GO.fieldAddr rfl rfl ?_; refine GO.load1 rfl rfl rfl (Tk.t (Tk.t (Tk.t Tk.h))) rfl ?_; refine GO.move rfl rfl ?_; refine GO.idxS rfl rfl rfl ⟨rfl, by omega⟩ ?_; refine GO.fieldAddr rfl rfl ?_; refine GO.loadQ rfl rfl rfl (Tk.t (Tk.t (Tk.t (Tk.t (Tk.t (Tk.t (Tk.t (Tk.t Tk.h)))))))) (by assumption) ?_; refine GO.addi rfl rfl rfl (by omega) ?_; refine GO.idxS rfl rfl rfl ⟨rfl, by omega⟩ ?_; refine GO.load1 rfl rfl rfl (Tk.t (Tk.t (Tk.t (Tk.t (Tk.t (Tk.t (Tk.t Tk.h))))))) (rowV_get1 (by assumption)) ?_; refine GO.lti rfl rfl rfl ?_; refine GO.nil ?_; refine kthen_n ?_)
            refine G.condD rfl (fun hlt4 => ?_) (fun hge => ?_)
            · have hlt5 : preN Y c + t < preN Y (c + 1) := Int.ofNat_lt.1 hlt4
              have ht2 : t < (rowX Y c).length := by omega
              obtain ⟨j, hj⟩ : ∃ j, (rowX Y c)[t]? = some j := ⟨_, List.getElem?_eq_getElem ht2⟩
              have hcellY := line_get (X := Y) (by omega) hj
              have hklY := (List.getElem?_eq_some_iff.1 hcellY).1
              have hpcY : (castL (cellsX Y))[preN Y c + t]? = some ((c : Int), (j : Int)) := by unfold castL; rw [List.getElem?_map, hcellY]; rfl
              have hjs := (hy _ _ (cellsX_true (List.mem_of_getElem? hcellY))).2
              dsimp only at hjs
              obtain ⟨bo2, oo2, rfl, hr2⟩ := hrdb (by omega)
              have r3 : Rd z ⟨bo2, oo2 + (preN Y c + t) * 2 + 1, none⟩ (i64 ((j : Nat) : Int)) := hr2 _ _ (cellsV_get hpcY).2
              have hsu := metB_succ (f := metA X Y i m) hj
              (refine G.skip ?_; refine kthen_n ?_; refine G.seq ?_; refine G.block ?_; refine G.region ?_; refine GO.move rfl rfl ?_; refine GO.fieldAddr rfl rfl ?_; refine GO.load1 rfl rfl rfl (Tk.t (Tk.t (Tk.t (Tk.t Tk.h)))) rfl ?_; refine GO.move rfl rfl ?_; refine GO.idxS rfl rfl rfl ⟨rfl, by omega⟩ ?_; refine GO.fieldAddr rfl rfl ?_; refine GO.loadQ rfl rfl rfl (Tk.t (Tk.t (Tk.t (Tk.t (Tk.t (Tk.t (Tk.t (Tk.t Tk.h)))))))) (by assumption) ?_; refine GO.idxS rfl rfl rfl ⟨rfl, by omega⟩ ?_)
              refine GO.store1 rfl rfl rfl Tk.h (by rw [rowV_len]; omega) ?_
              rw [rowV_set (f := fun x : Bool => Value.bool x), ← hsu]
              (refine GO.nil ?_; refine kblock_n ?_; refine kthen_n ?_; refine G.region ?_; refine GO.move rfl rfl ?_; refine GO.addi rfl rfl rfl (by omega) ?_; refine GO.assign rfl rfl ?_; refine GO.nil ?_; refine kthen_n ?_)
              refine ⟨t + 1, by omega, by omega, ?_, ?_⟩
              · (refine SubE.c rfl rfl ?_; refine SubE.c rfl rfl ?_; refine SubE.c rfl rfl ?_; refine SubE.c rfl rfl ?_; refine SubE.c rfl rfl ?_; refine SubE.c rfl rfl ?_; refine SubE.c rfl rfl ?_; refine SubE.c rfl rfl ?_; refine SubE.c rfl rfl ?_; refine SubE.c rfl rfl ?_; exact SubE.n)
              · ((refine Sb.c Tk.h ?_; refine Sb.c Tk.h ?_; refine Sb.c Tk.h ?_; refine Sb.c Tk.h ?_; refine Sb.c Tk.h ?_; refine Sb.c Tk.h ?_; refine Sb.c Tk.h ?_; refine Sb.c Tk.h ?_; refine Sb.c Tk.h ?_); (exact Sb.r))
            · have hge2 : ¬ preN Y c + t < preN Y (c + 1) := fun h => hge (Int.ofNat_lt.2 h)
              obtain rfl : t = (rowX Y c).length := by omega
              rw [hme]
              (refine G.exit ?_; refine kthen_x ?_; refine kthen_x ?_; refine kblock_x ?_; refine kblock_n ?_; refine kthen_n ?_; refine G.region ?_; refine GO.move rfl rfl ?_; refine GO.addi rfl rfl rfl (by omega) ?_; refine GO.assign rfl rfl ?_; refine GO.nil ?_; refine kthen_n ?_)
              refine ⟨m + 1, by omega, by omega, ?_, ?_⟩
              · (refine SubE.c rfl rfl ?_; refine SubE.c rfl rfl ?_; refine SubE.c rfl rfl ?_; refine SubE.c rfl rfl ?_; refine SubE.c rfl rfl ?_; refine SubE.c rfl rfl ?_; refine SubE.c rfl rfl ?_; refine SubE.c rfl rfl ?_; refine SubE.c rfl rfl ?_; exact SubE.n)
              · ((refine Sb.c Tk.h ?_; refine Sb.c Tk.h ?_; refine Sb.c Tk.h ?_; refine Sb.c Tk.h ?_; refine Sb.c Tk.h ?_; refine Sb.c Tk.h ?_; refine Sb.c Tk.h ?_; refine Sb.c Tk.h ?_; refine Sb.c Tk.h ?_); (exact Sb.r))
        · have hge2 : ¬ preN X i + m < preN X (i + 1) := fun h => hge (Int.ofNat_lt.2 h)
          obtain rfl : m = (rowX X i).length := by omega
          rw [hend i]
          clear hlt hge hge2
          have ht0 := toldX_zero Z i
          have hte := toldX_end hs.2 hzin i
          (refine G.exit ?_; refine kthen_x ?_; refine kthen_x ?_; refine kblock_x ?_; refine kthen_n ?_; refine G.seq ?_; refine G.region ?_; refine GO.assign rfl rfl ?_; refine GO.nil ?_; refine kthen_n ?_; refine G.block ?_)
          refine G.loop2 (fun (j : Nat) (v : Value) => [(2, ptrV b2), (3, ptrV b3), (4, ptrV b4), (5, ptrV b5), (6, .slice (some ⟨bA, 0, none⟩) (s + 1) (s + 1)), (7, .slice (some ⟨bB, 0, none⟩) (s + 1) (s + 1)), (8, i64 i), (9, .slice (some ⟨bm, 0, none⟩) s s), (12, i64 j)])
            (fun j v => pt b5 (row [i64 (s : Nat), v] 28) :: own 70 2 (toldX Z i j).length v (pairsV (toldX Z i j)) :: onR bm (Z i) s :: pt b2 (row [i64 (s : Nat), .slice aa (cellsX X).length capa] 28) :: pt b3 (row [i64 (s : Nat), .slice ab (cellsX Y).length capb] 28) :: pt b4 (row [i64 0, .slice none 0 0] 28) :: numR bA (preN X) (s + 1) :: numR bB (preN Y) (s + 1) :: z :: F) (fun j v => j ≤ s ∧ v.oneCell' = true) (fun j _ => s - j) 0 v ⟨by omega, hone⟩ ?_ ?_ ?_
          · (refine SubE.c rfl rfl ?_; refine SubE.c rfl rfl ?_; refine SubE.c rfl rfl ?_; refine SubE.c rfl rfl ?_; refine SubE.c rfl rfl ?_; refine SubE.c rfl rfl ?_; refine SubE.c rfl rfl ?_; refine SubE.c rfl rfl ?_; refine SubE.c rfl rfl ?_; exact SubE.n)
          · rw [ht0]
            ((refine Sb.c (Tk.t Tk.h) ?_; refine Sb.c (Tk.t Tk.h) ?_; refine Sb.c Tk.h ?_; refine Sb.c Tk.h ?_; refine Sb.c Tk.h ?_; refine Sb.c Tk.h ?_; refine Sb.c Tk.h ?_; refine Sb.c Tk.h ?_; refine Sb.c Tk.h ?_); (exact Sb.r))
          · rintro j v ⟨hj, hone⟩
            have hln := toldX_len Z (i := i) (j := j) (by omega) (by omega)
            (refine G.seq ?_; refine G.seq ?_; refine G.region ?_; refine GO.move rfl rfl ?_; refine GO.fieldAddr rfl rfl ?_; refine GO.load1 rfl rfl rfl (Tk.t (Tk.t (Tk.t Tk.h))) rfl ?_; refine GO.lti rfl rfl rfl ?_; refine GO.nil ?_; refine kthen_n ?_)
            refine G.condD rfl (fun hltj => ?_) (fun hgej => ?_)
            · have hjs : j < s := by omega
              cases hZ : Z i j with
              | false =>
                have hno := toldX_no hZ
                (refine G.skip ?_; refine kthen_n ?_; refine G.seq ?_; refine G.block ?_; refine G.seq ?_; refine G.region ?_; refine GO.move rfl rfl ?_; refine GO.move rfl rfl ?_; refine GO.idxS rfl rfl rfl ⟨rfl, by omega⟩ ?_; refine GO.load1 rfl rfl rfl (Tk.t (Tk.t Tk.h)) (rowV_get1 (by assumption)) ?_; refine GO.nil ?_; refine kthen_n ?_; refine G.condF rfl (by assumption) ?_; refine G.skip ?_; refine kblock_n ?_; refine kthen_n ?_; refine G.region ?_; refine GO.move rfl rfl ?_; refine GO.addi rfl rfl rfl (by omega) ?_; refine GO.assign rfl rfl ?_; refine GO.nil ?_; refine kthen_n ?_)
                refine ⟨j + 1, v, ⟨by omega, hone⟩, by omega, ?_, ?_⟩
                · (refine SubE.c rfl rfl ?_; refine SubE.c rfl rfl ?_; refine SubE.c rfl rfl ?_; refine SubE.c rfl rfl ?_; refine SubE.c rfl rfl ?_; refine SubE.c rfl rfl ?_; refine SubE.c rfl rfl ?_; refine SubE.c rfl rfl ?_; refine SubE.c rfl rfl ?_; exact SubE.n)
                · rw [hno]
                  ((refine Sb.c Tk.h ?_; refine Sb.c Tk.h ?_; refine Sb.c Tk.h ?_; refine Sb.c Tk.h ?_; refine Sb.c Tk.h ?_; refine Sb.c Tk.h ?_; refine Sb.c Tk.h ?_; refine Sb.c Tk.h ?_; refine Sb.c Tk.h ?_); (exact Sb.r))
              | true =>
                have hyes := toldX_yes hZ
                (refine G.skip ?_; refine kthen_n ?_; refine G.seq ?_; refine G.block ?_; refine G.seq ?_; refine G.region ?_; refine GO.move rfl rfl ?_; refine GO.move rfl rfl ?_; refine GO.idxS rfl rfl rfl ⟨rfl, by omega⟩ ?_; refine GO.load1 rfl rfl rfl (Tk.t (Tk.t Tk.h)) (rowV_get1 (by assumption)) ?_; refine GO.nil ?_; refine kthen_n ?_; refine G.condT rfl (by assumption) ?_; refine G.region ?_; refine GO.fieldAddr rfl rfl ?_; refine GO.load1 rfl rfl rfl Tk.h rfl ?_; refine GO.move rfl rfl ?_; refine GO.move rfl rfl ?_; refine GO.build2 rfl rfl rfl rfl ?_)
                refine GO.buildSlice1 rfl rfl (by simp; rfl) rfl ⟨by omega, by omega⟩ fun bs => ?_
                refine GO.appendOwn (m := 1) (news := [i64 (i : Nat), i64 (j : Nat)]) rfl rfl rfl (Tk.t (Tk.t Tk.h)) Tk.h rfl (by simp [Value.oneCell']) ⟨by decide, rfl⟩ Nat.one_pos (by unfold maxLen; omega) (by omega) fun v4 => ?_
                refine GO.ownOne Tk.h fun hone4 => ?_
                rw [pairsV_one, show (toldX Z i j).length + 1 = (toldX Z i j ++ [(i, j)]).length by rw [List.length_append]; rfl, ← hyes]
                (refine GO.fieldAddr rfl rfl ?_; refine GO.store1 rfl rfl (by assumption) (Tk.t (Tk.t Tk.h)) (by simp) ?_; refine GO.nil ?_; refine kblock_n ?_; refine kthen_n ?_; refine G.region ?_; refine GO.move rfl rfl ?_; refine GO.addi rfl rfl rfl (by omega) ?_; refine GO.assign rfl rfl ?_; refine GO.nil ?_; refine kthen_n ?_)
                refine ⟨j + 1, v4, ⟨by omega, hone4⟩, by omega, ?_, ?_⟩
                · (refine SubE.c rfl rfl ?_; refine SubE.c rfl rfl ?_; refine SubE.c rfl rfl ?_; refine SubE.c rfl rfl ?_; refine SubE.c rfl rfl ?_; refine SubE.c rfl rfl ?_; refine SubE.c rfl rfl ?_; refine SubE.c rfl rfl ?_; refine SubE.c rfl rfl ?_; exact SubE.n)
                · ((refine Sb.c Tk.h ?_; refine Sb.c Tk.h ?_; refine Sb.c (Tk.t Tk.h) ?_; refine Sb.c (Tk.t Tk.h) ?_; refine Sb.c (Tk.t Tk.h) ?_; refine Sb.c (Tk.t Tk.h) ?_; refine Sb.c (Tk.t Tk.h) ?_; refine Sb.c (Tk.t Tk.h) ?_; refine Sb.c (Tk.t Tk.h) ?_); (refine Sb.s ?_; exact Sb.r))
            · obtain rfl : j = s := by omega
              rw [hte]
              (refine G.exit ?_; refine kthen_x ?_; refine kthen_x ?_; refine kblock_x ?_; refine kblock_n ?_; refine kthen_n ?_; refine G.region ?_; refine GO.move rfl rfl ?_; refine GO.addi rfl rfl rfl (by omega) ?_; refine GO.assign rfl rfl ?_; refine GO.nil ?_; refine kthen_n ?_)
              refine ⟨i + 1, v, ⟨by omega, hone⟩, by omega, ?_, ?_⟩
              · (refine SubE.c rfl rfl ?_; refine SubE.c rfl rfl ?_; refine SubE.c rfl rfl ?_; refine SubE.c rfl rfl ?_; refine SubE.c rfl rfl ?_; refine SubE.c rfl rfl ?_; refine SubE.c rfl rfl ?_; exact SubE.n)
              · ((refine Sb.c Tk.h ?_; refine Sb.c Tk.h ?_; refine Sb.c (Tk.t Tk.h) ?_; refine Sb.c (Tk.t Tk.h) ?_; refine Sb.c (Tk.t Tk.h) ?_; refine Sb.c (Tk.t Tk.h) ?_; refine Sb.c (Tk.t Tk.h) ?_; refine Sb.c (Tk.t Tk.h) ?_); (refine Sb.s ?_; exact Sb.r))
  · obtain rfl : i = s := by omega
    (refine G.exit ?_; refine kthen_x ?_; refine kthen_x ?_; refine kblock_x ?_; refine kthen_n ?_; refine G.seq ?_; refine G.region ?_; refine GO.loadW rfl rfl rfl Tk.h rfl ?_; refine GO.storeW rfl rfl (Tk.t (Tk.t (Tk.t (Tk.t Tk.h)))) ⟨rfl, rfl⟩ (by simp [Value.oneCell']; assumption) ?_; refine GO.nil ?_; refine kthen_n ?_; refine G.ret ?_)
    refine KF2.r1 rfl (RV.cW (n := 2) rfl rfl (by (exact Tk.h)) rfl) ⟨v, rfl, rfl⟩ (ImpS.sb ?_)
    ((refine Sb.c (Tk.t (Tk.t Tk.h)) ?_; refine Sb.c (Tk.t (Tk.t (Tk.t (Tk.t (Tk.t (Tk.t Tk.h)))))) ?_); (refine Sb.s ?_; refine Sb.s ?_; refine Sb.s ?_; refine Sb.s ?_; refine Sb.s ?_; refine Sb.s ?_; exact Sb.r))
end Go.Proofs.YtpemblhbfafmpaaDoor
namespace Go.Proofs.YtpemblhbfafmpaaDoor
open Go
/-- The error that fit tells. -/
def errF (n : Nat) (f : Nat → Nat) : Int := if (List.range n).any (fun k => decide (f k = 0)) then 1 else if (List.range n).any (fun k => !decide (f k = f 0)) then 5 else 0
theorem fitR_err {n : Nat} {f : Nat → Nat} {r : Value} (h : fitR n f r) : r = i64 (errF n f) := by
  unfold errF
  rcases h with ⟨⟨k, hk, h0⟩, rfl⟩ | ⟨ha, ⟨k, hk, h0⟩, rfl⟩ | ⟨ha, rfl⟩
  · rw [if_pos (List.any_eq_true.2 ⟨k, List.mem_range.2 hk, decide_eq_true h0⟩)]
  · rw [if_neg, if_pos (List.any_eq_true.2 ⟨k, List.mem_range.2 hk, by rw [decide_eq_false h0]; rfl⟩)]
    intro h
    obtain ⟨j, hj, h⟩ := List.any_eq_true.1 h
    exact ha j (List.mem_range.1 hj) (of_decide_eq_true h)
  · rw [if_neg, if_neg]
    · intro h
      obtain ⟨j, hj, h⟩ := List.any_eq_true.1 h
      rw [decide_eq_true (ha j (List.mem_range.1 hj)).2] at h
      cases h
    · intro h
      obtain ⟨j, hj, h⟩ := List.any_eq_true.1 h
      exact (ha j (List.mem_range.1 hj)).1 (of_decide_eq_true h)
theorem errF_zero {n : Nat} {f : Nat → Nat} (h : errF n f = 0) : ∀ k, k < n → f k ≠ 0 ∧ f k = f 0 := by
  intro k hk
  unfold errF at h
  split at h
  · cases h
  · rename_i h1
    split at h
    · cases h
    · rename_i h2
      constructor
      · intro h0
        exact h1 (List.any_eq_true.2 ⟨k, List.mem_range.2 hk, decide_eq_true h0⟩)
      · refine Classical.byContradiction fun h0 => ?_
        exact h2 (List.any_eq_true.2 ⟨k, List.mem_range.2 hk, by rw [decide_eq_false h0]; rfl⟩)
theorem errF_cases (n : Nat) (f : Nat → Nat) : errF n f = 0 ∨ errF n f = 1 ∨ errF n f = 5 := by
  unfold errF
  split
  · exact .inr (.inl rfl)
  · split
    · exact .inr (.inr rfl)
    · exact .inl rfl
def sidesL (l : List OptM) (k : Nat) : Nat := sideO (l[k]?.getD none)
def errL (l : List OptM) : Int := errF l.length (sidesL l)
theorem sidesL_get {l : List OptM} {k : Nat} {o : OptM} (h : l[k]? = some o) : sidesL l k = sideO o := by unfold sidesL; rw [h]; rfl
/-- A matrix within its bounds. -/
def WfM (o : OptM) : Prop := ∀ s X, o = some (s, X) → (1 ≤ s ∧ s ≤ 1024) ∧ ∀ r c, X r c = true → r < s ∧ c < s
theorem WfM.wf {o : OptM} (h : WfM o) : WfO o := ⟨fun s X e => (h s X e).1⟩
theorem WfM.no : WfM none := fun _ _ h => by cases h
def mulO : OptM → OptM → OptM
  | some (s, X), some (t, Y) => if s = t then some (s, mulX X Y) else none
  | _, _ => none
theorem mulO_some {s t : Nat} {X Y : Nat → Nat → Bool} : mulO (some (s, X)) (some (t, Y)) = if s = t then some (s, mulX X Y) else none := rfl
theorem WfM.mul {a b : OptM} (ha : WfM a) (hb : WfM b) : WfM (mulO a b) := by
  intro s X h
  match a, b, ha, hb, h with
  | some (s', X'), some (t, Y), ha, hb, h =>
    rw [mulO_some] at h
    by_cases e : s' = t
    · subst e
      rw [if_pos rfl] at h
      injection h with h
      injection h with h1 h2
      subst h1 h2
      exact ⟨(ha _ _ rfl).1, mulX_in (ha _ _ rfl).2 (hb _ _ rfl).2⟩
    · rw [if_neg e] at h
      cases h
  | none, _, _, _, h => cases h
  | some _, none, _, _, h => cases h
theorem sideO_pos {o : OptM} (h : WfM o) : sideO o ≠ 0 ↔ o ≠ none := by
  match o, h with
  | none, _ => exact ⟨fun h => absurd rfl h, fun h => absurd rfl h⟩
  | some (s, X), h =>
    have := (h _ _ rfl).1
    exact ⟨fun _ h => (by cases h), fun _ h => by have h : s = 0 := h; omega⟩
/-- Both are there, of one side; or there is an error, and no product. -/
theorem errL_two {a b : OptM} (ha : WfM a) (hb : WfM b) : (errL [a, b] = 0 ∧ ∃ s X Y, a = some (s, X) ∧ b = some (s, Y) ∧ mulO a b = some (s, mulX X Y)) ∨ (errL [a, b] ≠ 0 ∧ mulO a b = none) := by
  by_cases h : errL [a, b] = 0
  · have h2 := errF_zero h
    have h0 := h2 0 (by show 0 < 2; omega)
    have h1 := h2 1 (by show 1 < 2; omega)
    have e0 : sidesL [a, b] 0 = sideO a := rfl
    have e1 : sidesL [a, b] 1 = sideO b := rfl
    rw [e0] at h0 h1
    rw [e1] at h1
    match a, b, ha, hb, h0, h1, h with
    | some (s, X), some (t, Y), ha, hb, h0, h1, h =>
      obtain rfl : t = s := h1.2
      exact .inl ⟨h, t, X, Y, rfl, rfl, if_pos rfl⟩
    | none, _, _, _, h0, _, _ => exact absurd rfl h0.1
    | some _, none, _, _, _, h1, _ => exact absurd rfl h1.1
  · refine .inr ⟨h, ?_⟩
    match a, b, ha, hb, h with
    | some (s, X), some (t, Y), ha, hb, h =>
      unfold mulO
      refine if_neg fun e => h ?_
      subst e
      have hs := (ha _ _ rfl).1
      unfold errL errF
      rw [if_neg, if_neg]
      · intro hh
        obtain ⟨j, hj, hh⟩ := List.any_eq_true.1 hh
        have hj := List.mem_range.1 hj
        match j, hj, hh with
        | 0, _, hh => simp at hh
        | 1, _, hh =>
          have e : sidesL [some (s, X), some (s, Y)] 1 = sidesL [some (s, X), some (s, Y)] 0 := rfl
          rw [e] at hh
          simp at hh
        | j + 2, hj, _ => exact absurd hj (by show ¬ j + 2 < 2; omega)
      · intro hh
        obtain ⟨j, hj, hh⟩ := List.any_eq_true.1 hh
        have hj := List.mem_range.1 hj
        have hh := of_decide_eq_true hh
        match j, hj, hh with
        | 0, _, hh => have hh : s = 0 := hh; omega
        | 1, _, hh => have hh : s = 0 := hh; omega
        | j + 2, hj, _ => exact absurd hj (by show ¬ j + 2 < 2; omega)
    | none, _, _, _, _ => rfl
    | some _, none, _, _, _ => rfl
/-- Matrices of the reference, one behind another. -/
def refsV (l : List (Nat × Value)) : List Value := l.flatMap fun p => [i64 (p.1 : Nat), p.2]
theorem refsV_len : ∀ l : List (Nat × Value), (refsV l).length = l.length * 2
  | [] => rfl
  | p :: l => by
    have ih := refsV_len l
    unfold refsV at ih ⊢
    rw [List.flatMap_cons, List.length_append, ih, List.length_cons]
    simp only [List.length_cons, List.length_nil]
    omega
theorem refsV_get : ∀ {l : List (Nat × Value)} {k : Nat} {p : Nat × Value}, l[k]? = some p → (refsV l)[k * 2]? = some (i64 (p.1 : Nat)) ∧ (refsV l)[k * 2 + 1]? = some p.2
  | [], _, _, h => by simp at h
  | t :: ss, 0, s, h => by simp at h; subst h; simp [refsV]
  | t :: ss, k + 1, s, h => by
    have := refsV_get (l := ss) (k := k) (by simpa using h)
    have e : refsV (t :: ss) = i64 (t.1 : Nat) :: t.2 :: refsV ss := rfl
    rw [e, show (k + 1) * 2 = k * 2 + 2 by omega]
    simpa using this
attribute [local irreducible] G GO GR GT Fn FnV pt init exs pur sat own ImpS refsV
set_option maxHeartbeats 4000000 in
theorem rfit_spec (q : HP) (v : Value) (l : List (Nat × Value)) (f : Nat → Nat) (hv : Sl q v l.length 2 (refsV l)) (hl : ∀ k p, l[k]? = some p → p.1 = f k) (hn : ¬ 9223372036854775806 < l.length) :
    Fn Tryd.prog 39 #[v] [q] (fun r Q => r = i64 (errF l.length f) ∧ Q = [q]) := by
  refine Fn.mono (R := fun r Q => fitR l.length f r ∧ Q = [q]) ?_ fun r Q h => ⟨fitR_err h.1, h.2⟩
  obtain ⟨a, cap, rfl, hlen, hrd⟩ := hv
  refine Fn.mk2 Tryd.func39 rfl rfl fun w0 F => ?_
  (refine G.seq ?_; refine G.region ?_; refine GO.assign rfl rfl ?_; refine GO.nil ?_; refine kthen_n ?_; refine G.seq ?_; refine G.seq ?_; refine G.region ?_; refine GO.assign rfl rfl ?_; refine GO.nil ?_; refine kthen_n ?_; refine G.block ?_)
  refine G.loop (fun k : Nat => [(0, .slice a l.length cap), (3, i64 k)]) (fun _ => q :: F) (fun k => k ≤ l.length ∧ ∀ j, j < k → f j ≠ 0) (fun k => l.length - k) 0 ⟨by omega, fun j hj => by omega⟩ ?_ ?_ ?_
  · (refine SubE.c rfl rfl ?_; refine SubE.c rfl rfl ?_; exact SubE.n)
  · ((refine Sb.c Tk.h ?_); (exact Sb.r))
  · rintro k ⟨hk, hall⟩
    (refine G.seq ?_; refine G.seq ?_; refine G.region ?_; refine GO.move rfl rfl ?_; refine GO.move rfl rfl ?_; refine GO.lenS rfl rfl ?_; refine GO.lti rfl rfl rfl ?_; refine GO.nil ?_; refine kthen_n ?_)
    refine G.condD rfl (fun hlt => ?_) (fun hge => ?_)
    · have hk2 : k < l.length := by omega
      obtain ⟨bo, oo, rfl, hr⟩ := hrd (by omega)
      obtain ⟨u, hu⟩ : ∃ u, l[k]? = some u := ⟨_, List.getElem?_eq_getElem hk2⟩
      have rd : Rd q ⟨bo, oo + k * 2, none⟩ (i64 (u.1 : Nat)) := hr _ _ (refsV_get hu).1
      have huf := hl k u hu
      (refine G.skip ?_; refine kthen_n ?_; refine G.seq ?_; refine G.block ?_; refine G.seq ?_; refine G.region ?_; refine GO.move rfl rfl ?_; refine GO.move rfl rfl ?_; refine GO.idxS rfl rfl rfl ⟨rfl, by omega⟩ ?_; refine GO.fieldAddr rfl rfl ?_; refine GO.loadQ rfl rfl rfl Tk.h (by assumption) ?_; refine GO.eqi rfl rfl rfl ?_; refine GO.nil ?_; refine kthen_n ?_)
      refine G.condD rfl (fun h0 => ?_) (fun h0 => ?_)
      · (refine G.seq ?_; refine G.region ?_; refine GO.assign rfl rfl ?_; refine GO.nil ?_; refine kthen_n ?_; refine G.ret ?_; refine kblock_r ?_; refine kthen_r ?_; refine kthen_r ?_; refine kblock_r ?_; refine kthen_r ?_)
        refine KF2.r1 rfl (RV.t rfl) ⟨.inl ⟨⟨k, hk2, by omega⟩, rfl⟩, rfl⟩ (ImpS.sb ?_)
        ((refine Sb.c Tk.h ?_); (exact Sb.r))
      · (refine G.skip ?_; refine kblock_n ?_; refine kthen_n ?_; refine G.region ?_; refine GO.move rfl rfl ?_; refine GO.addi rfl rfl rfl (by omega) ?_; refine GO.assign rfl rfl ?_; refine GO.nil ?_; refine kthen_n ?_)
        refine ⟨k + 1, ⟨by omega, fun j hj => ?_⟩, by omega, ?_, ?_⟩
        · rcases Nat.lt_or_ge j k with h | h
          · exact hall j h
          · obtain rfl : j = k := by omega
            omega
        · (refine SubE.c rfl rfl ?_; refine SubE.c rfl rfl ?_; exact SubE.n)
        · ((refine Sb.c Tk.h ?_); (exact Sb.r))
    · obtain rfl : k = l.length := by omega
      (refine G.exit ?_; refine kthen_x ?_; refine kthen_x ?_; refine kblock_x ?_; refine kthen_n ?_; refine G.seq ?_; refine G.seq ?_; refine G.region ?_; refine GO.assign rfl rfl ?_; refine GO.nil ?_; refine kthen_n ?_; refine G.block ?_)
      refine G.loop (fun k : Nat => [(0, .slice a l.length cap), (4, i64 k)]) (fun _ => q :: F) (fun k => k ≤ l.length ∧ ∀ j, j < k → f j = f 0) (fun k => l.length - k) 0 ⟨by omega, fun j hj => by omega⟩ ?_ ?_ ?_
      · (refine SubE.c rfl rfl ?_; refine SubE.c rfl rfl ?_; exact SubE.n)
      · ((refine Sb.c Tk.h ?_); (exact Sb.r))
      · rintro k ⟨hk, heq⟩
        (refine G.seq ?_; refine G.seq ?_; refine G.region ?_; refine GO.move rfl rfl ?_; refine GO.move rfl rfl ?_; refine GO.lenS rfl rfl ?_; refine GO.lti rfl rfl rfl ?_; refine GO.nil ?_; refine kthen_n ?_)
        refine G.condD rfl (fun hlt => ?_) (fun hge => ?_)
        · have hk2 : k < l.length := by omega
          obtain ⟨bo, oo, rfl, hr⟩ := hrd (by omega)
          obtain ⟨u, hu⟩ : ∃ u, l[k]? = some u := ⟨_, List.getElem?_eq_getElem hk2⟩
          obtain ⟨u0, hu0⟩ : ∃ u, l[0]? = some u := ⟨_, List.getElem?_eq_getElem (by omega)⟩
          have rd : Rd q ⟨bo, oo + k * 2, none⟩ (i64 (u.1 : Nat)) := hr _ _ (refsV_get hu).1
          have rd0 : Rd q ⟨bo, oo + 0 * 2, none⟩ (i64 (u0.1 : Nat)) := hr _ _ (refsV_get hu0).1
          have huf := hl k u hu
          have huf0 := hl 0 u0 hu0
          (refine G.skip ?_; refine kthen_n ?_; refine G.seq ?_; refine G.block ?_; refine G.seq ?_)
          refine G.draw 10 (by kernel_rfl) ?_
          ((apply GQ.step; focus (intro Z; refine GO.move rfl rfl ?_; exact KQ.z)); (apply GQ.step; focus (intro Z; refine GO.move rfl rfl ?_; exact KQ.z)); (apply GQ.step; focus (intro Z; refine GO.idxS rfl rfl rfl ⟨rfl, by omega⟩ ?_; exact KQ.z)); (apply GQ.step; focus (intro Z; refine GO.fieldAddr rfl rfl ?_; exact KQ.z)); (apply GQ.step; focus (intro Z; refine GO.loadQ rfl rfl rfl Tk.h (by assumption) ?_; exact KQ.z)); (apply GQ.step; focus (intro Z; refine GO.move rfl rfl ?_; exact KQ.z)))
          apply GQ.step; focus (intro Z; refine GO.idxS (j := 0) rfl rfl rfl ⟨rfl, by omega⟩ ?_; exact KQ.z)
          ((apply GQ.step; focus (intro Z; refine GO.fieldAddr rfl rfl ?_; exact KQ.z)); (apply GQ.step; focus (intro Z; refine GO.loadQ rfl rfl rfl Tk.h (by assumption) ?_; exact KQ.z)); (apply GQ.step; focus (intro Z; refine GO.nei rfl rfl rfl ?_; exact KQ.z)); refine GQ.nil ?_)
          (refine GO.nil ?_; refine kthen_n ?_)
          refine G.condD rfl (fun h0 => ?_) (fun h0 => ?_)
          · (refine G.seq ?_; refine G.region ?_; refine GO.assign rfl rfl ?_; refine GO.nil ?_; refine kthen_n ?_; refine G.ret ?_; refine kblock_r ?_; refine kthen_r ?_; refine kthen_r ?_; refine kblock_r ?_; refine kthen_r ?_)
            refine KF2.r1 rfl (RV.t rfl) ⟨.inr (.inl ⟨hall, ⟨k, hk2, by omega⟩, rfl⟩), rfl⟩ (ImpS.sb ?_)
            ((refine Sb.c Tk.h ?_); (exact Sb.r))
          · (refine G.skip ?_; refine kblock_n ?_; refine kthen_n ?_; refine G.region ?_; refine GO.move rfl rfl ?_; refine GO.addi rfl rfl rfl (by omega) ?_; refine GO.assign rfl rfl ?_; refine GO.nil ?_; refine kthen_n ?_)
            refine ⟨k + 1, ⟨by omega, fun j hj => ?_⟩, by omega, ?_, ?_⟩
            · rcases Nat.lt_or_ge j k with h | h
              · exact heq j h
              · obtain rfl : j = k := by omega
                omega
            · (refine SubE.c rfl rfl ?_; refine SubE.c rfl rfl ?_; exact SubE.n)
            · ((refine Sb.c Tk.h ?_); (exact Sb.r))
        · obtain rfl : k = l.length := by omega
          (refine G.exit ?_; refine kthen_x ?_; refine kthen_x ?_; refine kblock_x ?_; refine kthen_n ?_; refine G.seq ?_; refine G.region ?_; refine GO.assign rfl rfl ?_; refine GO.nil ?_; refine kthen_n ?_; refine G.ret ?_)
          refine KF2.r1 rfl (RV.t rfl) ⟨.inr (.inr ⟨fun j hj => ⟨hall j hj, heq j hj⟩, rfl⟩), rfl⟩ (ImpS.sb ?_)
          ((refine Sb.c Tk.h ?_); (exact Sb.r))
end Go.Proofs.YtpemblhbfafmpaaDoor
namespace Go.Proofs.YtpemblhbfafmpaaDoor
open Go
theorem cells_no : cellsX noX = [] := by
  refine List.eq_nil_of_length_eq_zero ?_
  rw [cellsX_len, cntX_no]
theorem RefO.nil (q : HP) : RefO q (refV 0 (.slice none 0 0)) none := ⟨.slice none 0 0, rfl, rfl, none, 0, by
  show Value.slice none 0 0 = .slice none (castL (cellsX noX)).length 0
  rw [castL_len, cells_no]; rfl, by
  show (castL (cellsX noX)).length ≤ 0
  rw [castL_len, cells_no]; exact Nat.le_refl _, fun h => by
  change 0 < (castL (cellsX noX)).length at h
  rw [castL_len, cells_no] at h
  exact absurd h (by show ¬ 0 < 0; omega)⟩
theorem own_slC {v : Value} {l : List Cl} {F : List HP} {w : World} (s : sat (own 70 2 l.length v (cellsV l) :: F) w) : SlC (own 70 2 l.length v (cellsV l)) v l := by
  obtain ⟨a, cap, e, h1, h2⟩ := own_sl s
  subst e
  refine ⟨a, cap, rfl, ?_, h2⟩
  rcases own_shape s with ⟨g1, g2, _, _⟩ | ⟨b, cap', rest', g1, _, g3, _, _, _⟩
  · omega
  · injection g1 with _ _ g1
    omega
theorem own_one {el : TypeId} {sz n : Nat} {v : Value} {xs : List Value} {l : List HP} {w : World} (s : sat (own el sz n v xs :: l) w) : v.oneCell' = true := by
  rcases own_shape s with ⟨rfl, _⟩ | ⟨_, _, _, rfl, _⟩ <;> rfl
theorem GO.ownSlC {P : Program} {c : Cx} {A : Array Oper} {os : List Oper} {K : Kont} {L : Env} {H F : List HP} {v : Value} {l : List Cl} (tk : Tk (own 70 2 l.length v (cellsV l)) H F) (k : SlC (own 70 2 l.length v (cellsV l)) v l → GO P c A os K L H) : GO P c A os K L H := by
  rintro a w ⟨h1, h2, ds, h3, h4, h5⟩
  exact k (own_slC (sat_perm (List.Perm.append_right _ tk) h5)) a w ⟨h1, h2, ds, h3, h4, h5⟩
/-- A matrix's cells of our own are such a matrix. -/
theorem RefO.own {v : Value} {s : Nat} {X : Nat → Nat → Bool} (h1 : v.oneCell' = true) (h2 : SlC (own 70 2 (castL (cellsX X)).length v (cellsV (castL (cellsX X)))) v (castL (cellsX X))) : RefO (Go.Proofs.YtpemblhbfafmpaaDoor.own 70 2 (castL (cellsX X)).length v (cellsV (castL (cellsX X)))) (refV s v) (some (s, X)) := ⟨v, rfl, h1, h2⟩
theorem RefO.slR {q : HP} {rv : Value} {o : OptM} (h : RefO q rv o) : ∃ v, rv = refV (sideO o) v ∧ v.oneCell' = true := let ⟨v, h1, h2, _⟩ := h; ⟨v, h1, h2⟩
theorem RefO.sup {q q' : HP} (hs : Sup q q') {rv : Value} {o : OptM} (h : RefO q rv o) : RefO q' rv o := let ⟨v, h1, h2, a, cap, h3, h4, h5⟩ := h
  ⟨v, h1, h2, a, cap, h3, h4, fun hp => let ⟨b, o, e, hr⟩ := h5 hp; ⟨b, o, e, fun j u hj => hs _ _ (hr j u hj)⟩⟩
theorem rowX_one {s i : Nat} (hs : s ≤ 1024) (hi : i < s) : rowX (oneX s) i = [i] := by
  refine strict_unique (R := fun a b : Nat => a < b) (fun _ _ h => by omega) (List.Pairwise.filter _ List.pairwise_lt_range) (List.pairwise_singleton _ _) fun x => ?_
  rw [List.mem_singleton]
  unfold rowX oneX
  rw [List.mem_filter, List.mem_range, decide_eq_true_iff]
  omega
theorem lines_one {s : Nat} (hs : s ≤ 1024) {i : Nat} (hi : i < s) : lines (oneX s) (i + 1) = lines (oneX s) i ++ [(i, i)] := by rw [lines_succ, rowX_one hs hi]; rfl
theorem one_in {s : Nat} : ∀ r c, oneX s r c = true → r < s ∧ c < s := fun r c h => by
  unfold oneX at h
  rw [decide_eq_true_iff] at h
  omega
def oneO (s : Int) : OptM := if refOk s then some (s.toNat, oneX s.toNat) else none
attribute [local irreducible] G GO GR GT Fn FnV pt init exs pur sat own ImpS mat posL allV orL restX cellsX cellsV refsV lines oneX
theorem times_ref (z : HP) (ra rb : Value) (s : Nat) (X Y : Nat → Nat → Bool) (hra : RefO z ra (some (s, X))) (hrb : RefO z rb (some (s, Y))) (hs : 1 ≤ s ∧ s ≤ 1024) (hx : ∀ r c, X r c = true → r < s ∧ c < s) (hy : ∀ r c, Y r c = true → r < s ∧ c < s) :
    Fn Tryd.prog 40 #[ra, rb] [z] (fun r Q => ∃ v p, r = refV s v ∧ v.oneCell' = true ∧ RefO p (refV s v) (some (s, mulX X Y)) ∧ Q = [p, z]) := by
  have h := times_spec z ra rb s X Y hra hrb hs hx hy
  unfold Fn at *
  intro F w hw
  refine (h F w hw).mono ?_
  rintro e w' ⟨v, Q, h1, h2, ⟨u, rfl, rfl⟩, d⟩
  rw [← castL_len (cellsX (mulX X Y))] at d
  have d1 := own_one d
  have d2 := own_slC d
  exact ⟨_, _, h1, h2, ⟨u, _, rfl, d1, RefO.own d1 d2, rfl⟩, d⟩
set_option maxHeartbeats 4000000 in
theorem rMul_spec (z : HP) (ra rb : Value) (a b : OptM) (hra : RefO z ra a) (hrb : RefO z rb b) (wa : WfM a) (wb : WfM b) :
    Fn Tryd.prog 14 #[ra, rb] [z] (fun r Q => ∃ rv p, r = .tuple #[rv, i64 (errL [a, b])] ∧ RefO p rv (mulO a b) ∧ Q = [p, z]) := by
  have two := errL_two wa wb
  have hfit := fun (b9 : Nat) (va vb : Value) => rfit_spec (pt b9 (row [i64 (sideO a : Nat), va, i64 (sideO b : Nat), vb] 28)) (.slice (some ⟨b9, 0, none⟩) 2 2) [(sideO a, va), (sideO b, vb)] (sidesL [a, b])
    ⟨_, _, rfl, refsV_len _, fun _ => ⟨b9, 0, rfl, fun j u hj => by rw [Nat.zero_add]; exact Rd.row (by unfold refsV at hj; exact hj)⟩⟩
    (fun k p hk => by
      match k, hk with
      | 0, hk => simp only [List.getElem?_cons_zero, Option.some.injEq] at hk; subst hk; rfl
      | 1, hk => simp only [List.getElem?_cons_succ, List.getElem?_cons_zero, Option.some.injEq] at hk; subst hk; rfl) (by show ¬ 9223372036854775806 < 2; omega)
  change ∀ (b9 : Nat) (va vb : Value), Fn _ _ _ _ (fun r Q => r = i64 (errL [a, b]) ∧ _) at hfit
  generalize errL [a, b] = e at two hfit ⊢
  rcases two with ⟨rfl, s, X, Y, rfl, rfl, hmo⟩ | ⟨he, hmo⟩
  · have ht := times_ref z ra rb s X Y hra hrb (wa _ _ rfl).1 (wa _ _ rfl).2 (wb _ _ rfl).2
    rw [hmo]
    obtain ⟨va, rfl, honea⟩ := hra.slR
    obtain ⟨vb, rfl, honeb⟩ := hrb.slR
    refine Fn.mk2 Tryd.func14 rfl rfl fun w0 F => ?_
    (refine G.seq ?_; refine G.region ?_; refine GO.box rfl rfl rfl fun b2 => ?_; refine GO.box rfl rfl rfl fun b3 => ?_; refine GO.alloc rfl fun b4 => ?_; refine GO.assign rfl rfl ?_; refine GO.nil ?_; refine kthen_n ?_; refine G.seq ?_; refine G.region ?_; refine GO.loadW rfl rfl rfl (Tk.t (Tk.t Tk.h)) rfl ?_; refine GO.loadW rfl rfl rfl (Tk.t Tk.h) rfl ?_)
    refine GO.buildSlice2 rfl rfl rfl (by simp [Value.cells]) rfl ⟨by omega, by omega⟩ fun b9 => ?_
    rw [show ∀ x y : Int, putParts [Value.agg #[i64 x, va], Value.agg #[i64 y, vb]] = [i64 x, va, i64 y, vb] from fun x y => by simp [putParts, Value.cells]]
    refine GO.call1 rfl rfl (hfit b9 va vb) (Tks.c Tk.h Tks.n) ?_
    rintro _ _ ⟨rfl, rfl⟩
    (refine GO.assign rfl rfl ?_; refine GO.nil ?_; refine kthen_n ?_; refine G.seq ?_; refine G.seq ?_; refine G.region ?_; refine GO.move rfl rfl ?_; refine GO.neF rfl rfl rfl rfl ?_; refine GO.nil ?_; refine kthen_n ?_; refine G.condF rfl rfl ?_; refine G.skip ?_; refine kthen_n ?_; refine G.seq ?_; refine G.region ?_; refine GO.loadW rfl rfl rfl (Tk.t (Tk.t (Tk.t Tk.h))) rfl ?_; refine GO.loadW rfl rfl rfl (Tk.t (Tk.t Tk.h)) rfl ?_)
    refine GO.call2 rfl rfl rfl (ht) (Tks.c (Tk.t (Tk.t (Tk.t (Tk.t Tk.h)))) Tks.n) ?_
    rintro _ _ ⟨v, p, rfl, hone, hrp, rfl⟩
    (refine GO.storeW rfl rfl (Tk.t (Tk.t (Tk.t Tk.h))) ⟨rfl, rfl⟩ (by simp [Value.oneCell']; assumption) ?_; refine GO.assign rfl rfl ?_; refine GO.nil ?_; refine kthen_n ?_; refine G.ret ?_)
    refine KF2.r2 rfl (RV.cW (n := 2) rfl rfl (by (exact Tk.h)) rfl) (RV.t rfl) ⟨_, p, rfl, hrp, rfl⟩ (ImpS.sb ?_)
    ((refine Sb.c (Tk.t Tk.h) ?_; refine Sb.c (Tk.t Tk.h) ?_); (refine Sb.s ?_; refine Sb.s ?_; refine Sb.s ?_; refine Sb.s ?_; exact Sb.r))
  · rw [hmo]
    obtain ⟨va, rfl, honea⟩ := hra.slR
    obtain ⟨vb, rfl, honeb⟩ := hrb.slR
    have hd : decide (e ≠ 0) = true := decide_eq_true he
    refine Fn.mk2 Tryd.func14 rfl rfl fun w0 F => ?_
    (refine G.seq ?_; refine G.region ?_; refine GO.box rfl rfl rfl fun b2 => ?_; refine GO.box rfl rfl rfl fun b3 => ?_; refine GO.alloc rfl fun b4 => ?_; refine GO.assign rfl rfl ?_; refine GO.nil ?_; refine kthen_n ?_; refine G.seq ?_; refine G.region ?_; refine GO.loadW rfl rfl rfl (Tk.t (Tk.t Tk.h)) rfl ?_; refine GO.loadW rfl rfl rfl (Tk.t Tk.h) rfl ?_)
    refine GO.buildSlice2 rfl rfl rfl (by simp [Value.cells]) rfl ⟨by omega, by omega⟩ fun b9 => ?_
    rw [show ∀ x y : Int, putParts [Value.agg #[i64 x, va], Value.agg #[i64 y, vb]] = [i64 x, va, i64 y, vb] from fun x y => by simp [putParts, Value.cells]]
    refine GO.call1 rfl rfl (hfit b9 va vb) (Tks.c Tk.h Tks.n) ?_
    rintro _ _ ⟨rfl, rfl⟩
    (refine GO.assign rfl rfl ?_; refine GO.nil ?_; refine kthen_n ?_; refine G.seq ?_; refine G.seq ?_; refine G.region ?_; refine GO.move rfl rfl ?_; refine GO.nei rfl rfl rfl ?_; refine GO.nil ?_; refine kthen_n ?_; refine G.condT rfl (by assumption) ?_; refine G.seq ?_; refine G.region ?_; refine GO.build0 rfl ?_; refine GO.move rfl rfl ?_; refine GO.storeW rfl rfl (Tk.t Tk.h) ⟨rfl, rfl⟩ (by simp [Value.oneCell']) ?_; refine GO.assign rfl rfl ?_; refine GO.nil ?_; refine kthen_n ?_; refine G.ret ?_; refine kthen_r ?_)
    refine KF2.r2 rfl (RV.cW (n := 2) rfl rfl (by (exact Tk.h)) rfl) (RV.t rfl) ⟨_, star [], rfl, RefO.nil _, rfl⟩ (ImpS.flat (k := []) (M := z :: F) (ImpS.sb ?_))
    ((refine Sb.c (Tk.t (Tk.t (Tk.t (Tk.t Tk.h)))) ?_); (refine Sb.s ?_; refine Sb.s ?_; refine Sb.s ?_; refine Sb.s ?_; exact Sb.r))
end Go.Proofs.YtpemblhbfafmpaaDoor
namespace Go.Proofs.YtpemblhbfafmpaaDoor
open Go
theorem HasO.ptr {R : HP} {v : Value} {o : OptM} (h : HasO R v o) : ∃ p, v = .pointer p := by
  rcases h.form with ⟨_, rfl⟩ | ⟨_, b, rfl⟩
  · exact ⟨_, rfl⟩
  · exact ⟨_, rfl⟩
/-- v is such a matrix, and the piece p is all of it. -/
def MatO (p : HP) (v : Value) (o : OptM) : Prop := (o = none ∧ v = .pointer none) ∨ ∃ s X b, o = some (s, X) ∧ v = ptrV b ∧ p = mat s X b
theorem MatO.has {p : HP} {v : Value} {o : OptM} (h : MatO p v o) : HasO p v o := by
  rcases h with ⟨rfl, rfl⟩ | ⟨s, X, b, rfl, rfl, rfl⟩
  · exact HasO.nil _
  · exact HasO.one _ _ _
theorem MatO.one (s b : Nat) (X : Nat → Nat → Bool) : MatO (mat s X b) (ptrV b) (some (s, X)) := .inr ⟨s, X, b, rfl, rfl, rfl⟩
theorem MatO.nil (p : HP) : MatO p (.pointer none) none := .inl ⟨rfl, rfl⟩
def gridO (s : Int) (l : List Cl) : OptM := if refOk s && inL s.toNat l then some (s.toNat, setL noX l) else none
theorem gridO_t {n : Nat} {l : List Cl} (h1 : 1 ≤ n) (h2 : n ≤ 1024) (h3 : inL n l = true) : gridO n l = some (n, setL noX l) := by
  unfold gridO refOk
  rw [Int.toNat_natCast, h3, if_pos]
  simp only [Bool.and_true, Bool.not_eq_true', Bool.or_eq_false_iff, decide_eq_false_iff_not]
  omega
theorem gridO_f {s : Int} {l : List Cl} (h : ¬ (1 ≤ s ∧ s ≤ 1024 ∧ inL s.toNat l = true)) : gridO s l = none := by
  unfold gridO
  refine if_neg fun hh => h ?_
  rw [Bool.and_eq_true] at hh
  have := refOk_t hh.1
  exact ⟨this.1, this.2, hh.2⟩
theorem gridO_wf (s : Int) (l : List Cl) : WfM (gridO s l) := by
  intro t X h
  by_cases hh : 1 ≤ s ∧ s ≤ 1024 ∧ inL s.toNat l = true
  · obtain ⟨n, rfl⟩ := Int.eq_ofNat_of_zero_le (show 0 ≤ s by omega)
    rw [Int.toNat_natCast] at hh
    rw [gridO_t (by omega) (by omega) hh.2.2] at h
    simp only [Option.some.injEq, Prod.mk.injEq] at h
    obtain ⟨rfl, rfl⟩ := h
    refine ⟨⟨by omega, by omega⟩, fun r c hrc => ?_⟩
    rcases (setL_mem r c l noX hh.2.2).1 hrc with h0 | h0
    · cases h0
    · have h1 := List.all_eq_true.1 hh.2.2 _ h0
      unfold inM at h1
      simp only [Bool.and_eq_true, decide_eq_true_eq] at h1
      omega
  · rw [gridO_f hh] at h
    cases h
def fewF (n : Nat) (f : Nat → Nat) : Bool := (List.range n).all fun k => decide (f k ≤ 400)
theorem fewF_f {n k : Nat} {f : Nat → Nat} (hk : k < n) (h : 400 < f k) : fewF n f = false := by
  unfold fewF
  rw [List.all_eq_false]
  exact ⟨k, List.mem_range.2 hk, by rw [decide_eq_false (by omega)]; simp⟩
theorem fewF_t {n : Nat} {f : Nat → Nat} (h : ∀ k, k < n → f k ≤ 400) : fewF n f = true := List.all_eq_true.2 fun k hk => decide_eq_true (h k (List.mem_range.1 hk))
theorem fewF_get {n : Nat} {f : Nat → Nat} (h : fewF n f = true) {k : Nat} (hk : k < n) : f k ≤ 400 := of_decide_eq_true (List.all_eq_true.1 h k (List.mem_range.2 hk))
/-- Grids, one behind another. -/
def gridsV (l : List (Int × Value)) : List Value := l.flatMap fun p => [i64 p.1, p.2]
theorem gridsV_len : ∀ l : List (Int × Value), (gridsV l).length = l.length * 2
  | [] => rfl
  | p :: l => by
    have ih := gridsV_len l
    unfold gridsV at ih ⊢
    rw [List.flatMap_cons, List.length_append, ih, List.length_cons]
    simp only [List.length_cons, List.length_nil]
    omega
theorem gridsV_get : ∀ {l : List (Int × Value)} {k : Nat} {p : Int × Value}, l[k]? = some p → (gridsV l)[k * 2]? = some (i64 p.1) ∧ (gridsV l)[k * 2 + 1]? = some p.2
  | [], _, _, h => by simp at h
  | t :: ss, 0, s, h => by simp at h; subst h; simp [gridsV]
  | t :: ss, k + 1, s, h => by
    have := gridsV_get (l := ss) (k := k) (by simpa using h)
    have e : gridsV (t :: ss) = i64 t.1 :: t.2 :: gridsV ss := rfl
    rw [e, show (k + 1) * 2 = k * 2 + 2 by omega]
    simpa using this
attribute [local irreducible] G GO GR GT Fn FnV pt init exs pur sat own ImpS mat posL allV orL restX cellsX cellsV refsV lines oneX gridsV
set_option maxRecDepth 40000 in
theorem few_specG (q : HP) (v : Value) (l : List (Int × Value)) (f : Nat → Nat) (hv : Sl q v l.length 2 (gridsV l)) (hl : ∀ (k : Nat) (p : Int × Value), l[k]? = some p → ∃ (a : Option Addr) (cap : Nat), p.2 = .slice a (f k) cap) (hn : ¬ 9223372036854775806 < l.length) :
    Fn Tryd.prog 10 #[v] [q] (fun r Q => r = .bool (fewF l.length f) ∧ Q = [q]) := by
  obtain ⟨a, cap, rfl, hlen, hrd⟩ := hv
  refine Fn.mk2 Tryd.func10 rfl rfl fun w0 F => ?_
  (refine G.seq ?_; refine G.region ?_; refine GO.assign rfl rfl ?_; refine GO.nil ?_; refine kthen_n ?_; refine G.seq ?_; refine G.seq ?_; refine G.region ?_; refine GO.assign rfl rfl ?_; refine GO.nil ?_; refine kthen_n ?_; refine G.block ?_)
  refine G.loop (fun k : Nat => [(0, .slice a l.length cap), (3, i64 k)]) (fun _ => q :: F) (fun k => k ≤ l.length ∧ ∀ j, j < k → f j ≤ 400) (fun k => l.length - k) 0 ⟨by omega, fun j hj => by omega⟩ ?_ ?_ ?_
  · (refine SubE.c rfl rfl ?_; refine SubE.c rfl rfl ?_; exact SubE.n)
  · ((refine Sb.c Tk.h ?_); (exact Sb.r))
  · rintro k ⟨hk, hall⟩
    (refine G.seq ?_; refine G.seq ?_; refine G.region ?_; refine GO.move rfl rfl ?_; refine GO.move rfl rfl ?_; refine GO.lenS rfl rfl ?_; refine GO.lti rfl rfl rfl ?_; refine GO.nil ?_; refine kthen_n ?_)
    refine G.condD rfl (fun hlt => ?_) (fun hge => ?_)
    · have hk2 : k < l.length := by omega
      obtain ⟨bo, oo, rfl, hr⟩ := hrd (by omega)
      obtain ⟨u, hu⟩ : ∃ u, l[k]? = some u := ⟨_, List.getElem?_eq_getElem hk2⟩
      obtain ⟨a2, cap2, hu2⟩ := hl k u hu
      have rd : Rd q ⟨bo, oo + k * 2 + 1, none⟩ (.slice a2 (f k) cap2) := by rw [← hu2]; exact hr _ _ (gridsV_get hu).2
      (refine G.skip ?_; refine kthen_n ?_; refine G.seq ?_; refine G.block ?_; refine G.seq ?_; refine G.region ?_; refine GO.move rfl rfl ?_; refine GO.move rfl rfl ?_; refine GO.idxS rfl rfl rfl ⟨rfl, by omega⟩ ?_; refine GO.fieldAddr rfl rfl ?_; refine GO.loadQ rfl rfl rfl Tk.h (by assumption) ?_; refine GO.lenS rfl rfl ?_; refine GO.gti rfl rfl rfl ?_; refine GO.nil ?_; refine kthen_n ?_)
      refine G.condD rfl (fun h0 => ?_) (fun h0 => ?_)
      · (refine G.seq ?_; refine G.region ?_; refine GO.assign rfl rfl ?_; refine GO.nil ?_; refine kthen_n ?_; refine G.ret ?_; refine kblock_r ?_; refine kthen_r ?_; refine kthen_r ?_; refine kblock_r ?_; refine kthen_r ?_)
        refine KF2.r1 rfl (RV.t rfl) ⟨by rw [fewF_f hk2 (by omega)], rfl⟩ (ImpS.sb ?_)
        ((refine Sb.c Tk.h ?_); (exact Sb.r))
      · (refine G.skip ?_; refine kblock_n ?_; refine kthen_n ?_; refine G.region ?_; refine GO.move rfl rfl ?_; refine GO.addi rfl rfl rfl (by omega) ?_; refine GO.assign rfl rfl ?_; refine GO.nil ?_; refine kthen_n ?_)
        refine ⟨k + 1, ⟨by omega, fun j hj => ?_⟩, by omega, ?_, ?_⟩
        · rcases Nat.lt_or_ge j k with h | h
          · exact hall j h
          · obtain rfl : j = k := by omega
            omega
        · (refine SubE.c rfl rfl ?_; refine SubE.c rfl rfl ?_; exact SubE.n)
        · ((refine Sb.c Tk.h ?_); (exact Sb.r))
    · obtain rfl : k = l.length := by omega
      (refine G.exit ?_; refine kthen_x ?_; refine kthen_x ?_; refine kblock_x ?_; refine kthen_n ?_; refine G.seq ?_; refine G.region ?_; refine GO.assign rfl rfl ?_; refine GO.nil ?_; refine kthen_n ?_; refine G.ret ?_)
      refine KF2.r1 rfl (RV.t rfl) ⟨by rw [fewF_t hall], rfl⟩ (ImpS.sb ?_)
      ((refine Sb.c Tk.h ?_); (exact Sb.r))
set_option maxHeartbeats 4000000 in
theorem pMulO (q R : HP) (hq : Tab q) (va vb : Value) (a b : OptM) (ha : HasO R va a) (hb : HasO R vb b) (wa : WfM a) (wb : WfM b) :
    Fn Tryd.prog 13 #[va, vb] [R, q] (fun r Q => ∃ v p, r = .tuple #[v, i64 (errL [a, b])] ∧ MatO p v (mulO a b) ∧ Q = [p, R, q]) := by
  have two := errL_two wa wb
  have hfit := fun b9 : Nat => (fit_spec R (pt b9 (row [va, vb] 27)) (.slice (some ⟨b9, 0, none⟩) 2 2) [va, vb] (sidesL [a, b]) (row_sl rfl) (fun k u hk => by
    match k, hk with
    | 0, hk =>
      obtain rfl : va = u := by simpa using hk
      exact ha.side
    | 1, hk =>
      obtain rfl : vb = u := by simpa using hk
      exact hb.side) (by show ¬ 9223372036854775806 < 2; omega)).mono fun r Q h => (⟨fitR_err h.1, h.2⟩ : r = i64 (errL [a, b]) ∧ Q = [R, pt b9 (row [va, vb] 27)])
  obtain ⟨pa, rfl⟩ := ha.ptr
  obtain ⟨pb, rfl⟩ := hb.ptr
  generalize errL [a, b] = e at two hfit ⊢
  rcases two with ⟨rfl, s, X, Y, rfl, rfl, hmo⟩ | ⟨he, hmo⟩
  · have hm := pmul_spec q R hq _ _ s X Y ha.hasM hb.hasM (wa _ _ rfl).1 (wa _ _ rfl).2 (wb _ _ rfl).2
    rw [hmo]
    refine Fn.mk2 Tryd.func13 rfl rfl fun w0 F => ?_
    (refine G.seq ?_; refine G.region ?_; refine GO.assign rfl rfl ?_; refine GO.assign rfl rfl ?_; refine GO.nil ?_; refine kthen_n ?_; refine G.seq ?_; refine G.region ?_; refine GO.move rfl rfl ?_; refine GO.move rfl rfl ?_)
    refine GO.buildSlice2 rfl rfl rfl (by simp [Value.cells]) rfl ⟨by omega, by omega⟩ fun b9 => ?_
    rw [show putParts [Value.pointer pa, .pointer pb] = [.pointer pa, .pointer pb] by simp [putParts, Value.cells]]
    refine GO.call1 rfl rfl (hfit b9) (Tks.c (Tk.t Tk.h) (Tks.c Tk.h Tks.n)) ?_
    rintro _ _ ⟨rfl, rfl⟩
    (refine GO.assign rfl rfl ?_; refine GO.nil ?_; refine kthen_n ?_; refine G.seq ?_; refine G.seq ?_; refine G.region ?_; refine GO.move rfl rfl ?_; refine GO.neF rfl rfl rfl rfl ?_; refine GO.nil ?_; refine kthen_n ?_; refine G.condF rfl rfl ?_; refine G.skip ?_; refine kthen_n ?_; refine G.seq ?_; refine G.region ?_; refine GO.move rfl rfl ?_; refine GO.move rfl rfl ?_)
    refine GO.call2 rfl rfl rfl (hm) (Tks.c Tk.h (Tks.c (Tk.t Tk.h) Tks.n)) ?_
    rintro _ _ ⟨b', rfl, rfl⟩
    (refine GO.assign rfl rfl ?_; refine GO.assign rfl rfl ?_; refine GO.nil ?_; refine kthen_n ?_; refine G.ret ?_)
    refine KF2.r2 rfl (RV.t rfl) (RV.t rfl) ⟨_, _, rfl, MatO.one _ _ _, rfl⟩ (ImpS.sb ?_)
    ((refine Sb.c Tk.h ?_; refine Sb.c Tk.h ?_; refine Sb.c Tk.h ?_); (refine Sb.s ?_; exact Sb.r))
  · rw [hmo]
    have hd : decide (e ≠ 0) = true := decide_eq_true he
    refine Fn.mk2 Tryd.func13 rfl rfl fun w0 F => ?_
    (refine G.seq ?_; refine G.region ?_; refine GO.assign rfl rfl ?_; refine GO.assign rfl rfl ?_; refine GO.nil ?_; refine kthen_n ?_; refine G.seq ?_; refine G.region ?_; refine GO.move rfl rfl ?_; refine GO.move rfl rfl ?_)
    refine GO.buildSlice2 rfl rfl rfl (by simp [Value.cells]) rfl ⟨by omega, by omega⟩ fun b9 => ?_
    rw [show putParts [Value.pointer pa, .pointer pb] = [.pointer pa, .pointer pb] by simp [putParts, Value.cells]]
    refine GO.call1 rfl rfl (hfit b9) (Tks.c (Tk.t Tk.h) (Tks.c Tk.h Tks.n)) ?_
    rintro _ _ ⟨rfl, rfl⟩
    (refine GO.assign rfl rfl ?_; refine GO.nil ?_; refine kthen_n ?_; refine G.seq ?_; refine G.seq ?_; refine G.region ?_; refine GO.move rfl rfl ?_; refine GO.nei rfl rfl rfl ?_; refine GO.nil ?_; refine kthen_n ?_; refine G.condT rfl (by assumption) ?_; refine G.seq ?_; refine G.region ?_; refine GO.move rfl rfl ?_; refine GO.assign rfl rfl ?_; refine GO.assign rfl rfl ?_; refine GO.nil ?_; refine kthen_n ?_; refine G.ret ?_; refine kthen_r ?_)
    refine KF2.r2 rfl (RV.t rfl) (RV.t rfl) ⟨_, star [], rfl, MatO.nil _, rfl⟩ (ImpS.flat (k := []) (M := R :: q :: F) (ImpS.sb ?_))
    ((refine Sb.c Tk.h ?_; refine Sb.c (Tk.t Tk.h) ?_); (refine Sb.s ?_; exact Sb.r))
end Go.Proofs.YtpemblhbfafmpaaDoor
namespace Go.Proofs.YtpemblhbfafmpaaDoor
open Go
theorem lines_noX : lines noX 0 = cellsX noX := by rw [cells_no]; unfold lines; rfl
attribute [local irreducible] G GO GR GT Fn FnV pt init exs pur sat own ImpS mat posL allV orL restX cellsX cellsV refsV lines oneX gridsV
set_option maxHeartbeats 4000000 in
theorem rOne_core (s : Int) (n : Nat) (X : Nat → Nat → Bool) (e : Int) (hn : n ≤ 1024) (hl : ∀ i, i < n → lines X (i + 1) = lines X i ++ [(i, i)]) (ha : lines X n = cellsX X)
    (hnew : (if refOk s then Value.tuple #[refV s (.slice none 0 0), i64 0] else .tuple #[refV 0 (.slice none 0 0), i64 2]) = .tuple #[refV n (.slice none 0 0), i64 e]) :
    Fn Tryd.prog 16 #[i64 s] [] (fun r Q => ∃ v, r = .tuple #[refV n v, i64 e] ∧ Q = [own 70 2 (cellsX X).length v (pairsV (cellsX X))]) := by
  rw [← ha]
  have hl0 : lines X 0 = [] := by unfold lines; rfl
  refine Fn.mk2 Tryd.func16 rfl rfl fun w0 F => ?_
  (refine G.seq ?_; refine G.region ?_; refine GO.alloc rfl fun b2 => ?_; refine GO.assign rfl rfl ?_; refine GO.nil ?_; refine kthen_n ?_; refine G.seq ?_; refine G.region ?_; refine GO.move rfl rfl ?_)
  refine GO.call1 rfl rfl (refNew_spec s) Tks.n ?_
  rintro _ _ ⟨rfl, rfl⟩
  rw [hnew]
  (refine GO.move rfl rfl ?_; refine GO.extract rfl rfl rfl ?_; refine GO.extract rfl rfl rfl ?_; refine GO.alloc rfl fun b4 => ?_; refine GO.storeW rfl rfl Tk.h ⟨rfl, rfl⟩ (by simp [Value.oneCell']) ?_; refine GO.assign rfl rfl ?_; refine GO.nil ?_; refine kthen_n ?_; refine G.seq ?_; refine G.seq ?_; refine G.region ?_; refine GO.assign rfl rfl ?_; refine GO.nil ?_; refine kthen_n ?_; refine G.block ?_)
  refine G.ownNil (T := 70) (sz := 2) ?_
  skip
  refine G.loop2 (fun (i : Nat) (v : Value) => [(2, ptrV b2), (4, ptrV b4), (5, i64 e), (6, i64 i)])
    (fun i v => pt b4 (row [i64 (n : Nat), v] 28) :: own 70 2 (lines X i).length v (pairsV (lines X i)) :: pt b2 (row [i64 0, .slice none 0 0] 28) :: F) (fun i v => i ≤ n ∧ v.oneCell' = true) (fun i _ => n - i) 0 (.slice none 0 0) ⟨by omega, rfl⟩ ?_ ?_ ?_
  · (refine SubE.c rfl rfl ?_; refine SubE.c rfl rfl ?_; refine SubE.c rfl rfl ?_; refine SubE.c rfl rfl ?_; exact SubE.n)
  · rw [hl0, show pairsV [] = [] by unfold pairsV cellsV; rfl]
    ((refine Sb.c (Tk.t Tk.h) ?_; refine Sb.c Tk.h ?_; refine Sb.c Tk.h ?_); (exact Sb.r))
  rintro i v ⟨hi, hone⟩
  have hln : ¬ 1048576 < (lines X i).length := by have := lines_len X (i := i) (by omega); have := cnt_max X; omega
  (refine G.seq ?_; refine G.seq ?_; refine G.region ?_; refine GO.move rfl rfl ?_; refine GO.fieldAddr rfl rfl ?_; refine GO.load1 rfl rfl rfl Tk.h rfl ?_; refine GO.lti rfl rfl rfl ?_; refine GO.nil ?_; refine kthen_n ?_)
  refine G.condD rfl (fun hlt => ?_) (fun hge => ?_)
  · have his : i < n := by omega
    have hyes := hl i his
    (refine G.skip ?_; refine kthen_n ?_; refine G.seq ?_; refine G.block ?_; refine G.region ?_; refine GO.fieldAddr rfl rfl ?_; refine GO.load1 rfl rfl rfl Tk.h rfl ?_; refine GO.move rfl rfl ?_; refine GO.move rfl rfl ?_; refine GO.build2 rfl rfl rfl rfl ?_)
    refine GO.buildSlice1 rfl rfl (by simp; rfl) rfl ⟨by omega, by omega⟩ fun bs => ?_
    refine GO.appendOwn (m := 1) (news := [i64 (i : Nat), i64 (i : Nat)]) rfl rfl rfl (Tk.t (Tk.t Tk.h)) Tk.h rfl (by simp [Value.oneCell']) ⟨by decide, rfl⟩ Nat.one_pos (by unfold maxLen; omega) (by omega) fun v4 => ?_
    refine GO.ownOne Tk.h fun hone4 => ?_
    rw [pairsV_one, show (lines X i).length + 1 = (lines X i ++ [(i, i)]).length by rw [List.length_append]; rfl, ← hyes]
    (refine GO.fieldAddr rfl rfl ?_; refine GO.store1 rfl rfl (by assumption) (Tk.t (Tk.t Tk.h)) (by simp) ?_; refine GO.nil ?_; refine kblock_n ?_; refine kthen_n ?_; refine G.region ?_; refine GO.move rfl rfl ?_; refine GO.addi rfl rfl rfl (by omega) ?_; refine GO.assign rfl rfl ?_; refine GO.nil ?_; refine kthen_n ?_)
    refine ⟨i + 1, v4, ⟨by omega, hone4⟩, by omega, ?_, ?_⟩
    · (refine SubE.c rfl rfl ?_; refine SubE.c rfl rfl ?_; refine SubE.c rfl rfl ?_; refine SubE.c rfl rfl ?_; exact SubE.n)
    · ((refine Sb.c Tk.h ?_; refine Sb.c Tk.h ?_; refine Sb.c (Tk.t Tk.h) ?_); (refine Sb.s ?_; exact Sb.r))
  · obtain rfl : i = n := by omega
    (refine G.exit ?_; refine kthen_x ?_; refine kthen_x ?_; refine kblock_x ?_; refine kthen_n ?_; refine G.seq ?_; refine G.region ?_; refine GO.loadW rfl rfl rfl Tk.h rfl ?_; refine GO.move rfl rfl ?_; refine GO.storeW rfl rfl (Tk.t (Tk.t Tk.h)) ⟨rfl, rfl⟩ (by simp [Value.oneCell']; assumption) ?_; refine GO.assign rfl rfl ?_; refine GO.nil ?_; refine kthen_n ?_; refine G.ret ?_)
    refine KF2.r2 rfl (RV.cW (n := 2) rfl rfl (by (exact Tk.h)) rfl) (RV.t rfl) ⟨v, rfl, rfl⟩ (ImpS.sb ?_)
    ((refine Sb.c (Tk.t (Tk.t Tk.h)) ?_); (refine Sb.s ?_; refine Sb.s ?_; exact Sb.r))
theorem refOk_nat {s : Int} (h : refOk s = true) : ∃ n : Nat, s = n ∧ 1 ≤ n ∧ n ≤ 1024 := by
  have h2 := refOk_t h
  obtain ⟨n, rfl⟩ := Int.eq_ofNat_of_zero_le (show 0 ≤ s by omega)
  exact ⟨n, rfl, by omega, by omega⟩
theorem oneO_t {n : Nat} (h : refOk n = true) : oneO n = some (n, oneX n) := by unfold oneO; rw [h, if_pos rfl, Int.toNat_natCast]
theorem oneO_f {s : Int} (h : refOk s = false) : oneO s = none := by unfold oneO; rw [h]; rfl
theorem oneO_wf (s : Int) : WfM (oneO s) := by
  cases h : refOk s with
  | false => rw [oneO_f h]; exact WfM.no
  | true =>
    obtain ⟨n, rfl, h1, h2⟩ := refOk_nat h
    rw [oneO_t h]
    intro t X e
    injection e with e
    injection e with e1 e2
    subst e1 e2
    exact ⟨⟨h1, h2⟩, one_in⟩
def oneE (s : Int) : Int := if refOk s then 0 else 2
theorem rOne_spec (s : Int) : Fn Tryd.prog 16 #[i64 s] [] (fun r Q => ∃ rv p, r = .tuple #[rv, i64 (oneE s)] ∧ RefO p rv (oneO s) ∧ Q = [p]) := by
  have key : ∀ (n : Nat) (o : OptM) (e : Int), sideO o = n → Fn Tryd.prog 16 #[i64 s] [] (fun r Q => ∃ v, r = .tuple #[refV n v, i64 e] ∧ Q = [own 70 2 (cellsX (setO o)).length v (pairsV (cellsX (setO o)))]) →
      Fn Tryd.prog 16 #[i64 s] [] (fun r Q => ∃ rv p, r = .tuple #[rv, i64 e] ∧ RefO p rv o ∧ Q = [p]) := by
    intro n o e ho h
    unfold Fn at *
    intro F w hw
    refine (h F w hw).mono ?_
    rintro e' w' ⟨v, Q, h1, h2, ⟨u, rfl, rfl⟩, d⟩
    rw [← castL_len (cellsX (setO o))] at d
    subst ho
    exact ⟨_, _, h1, h2, ⟨_, _, rfl, ⟨u, rfl, own_one d, own_slC d⟩, rfl⟩, d⟩
  unfold oneE
  cases h : refOk s with
  | false =>
    rw [oneO_f h]
    exact key 0 none 2 rfl (rOne_core s 0 noX 2 (by omega) (fun i hi => absurd hi (by omega)) lines_noX (by rw [h]; rfl))
  | true =>
    obtain ⟨n, rfl, h1, h2⟩ := refOk_nat h
    rw [oneO_t h]
    exact key n _ 0 rfl (rOne_core n n (oneX n) 0 h2 (fun i hi => lines_one h2 hi) (lines_all h2 one_in) (by rw [h]; rfl))
set_option maxHeartbeats 4000000 in
theorem pOneO (s : Int) : Fn Tryd.prog 15 #[i64 s] [] (fun r Q => ∃ v p, r = .tuple #[v, i64 (oneE s)] ∧ MatO p v (oneO s) ∧ Q = [p]) := by
  unfold oneE
  cases h : refOk s with
  | false =>
    rw [oneO_f h]
    have hno := refOk_f h
    refine Fn.mk2 Tryd.func15 rfl rfl fun w0 F => ?_
    (refine G.seq ?_; refine G.region ?_; refine GO.assign rfl rfl ?_; refine GO.assign rfl rfl ?_; refine GO.nil ?_; refine kthen_n ?_; refine G.seq ?_; refine G.region ?_; refine GO.move rfl rfl ?_)
    refine GO.call1 rfl rfl (new_spec s) Tks.n ?_
    rintro _ _ (⟨n, b, hn, hn1, hn2, rfl, rfl⟩ | ⟨_, rfl, rfl⟩)
    · exact absurd ⟨by omega, by omega⟩ hno
    · (refine GO.move rfl rfl ?_; refine GO.extract rfl rfl rfl ?_; refine GO.extract rfl rfl rfl ?_; refine GO.assign rfl rfl ?_; refine GO.assign rfl rfl ?_; refine GO.nil ?_; refine kthen_n ?_; refine G.seq ?_; refine G.seq ?_; refine G.region ?_; refine GO.move rfl rfl ?_; refine GO.nei rfl rfl rfl ?_; refine GO.nil ?_; refine kthen_n ?_; refine G.condT rfl rfl ?_; refine G.seq ?_; refine G.region ?_; refine GO.move rfl rfl ?_; refine GO.assign rfl rfl ?_; refine GO.assign rfl rfl ?_; refine GO.nil ?_; refine kthen_n ?_; refine G.ret ?_; refine kthen_r ?_)
      refine KF2.r2 rfl (RV.t rfl) (RV.t rfl) ⟨_, star [], rfl, MatO.nil _, rfl⟩ (ImpS.flat (k := []) (M := F) (ImpS.sb ?_))
      (skip; (exact Sb.r))
  | true =>
    obtain ⟨n, rfl, h1, h2⟩ := refOk_nat h
    rw [oneO_t h]
    exact (pone_spec n ⟨h1, h2⟩).mono fun r Q hq => by
      obtain ⟨b', rfl, rfl⟩ := hq
      exact ⟨_, _, rfl, MatO.one _ _ _, rfl⟩
def gridE (s : Int) (l : List Cl) : Int := if refOk s && inL s.toNat l then 0 else 2
theorem rOf_ref (s : Int) (q : HP) (u : Value) (l : List Cl) (hu : SlC q u l) (hb : l.length * 16 ≤ 140737488355328) :
    Fn Tryd.prog 36 #[i64 s, u] [q] (fun r Q => ∃ v p e, r = .tuple #[refV (sideO (gridO s l)) v, i64 e] ∧ v.oneCell' = true ∧ RefO p (refV (sideO (gridO s l)) v) (gridO s l) ∧ Q = [p, q]) := by
  have h := refOf_spec s q u l hu hb
  unfold Fn at *
  intro F w hw
  refine (h F w hw).mono ?_
  rintro e w' ⟨v, Q, h1, h2, ⟨n, rfl, hn1, hn2, hin, v2, rfl, rfl⟩ | ⟨hno, rfl, rfl⟩, d⟩
  · rw [gridO_t hn1 hn2 hin]
    rw [srt_cells hn2 hin] at d
    have d1 := own_one d
    exact ⟨_, _, h1, h2, ⟨v2, _, 0, rfl, d1, RefO.own d1 (own_slC d), rfl⟩, d⟩
  · rw [gridO_f hno]
    exact ⟨_, _, h1, h2, ⟨.slice none 0 0, star [], 2, rfl, rfl, RefO.nil _, rfl⟩, sat_flat.2 d⟩
theorem mof_ref (s : Int) (q : HP) (u : Value) (l : List Cl) (hu : SlC q u l) (hb : l.length * 16 ≤ 140737488355328) :
    Fn Tryd.prog 34 #[i64 s, u] [q] (fun r Q => ∃ v p e, r = .tuple #[v, i64 e] ∧ MatO p v (gridO s l) ∧ Q = [p, q]) := by
  have h := mof_spec s q u l hu.slR (by omega)
  unfold Fn at *
  intro F w hw
  refine (h F w hw).mono ?_
  rintro e w' ⟨v, Q, h1, h2, ⟨n, b, rfl, hn1, hn2, hin, rfl, rfl⟩ | ⟨hno, rfl, rfl⟩, d⟩
  · rw [gridO_t hn1 hn2 hin]
    exact ⟨_, _, h1, h2, ⟨_, _, 0, rfl, MatO.one _ _ _, rfl⟩, d⟩
  · rw [gridO_f hno]
    exact ⟨_, _, h1, h2, ⟨.pointer none, star [], 2, rfl, MatO.nil _, rfl⟩, sat_flat.2 d⟩
set_option maxHeartbeats 4000000 in
theorem made_specG (s : Int) (q : HP) (u : Value) (l : List Cl) (hu : SlC q u l) (hb : l.length * 16 ≤ 140737488355328) :
    Fn Tryd.prog 12 #[.agg #[i64 s, u]] [q] (fun r Q => ∃ v x p z, r = .tuple #[v, refV (sideO (gridO s l)) x] ∧ x.oneCell' = true ∧ MatO p v (gridO s l) ∧ RefO z (refV (sideO (gridO s l)) x) (gridO s l) ∧ Q = [p, z, q]) := by
  have h1 := mof_ref s q u l hu hb
  have h2 := rOf_ref s q u l hu hb
  have hu1 : u.oneCell' = true := by obtain ⟨a, cap, rfl, _⟩ := hu; rfl
  refine Fn.mk2 Tryd.func12 rfl rfl fun w0 F => ?_
  (refine G.seq ?_; refine G.region ?_; refine GO.box rfl rfl rfl fun b1 => ?_; refine GO.assign rfl rfl ?_; refine GO.alloc rfl fun b3 => ?_; refine GO.nil ?_; refine kthen_n ?_; refine G.seq ?_; refine G.region ?_; refine GO.fieldAddr rfl rfl ?_; refine GO.load1 rfl rfl rfl (Tk.t Tk.h) rfl ?_; refine GO.fieldAddr rfl rfl ?_; refine GO.load1 rfl rfl rfl (Tk.t Tk.h) rfl ?_)
  refine GO.call2 rfl rfl rfl (h1) (Tks.c (Tk.t (Tk.t Tk.h)) Tks.n) ?_
  rintro _ _ ⟨v, p, e, rfl, hp, rfl⟩
  (refine GO.move rfl rfl ?_; refine GO.extract rfl rfl rfl ?_; refine GO.extract rfl rfl rfl ?_; refine GO.assign rfl rfl ?_; refine GO.assign rfl rfl ?_; refine GO.nil ?_; refine kthen_n ?_; refine G.seq ?_; refine G.region ?_; refine GO.fieldAddr rfl rfl ?_; refine GO.load1 rfl rfl rfl (Tk.t (Tk.t (Tk.t Tk.h))) rfl ?_; refine GO.fieldAddr rfl rfl ?_; refine GO.load1 rfl rfl rfl (Tk.t (Tk.t (Tk.t Tk.h))) rfl ?_)
  refine GO.call2 rfl rfl rfl (h2) (Tks.c (Tk.t Tk.h) Tks.n) ?_
  rintro _ _ ⟨x, z, e2, rfl, hx1, hz, rfl⟩
  (refine GO.move rfl rfl ?_; refine GO.extract rfl rfl rfl ?_; refine GO.extract rfl rfl rfl ?_; refine GO.alloc rfl fun b6 => ?_; refine GO.storeW rfl rfl Tk.h ⟨rfl, rfl⟩ (by simp [Value.oneCell']; assumption) ?_; refine GO.assign rfl rfl ?_; refine GO.nil ?_; refine kthen_n ?_; refine G.seq ?_)
  refine G.draw 3 (by kernel_rfl) ?_
  ((apply GQ.step; focus (intro Z; refine GO.move rfl rfl ?_; exact KQ.z)); (apply GQ.step; focus (intro Z; refine GO.loadW rfl rfl rfl Tk.h rfl ?_; exact KQ.z)); (apply GQ.step; focus (intro Z; refine GO.assign rfl rfl ?_; exact KQ.z)); refine GQ.nil ?_)
  (refine GO.storeW rfl rfl (Tk.t (Tk.t (Tk.t (Tk.t Tk.h)))) ⟨rfl, rfl⟩ (by simp [Value.oneCell']; assumption) ?_; refine GO.nil ?_; refine kthen_n ?_; refine G.ret ?_)
  refine KF2.r2 rfl (RV.t rfl) (RV.cW (n := 2) rfl rfl (by (exact Tk.h)) rfl) ⟨v, x, p, z, rfl, hx1, hp, hz, rfl⟩ (ImpS.sb ?_)
  ((refine Sb.c (Tk.t (Tk.t (Tk.t (Tk.t Tk.h)))) ?_; refine Sb.c (Tk.t (Tk.t Tk.h)) ?_; refine Sb.c (Tk.t (Tk.t Tk.h)) ?_); (refine Sb.s ?_; refine Sb.s ?_; refine Sb.s ?_; exact Sb.r))
end Go.Proofs.YtpemblhbfafmpaaDoor
namespace Go.Proofs.YtpemblhbfafmpaaDoor
open Go
/-- A side and cells, as they are asked for. -/
def GridR (q : HP) (v : Value) (g : Int × List Cl) : Prop := ∃ u, v = .agg #[i64 g.1, u] ∧ SlC q u g.2
theorem GO.keep {P : Program} {c : Cx} {A : Array Oper} {os : List Oper} {K : Kont} {L : Env} {H H' : List HP} (h : ImpS H H') (k : GO P c A os K L H') : GO P c A os K L H := GO.imp (fun l w s => h l w s) k
theorem G.keep {P : Program} {c : Cx} {x : Code} {K : Kont} {L : Env} {H H' : List HP} (h : ImpS H H') (k : G P c x K L H') : G P c x K L H := G.imp (fun l w s => h l w s) k
theorem cells_fit (o : OptM) : ¬ 1048576 < (cellsX (setO o)).length := by rw [cellsX_len]; have := cnt_max (setO o); omega
end Go.Proofs.YtpemblhbfafmpaaDoor
namespace Go.Proofs.YtpemblhbfafmpaaDoor
open Go
theorem mrg_ge : ∀ (n : Nat) (xs ys : List Cl), xs.length + ys.length ≤ n → xs.length ≤ (mrg xs ys).length ∧ ys.length ≤ (mrg xs ys).length
  | _, [], ys, _ => by rw [mrg_nil']; exact ⟨Nat.zero_le _, Nat.le_refl _⟩
  | _, x :: xs, [], _ => by rw [mrg_nil]; exact ⟨Nat.le_refl _, Nat.zero_le _⟩
  | 0, x :: xs, y :: ys, h => by simp at h
  | n + 1, x :: xs, y :: ys, h => by
    simp only [List.length_cons] at h
    cases hl : ltC x y with
    | true =>
      have ih := mrg_ge n xs (y :: ys) (by simp only [List.length_cons]; omega)
      rw [mrg_lt hl]
      simp only [List.length_cons] at ih ⊢
      omega
    | false =>
      by_cases e : x = y
      · have ih := mrg_ge n xs ys (by omega)
        rw [mrg_eq hl e]
        simp only [List.length_cons]
        omega
      · have ih := mrg_ge n (x :: xs) ys (by simp only [List.length_cons]; omega)
        rw [mrg_gt hl e]
        simp only [List.length_cons] at ih ⊢
        omega
theorem mrgM_len : ∀ (n : Nat) (xs ys : List Cl), xs.length + ys.length ≤ n → mrgM xs ys = decide (xs.length < (mrg xs ys).length)
  | _, [], [], _ => by rw [mrgM_nil, mrg_nil]; rfl
  | _, [], y :: ys, _ => by rw [mrgM_nil', mrg_nil']; simp
  | _, x :: xs, [], _ => by rw [mrgM_nil, mrg_nil, decide_eq_false (by omega)]
  | 0, x :: xs, y :: ys, h => by simp at h
  | n + 1, x :: xs, y :: ys, h => by
    simp only [List.length_cons] at h
    cases hl : ltC x y with
    | true =>
      have ih := mrgM_len n xs (y :: ys) (by simp only [List.length_cons]; omega)
      rw [mrg_lt hl, mrgM_lt hl, ih, decide_eq_decide]
      simp only [List.length_cons]
      omega
    | false =>
      by_cases e : x = y
      · have ih := mrgM_len n xs ys (by omega)
        rw [mrg_eq hl e, mrgM_eq hl e, ih, decide_eq_decide]
        simp only [List.length_cons]
        omega
      · have ih := mrg_ge n (x :: xs) ys (by simp only [List.length_cons]; omega)
        rw [mrg_gt hl e, mrgM_gt hl e]
        simp only [List.length_cons] at ih ⊢
        rw [decide_eq_true (by omega)]
theorem uni_in {s : Nat} {X Y : Nat → Nat → Bool} (hx : ∀ r c, X r c = true → r < s ∧ c < s) (hy : ∀ r c, Y r c = true → r < s ∧ c < s) : ∀ r c, uniX X Y r c = true → r < s ∧ c < s := fun r c h => by
  unfold uniX at h
  rcases Bool.or_eq_true _ _ ▸ h with h | h
  · exact hx r c h
  · exact hy r c h
theorem mrg_uni {s : Nat} {X Y : Nat → Nat → Bool} (hs : s ≤ 1024) (hx : ∀ r c, X r c = true → r < s ∧ c < s) (hy : ∀ r c, Y r c = true → r < s ∧ c < s) : mrg (castL (cellsX X)) (castL (cellsX Y)) = castL (cellsX (uniX X Y)) := by
  refine up_unique (mrg_up _ _ _ (Nat.le_refl _) (cells_up X) (cells_up Y)) (cells_up _) fun p => ?_
  rw [mrg_mem _ _ _ (Nat.le_refl _), cast_mem hs hx, cast_mem hs hy, cast_mem hs (uni_in hx hy)]
  unfold uniX
  rw [Bool.or_eq_true]
  constructor
  · rintro (⟨h1, h2, h3⟩ | ⟨h1, h2, h3⟩)
    · exact ⟨h1, h2, .inl h3⟩
    · exact ⟨h1, h2, .inr h3⟩
  · rintro ⟨h1, h2, h3 | h3⟩
    · exact .inl ⟨h1, h2, h3⟩
    · exact .inr ⟨h1, h2, h3⟩
theorem mrgM_uni {s : Nat} {X Y : Nat → Nat → Bool} (hs : s ≤ 1024) (hx : ∀ r c, X r c = true → r < s ∧ c < s) (hy : ∀ r c, Y r c = true → r < s ∧ c < s) : mrgM (castL (cellsX X)) (castL (cellsX Y)) = decide (cntX X < cntX (uniX X Y)) := by
  rw [mrgM_len _ _ _ (Nat.le_refl _), mrg_uni hs hx hy, castL_len, castL_len, cellsX_len, cellsX_len]
def joinO : OptM → OptM → OptM
  | some (s, X), some (t, Y) => if s = t then some (s, uniX X Y) else some (s, X)
  | o, _ => o
def joinB : OptM → OptM → Bool
  | some (s, X), some (t, Y) => decide (s = t) && decide (cntX X < cntX (uniX X Y))
  | _, _ => false
theorem joinO_same (s : Nat) (X Y : Nat → Nat → Bool) : joinO (some (s, X)) (some (s, Y)) = some (s, uniX X Y) := if_pos rfl
theorem joinB_same (s : Nat) (X Y : Nat → Nat → Bool) : joinB (some (s, X)) (some (s, Y)) = decide (cntX X < cntX (uniX X Y)) := by
  show (decide (s = s) && _) = _
  rw [decide_eq_true rfl, Bool.true_and]
theorem GO.ownV {P : Program} {c : Cx} {A : Array Oper} {os : List Oper} {K : Kont} {L : Env} {H F : List HP} {el : TypeId} {sz n : Nat} {v : Value} {xs : List Value} (tk : Tk (own el sz n v xs) H F) (k : ∀ (a : Option Addr) (cap : Nat), v = .slice a n cap → GO P c A os K L H) : GO P c A os K L H := by
  rintro a w ⟨h1, h2, ds, h3, h4, h5⟩
  obtain ⟨a', cap, e, _⟩ := own_sl (sat_perm (List.Perm.append_right _ tk) h5)
  exact k a' cap e a w ⟨h1, h2, ds, h3, h4, h5⟩
theorem RefO.left {z z' : HP} {rv : Value} {o : OptM} (h : RefO z rv o) : RefO (star [z, z']) rv o := h.sup (Sup.left _ _)
theorem RefO.right {z z' : HP} {rv : Value} {o : OptM} (h : RefO z rv o) : RefO (star [z', z]) rv o := h.sup (Sup.right _ _)
attribute [local irreducible] G GO GR GT Fn FnV pt init exs pur sat own ImpS mat posL allV orL restX cellsX cellsV refsV lines oneX gridsV uniX
def pairE (s t : Nat) : Int := if s = 0 then 1 else if t = 0 then 1 else if s = t then 0 else 5
theorem rpair_spec (s t : Nat) (va vb : Value) (ha : va.oneCell' = true) (hb : vb.oneCell' = true) : Fn Tryd.prog 73 #[refV s va, refV t vb] [] (fun r Q => r = i64 (pairE s t) ∧ Q = []) := by
  unfold pairE
  refine Fn.mk2 Tryd.func73 rfl rfl fun w0 F => ?_
  by_cases h1 : s = 0
  · have d1 : decide (((s : Nat) : Int) = 0) = true := decide_eq_true (by omega)
    rw [if_pos h1]
    (refine G.seq ?_; refine G.region ?_; refine GO.box rfl rfl rfl fun b2 => ?_; refine GO.box rfl rfl rfl fun b3 => ?_; refine GO.assign rfl rfl ?_; refine GO.nil ?_; refine kthen_n ?_; refine G.seq ?_; refine G.seq ?_; refine G.region ?_; refine GO.fieldAddr rfl rfl ?_; refine GO.load1 rfl rfl rfl (Tk.t Tk.h) rfl ?_; refine GO.eqi rfl rfl rfl ?_; refine GO.move rfl rfl ?_; refine GO.gF rfl rfl rfl (by assumption) ?_; refine GO.gF rfl rfl rfl (by assumption) ?_; refine GO.gF rfl rfl rfl (by assumption) ?_; refine GO.pickTa rfl rfl (by assumption) rfl ?_; refine GO.nil ?_; refine kthen_n ?_; refine G.condT rfl rfl ?_; refine G.seq ?_; refine G.region ?_; refine GO.assign rfl rfl ?_; refine GO.nil ?_; refine kthen_n ?_; refine G.ret ?_; refine kthen_r ?_)
    refine KF2.r1 rfl (RV.t rfl) ⟨rfl, rfl⟩ (ImpS.sb ?_)
    (skip; (refine Sb.s ?_; refine Sb.s ?_; exact Sb.r))
  · have d1 : decide (((s : Nat) : Int) = 0) = false := decide_eq_false (by omega)
    rw [if_neg h1]
    by_cases h2 : t = 0
    · have d2 : decide (((t : Nat) : Int) = 0) = true := decide_eq_true (by omega)
      rw [if_pos h2]
      (refine G.seq ?_; refine G.region ?_; refine GO.box rfl rfl rfl fun b2 => ?_; refine GO.box rfl rfl rfl fun b3 => ?_; refine GO.assign rfl rfl ?_; refine GO.nil ?_; refine kthen_n ?_; refine G.seq ?_; refine G.seq ?_; refine G.region ?_; refine GO.fieldAddr rfl rfl ?_; refine GO.load1 rfl rfl rfl (Tk.t Tk.h) rfl ?_; refine GO.eqi rfl rfl rfl ?_; refine GO.move rfl rfl ?_; refine GO.gT rfl rfl (by assumption) ?_; refine GO.fieldAddr rfl rfl ?_; refine GO.gT rfl rfl (by assumption) ?_; refine GO.load1 rfl rfl rfl Tk.h rfl ?_; refine GO.gT rfl rfl (by assumption) ?_; refine GO.eqi rfl rfl rfl ?_; refine GO.pickFa rfl rfl (by assumption) rfl ?_; refine GO.nil ?_; refine kthen_n ?_; refine G.condT rfl (by assumption) ?_; refine G.seq ?_; refine G.region ?_; refine GO.assign rfl rfl ?_; refine GO.nil ?_; refine kthen_n ?_; refine G.ret ?_; refine kthen_r ?_)
      refine KF2.r1 rfl (RV.t rfl) ⟨rfl, rfl⟩ (ImpS.sb ?_)
      (skip; (refine Sb.s ?_; refine Sb.s ?_; exact Sb.r))
    · have d2 : decide (((t : Nat) : Int) = 0) = false := decide_eq_false (by omega)
      rw [if_neg h2]
      by_cases h3 : s = t
      · have d3 : decide (((s : Nat) : Int) ≠ ((t : Nat) : Int)) = false := decide_eq_false (by omega)
        rw [if_pos h3]
        (refine G.seq ?_; refine G.region ?_; refine GO.box rfl rfl rfl fun b2 => ?_; refine GO.box rfl rfl rfl fun b3 => ?_; refine GO.assign rfl rfl ?_; refine GO.nil ?_; refine kthen_n ?_; refine G.seq ?_; refine G.seq ?_; refine G.region ?_; refine GO.fieldAddr rfl rfl ?_; refine GO.load1 rfl rfl rfl (Tk.t Tk.h) rfl ?_; refine GO.eqi rfl rfl rfl ?_; refine GO.move rfl rfl ?_; refine GO.gT rfl rfl (by assumption) ?_; refine GO.fieldAddr rfl rfl ?_; refine GO.gT rfl rfl (by assumption) ?_; refine GO.load1 rfl rfl rfl Tk.h rfl ?_; refine GO.gT rfl rfl (by assumption) ?_; refine GO.eqi rfl rfl rfl ?_; refine GO.pickFa rfl rfl (by assumption) rfl ?_; refine GO.nil ?_; refine kthen_n ?_; refine G.condF rfl (by assumption) ?_; refine G.skip ?_; refine kthen_n ?_; refine G.seq ?_; refine G.seq ?_; refine G.region ?_; refine GO.fieldAddr rfl rfl ?_; refine GO.load1 rfl rfl rfl (Tk.t Tk.h) rfl ?_; refine GO.fieldAddr rfl rfl ?_; refine GO.load1 rfl rfl rfl Tk.h rfl ?_; refine GO.nei rfl rfl rfl ?_; refine GO.nil ?_; refine kthen_n ?_; refine G.condF rfl (by assumption) ?_; refine G.skip ?_; refine kthen_n ?_; refine G.seq ?_; refine G.region ?_; refine GO.assign rfl rfl ?_; refine GO.nil ?_; refine kthen_n ?_; refine G.ret ?_)
        refine KF2.r1 rfl (RV.t rfl) ⟨rfl, rfl⟩ (ImpS.sb ?_)
        (skip; (refine Sb.s ?_; refine Sb.s ?_; exact Sb.r))
      · have d3 : decide (((s : Nat) : Int) ≠ ((t : Nat) : Int)) = true := decide_eq_true (by omega)
        rw [if_neg h3]
        (refine G.seq ?_; refine G.region ?_; refine GO.box rfl rfl rfl fun b2 => ?_; refine GO.box rfl rfl rfl fun b3 => ?_; refine GO.assign rfl rfl ?_; refine GO.nil ?_; refine kthen_n ?_; refine G.seq ?_; refine G.seq ?_; refine G.region ?_; refine GO.fieldAddr rfl rfl ?_; refine GO.load1 rfl rfl rfl (Tk.t Tk.h) rfl ?_; refine GO.eqi rfl rfl rfl ?_; refine GO.move rfl rfl ?_; refine GO.gT rfl rfl (by assumption) ?_; refine GO.fieldAddr rfl rfl ?_; refine GO.gT rfl rfl (by assumption) ?_; refine GO.load1 rfl rfl rfl Tk.h rfl ?_; refine GO.gT rfl rfl (by assumption) ?_; refine GO.eqi rfl rfl rfl ?_; refine GO.pickFa rfl rfl (by assumption) rfl ?_; refine GO.nil ?_; refine kthen_n ?_; refine G.condF rfl (by assumption) ?_; refine G.skip ?_; refine kthen_n ?_; refine G.seq ?_; refine G.seq ?_; refine G.region ?_; refine GO.fieldAddr rfl rfl ?_; refine GO.load1 rfl rfl rfl (Tk.t Tk.h) rfl ?_; refine GO.fieldAddr rfl rfl ?_; refine GO.load1 rfl rfl rfl Tk.h rfl ?_; refine GO.nei rfl rfl rfl ?_; refine GO.nil ?_; refine kthen_n ?_; refine G.condT rfl (by assumption) ?_; refine G.seq ?_; refine G.region ?_; refine GO.assign rfl rfl ?_; refine GO.nil ?_; refine kthen_n ?_; refine G.ret ?_; refine kthen_r ?_)
        refine KF2.r1 rfl (RV.t rfl) ⟨rfl, rfl⟩ (ImpS.sb ?_)
        (skip; (refine Sb.s ?_; refine Sb.s ?_; exact Sb.r))
theorem pairE_same {s : Nat} (h : 1 ≤ s) : pairE s s = 0 := by unfold pairE; rw [if_neg (by omega), if_neg (by omega), if_pos rfl]
set_option maxHeartbeats 4000000 in
theorem rJoin_core (z : HP) (ra rb : Value) (s : Nat) (X Y : Nat → Nat → Bool) (hra : RefO z ra (some (s, X))) (hrb : RefO z rb (some (s, Y))) (hs : 1 ≤ s ∧ s ≤ 1024) (hx : ∀ r c, X r c = true → r < s ∧ c < s) (hy : ∀ r c, Y r c = true → r < s ∧ c < s) :
    Fn Tryd.prog 48 #[ra, rb] [z] (fun r Q => ∃ v, r = .tuple #[refV s v, .bool (decide (cntX X < cntX (uniX X Y))), i64 0] ∧ Q = [own 70 2 (castL (cellsX (uniX X Y))).length v (cellsV (castL (cellsX (uniX X Y)))), z]) := by
  have hm := mrg_uni hs.2 hx hy
  have hmM := mrgM_uni hs.2 hx hy
  obtain ⟨va, rfl, honea, hsla⟩ := hra
  obtain ⟨vb, rfl, honeb, hslb⟩ := hrb
  have hl1 : (castL (cellsX X)).length ≤ 1048576 := by rw [castL_len, cellsX_len]; have := cnt_max X; omega
  have hl2 : (castL (cellsX Y)).length ≤ 1048576 := by rw [castL_len, cellsX_len]; have := cnt_max Y; omega
  have hg := merge_spec z va vb (castL (cellsX X)) (castL (cellsX Y)) hsla.slR hslb.slR (by omega)
  rw [hm, hmM] at hg
  have hpr := rpair_spec s s va vb honea honeb
  rw [pairE_same hs.1] at hpr
  change Fn _ _ #[refV s va, refV s vb] _ _
  generalize decide (cntX X < cntX (uniX X Y)) = bn at hg ⊢
  refine Fn.mk2 Tryd.func48 rfl rfl fun w0 F => ?_
  (refine G.seq ?_; refine G.region ?_; refine GO.box rfl rfl rfl fun b2 => ?_; refine GO.box rfl rfl rfl fun b3 => ?_; refine GO.alloc rfl fun b4 => ?_; refine GO.assign rfl rfl ?_; refine GO.assign rfl rfl ?_; refine GO.nil ?_; refine kthen_n ?_; refine G.seq ?_; refine G.region ?_; refine GO.loadW rfl rfl rfl (Tk.t (Tk.t Tk.h)) rfl ?_; refine GO.loadW rfl rfl rfl (Tk.t Tk.h) rfl ?_)
  refine GO.call2 rfl rfl rfl (hpr) Tks.n ?_
  rintro _ _ ⟨rfl, rfl⟩
  (refine GO.assign rfl rfl ?_; refine GO.nil ?_; refine kthen_n ?_; refine G.seq ?_; refine G.seq ?_; refine G.region ?_; refine GO.move rfl rfl ?_; refine GO.neF rfl rfl rfl rfl ?_; refine GO.nil ?_; refine kthen_n ?_; refine G.condF rfl rfl ?_; refine G.skip ?_; refine kthen_n ?_; refine G.seq ?_; refine G.region ?_; refine GO.fieldAddr rfl rfl ?_; refine GO.load1 rfl rfl rfl (Tk.t (Tk.t Tk.h)) rfl ?_; refine GO.fieldAddr rfl rfl ?_; refine GO.load1 rfl rfl rfl (Tk.t Tk.h) rfl ?_)
  refine GO.call2 rfl rfl rfl (hg) (Tks.c (Tk.t (Tk.t (Tk.t Tk.h))) Tks.n) ?_
  rintro _ _ ⟨v, rfl, rfl⟩
  refine GO.ownV Tk.h fun a9 cap9 hv9 => ?_
  subst hv9
  (refine GO.move rfl rfl ?_; refine GO.extract rfl rfl rfl ?_; refine GO.extract rfl rfl rfl ?_; refine GO.assign rfl rfl ?_; refine GO.assign rfl rfl ?_; refine GO.nil ?_; refine kthen_n ?_; refine G.seq ?_; refine G.region ?_; refine GO.fieldAddr rfl rfl ?_; refine GO.load1 rfl rfl rfl (Tk.t (Tk.t (Tk.t (Tk.t Tk.h)))) rfl ?_; refine GO.move rfl rfl ?_; refine GO.build2 rfl rfl rfl rfl ?_; refine GO.move rfl rfl ?_)
  rw [show ∀ n : Nat, (putParts [i64 (s : Nat), Value.slice a9 n cap9]).toArray = #[i64 (s : Nat), Value.slice a9 n cap9] from fun n => by simp [putParts, Value.cells]]
  (refine GO.storeW rfl rfl (Tk.t (Tk.t Tk.h)) ⟨rfl, rfl⟩ (by simp [Value.oneCell']) ?_; refine GO.assign rfl rfl ?_; refine GO.assign rfl rfl ?_; refine GO.nil ?_; refine kthen_n ?_; refine G.ret ?_)
  refine KF2.r3 rfl (RV.cW (n := 2) rfl rfl (by (exact Tk.h)) rfl) (RV.t rfl) (RV.t rfl) ⟨_, rfl, rfl⟩ (ImpS.sb ?_)
  ((refine Sb.c (Tk.t Tk.h) ?_; refine Sb.c (Tk.t Tk.h) ?_); (refine Sb.s ?_; refine Sb.s ?_; refine Sb.s ?_; exact Sb.r))
theorem rJoin_same (z : HP) (ra rb : Value) (s : Nat) (X Y : Nat → Nat → Bool) (hra : RefO z ra (some (s, X))) (hrb : RefO z rb (some (s, Y))) (hs : 1 ≤ s ∧ s ≤ 1024) (hx : ∀ r c, X r c = true → r < s ∧ c < s) (hy : ∀ r c, Y r c = true → r < s ∧ c < s) :
    Fn Tryd.prog 48 #[ra, rb] [z] (fun r Q => ∃ v p, r = .tuple #[refV s v, .bool (decide (cntX X < cntX (uniX X Y))), i64 0] ∧ v.oneCell' = true ∧ RefO p (refV s v) (some (s, uniX X Y)) ∧ Q = [p, z]) := by
  have h := rJoin_core z ra rb s X Y hra hrb hs hx hy
  unfold Fn at *
  intro F w hw
  refine (h F w hw).mono ?_
  rintro e w' ⟨v, Q, h1, h2, ⟨u, rfl, rfl⟩, d⟩
  have d1 := own_one d
  have d2 := own_slC d
  exact ⟨_, _, h1, h2, ⟨u, _, rfl, d1, RefO.own d1 d2, rfl⟩, d⟩
end Go.Proofs.YtpemblhbfafmpaaDoor
namespace Go.Proofs.YtpemblhbfafmpaaDoor
open Go
def intoO (c a b : OptM) : OptM := if errL [c, a, b] = 0 then joinO c (mulO a b) else c
def intoB (c a b : OptM) : Bool := if errL [c, a, b] = 0 then joinB c (mulO a b) else false
theorem side_some {o : OptM} (h : sideO o ≠ 0) : ∃ X, o = some (sideO o, X) := by
  match o, h with
  | none, h => exact absurd rfl h
  | some (s, X), _ => exact ⟨X, rfl⟩
theorem errL_three {c a b : OptM} (h : errL [c, a, b] = 0) : ∃ s C A B, c = some (s, C) ∧ a = some (s, A) ∧ b = some (s, B) := by
  have h2 := errF_zero h
  have h0 := h2 0 (by show 0 < 3; omega)
  have h1 := h2 1 (by show 1 < 3; omega)
  have h3 := h2 2 (by show 2 < 3; omega)
  obtain ⟨C, hC⟩ := side_some (o := c) h0.1
  obtain ⟨A, hA⟩ := side_some (o := a) h1.1
  obtain ⟨B, hB⟩ := side_some (o := b) h3.1
  have e1 : sideO a = sideO c := h1.2
  have e2 : sideO b = sideO c := h3.2
  rw [e1] at hA
  rw [e2] at hB
  exact ⟨_, C, A, B, hC, hA, hB⟩
theorem mulO_same (s : Nat) (X Y : Nat → Nat → Bool) : mulO (some (s, X)) (some (s, Y)) = some (s, mulX X Y) := if_pos rfl
theorem joinO_side (c m : OptM) : sideO (joinO c m) = sideO c := by
  match c, m with
  | some (s, X), some (t, Y) =>
    by_cases e : s = t
    · rw [show joinO (some (s, X)) (some (t, Y)) = some (s, uniX X Y) from if_pos e]; rfl
    · rw [show joinO (some (s, X)) (some (t, Y)) = some (s, X) from if_neg e]
  | none, _ => rfl
  | some _, none => rfl
theorem intoO_side (c a b : OptM) : sideO (intoO c a b) = sideO c := by
  unfold intoO
  split
  · exact joinO_side c _
  · rfl
theorem errL_congr {l m : List OptM} (h : l.length = m.length) (k : ∀ j, sidesL l j = sidesL m j) : errL l = errL m := by
  unfold errL
  rw [h, show sidesL l = sidesL m from funext k]
theorem errL3 {c a b c' a' b' : OptM} (h1 : sideO c = sideO c') (h2 : sideO a = sideO a') (h3 : sideO b = sideO b') : errL [c, a, b] = errL [c', a', b'] := errL_congr rfl fun j => by
  match j with
  | 0 => exact h1
  | 1 => exact h2
  | 2 => exact h3
  | _ + 3 => rfl
theorem WfM.into {c a b : OptM} (hc : WfM c) (ha : WfM a) (hb : WfM b) : WfM (intoO c a b) := by
  unfold intoO
  split
  · rename_i h
    obtain ⟨s, C, A, B, rfl, rfl, rfl⟩ := errL_three h
    rw [mulO_same, joinO_same]
    intro t X e
    injection e with e
    injection e with e1 e2
    subst e1 e2
    exact ⟨(hc _ _ rfl).1, uni_in (hc _ _ rfl).2 (mulX_in (ha _ _ rfl).2 (hb _ _ rfl).2)⟩
  · exact hc
/-- Once more gives nothing. -/
theorem into_again (c a b : OptM) : intoO (intoO c a b) a b = intoO c a b ∧ intoB (intoO c a b) a b = false := by
  by_cases h : errL [c, a, b] = 0
  · obtain ⟨s, C, A, B, rfl, rfl, rfl⟩ := errL_three h
    have e : intoO (some (s, C)) (some (s, A)) (some (s, B)) = some (s, uniX C (mulX A B)) := by unfold intoO; rw [if_pos h, mulO_same, joinO_same]
    have h2 : errL [some (s, uniX C (mulX A B)), some (s, A), some (s, B)] = 0 := by rw [← h]; exact errL3 rfl rfl rfl
    have hu : uniX (uniX C (mulX A B)) (mulX A B) = uniX C (mulX A B) := by
      funext r c
      unfold uniX
      cases C r c <;> cases mulX A B r c <;> rfl
    rw [e]
    unfold intoO intoB
    rw [if_pos h2, if_pos h2, mulO_same, joinO_same, joinB_same, hu, decide_eq_false (Nat.lt_irrefl _)]
    exact ⟨rfl, rfl⟩
  · have e : intoO c a b = c := if_neg h
    rw [e]
    exact ⟨e, if_neg h⟩
theorem fitK (R : HP) (b9 : Nat) (vs : List Value) (os : List OptM) (n : Nat) (hn : vs.length = n) (hm : os.length = n) (hb : n ≤ 1000) (h : ∀ (k : Nat) (v : Value) (o : OptM), vs[k]? = some v → os[k]? = some o → HasO R v o) :
    Fn Tryd.prog 37 #[.slice (some ⟨b9, 0, none⟩) n n] [R, pt b9 (row vs 27)] (fun r Q => r = i64 (errL os) ∧ Q = [R, pt b9 (row vs 27)]) := by
  subst hn
  refine (fit_spec R (pt b9 (row vs 27)) (.slice (some ⟨b9, 0, none⟩) vs.length vs.length) vs (sidesL os) (row_sl rfl) (fun k u hk => ?_) (by omega)).mono fun r Q hq => ⟨?_, hq.2⟩
  · have hlt := (List.getElem?_eq_some_iff.1 hk).1
    have ho : os[k]? = some os[k] := List.getElem?_eq_getElem (by omega)
    rw [sidesL_get ho]
    exact (h k u _ hk ho).side
  · have := fitR_err hq.1
    rw [← hm] at this
    exact this
theorem rfitK (b9 : Nat) (vs : List Value) (os : List OptM) (cs : List Value) (n : Nat) (hn : vs.length = n) (hm : os.length = n) (hb : n ≤ 1000) (hcs : cs = refsV (os.zip vs |>.map fun p => (sideO p.1, p.2))) :
    Fn Tryd.prog 39 #[.slice (some ⟨b9, 0, none⟩) n n] [pt b9 (row cs 28)] (fun r Q => r = i64 (errL os) ∧ Q = [pt b9 (row cs 28)]) := by
  subst hcs
  have hl : (os.zip vs |>.map fun p => (sideO p.1, p.2)).length = n := by rw [List.length_map, List.length_zip]; omega
  have h := rfit_spec (pt b9 (row (refsV (os.zip vs |>.map fun p => (sideO p.1, p.2))) 28)) (.slice (some ⟨b9, 0, none⟩) n n) (os.zip vs |>.map fun p => (sideO p.1, p.2)) (sidesL os)
    ⟨_, _, by rw [hl], refsV_len _, fun _ => ⟨b9, 0, rfl, fun j u hj => by rw [Nat.zero_add]; exact Rd.row hj⟩⟩ (fun k p hk => ?_) (by omega)
  · rw [hl] at h
    unfold errL
    rw [hm]
    exact h
  · rw [List.getElem?_map] at hk
    cases hz : (os.zip vs)[k]? with
    | none => rw [hz] at hk; cases hk
    | some q =>
      rw [hz] at hk
      injection hk with hk
      subst hk
      have := (List.getElem?_zip_eq_some.1 hz).1
      rw [sidesL_get this]
attribute [local irreducible] G GO GR GT Fn FnV pt init exs pur sat own ImpS mat posL allV orL restX cellsX cellsV refsV lines oneX gridsV uniX
set_option maxHeartbeats 8000000 in
theorem pIntoO (q : HP) (hq : Tab q) (pc R : HP) (vc va vb : Value) (c a b : OptM) (hc : MatO pc vc c) (ha : HasO (star [pc, R]) va a) (hb : HasO (star [pc, R]) vb b) (wc : WfM c) (wa : WfM a) (wb : WfM b) :
    Fn Tryd.prog 18 #[vc, va, vb] [star [pc, R], q] (fun r Q => ∃ pc', r = .tuple #[.bool (intoB c a b), i64 (errL [c, a, b])] ∧ MatO pc' vc (intoO c a b) ∧ Q = [star [pc', R], q]) := by
  have hfit := fun b9 => fitK (star [pc, R]) b9 [vc, va, vb] [c, a, b] 3 rfl rfl (by omega) (fun k v o h1 h2 => by
    match k, h1, h2 with
    | 0, h1, h2 => injection h1 with h1; injection h2 with h2; subst h1 h2; exact HasO.left hc.has
    | 1, h1, h2 => injection h1 with h1; injection h2 with h2; subst h1 h2; exact ha
    | 2, h1, h2 => injection h1 with h1; injection h2 with h2; subst h1 h2; exact hb)
  obtain ⟨cc, rfl⟩ := hc.has.ptr
  obtain ⟨ca, rfl⟩ := ha.ptr
  obtain ⟨cb, rfl⟩ := hb.ptr
  unfold intoO intoB
  by_cases h0 : errL [c, a, b] = 0
  · rw [if_pos h0, if_pos h0, h0]
    rw [h0] at hfit
    obtain ⟨s, C, A, B, rfl, rfl, rfl⟩ := errL_three h0
    rw [mulO_same, joinO_same, joinB_same]
    rcases hc with ⟨h, _⟩ | ⟨s', C', bc, e1, e2, rfl⟩
    · cases h
    · injection e1 with e1
      injection e1 with e3 e4
      subst e3 e4
      injection e2 with e2
      subst e2
      have hm := pmul_spec q (star [mat s C bc, R]) hq _ _ s A B ha.hasM hb.hasM (wc _ _ rfl).1 (wa _ _ rfl).2 (wb _ _ rfl).2
      generalize mulX A B = M at hm ⊢
      refine Fn.mk2 Tryd.func18 rfl rfl fun w0 F => ?_
      (refine G.seq ?_; refine G.region ?_; refine GO.assign rfl rfl ?_; refine GO.assign rfl rfl ?_; refine GO.nil ?_; refine kthen_n ?_; refine G.seq ?_; refine G.region ?_; refine GO.move rfl rfl ?_; refine GO.move rfl rfl ?_; refine GO.move rfl rfl ?_)
      refine GO.buildSlice3 rfl rfl rfl rfl (by simp [Value.cells]) rfl ⟨by omega, by omega⟩ fun b9 => ?_
      rw [show putParts [Value.pointer (some ⟨bc, 0, none⟩), .pointer ca, .pointer cb] = [.pointer (some ⟨bc, 0, none⟩), .pointer ca, .pointer cb] by simp [putParts, Value.cells]]
      refine GO.call1 rfl rfl (hfit b9) (Tks.c (Tk.t Tk.h) (Tks.c Tk.h Tks.n)) ?_
      rintro _ _ ⟨rfl, rfl⟩
      (refine GO.assign rfl rfl ?_; refine GO.nil ?_; refine kthen_n ?_; refine G.seq ?_; refine G.seq ?_; refine G.region ?_; refine GO.move rfl rfl ?_; refine GO.neF rfl rfl rfl rfl ?_; refine GO.nil ?_; refine kthen_n ?_; refine G.condF rfl rfl ?_; refine G.skip ?_; refine kthen_n ?_; refine G.seq ?_; refine G.region ?_; refine GO.move rfl rfl ?_; refine GO.move rfl rfl ?_; refine GO.move rfl rfl ?_)
      refine GO.call2 rfl rfl rfl (hm) (Tks.c Tk.h (Tks.c (Tk.t Tk.h) Tks.n)) ?_
      rintro _ _ ⟨b', rfl, rfl⟩
      skip
      refine GO.unpair (x := mat s C bc) (y := R) (Tk.t Tk.h) ?_
      refine GO.call2 rfl rfl rfl (join_mat s s bc b' C M) (Tks.c Tk.h (Tks.c (Tk.t Tk.h) Tks.n)) ?_
      rintro _ _ (⟨_, rfl, rfl⟩ | ⟨hne, _, _⟩)
      rotate_left 1
      · exact absurd rfl hne
      refine GO.pair (x := mat s (uniX C M) bc) (y := R) (Tks.c Tk.h (Tks.c (Tk.t Tk.h) Tks.n)) ?_
      (refine GO.extract rfl rfl rfl ?_; refine GO.extract rfl rfl rfl ?_; refine GO.assign rfl rfl ?_; refine GO.assign rfl rfl ?_; refine GO.nil ?_; refine kthen_n ?_; refine G.ret ?_)
      refine KF2.r2 rfl (RV.t rfl) (RV.t rfl) ⟨_, rfl, MatO.one _ _ _, rfl⟩ (ImpS.sb ?_)
      ((refine Sb.c Tk.h ?_; refine Sb.c (Tk.t Tk.h) ?_); (refine Sb.s ?_; refine Sb.s ?_; exact Sb.r))
  · rw [if_neg h0, if_neg h0]
    generalize errL [c, a, b] = e at h0 hfit ⊢
    have hd : decide (e ≠ 0) = true := decide_eq_true h0
    refine Fn.mk2 Tryd.func18 rfl rfl fun w0 F => ?_
    (refine G.seq ?_; refine G.region ?_; refine GO.assign rfl rfl ?_; refine GO.assign rfl rfl ?_; refine GO.nil ?_; refine kthen_n ?_; refine G.seq ?_; refine G.region ?_; refine GO.move rfl rfl ?_; refine GO.move rfl rfl ?_; refine GO.move rfl rfl ?_)
    refine GO.buildSlice3 rfl rfl rfl rfl (by simp [Value.cells]) rfl ⟨by omega, by omega⟩ fun b9 => ?_
    rw [show putParts [Value.pointer cc, .pointer ca, .pointer cb] = [.pointer cc, .pointer ca, .pointer cb] by simp [putParts, Value.cells]]
    refine GO.call1 rfl rfl (hfit b9) (Tks.c (Tk.t Tk.h) (Tks.c Tk.h Tks.n)) ?_
    rintro _ _ ⟨rfl, rfl⟩
    (refine GO.assign rfl rfl ?_; refine GO.nil ?_; refine kthen_n ?_; refine G.seq ?_; refine G.seq ?_; refine G.region ?_; refine GO.move rfl rfl ?_; refine GO.nei rfl rfl rfl ?_; refine GO.nil ?_; refine kthen_n ?_; refine G.condT rfl (by assumption) ?_; refine G.seq ?_; refine G.region ?_; refine GO.move rfl rfl ?_; refine GO.assign rfl rfl ?_; refine GO.assign rfl rfl ?_; refine GO.nil ?_; refine kthen_n ?_; refine G.ret ?_; refine kthen_r ?_)
    refine KF2.r2 rfl (RV.t rfl) (RV.t rfl) ⟨pc, rfl, hc, rfl⟩ (ImpS.sb ?_)
    ((refine Sb.c Tk.h ?_; refine Sb.c (Tk.t Tk.h) ?_); (refine Sb.s ?_; exact Sb.r))
end Go.Proofs.YtpemblhbfafmpaaDoor
namespace Go.Proofs.YtpemblhbfafmpaaDoor
open Go
theorem GO.sliceEnd {P : Program} {c : Cx} {A : Array Oper} {rest : List Oper} {K : Kont} {L : Env} {H : List HP} {t : TypeId} {p : String} {e : Array Edge} {d : Nat} {ty el : TypeId} {sz l b o : Nat} {kk : IntKind} {i : Int} {x y : Operand} [hu : UL P ty (.slice el)] [hs : SZ P el sz] (hN : Nat.blt d c.N = true) (hx : evl L x = some (.slice (some ⟨b, o, none⟩) l l)) (hy : evl L y = some (.int kk i)) (hi : i = (l : Int))
    (k : GO P c A rest K ((d, .slice (some ⟨b, o, none⟩) 0 0) :: L) H) : GO P c A (⟨some d, .slice ty x (some y) none none, t, p, e, none⟩ :: rest) K L H :=
  GO.val hN rfl (fun a w Y h _ => by
    subst hi
    have hle : (l : Int) ≤ l := by omega
    simp only [execOp, h.eval hx, Option.map_none, Option.map_some, h.eval hy]
    simp [Instr.sliceAt, Instr.slice, Sem.run_bind, run_underlying hu.out, Instr.sliceBounds, run_sliceBound w _ _ _ _ (Int.natCast_nonneg l) hle, run_sizeOf_SZ, Result.andThen, add_plain]) k
def setsL (os : List OptM) (k : Nat) : Nat → Nat → Bool := setO (os[k]?.getD none)
def chainO (os : List OptM) : OptM := if errL os = 0 ∧ os.length ≠ 0 then some (sidesL os 0, prodX (setsL os) (os.length - 1)) else none
def chainE (os : List OptM) : Int := if errL os = 1 then 1 else if os.length = 0 then 2 else errL os
theorem errL_nil : errL [] = 0 := by unfold errL errF; rfl
theorem errL_get {os : List OptM} (h : errL os = 0) {k : Nat} {o : OptM} (hk : os[k]? = some o) : o = some (sidesL os 0, setsL os k) := by
  have hlt := (List.getElem?_eq_some_iff.1 hk).1
  have h2 := errF_zero h k hlt
  rw [sidesL_get hk] at h2
  obtain ⟨X, hX⟩ := side_some h2.1
  rw [h2.2] at hX
  have e : setsL os k = X := by unfold setsL; rw [hk, hX]; rfl
  rw [e]; exact hX
theorem setsL_in {os : List OptM} (h : errL os = 0) (hw : ∀ o ∈ os, WfM o) (k : Nat) : ∀ r c, setsL os k r c = true → r < sidesL os 0 ∧ c < sidesL os 0 := by
  intro r c hr
  cases hk : os[k]? with
  | none =>
    unfold setsL at hr
    rw [hk] at hr
    cases hr
  | some o =>
    have e := errL_get h hk
    exact (hw o (List.mem_of_getElem? hk) _ _ e).2 r c hr
/-- Such a matrix, that can be copied too. -/
def HasK (R : HP) (v : Value) (o : OptM) : Prop := HasO R v o ∧ ∀ s X, o = some (s, X) → Fn Tryd.prog 49 #[v] [R] (fun r Q => ∃ p, (∃ b', r = ptrV b' ∧ p = mat s X b') ∧ Q = [p, R])
theorem MatO.hasK {p : HP} {v : Value} {o : OptM} (h : MatO p v o) : HasK p v o := by
  refine ⟨h.has, ?_⟩
  rcases h with ⟨rfl, rfl⟩ | ⟨s, X, b, rfl, rfl, rfl⟩
  · intro s X e; cases e
  · intro s' X' e
    injection e with e
    injection e with e1 e2
    subst e1 e2
    exact (copy_mat s b X).mono fun r Q hq => by
      obtain ⟨b', rfl, rfl⟩ := hq
      exact ⟨_, ⟨b', rfl, rfl⟩, rfl⟩
theorem HasK.left {A B : HP} {v : Value} {o : OptM} (h : HasK A v o) : HasK (star [A, B]) v o := ⟨HasO.left h.1, fun s X e => Fn.leftI (S := fun r p => ∃ b', r = ptrV b' ∧ p = mat s X b') (h.2 s X e)⟩
theorem HasK.right {A B : HP} {v : Value} {o : OptM} (h : HasK B v o) : HasK (star [A, B]) v o := ⟨HasO.right h.1, fun s X e => Fn.rightI (S := fun r p => ∃ b', r = ptrV b' ∧ p = mat s X b') (h.2 s X e)⟩
theorem fitS (R S : HP) (v : Value) (vs : List Value) (os : List OptM) (hv : Sl S v vs.length 1 vs) (hm : os.length = vs.length) (hb : vs.length ≤ 1000) (h : ∀ (k : Nat) (v : Value) (o : OptM), vs[k]? = some v → os[k]? = some o → HasO R v o) :
    Fn Tryd.prog 37 #[v] [R, S] (fun r Q => r = i64 (errL os) ∧ Q = [R, S]) := by
  refine (fit_spec R S v vs (sidesL os) hv (fun k u hk => ?_) (by omega)).mono fun r Q hq => ⟨?_, hq.2⟩
  · have hlt := (List.getElem?_eq_some_iff.1 hk).1
    have ho : os[k]? = some os[k] := List.getElem?_eq_getElem (by omega)
    rw [sidesL_get ho]
    exact (h k u _ hk ho).side
  · have := fitR_err hq.1
    rw [← hm] at this
    exact this
theorem prodX_zero (Xs : Nat → Nat → Nat → Bool) : prodX Xs 0 = Xs 0 := rfl
theorem prodX_succ (Xs : Nat → Nat → Nat → Bool) (k : Nat) : prodX Xs (k + 1) = mulX (prodX Xs k) (Xs (k + 1)) := rfl
attribute [local irreducible] G GO GR GT Fn FnV pt init exs pur sat own ImpS mat posL allV orL restX cellsX prodX
set_option maxHeartbeats 8000000 in
theorem chainG (q R z : HP) (hq : Tab q) (bo oo n cap : Nat) (vs : Nat → Value) (s : Nat) (Xs : Nat → Nat → Nat → Bool) (hn : 1 ≤ n ∧ n ≤ 1000) (hcap : n ≤ cap) (hs : 1 ≤ s ∧ s ≤ 1024) (hrd : ∀ k, k < n → Rd z ⟨bo, oo + k * 1, none⟩ (vs k))
    (hm : ∀ k, k < n → HasM R (vs k) s (Xs k)) (hin : ∀ k r c, Xs k r c = true → r < s ∧ c < s)
    (hfit : Fn Tryd.prog 37 #[.slice (some ⟨bo, oo, none⟩) n cap] [R, z] (fun r Q => r = i64 0 ∧ Q = [R, z]))
    (hcp : Fn Tryd.prog 49 #[vs 0] [R] (fun r Q => ∃ b', r = ptrV b' ∧ Q = [mat s (Xs 0) b', R])) :
    Fn Tryd.prog 20 #[.slice (some ⟨bo, oo, none⟩) n cap] [R, z, q] (fun r Q => ∃ b', r = .tuple #[ptrV b', i64 0] ∧ Q = [mat s (prodX Xs (n - 1)) b', R, z, q]) := by
  have hp0 := (prodX_zero Xs).symm
  rw [hp0] at hcp
  refine Fn.mk2 Tryd.func20 rfl rfl fun w0 F => ?_
  have r0 := hrd 0 (by omega)
  (refine G.seq ?_; refine G.region ?_; refine GO.assign rfl rfl ?_; refine GO.assign rfl rfl ?_; refine GO.nil ?_; refine kthen_n ?_; refine G.seq ?_; refine G.region ?_; refine GO.move rfl rfl ?_)
  refine GO.call1 rfl rfl (hfit) (Tks.c Tk.h (Tks.c Tk.h Tks.n)) ?_
  rintro _ _ ⟨rfl, rfl⟩
  (refine GO.assign rfl rfl ?_; refine GO.nil ?_; refine kthen_n ?_; refine G.seq ?_; refine G.block ?_; refine G.seq ?_; refine G.region ?_; refine GO.move rfl rfl ?_; refine GO.eqi rfl rfl rfl ?_; refine GO.assign rfl rfl ?_; refine GO.nil ?_; refine kthen_n ?_; refine G.condF rfl rfl ?_; refine G.seq ?_; refine G.region ?_; refine GO.move rfl rfl ?_; refine GO.lenS rfl rfl ?_; refine GO.eqi rfl rfl rfl ?_; refine GO.assign rfl rfl ?_; refine GO.nil ?_; refine kthen_n ?_)
  rw [show decide ((n : Int) = 0) = false from decide_eq_false (by omega)]
  (refine G.condF rfl rfl ?_; refine G.seq ?_; refine G.region ?_; refine GO.move rfl rfl ?_; refine GO.neF rfl rfl rfl rfl ?_; refine GO.assign rfl rfl ?_; refine GO.nil ?_; refine kthen_n ?_; refine G.condF rfl rfl ?_; refine G.skip ?_; refine kblock_n ?_; refine kthen_n ?_; refine G.seq ?_; refine G.region ?_; refine GO.move rfl rfl ?_)
  refine GO.idxS (j := 0) rfl rfl rfl ⟨rfl, by omega⟩ ?_
  (refine GO.loadQ rfl rfl rfl (Tk.t Tk.h) (by assumption) ?_)
  refine GO.call1 rfl rfl (hcp) (Tks.c Tk.h Tks.n) ?_
  rintro _ _ ⟨bp, rfl, rfl⟩
  (refine GO.assign rfl rfl ?_; refine GO.nil ?_; refine kthen_n ?_; refine G.seq ?_; refine G.seq ?_; refine G.region ?_; refine GO.move rfl rfl ?_)
  by_cases hc : 1 < cap
  · refine GO.sliceLo (l := 1) rfl rfl rfl ⟨rfl, by omega, by omega⟩ ?_
    (refine GO.lenS rfl rfl ?_; refine GO.move rfl rfl ?_; refine GO.nil ?_; refine kthen_n ?_; refine G.block ?_)
    refine G.loop2 (fun (k : Nat) (bp : Nat) => [(5, ptrV bp), (27, .slice (some ⟨bo, oo + 1 * 1, none⟩) (n - 1) (cap - 1)), (28, i64 ((n - 1 : Nat) : Int)), (29, i64 k)])
      (fun k bp => mat s (prodX Xs k) bp :: R :: z :: q :: F) (fun k _ => k ≤ n - 1) (fun k _ => n - 1 - k) 0 bp (by omega) ?_ ?_ ?_
    · (refine SubE.c rfl rfl ?_; refine SubE.c rfl rfl ?_; refine SubE.c rfl rfl ?_; refine SubE.c rfl rfl ?_; exact SubE.n)
    · ((refine Sb.c Tk.h ?_; refine Sb.c Tk.h ?_; refine Sb.c Tk.h ?_; refine Sb.c Tk.h ?_); (exact Sb.r))
    · rintro k bp hk
      (refine G.seq ?_; refine G.region ?_; refine GO.lti rfl rfl rfl ?_; refine GO.nil ?_; refine kthen_n ?_; refine G.seq ?_)
      refine G.condD rfl (fun hlt => ?_) (fun hge => ?_)
      · have hk2 : k < n - 1 := by omega
        have rk := hrd (k + 1) (by omega)
        rw [show oo + (k + 1) * 1 = oo + 1 * 1 + k * 1 by omega] at rk
        have hps := prodX_succ Xs k
        (refine G.skip ?_; refine kthen_n ?_; refine G.seq ?_; refine G.block ?_; refine G.seq ?_; refine G.region ?_; refine GO.idxS rfl rfl rfl ⟨rfl, by omega⟩ ?_; refine GO.loadQ rfl rfl rfl (Tk.t (Tk.t Tk.h)) (by assumption) ?_; refine GO.assign rfl rfl ?_; refine GO.nil ?_; refine kthen_n ?_; refine G.region ?_; refine GO.move rfl rfl ?_; refine GO.move rfl rfl ?_)
        refine GO.impS (H' := star [mat s (prodX Xs k) bp, R] :: z :: q :: F) (ImpS.flat (ImpS.sb Sb.r)) ?_
        refine GO.call2 rfl rfl rfl (pmul_spec q (star [mat s (prodX Xs k) bp, R]) hq (ptrV bp) (vs (k + 1)) s (prodX Xs k) (Xs (k + 1)) (HasM.left (HasM.one s bp (prodX Xs k))) (HasM.right (hm (k + 1) (by omega))) hs (prodX_in hin k) (hin (k + 1))) (Tks.c Tk.h (Tks.c (Tk.t Tk.h) Tks.n)) ?_
        rintro _ _ ⟨b', rfl, rfl⟩
        refine GO.unpair (x := mat s (prodX Xs k) bp) (y := R) (Tk.t Tk.h) ?_
        rw [← hps]
        (refine GO.assign rfl rfl ?_; refine GO.nil ?_; refine kblock_n ?_; refine kthen_n ?_; refine G.region ?_; refine GO.addi rfl rfl rfl (by omega) ?_; refine GO.move rfl rfl ?_; refine GO.nil ?_; refine kthen_n ?_)
        refine ⟨k + 1, b', by omega, by omega, ?_, ?_⟩
        · (refine SubE.c rfl rfl ?_; refine SubE.c rfl rfl ?_; refine SubE.c rfl rfl ?_; refine SubE.c rfl rfl ?_; exact SubE.n)
        · ((refine Sb.c (Tk.t (Tk.t Tk.h)) ?_; refine Sb.c (Tk.t Tk.h) ?_; refine Sb.c (Tk.t (Tk.t Tk.h)) ?_; refine Sb.c (Tk.t Tk.h) ?_); (refine Sb.s ?_; exact Sb.r))
      · obtain rfl : k = n - 1 := by omega
        (refine G.exit ?_; refine kthen_x ?_; refine kthen_x ?_; refine kblock_x ?_; refine kthen_n ?_; refine G.seq ?_; refine G.region ?_; refine GO.move rfl rfl ?_; refine GO.assign rfl rfl ?_; refine GO.assign rfl rfl ?_; refine GO.nil ?_; refine kthen_n ?_; refine G.ret ?_)
        refine KF2.r2 rfl (RV.t rfl) (RV.t rfl) ⟨bp, rfl, rfl⟩ (ImpS.sb ?_)
        ((refine Sb.c Tk.h ?_; refine Sb.c Tk.h ?_; refine Sb.c Tk.h ?_; refine Sb.c Tk.h ?_); (exact Sb.r))
  · obtain rfl : cap = 1 := by omega
    obtain rfl : n = 1 := by omega
    refine GO.sliceEnd (l := 1) rfl rfl rfl rfl ?_
    (refine GO.lenS rfl rfl ?_; refine GO.move rfl rfl ?_; refine GO.nil ?_; refine kthen_n ?_; refine G.block ?_)
    refine G.loop (fun _ : Nat => [(5, ptrV bp), (28, i64 0), (29, i64 0)]) (fun _ => mat s (prodX Xs 0) bp :: R :: z :: q :: F) (fun _ => True) (fun _ => 0) 0 trivial ?_ ?_ ?_
    · (refine SubE.c rfl rfl ?_; refine SubE.c rfl rfl ?_; refine SubE.c rfl rfl ?_; exact SubE.n)
    · ((refine Sb.c Tk.h ?_; refine Sb.c Tk.h ?_; refine Sb.c Tk.h ?_; refine Sb.c Tk.h ?_); (exact Sb.r))
    · rintro k _
      (refine G.seq ?_; refine G.region ?_; refine GO.lti rfl rfl rfl ?_; refine GO.nil ?_; refine kthen_n ?_; refine G.seq ?_; refine G.condF rfl rfl ?_; refine G.exit ?_; refine kthen_x ?_; refine kthen_x ?_; refine kblock_x ?_; refine kthen_n ?_; refine G.seq ?_; refine G.region ?_; refine GO.move rfl rfl ?_; refine GO.assign rfl rfl ?_; refine GO.assign rfl rfl ?_; refine GO.nil ?_; refine kthen_n ?_; refine G.ret ?_)
      refine KF2.r2 rfl (RV.t rfl) (RV.t rfl) ⟨bp, rfl, rfl⟩ (ImpS.sb ?_)
      ((refine Sb.c Tk.h ?_; refine Sb.c Tk.h ?_; refine Sb.c Tk.h ?_; refine Sb.c Tk.h ?_); (exact Sb.r))
set_option maxHeartbeats 4000000 in
theorem pChain (q R S : HP) (hq : Tab q) (v : Value) (vs : List Value) (os : List OptM) (hv : Sl S v vs.length 1 vs) (hcap : ∀ a m cap, v = .slice a m cap → m ≤ cap) (hm : os.length = vs.length) (hb : vs.length ≤ 1000)
    (hk : ∀ (k : Nat) (v : Value) (o : OptM), vs[k]? = some v → os[k]? = some o → HasK R v o) (hw : ∀ o ∈ os, WfM o) :
    Fn Tryd.prog 20 #[v] [R, S, q] (fun r Q => ∃ w p, r = .tuple #[w, i64 (chainE os)] ∧ MatO p w (chainO os) ∧ Q = [p, R, S, q]) := by
  have hfit := fitS R S v vs os hv hm hb (fun k v o h1 h2 => (hk k v o h1 h2).1)
  by_cases hgood : errL os = 0 ∧ os.length ≠ 0
  · have hE : chainE os = 0 := by unfold chainE; rw [if_neg (by rw [hgood.1]; omega), if_neg hgood.2, hgood.1]
    have hO : chainO os = some (sidesL os 0, prodX (setsL os) (os.length - 1)) := if_pos hgood
    rw [hE, hO]
    rw [hgood.1] at hfit
    obtain ⟨a, cap, rfl, hlen, hrd⟩ := hv
    have hcap2 := hcap _ _ _ rfl
    obtain ⟨bo, oo, rfl, hr⟩ := hrd (by omega)
    have ho0 : os[0]? = some os[0] := List.getElem?_eq_getElem (by omega)
    have hs := (hw _ (List.mem_of_getElem? ho0) _ _ (errL_get hgood.1 ho0)).1
    have hget : ∀ k, k < vs.length → ∃ u o, vs[k]? = some u ∧ os[k]? = some o ∧ o = some (sidesL os 0, setsL os k) := fun k hk' => by
      have ho : os[k]? = some os[k] := List.getElem?_eq_getElem (by omega)
      exact ⟨_, _, List.getElem?_eq_getElem hk', ho, errL_get hgood.1 ho⟩
    have h := chainG q R S hq bo oo vs.length cap (fun k => vs[k]?.getD (.pointer none)) (sidesL os 0) (setsL os) ⟨by omega, hb⟩ hcap2 hs (fun k hk' => by
        obtain ⟨u, o, h1, _, _⟩ := hget k hk'
        rw [h1, Nat.mul_one]
        exact hr k u h1)
      (fun k hk' => by
        obtain ⟨u, o, h1, h2, h3⟩ := hget k hk'
        rw [h1]
        subst h3
        exact (hk k u _ h1 h2).1.hasM)
      (setsL_in hgood.1 hw) hfit (by
        obtain ⟨u, o, h1, h2, h3⟩ := hget 0 (by omega)
        rw [h1]
        subst h3
        exact ((hk 0 u _ h1 h2).2 _ _ rfl).mono fun r Q hq => by
          obtain ⟨p, ⟨b', rfl, rfl⟩, rfl⟩ := hq
          exact ⟨b', rfl, rfl⟩)
    rw [← hm] at h
    rw [hm] at h ⊢
    refine h.mono fun r Q hq => ?_
    obtain ⟨b', rfl, rfl⟩ := hq
    exact ⟨_, _, rfl, MatO.one _ _ _, rfl⟩
  · have hO : chainO os = none := if_neg hgood
    rw [hO]
    obtain ⟨a, cap, rfl, hlen, hrd⟩ := hv
    have hec : errL os = 0 ∨ errL os = 1 ∨ errL os = 5 := errF_cases _ _
    unfold chainE
    rcases hec with h0 | h0 | h0
    · have hz : os.length = 0 := Classical.byContradiction fun h => hgood ⟨h0, h⟩
      rw [h0] at hfit ⊢
      rw [if_neg (by omega), if_pos hz]
      have hz2 : vs.length = 0 := by omega
      rw [hz2] at hfit ⊢
      refine Fn.mk2 Tryd.func20 rfl rfl fun w0 F => ?_
      (refine G.seq ?_; refine G.region ?_; refine GO.assign rfl rfl ?_; refine GO.assign rfl rfl ?_; refine GO.nil ?_; refine kthen_n ?_; refine G.seq ?_; refine G.region ?_; refine GO.move rfl rfl ?_)
      refine GO.call1 rfl rfl (hfit) (Tks.c Tk.h (Tks.c Tk.h Tks.n)) ?_
      rintro _ _ ⟨rfl, rfl⟩
      (refine GO.assign rfl rfl ?_; refine GO.nil ?_; refine kthen_n ?_; refine G.seq ?_; refine G.block ?_; refine G.seq ?_; refine G.region ?_; refine GO.move rfl rfl ?_; refine GO.eqi rfl rfl rfl ?_; refine GO.assign rfl rfl ?_; refine GO.nil ?_; refine kthen_n ?_; refine G.condF rfl rfl ?_; refine G.seq ?_; refine G.region ?_; refine GO.move rfl rfl ?_; refine GO.lenS rfl rfl ?_; refine GO.eqT rfl rfl rfl rfl ?_; refine GO.assign rfl rfl ?_; refine GO.nil ?_; refine kthen_n ?_; refine G.condT rfl rfl ?_; refine G.seq ?_; refine G.region ?_; refine GO.assign rfl rfl ?_; refine GO.assign rfl rfl ?_; refine GO.nil ?_; refine kthen_n ?_; refine G.ret ?_; refine kblock_r ?_; refine kthen_r ?_)
      refine KF2.r2 rfl (RV.t rfl) (RV.t rfl) ⟨_, star [], rfl, MatO.nil _, rfl⟩ (ImpS.flat (k := []) (M := R :: S :: q :: F) (ImpS.sb ?_))
      ((refine Sb.c Tk.h ?_; refine Sb.c Tk.h ?_; refine Sb.c Tk.h ?_); (exact Sb.r))
    · rw [h0] at hfit ⊢
      rw [if_pos rfl]
      refine Fn.mk2 Tryd.func20 rfl rfl fun w0 F => ?_
      (refine G.seq ?_; refine G.region ?_; refine GO.assign rfl rfl ?_; refine GO.assign rfl rfl ?_; refine GO.nil ?_; refine kthen_n ?_; refine G.seq ?_; refine G.region ?_; refine GO.move rfl rfl ?_)
      refine GO.call1 rfl rfl (hfit) (Tks.c Tk.h (Tks.c Tk.h Tks.n)) ?_
      rintro _ _ ⟨rfl, rfl⟩
      (refine GO.assign rfl rfl ?_; refine GO.nil ?_; refine kthen_n ?_; refine G.seq ?_; refine G.block ?_; refine G.seq ?_; refine G.region ?_; refine GO.move rfl rfl ?_; refine GO.eqT rfl rfl rfl rfl ?_; refine GO.assign rfl rfl ?_; refine GO.nil ?_; refine kthen_n ?_; refine G.condT rfl rfl ?_; refine G.seq ?_; refine G.region ?_; refine GO.move rfl rfl ?_; refine GO.assign rfl rfl ?_; refine GO.assign rfl rfl ?_; refine GO.nil ?_; refine kthen_n ?_; refine G.ret ?_; refine kblock_r ?_; refine kthen_r ?_)
      refine KF2.r2 rfl (RV.t rfl) (RV.t rfl) ⟨_, star [], rfl, MatO.nil _, rfl⟩ (ImpS.flat (k := []) (M := R :: S :: q :: F) (ImpS.sb ?_))
      ((refine Sb.c Tk.h ?_; refine Sb.c Tk.h ?_; refine Sb.c Tk.h ?_); (exact Sb.r))
    · have hz : os.length ≠ 0 := fun h => by
        have : os = [] := List.eq_nil_of_length_eq_zero h
        rw [this, errL_nil] at h0
        cases h0
      rw [h0] at hfit ⊢
      rw [if_neg (by omega), if_neg hz]
      have d0 : decide (((vs.length : Nat) : Int) = 0) = false := decide_eq_false (by omega)
      refine Fn.mk2 Tryd.func20 rfl rfl fun w0 F => ?_
      (refine G.seq ?_; refine G.region ?_; refine GO.assign rfl rfl ?_; refine GO.assign rfl rfl ?_; refine GO.nil ?_; refine kthen_n ?_; refine G.seq ?_; refine G.region ?_; refine GO.move rfl rfl ?_)
      refine GO.call1 rfl rfl (hfit) (Tks.c Tk.h (Tks.c Tk.h Tks.n)) ?_
      rintro _ _ ⟨rfl, rfl⟩
      (refine GO.assign rfl rfl ?_; refine GO.nil ?_; refine kthen_n ?_; refine G.seq ?_; refine G.block ?_; refine G.seq ?_; refine G.region ?_; refine GO.move rfl rfl ?_; refine GO.eqi rfl rfl rfl ?_; refine GO.assign rfl rfl ?_; refine GO.nil ?_; refine kthen_n ?_; refine G.condF rfl rfl ?_; refine G.seq ?_; refine G.region ?_; refine GO.move rfl rfl ?_; refine GO.lenS rfl rfl ?_; refine GO.eqi rfl rfl rfl ?_; refine GO.assign rfl rfl ?_; refine GO.nil ?_; refine kthen_n ?_; refine G.condF rfl (by assumption) ?_; refine G.seq ?_; refine G.region ?_; refine GO.move rfl rfl ?_; refine GO.nei rfl rfl rfl ?_; refine GO.assign rfl rfl ?_; refine GO.nil ?_; refine kthen_n ?_; refine G.condT rfl rfl ?_; refine G.seq ?_; refine G.region ?_; refine GO.move rfl rfl ?_; refine GO.assign rfl rfl ?_; refine GO.assign rfl rfl ?_; refine GO.nil ?_; refine kthen_n ?_; refine G.ret ?_; refine kblock_r ?_; refine kthen_r ?_)
      refine KF2.r2 rfl (RV.t rfl) (RV.t rfl) ⟨_, star [], rfl, MatO.nil _, rfl⟩ (ImpS.flat (k := []) (M := R :: S :: q :: F) (ImpS.sb ?_))
      ((refine Sb.c Tk.h ?_; refine Sb.c Tk.h ?_; refine Sb.c Tk.h ?_); (exact Sb.r))
end Go.Proofs.YtpemblhbfafmpaaDoor
namespace Go.Proofs.YtpemblhbfafmpaaDoor
open Go
abbrev sideR (p : OptM × Value) : Nat × Value := (sideO p.1, p.2)
attribute [local irreducible] G GO GR GT Fn FnV pt init exs pur sat own ImpS mat posL allV orL restX cellsX cellsV prodX refsV
set_option maxHeartbeats 8000000 in
theorem rChain (Z S : HP) (v : Value) (l : List (OptM × Value)) (os : List OptM) (hos : os = l.map (·.1)) (hv : Sl S v l.length 2 (refsV (l.map sideR))) (hb : l.length ≤ 1000)
    (hl : ∀ p ∈ l, RefO Z (refV (sideO p.1) p.2) p.1 ∧ p.2.oneCell' = true ∧ WfM p.1) :
    Fn Tryd.prog 21 #[v] [Z, S] (fun r Q => ∃ rv Z', r = .tuple #[rv, i64 (chainE os)] ∧ RefO Z' rv (chainO os) ∧ Sup Z Z' ∧ Q = [Z', S]) := by
  have hol : os.length = l.length := by rw [hos, List.length_map]
  have hfit : Fn Tryd.prog 39 #[v] [S] (fun r Q => r = i64 (errL os) ∧ Q = [S]) := by
    have h := rfit_spec S v (l.map sideR) (sidesL os) (by rw [List.length_map]; exact hv) (fun k p hk => by
      rw [List.getElem?_map] at hk
      obtain ⟨q, hq, rfl⟩ := Option.map_eq_some_iff.1 hk
      have : os[k]? = some q.1 := by rw [hos, List.getElem?_map, hq]; rfl
      rw [sidesL_get this]) (by rw [List.length_map]; omega)
    have e : (l.map sideR).length = os.length := by rw [hol, List.length_map]
    rw [e] at h
    exact h
  have hw : ∀ o ∈ os, WfM o := fun o ho => by
    rw [hos] at ho
    obtain ⟨p, hp, rfl⟩ := List.mem_map.1 ho
    exact (hl p hp).2.2
  by_cases hgood : errL os = 0 ∧ os.length ≠ 0
  · have hE : chainE os = 0 := by unfold chainE; rw [if_neg (by rw [hgood.1]; omega), if_neg hgood.2, hgood.1]
    have hO : chainO os = some (sidesL os 0, prodX (setsL os) (os.length - 1)) := if_pos hgood
    rw [hE, hO]
    rw [hgood.1] at hfit
    have hin := setsL_in hgood.1 hw
    have hget : ∀ k, k < l.length → ∃ x, (l.map sideR)[k]? = some (sidesL os 0, x) ∧ x.oneCell' = true ∧ RefO Z (refV (sidesL os 0) x) (some (sidesL os 0, setsL os k)) := fun k hk => by
      obtain ⟨p, hp⟩ : ∃ p, l[k]? = some p := ⟨_, List.getElem?_eq_getElem hk⟩
      have ho : os[k]? = some p.1 := by rw [hos, List.getElem?_map, hp]; rfl
      have he := errL_get hgood.1 ho
      obtain ⟨h1, h2, _⟩ := hl p (List.mem_of_getElem? hp)
      rw [he] at h1
      refine ⟨p.2, ?_, h2, h1⟩
      rw [List.getElem?_map, hp]
      show some (sideO p.1, p.2) = _
      rw [he]; rfl
    have ho0 : os[0]? = some os[0] := List.getElem?_eq_getElem (by omega)
    have hs := (hw _ (List.mem_of_getElem? ho0) _ _ (errL_get hgood.1 ho0)).1
    rw [hol]
    have hn0 : l.length ≠ 0 := by omega
    generalize sidesL os 0 = s at hget hs hin ⊢
    generalize setsL os = Xs at hget hin ⊢
    have hp0 := (prodX_zero Xs).symm
    obtain ⟨a, cap, rfl, hlen, hrd⟩ := hv
    obtain ⟨bo, oo, rfl, hr⟩ := hrd (by omega)
    obtain ⟨x0, hx0, hone0, hR0⟩ := hget 0 (by omega)
    rw [hp0] at hR0
    have r0 : Rd S ⟨bo, oo + 0 * 2, none⟩ (i64 (s : Nat)) := hr _ _ (refsV_get hx0).1
    have r1 : Rd S ⟨bo, oo + 0 * 2 + 1, none⟩ x0 := hr _ _ (refsV_get hx0).2
    refine Fn.mk2 Tryd.func21 rfl rfl fun w0 F => ?_
    (refine G.seq ?_; refine G.region ?_; refine GO.alloc rfl fun b2 => ?_; refine GO.assign rfl rfl ?_; refine GO.nil ?_; refine kthen_n ?_; refine G.seq ?_; refine G.region ?_; refine GO.move rfl rfl ?_)
    refine GO.call1 rfl rfl (hfit) (Tks.c (Tk.t (Tk.t Tk.h)) Tks.n) ?_
    rintro _ _ ⟨rfl, rfl⟩
    (refine GO.assign rfl rfl ?_; refine GO.nil ?_; refine kthen_n ?_; refine G.seq ?_; refine G.seq ?_; refine G.region ?_; refine GO.move rfl rfl ?_; refine GO.nei rfl rfl rfl ?_; refine GO.move rfl rfl ?_; refine GO.gT rfl rfl rfl ?_; refine GO.move rfl rfl ?_; refine GO.gT rfl rfl rfl ?_; refine GO.lenS rfl rfl ?_; refine GO.gT rfl rfl rfl ?_; refine GO.eqi rfl rfl rfl ?_; refine GO.pickT rfl rfl rfl ?_; refine GO.nil ?_; refine kthen_n ?_)
    rw [show decide (((l.length : Nat) : Int) = 0) = false from decide_eq_false (by omega)]
    (refine G.condF rfl rfl ?_; refine G.skip ?_; refine kthen_n ?_; refine G.seq ?_; refine G.seq ?_; refine G.region ?_; refine GO.move rfl rfl ?_; refine GO.neF rfl rfl rfl rfl ?_; refine GO.nil ?_; refine kthen_n ?_; refine G.condF rfl rfl ?_; refine G.skip ?_; refine kthen_n ?_; refine G.seq ?_; refine G.region ?_; refine GO.move rfl rfl ?_)
    refine GO.idxS (j := 0) rfl rfl rfl ⟨rfl, by omega⟩ ?_
    (refine GO.load2 rfl rfl rfl Tk.h (by assumption) (by assumption) ?_; refine GO.alloc rfl fun b5 => ?_; refine GO.storeW rfl rfl Tk.h ⟨rfl, rfl⟩ (by simp [Value.oneCell']; assumption) ?_; refine GO.nil ?_; refine kthen_n ?_; refine G.seq ?_; refine G.seq ?_; refine G.region ?_; refine GO.assign rfl rfl ?_; refine GO.nil ?_; refine kthen_n ?_; refine G.block ?_)
    refine G.loop3 (fun (k : Nat) (x : Value) (Z' : HP) => [(0, .slice (some ⟨bo, oo, none⟩) l.length cap), (2, ptrV b2), (5, ptrV b5), (6, i64 ((k + 1 : Nat) : Int))])
      (fun k x Z' => pt b5 (row [i64 (s : Nat), x] 28) :: Z' :: S :: pt b2 (row [i64 0, .slice none 0 0] 28) :: F)
      (fun k x Z' => k + 1 ≤ l.length ∧ x.oneCell' = true ∧ Sup Z Z' ∧ RefO Z' (refV s x) (some (s, prodX Xs k))) (fun k _ _ => l.length - k) 0 x0 Z ⟨by omega, hone0, Sup.refl Z, hR0⟩ ?_ ?_ ?_
    · (refine SubE.c rfl rfl ?_; refine SubE.c rfl rfl ?_; refine SubE.c rfl rfl ?_; refine SubE.c rfl rfl ?_; exact SubE.n)
    · ((refine Sb.c Tk.h ?_; refine Sb.c (Tk.t (Tk.t Tk.h)) ?_; refine Sb.c Tk.h ?_; refine Sb.c Tk.h ?_); (exact Sb.r))
    rintro k x Z' ⟨hk, hone, hsup, hR⟩
    (refine G.seq ?_; refine G.seq ?_; refine G.region ?_; refine GO.move rfl rfl ?_; refine GO.move rfl rfl ?_; refine GO.lenS rfl rfl ?_; refine GO.lti rfl rfl rfl ?_; refine GO.nil ?_; refine kthen_n ?_)
    refine G.condD rfl (fun hlt => ?_) (fun hge => ?_)
    · have hk2 : k + 1 < l.length := by omega
      obtain ⟨y, hy, hone1, hR1⟩ := hget (k + 1) hk2
      have r2 : Rd S ⟨bo, oo + (k + 1) * 2, none⟩ (i64 (s : Nat)) := hr _ _ (refsV_get hy).1
      have r3 : Rd S ⟨bo, oo + (k + 1) * 2 + 1, none⟩ y := hr _ _ (refsV_get hy).2
      have hps := (prodX_succ Xs k).symm
      (refine G.skip ?_; refine kthen_n ?_; refine G.seq ?_; refine G.block ?_)
      refine G.draw 5 (by kernel_rfl) ?_
      ((apply GQ.step; focus (intro Z; refine GO.loadW rfl rfl rfl Tk.h rfl ?_; exact KQ.z)); (apply GQ.step; focus (intro Z; refine GO.move rfl rfl ?_; exact KQ.z)); (apply GQ.step; focus (intro Z; refine GO.move rfl rfl ?_; exact KQ.z)); (apply GQ.step; focus (intro Z; refine GO.idxS rfl rfl rfl ⟨rfl, by omega⟩ ?_; exact KQ.z)); (apply GQ.step; focus (intro Z; refine GO.load2 rfl rfl rfl (Tk.t (Tk.t Tk.h)) (by assumption) (by assumption) ?_; exact KQ.z)); refine GQ.nil ?_)
      skip
      refine GO.call2 rfl rfl rfl (times_ref Z' _ _ s (prodX Xs k) (Xs (k + 1)) hR (hR1.sup hsup) hs (prodX_in hin k) (hin (k + 1))) (Tks.c (Tk.t Tk.h) Tks.n) ?_
      rintro _ _ ⟨x', p, rfl, hone', hR', rfl⟩
      rw [hps] at hR'
      refine GO.merge (x := p) (y := Z') (Tks.c Tk.h (Tks.c Tk.h Tks.n)) ?_
      (refine GO.storeW rfl rfl (Tk.t Tk.h) ⟨rfl, rfl⟩ (by simp [Value.oneCell']; assumption) ?_; refine GO.nil ?_; refine kblock_n ?_; refine kthen_n ?_; refine G.region ?_; refine GO.move rfl rfl ?_; refine GO.addi rfl rfl rfl (by omega) ?_; refine GO.assign rfl rfl ?_; refine GO.nil ?_; refine kthen_n ?_)
      refine ⟨k + 1, x', star [p, Z'], ⟨by omega, hone', hsup.trans (Sup.right p Z'), hR'.left⟩, by omega, ?_, ?_⟩
      · (refine SubE.c rfl rfl ?_; refine SubE.c rfl rfl ?_; refine SubE.c rfl rfl ?_; refine SubE.c rfl rfl ?_; exact SubE.n)
      · ((refine Sb.c Tk.h ?_; refine Sb.c Tk.h ?_; refine Sb.c Tk.h ?_; refine Sb.c Tk.h ?_); (exact Sb.r))
    · obtain rfl : k = l.length - 1 := by omega
      (refine G.exit ?_; refine kthen_x ?_; refine kthen_x ?_; refine kblock_x ?_; refine kthen_n ?_; refine G.seq ?_; refine G.region ?_; refine GO.loadW rfl rfl rfl Tk.h rfl ?_; refine GO.storeW rfl rfl (Tk.t (Tk.t (Tk.t Tk.h))) ⟨rfl, rfl⟩ (by simp [Value.oneCell']; assumption) ?_; refine GO.assign rfl rfl ?_; refine GO.nil ?_; refine kthen_n ?_; refine G.ret ?_)
      refine KF2.r2 rfl (RV.cW (n := 2) rfl rfl (by (exact Tk.h)) rfl) (RV.t rfl) ⟨_, Z', rfl, hR, hsup, rfl⟩ (ImpS.sb ?_)
      ((refine Sb.c (Tk.t (Tk.t Tk.h)) ?_; refine Sb.c (Tk.t (Tk.t Tk.h)) ?_); (refine Sb.s ?_; refine Sb.s ?_; exact Sb.r))
  · have hO : chainO os = none := if_neg hgood
    rw [hO]
    obtain ⟨a, cap, rfl, hlen, hrd⟩ := hv
    have hec : errL os = 0 ∨ errL os = 1 ∨ errL os = 5 := errF_cases _ _
    unfold chainE
    rcases hec with h0 | h0 | h0
    · have hz : os.length = 0 := Classical.byContradiction fun h => hgood ⟨h0, h⟩
      rw [h0] at hfit ⊢
      rw [if_neg (by omega), if_pos hz]
      have hz2 : l.length = 0 := by omega
      rw [hz2] at hfit ⊢
      refine Fn.mk2 Tryd.func21 rfl rfl fun w0 F => ?_
      (refine G.seq ?_; refine G.region ?_; refine GO.alloc rfl fun b2 => ?_; refine GO.assign rfl rfl ?_; refine GO.nil ?_; refine kthen_n ?_; refine G.seq ?_; refine G.region ?_; refine GO.move rfl rfl ?_)
      refine GO.call1 rfl rfl (hfit) (Tks.c (Tk.t (Tk.t Tk.h)) Tks.n) ?_
      rintro _ _ ⟨rfl, rfl⟩
      (refine GO.assign rfl rfl ?_; refine GO.nil ?_; refine kthen_n ?_; refine G.seq ?_; refine G.seq ?_; refine G.region ?_; refine GO.move rfl rfl ?_; refine GO.nei rfl rfl rfl ?_; refine GO.move rfl rfl ?_; refine GO.gT rfl rfl rfl ?_; refine GO.move rfl rfl ?_; refine GO.gT rfl rfl rfl ?_; refine GO.lenS rfl rfl ?_; refine GO.gT rfl rfl rfl ?_; refine GO.eqT rfl rfl rfl rfl ?_; refine GO.pickT rfl rfl rfl ?_; refine GO.nil ?_; refine kthen_n ?_; refine G.condT rfl rfl ?_; refine G.region ?_; refine GO.assign rfl rfl ?_; refine GO.nil ?_; refine kthen_n ?_; refine G.seq ?_; refine G.seq ?_; refine G.region ?_; refine GO.move rfl rfl ?_; refine GO.nei rfl rfl rfl ?_; refine GO.nil ?_; refine kthen_n ?_; refine G.condT rfl rfl ?_; refine G.seq ?_; refine G.region ?_; refine GO.build0 rfl ?_; refine GO.move rfl rfl ?_; refine GO.storeW rfl rfl (Tk.t Tk.h) ⟨rfl, rfl⟩ (by simp [Value.oneCell']) ?_; refine GO.assign rfl rfl ?_; refine GO.nil ?_; refine kthen_n ?_; refine G.ret ?_; refine kthen_r ?_)
      refine KF2.r2 rfl (RV.cW (n := 2) rfl rfl (by (exact Tk.h)) rfl) (RV.t rfl) ⟨_, Z, rfl, RefO.nil _, Sup.refl Z, rfl⟩ (ImpS.sb ?_)
      ((refine Sb.c (Tk.t (Tk.t Tk.h)) ?_; refine Sb.c (Tk.t Tk.h) ?_); (refine Sb.s ?_; exact Sb.r))
    · rw [h0] at hfit ⊢
      rw [if_pos rfl]
      refine Fn.mk2 Tryd.func21 rfl rfl fun w0 F => ?_
      (refine G.seq ?_; refine G.region ?_; refine GO.alloc rfl fun b2 => ?_; refine GO.assign rfl rfl ?_; refine GO.nil ?_; refine kthen_n ?_; refine G.seq ?_; refine G.region ?_; refine GO.move rfl rfl ?_)
      refine GO.call1 rfl rfl (hfit) (Tks.c (Tk.t (Tk.t Tk.h)) Tks.n) ?_
      rintro _ _ ⟨rfl, rfl⟩
      (refine GO.assign rfl rfl ?_; refine GO.nil ?_; refine kthen_n ?_; refine G.seq ?_; refine G.seq ?_; refine G.region ?_; refine GO.move rfl rfl ?_; refine GO.neF rfl rfl rfl rfl ?_; refine GO.move rfl rfl ?_; refine GO.gF rfl rfl rfl rfl ?_; refine GO.gF rfl rfl rfl rfl ?_; refine GO.gF rfl rfl rfl rfl ?_; refine GO.pickF rfl rfl rfl ?_; refine GO.nil ?_; refine kthen_n ?_; refine G.condF rfl rfl ?_; refine G.skip ?_; refine kthen_n ?_; refine G.seq ?_; refine G.seq ?_; refine G.region ?_; refine GO.move rfl rfl ?_; refine GO.nei rfl rfl rfl ?_; refine GO.nil ?_; refine kthen_n ?_; refine G.condT rfl rfl ?_; refine G.seq ?_; refine G.region ?_; refine GO.build0 rfl ?_; refine GO.move rfl rfl ?_; refine GO.storeW rfl rfl (Tk.t Tk.h) ⟨rfl, rfl⟩ (by simp [Value.oneCell']) ?_; refine GO.assign rfl rfl ?_; refine GO.nil ?_; refine kthen_n ?_; refine G.ret ?_; refine kthen_r ?_)
      refine KF2.r2 rfl (RV.cW (n := 2) rfl rfl (by (exact Tk.h)) rfl) (RV.t rfl) ⟨_, Z, rfl, RefO.nil _, Sup.refl Z, rfl⟩ (ImpS.sb ?_)
      ((refine Sb.c (Tk.t (Tk.t Tk.h)) ?_; refine Sb.c (Tk.t Tk.h) ?_); (refine Sb.s ?_; exact Sb.r))
    · have hz : os.length ≠ 0 := fun h => by
        have : os = [] := List.eq_nil_of_length_eq_zero h
        rw [this, errL_nil] at h0
        cases h0
      rw [h0] at hfit ⊢
      rw [if_neg (by omega), if_neg hz]
      have d0 : decide (((l.length : Nat) : Int) = 0) = false := decide_eq_false (by omega)
      refine Fn.mk2 Tryd.func21 rfl rfl fun w0 F => ?_
      (refine G.seq ?_; refine G.region ?_; refine GO.alloc rfl fun b2 => ?_; refine GO.assign rfl rfl ?_; refine GO.nil ?_; refine kthen_n ?_; refine G.seq ?_; refine G.region ?_; refine GO.move rfl rfl ?_)
      refine GO.call1 rfl rfl (hfit) (Tks.c (Tk.t (Tk.t Tk.h)) Tks.n) ?_
      rintro _ _ ⟨rfl, rfl⟩
      (refine GO.assign rfl rfl ?_; refine GO.nil ?_; refine kthen_n ?_; refine G.seq ?_; refine G.seq ?_; refine G.region ?_; refine GO.move rfl rfl ?_; refine GO.nei rfl rfl rfl ?_; refine GO.move rfl rfl ?_; refine GO.gT rfl rfl rfl ?_; refine GO.move rfl rfl ?_; refine GO.gT rfl rfl rfl ?_; refine GO.lenS rfl rfl ?_; refine GO.gT rfl rfl rfl ?_; refine GO.eqi rfl rfl rfl ?_; refine GO.pickT rfl rfl rfl ?_; refine GO.nil ?_; refine kthen_n ?_; refine G.condF rfl (by assumption) ?_; refine G.skip ?_; refine kthen_n ?_; refine G.seq ?_; refine G.seq ?_; refine G.region ?_; refine GO.move rfl rfl ?_; refine GO.nei rfl rfl rfl ?_; refine GO.nil ?_; refine kthen_n ?_; refine G.condT rfl rfl ?_; refine G.seq ?_; refine G.region ?_; refine GO.build0 rfl ?_; refine GO.move rfl rfl ?_; refine GO.storeW rfl rfl (Tk.t Tk.h) ⟨rfl, rfl⟩ (by simp [Value.oneCell']) ?_; refine GO.assign rfl rfl ?_; refine GO.nil ?_; refine kthen_n ?_; refine G.ret ?_; refine kthen_r ?_)
      refine KF2.r2 rfl (RV.cW (n := 2) rfl rfl (by (exact Tk.h)) rfl) (RV.t rfl) ⟨_, Z, rfl, RefO.nil _, Sup.refl Z, rfl⟩ (ImpS.sb ?_)
      ((refine Sb.c (Tk.t (Tk.t Tk.h)) ?_; refine Sb.c (Tk.t Tk.h) ?_); (refine Sb.s ?_; exact Sb.r))
end Go.Proofs.YtpemblhbfafmpaaDoor
namespace Go.Proofs.YtpemblhbfafmpaaDoor
open Go
/-- Grids in a slice. -/
def GridsR (q : HP) (v : Value) (l : List (Int × Value)) (cs : Nat → List Cl) : Prop := Sl q v l.length 2 (gridsV l) ∧ ∀ (k : Nat) (p : Int × Value), l[k]? = some p → SlC q p.2 (cs k)
structure Ch (R Z : HP) (ms : List Value) (rs : List (OptM × Value)) : Prop where
  len : ms.length = rs.length
  at' : ∀ (k : Nat) (m : Value) (p : OptM × Value), ms[k]? = some m → rs[k]? = some p → HasK R m p.1 ∧ RefO Z (refV (sideO p.1) p.2) p.1 ∧ p.2.oneCell' = true ∧ WfM p.1 ∧ ∃ a, m = .pointer a
theorem Ch.nil (R Z : HP) : Ch R Z [] [] := ⟨rfl, fun k m p h => by simp at h⟩
theorem Ch.snoc {R Z p z : HP} {ms : List Value} {rs : List (OptM × Value)} (h : Ch R Z ms rs) {m : Value} {o : OptM} {x : Value} (hm : MatO p m o) (hz : RefO z (refV (sideO o) x) o) (hx : x.oneCell' = true) (hw : WfM o) : Ch (star [p, R]) (star [z, Z]) (ms ++ [m]) (rs ++ [(o, x)]) := by
  refine ⟨by rw [List.length_append, List.length_append, h.len]; rfl, fun k m' q' h1 h2 => ?_⟩
  by_cases hk : k < ms.length
  · rw [List.getElem?_append_left hk] at h1
    rw [List.getElem?_append_left (by rw [← h.len]; exact hk)] at h2
    obtain ⟨a1, a2, a3, a4, a5⟩ := h.at' k m' q' h1 h2
    exact ⟨a1.right, a2.right, a3, a4, a5⟩
  · rw [List.getElem?_append_right (by omega)] at h1
    rw [List.getElem?_append_right (by rw [← h.len]; omega), ← h.len] at h2
    have hk0 : k - ms.length = 0 := by
      have := (List.getElem?_eq_some_iff.1 h1).1
      simp only [List.length_singleton] at this
      omega
    rw [hk0] at h1 h2
    injection h1 with h1
    injection h2 with h2
    subst h1 h2
    exact ⟨hm.hasK.left, hz.left, hx, hw, hm.has.ptr⟩
theorem GO.ownSlK {P : Program} {c : Cx} {A : Array Oper} {os : List Oper} {K : Kont} {L : Env} {H F : List HP} {el : TypeId} {sz n : Nat} {v : Value} {xs : List Value} (tk : Tk (own el sz n v xs) H F) (k : Sl (own el sz n v xs) v n sz xs → (∀ a m cap, v = .slice a m cap → m ≤ cap) → GO P c A os K L H) : GO P c A os K L H := by
  rintro a w ⟨h1, h2, ds, h3, h4, h5⟩
  have s := sat_perm (List.Perm.append_right _ tk) h5
  refine k (own_sl s) ?_ a w ⟨h1, h2, ds, h3, h4, h5⟩
  rintro a' m cap rfl
  rcases own_shape s with ⟨g1, _⟩ | ⟨b, cap', rest', g1, _, g3, _⟩
  · injection g1 with _ e1 e2
    omega
  · injection g1 with _ e1 e2
    omega
theorem WfM.chain {os : List OptM} (hw : ∀ o ∈ os, WfM o) : WfM (chainO os) := by
  unfold chainO
  split
  · rename_i h
    have ho0 : os[0]? = some os[0] := List.getElem?_eq_getElem (by omega)
    have hs := (hw _ (List.mem_of_getElem? ho0) _ _ (errL_get h.1 ho0)).1
    intro s X e
    injection e with e
    injection e with e1 e2
    subst e1 e2
    exact ⟨hs, prodX_in (setsL_in h.1 hw) _⟩
  · exact WfM.no
attribute [local irreducible] G GO GR GT GW Fn FnV pt init exs pur sat own ImpS mat posL allV orL restX cellsX cellsV natsV refsV lines oneX gridsV prodX chainO chainE
set_option maxHeartbeats 16000000 in
theorem pchain_law (q : HP) (hq : Tab q) (v : Value) (l : List (Int × Value)) (cs : Nat → List Cl) (h1 : GridsR q v l cs) :
    Fn Tryd.prog 5 #[v] [q] (fun r Q => r = .bool true ∧ Q = [q]) := by
  obtain ⟨hv, hcs⟩ := h1
  have hfew := few_specG q v l (fun k => (cs k).length) hv (fun k p hk => by obtain ⟨a, cap, e, _⟩ := hcs k p hk; exact ⟨a, cap, e⟩)
  obtain ⟨a, cap, rfl, hlen, hrd⟩ := hv
  refine Fn.mk2 Tryd.func5 rfl rfl fun w0 F => ?_
  (refine G.seq ?_; refine G.region ?_; refine GO.assign rfl rfl ?_; refine GO.nil ?_; refine kthen_n ?_; refine G.seq ?_; refine G.seq ?_; refine G.region ?_; refine GO.move rfl rfl ?_; refine GO.lenS rfl rfl ?_; refine GO.gti rfl rfl rfl ?_; refine GO.move rfl rfl ?_)
  by_cases h6 : 6 < ((l.length : Nat) : Int)
  · rw [show decide ((6 : Int) < ((l.length : Nat) : Int)) = true from decide_eq_true h6]
    (refine GO.gF rfl rfl rfl rfl ?_; refine GO.gF rfl rfl rfl rfl ?_; refine GO.gF rfl rfl rfl rfl ?_; refine GO.pickT rfl rfl rfl ?_; refine GO.nil ?_; refine kthen_n ?_; refine G.condT rfl rfl ?_; refine G.seq ?_; refine G.region ?_)
    refine GO.call0 rfl (pawake_spec q hq) (Tks.c Tk.h Tks.n) ?_
    rintro _ _ ⟨rfl, rfl⟩
    (refine GO.assign rfl rfl ?_; refine GO.nil ?_; refine kthen_n ?_; refine G.ret ?_; refine kthen_r ?_)
    refine KF2.r1 rfl (RV.t rfl) ⟨rfl, rfl⟩ (ImpS.sb ?_)
    ((refine Sb.c Tk.h ?_); (exact Sb.r))
  rw [show decide ((6 : Int) < ((l.length : Nat) : Int)) = false from decide_eq_false h6]
  (refine GO.gT rfl rfl rfl ?_; refine GO.move rfl rfl ?_; refine GO.gT rfl rfl rfl ?_)
  refine GO.call1 rfl rfl (hfew (by omega)) (Tks.c Tk.h Tks.n) ?_
  rintro _ _ ⟨rfl, rfl⟩
  cases hfw : fewF l.length (fun k => (cs k).length) with
  | false =>
    (refine GO.gT rfl rfl rfl ?_; refine GO.not rfl rfl ?_; refine GO.pickF rfl rfl rfl ?_; refine GO.nil ?_; refine kthen_n ?_; refine G.condT rfl rfl ?_; refine G.seq ?_; refine G.region ?_)
    refine GO.call0 rfl (pawake_spec q hq) (Tks.c Tk.h Tks.n) ?_
    rintro _ _ ⟨rfl, rfl⟩
    (refine GO.assign rfl rfl ?_; refine GO.nil ?_; refine kthen_n ?_; refine G.ret ?_; refine kthen_r ?_)
    refine KF2.r1 rfl (RV.t rfl) ⟨rfl, rfl⟩ (ImpS.sb ?_)
    ((refine Sb.c Tk.h ?_); (exact Sb.r))
  | true =>
  have hfg := fun k hk => fewF_get hfw (k := k) hk
  (refine GO.gT rfl rfl rfl ?_; refine GO.not rfl rfl ?_; refine GO.pickF rfl rfl rfl ?_; refine GO.nil ?_; refine kthen_n ?_; refine G.condF rfl rfl ?_; refine G.skip ?_; refine kthen_n ?_; refine G.seq ?_; refine G.region ?_; refine GO.assign rfl rfl ?_; refine GO.nil ?_; refine kthen_n ?_; refine G.seq ?_; refine G.region ?_; refine GO.assign rfl rfl ?_; refine GO.nil ?_; refine kthen_n ?_; refine G.seq ?_; refine G.seq ?_; refine G.region ?_; refine GO.assign rfl rfl ?_; refine GO.nil ?_; refine kthen_n ?_; refine G.block ?_)
  refine G.ownNil (T := 27) (sz := 1) ?_
  refine G.ownNil (T := 28) (sz := 2) ?_
  refine G.keep (H' := star [] :: star [] :: own 28 2 0 (.slice none 0 0) [] :: own 27 1 0 (.slice none 0 0) [] :: q :: F) (ImpS.flat (k := []) (ImpS.flat (k := []) (ImpS.sb (by ((refine Sb.c Tk.h ?_; refine Sb.c Tk.h ?_; refine Sb.c Tk.h ?_); (exact Sb.r)))))) ?_
  refine G.loop (fun st : Nat × Value × Value × List Value × List (OptM × Value) × HP × HP => [(0, .slice a l.length cap), (3, st.2.1), (4, st.2.2.1), (5, i64 (st.1 : Nat))])
    (fun st => own 27 1 st.2.2.2.1.length st.2.1 st.2.2.2.1 :: own 28 2 st.2.2.2.2.1.length st.2.2.1 (refsV (st.2.2.2.2.1.map sideR)) :: st.2.2.2.2.2.1 :: st.2.2.2.2.2.2 :: q :: F)
    (fun st => st.1 ≤ l.length ∧ st.2.2.2.1.length = st.1 ∧ Ch st.2.2.2.2.2.1 st.2.2.2.2.2.2 st.2.2.2.1 st.2.2.2.2.1 ∧ st.2.1.oneCell' = true ∧ st.2.2.1.oneCell' = true)
    (fun st => l.length - st.1) (0, .slice none 0 0, .slice none 0 0, [], [], star [], star []) ⟨Nat.zero_le _, rfl, Ch.nil _ _, rfl, rfl⟩ ?_ ?_ ?_
  · (refine SubE.c rfl rfl ?_; refine SubE.c rfl rfl ?_; refine SubE.c rfl rfl ?_; refine SubE.c rfl rfl ?_; exact SubE.n)
  · rw [show refsV (([] : List (OptM × Value)).map sideR) = [] by unfold refsV; rfl]
    ((refine Sb.c (Tk.t (Tk.t (Tk.t Tk.h))) ?_; refine Sb.c (Tk.t (Tk.t Tk.h)) ?_; refine Sb.c Tk.h ?_; refine Sb.c Tk.h ?_; refine Sb.c Tk.h ?_); (exact Sb.r))
  rintro ⟨i, vm, vw, ms, rs, R, Z⟩ ⟨hi, hml, hch, hom, how⟩
  dsimp only at hi hml hch hom how ⊢
  have hrl : rs.length = i := by rw [← hch.len]; exact hml
  (refine G.seq ?_; refine G.seq ?_; refine G.region ?_; refine GO.move rfl rfl ?_; refine GO.move rfl rfl ?_; refine GO.lenS rfl rfl ?_; refine GO.lti rfl rfl rfl ?_; refine GO.nil ?_; refine kthen_n ?_)
  refine G.condD rfl (fun hlt => ?_) (fun hge => ?_)
  · have hil : i < l.length := by omega
    obtain ⟨bo, oo, rfl, hr⟩ := hrd (by omega)
    obtain ⟨g, hg⟩ : ∃ g, l[i]? = some g := ⟨_, List.getElem?_eq_getElem hil⟩
    have r1 : Rd q ⟨bo, oo + i * 2, none⟩ (i64 g.1) := hr _ _ (gridsV_get hg).1
    have r2 : Rd q ⟨bo, oo + i * 2 + 1, none⟩ g.2 := hr _ _ (gridsV_get hg).2
    have hu := hcs i g hg
    have hcl := hfg i hil
    (refine G.skip ?_; refine kthen_n ?_; refine G.seq ?_; refine G.block ?_; refine G.seq ?_; refine G.region ?_; refine GO.move rfl rfl ?_; refine GO.move rfl rfl ?_; refine GO.idxS rfl rfl rfl ⟨rfl, by omega⟩ ?_; refine GO.load2 rfl rfl rfl (Tk.t (Tk.t (Tk.t (Tk.t Tk.h)))) (by assumption) (by assumption) ?_)
    refine GO.call1 rfl rfl (made_specG g.1 q g.2 (cs i) hu (by omega)) (Tks.c (Tk.t (Tk.t (Tk.t (Tk.t Tk.h)))) Tks.n) ?_
    rintro _ _ ⟨m, x, p, z, rfl, hx, hp, hz, rfl⟩
    have w1 := gridO_wf g.1 (cs i)
    generalize gridO g.1 (cs i) = o1 at hp hz w1 ⊢
    have hch2 := hch.snoc hp hz hx w1
    obtain ⟨pm, rfl⟩ := hp.has.ptr
    have hrs2 : refsV (rs.map sideR) ++ [i64 (sideO o1 : Nat), x] = refsV ((rs ++ [(o1, x)]).map sideR) := by unfold refsV; simp
    have hml2 : (ms ++ [Value.pointer pm]).length = ms.length + 1 := by rw [List.length_append]; rfl
    have hrl2 : (rs ++ [(o1, x)]).length = rs.length + 1 := by rw [List.length_append]; rfl
    (refine GO.move rfl rfl ?_; refine GO.extract rfl rfl rfl ?_; refine GO.extract rfl rfl rfl ?_; refine GO.alloc rfl fun b7 => ?_; refine GO.assign rfl rfl ?_; refine GO.storeW rfl rfl Tk.h ⟨rfl, rfl⟩ (by simp [Value.oneCell']; assumption) ?_; refine GO.nil ?_; refine kthen_n ?_)
    refine G.drawW 8 204 4 [pt b7 (row [i64 (sideO o1 : Nat), x] 28)] (own 27 1 ms.length vm ms :: own 28 2 rs.length vw (refsV (rs.map sideR)) :: p :: z :: R :: Z :: q :: F)
      (fun L' H' => ∃ vm' vw', vm'.oneCell' = true ∧ vw'.oneCell' = true ∧ SubE [(0, .slice (some ⟨bo, oo, none⟩) l.length cap), (5, i64 (i : Nat)), (40, vm'), (44, vw')] L' ∧ ImpS H' (own 27 1 (ms.length + 1) vm' (ms ++ [.pointer pm]) :: own 28 2 (rs.length + 1) vw' (refsV (rs.map sideR) ++ [i64 (sideO o1 : Nat), x]) :: p :: z :: R :: Z :: q :: F)) (by kernel_rfl) (by kernel_rfl) (keys_of rfl) (ImpS.sb (by ((refine Sb.c Tk.h ?_; refine Sb.c (Tk.t (Tk.t (Tk.t Tk.h))) ?_; refine Sb.c (Tk.t (Tk.t (Tk.t Tk.h))) ?_; refine Sb.c Tk.h ?_; refine Sb.c Tk.h ?_; refine Sb.c (Tk.t Tk.h) ?_; refine Sb.c (Tk.t Tk.h) ?_; refine Sb.c Tk.h ?_); (exact Sb.r)))) ?_ ?_
    · ((apply GR.step rfl; focus (intro Z; refine GO.move rfl rfl ?_; exact KQ.z)); (apply GR.step rfl; focus (intro Z; refine GO.move rfl rfl ?_; exact KQ.z)); refine GR.skip rfl ?_; refine GR.skip rfl ?_; (apply GR.step rfl; focus (intro Z; refine GO.move rfl rfl ?_; exact KQ.z)); (apply GR.step rfl; focus (intro Z; refine GO.loadW rfl rfl rfl Tk.h rfl ?_; exact KQ.z)); refine GR.skip rfl ?_; refine GR.skip rfl ?_; refine GR.nil ?_)
      refine GW.two (i1 := 2) (i2 := 6) (by kernel_rfl) rfl rfl ?_ ?_
      · refine GO.buildSlice1 rfl rfl (by simp [Value.cells]) rfl ⟨by omega, by omega⟩ fun bs1 => ?_
        rw [show putParts [Value.pointer pm] = [.pointer pm] by simp [putParts, Value.cells]]
        refine GO.nil ⟨rfl, _, pt bs1 (row [.pointer pm] 27) :: own 27 1 ms.length vm ms :: own 28 2 rs.length vw (refsV (rs.map sideR)) :: p :: z :: R :: Z :: q :: F, rfl, ImpS.sb (by ((refine Sb.c (Tk.t Tk.h) ?_; refine Sb.c Tk.h ?_; refine Sb.c Tk.h ?_; refine Sb.c Tk.h ?_; refine Sb.c Tk.h ?_; refine Sb.c Tk.h ?_; refine Sb.c Tk.h ?_; refine Sb.c Tk.h ?_; refine Sb.c Tk.h ?_); (exact Sb.r))), ?_⟩
        refine GW.two (i1 := 3) (i2 := 6) (by kernel_rfl) rfl rfl ?_ ?_
        · refine GO.appendOwn (m := 1) (news := [.pointer pm]) rfl rfl rfl (Tk.t (Tk.t Tk.h)) (Tk.t Tk.h) rfl (by simp [Value.oneCell']) ⟨by decide, rfl⟩ Nat.one_pos (by unfold maxLen; omega) (by omega) fun vm2 => ?_
          refine GO.ownOne Tk.h fun hom2 => ?_
          refine GO.nil ⟨rfl, _, pt bs1 (row [.pointer pm] 27) :: own 27 1 (ms.length + 1) vm2 (ms ++ [.pointer pm]) :: own 28 2 rs.length vw (refsV (rs.map sideR)) :: p :: z :: R :: Z :: q :: F, rfl, ImpS.sb (by ((refine Sb.c (Tk.t Tk.h) ?_; refine Sb.c (Tk.t Tk.h) ?_; refine Sb.c Tk.h ?_; refine Sb.c Tk.h ?_; refine Sb.c Tk.h ?_; refine Sb.c Tk.h ?_; refine Sb.c Tk.h ?_; refine Sb.c Tk.h ?_; refine Sb.c Tk.h ?_); (exact Sb.r))), ?_⟩
          refine GW.one (i := 6) (by kernel_rfl) rfl ?_
          refine GO.buildSlice1 rfl rfl (by simp [Value.cells]) rfl ⟨by omega, by omega⟩ fun bs2 => ?_
          rw [show putParts [Value.agg #[i64 (sideO o1 : Nat), x]] = [i64 (sideO o1 : Nat), x] by simp [putParts, Value.cells]]
          refine GO.nil ⟨rfl, _, pt bs2 (row [i64 (sideO o1 : Nat), x] 28) :: pt bs1 (row [.pointer pm] 27) :: own 27 1 (ms.length + 1) vm2 (ms ++ [.pointer pm]) :: own 28 2 rs.length vw (refsV (rs.map sideR)) :: p :: z :: R :: Z :: q :: F, rfl, ImpS.sb (by ((refine Sb.c (Tk.t Tk.h) ?_; refine Sb.c Tk.h ?_; refine Sb.c Tk.h ?_; refine Sb.c Tk.h ?_; refine Sb.c Tk.h ?_; refine Sb.c Tk.h ?_; refine Sb.c Tk.h ?_; refine Sb.c Tk.h ?_; refine Sb.c Tk.h ?_; refine Sb.c Tk.h ?_); (exact Sb.r))), ?_⟩
          refine GW.one (i := 7) (by kernel_rfl) rfl ?_
          refine GO.appendOwn (m := 1) (news := [i64 (sideO o1 : Nat), x]) rfl rfl rfl (Tk.t (Tk.t (Tk.t (Tk.t Tk.h)))) (Tk.t Tk.h) rfl (by simp [hx]; rfl) ⟨by decide, rfl⟩ Nat.one_pos (by unfold maxLen; omega) (by omega) fun vw2 => ?_
          refine GO.ownOne Tk.h fun how2 => ?_
          refine GO.nil ⟨rfl, _, pt bs2 (row [i64 (sideO o1 : Nat), x] 28) :: pt bs1 (row [.pointer pm] 27) :: own 27 1 (ms.length + 1) vm2 (ms ++ [.pointer pm]) :: own 28 2 (rs.length + 1) vw2 (refsV (rs.map sideR) ++ [i64 (sideO o1 : Nat), x]) :: p :: z :: R :: Z :: q :: F, rfl, ImpS.sb (by ((refine Sb.c (Tk.t Tk.h) ?_; refine Sb.c (Tk.t Tk.h) ?_; refine Sb.c (Tk.t Tk.h) ?_; refine Sb.c (Tk.t Tk.h) ?_; refine Sb.c Tk.h ?_; refine Sb.c Tk.h ?_; refine Sb.c Tk.h ?_; refine Sb.c Tk.h ?_; refine Sb.c Tk.h ?_; refine Sb.c Tk.h ?_); (exact Sb.r))), ?_⟩
          exact GW.nil ⟨vm2, vw2, hom2, how2, by (refine SubE.c rfl rfl ?_; refine SubE.c rfl rfl ?_; refine SubE.c rfl rfl ?_; refine SubE.c rfl rfl ?_; exact SubE.n), ImpS.sb (by ((refine Sb.c (Tk.t (Tk.t (Tk.t Tk.h))) ?_; refine Sb.c (Tk.t (Tk.t (Tk.t Tk.h))) ?_; refine Sb.c (Tk.t (Tk.t (Tk.t Tk.h))) ?_; refine Sb.c (Tk.t (Tk.t (Tk.t Tk.h))) ?_; refine Sb.c (Tk.t (Tk.t (Tk.t Tk.h))) ?_; refine Sb.c (Tk.t (Tk.t (Tk.t Tk.h))) ?_; refine Sb.c (Tk.t (Tk.t (Tk.t Tk.h))) ?_); (refine Sb.s ?_; refine Sb.s ?_; refine Sb.s ?_; exact Sb.r)))⟩
        · refine GO.buildSlice1 rfl rfl (by simp [Value.cells]) rfl ⟨by omega, by omega⟩ fun bs2 => ?_
          rw [show putParts [Value.agg #[i64 (sideO o1 : Nat), x]] = [i64 (sideO o1 : Nat), x] by simp [putParts, Value.cells]]
          refine GO.nil ⟨rfl, _, pt bs2 (row [i64 (sideO o1 : Nat), x] 28) :: pt bs1 (row [.pointer pm] 27) :: own 27 1 ms.length vm ms :: own 28 2 rs.length vw (refsV (rs.map sideR)) :: p :: z :: R :: Z :: q :: F, rfl, ImpS.sb (by ((refine Sb.c (Tk.t Tk.h) ?_; refine Sb.c Tk.h ?_; refine Sb.c Tk.h ?_; refine Sb.c Tk.h ?_; refine Sb.c Tk.h ?_; refine Sb.c Tk.h ?_; refine Sb.c Tk.h ?_; refine Sb.c Tk.h ?_; refine Sb.c Tk.h ?_; refine Sb.c Tk.h ?_); (exact Sb.r))), ?_⟩
          refine GW.one (i := 3) (by kernel_rfl) rfl ?_
          refine GO.appendOwn (m := 1) (news := [.pointer pm]) rfl rfl rfl (Tk.t (Tk.t (Tk.t Tk.h))) (Tk.t (Tk.t Tk.h)) rfl (by simp [Value.oneCell']) ⟨by decide, rfl⟩ Nat.one_pos (by unfold maxLen; omega) (by omega) fun vm2 => ?_
          refine GO.ownOne Tk.h fun hom2 => ?_
          refine GO.nil ⟨rfl, _, pt bs2 (row [i64 (sideO o1 : Nat), x] 28) :: pt bs1 (row [.pointer pm] 27) :: own 27 1 (ms.length + 1) vm2 (ms ++ [.pointer pm]) :: own 28 2 rs.length vw (refsV (rs.map sideR)) :: p :: z :: R :: Z :: q :: F, rfl, ImpS.sb (by ((refine Sb.c (Tk.t Tk.h) ?_; refine Sb.c (Tk.t Tk.h) ?_; refine Sb.c (Tk.t Tk.h) ?_; refine Sb.c Tk.h ?_; refine Sb.c Tk.h ?_; refine Sb.c Tk.h ?_; refine Sb.c Tk.h ?_; refine Sb.c Tk.h ?_; refine Sb.c Tk.h ?_; refine Sb.c Tk.h ?_); (exact Sb.r))), ?_⟩
          refine GW.one (i := 7) (by kernel_rfl) rfl ?_
          refine GO.appendOwn (m := 1) (news := [i64 (sideO o1 : Nat), x]) rfl rfl rfl (Tk.t (Tk.t (Tk.t (Tk.t Tk.h)))) (Tk.t Tk.h) rfl (by simp [hx]; rfl) ⟨by decide, rfl⟩ Nat.one_pos (by unfold maxLen; omega) (by omega) fun vw2 => ?_
          refine GO.ownOne Tk.h fun how2 => ?_
          refine GO.nil ⟨rfl, _, pt bs2 (row [i64 (sideO o1 : Nat), x] 28) :: pt bs1 (row [.pointer pm] 27) :: own 27 1 (ms.length + 1) vm2 (ms ++ [.pointer pm]) :: own 28 2 (rs.length + 1) vw2 (refsV (rs.map sideR) ++ [i64 (sideO o1 : Nat), x]) :: p :: z :: R :: Z :: q :: F, rfl, ImpS.sb (by ((refine Sb.c (Tk.t Tk.h) ?_; refine Sb.c (Tk.t Tk.h) ?_; refine Sb.c (Tk.t Tk.h) ?_; refine Sb.c (Tk.t Tk.h) ?_; refine Sb.c Tk.h ?_; refine Sb.c Tk.h ?_; refine Sb.c Tk.h ?_; refine Sb.c Tk.h ?_; refine Sb.c Tk.h ?_; refine Sb.c Tk.h ?_); (exact Sb.r))), ?_⟩
          exact GW.nil ⟨vm2, vw2, hom2, how2, by (refine SubE.c rfl rfl ?_; refine SubE.c rfl rfl ?_; refine SubE.c rfl rfl ?_; refine SubE.c rfl rfl ?_; exact SubE.n), ImpS.sb (by ((refine Sb.c (Tk.t (Tk.t (Tk.t Tk.h))) ?_; refine Sb.c (Tk.t (Tk.t (Tk.t Tk.h))) ?_; refine Sb.c (Tk.t (Tk.t (Tk.t Tk.h))) ?_; refine Sb.c (Tk.t (Tk.t (Tk.t Tk.h))) ?_; refine Sb.c (Tk.t (Tk.t (Tk.t Tk.h))) ?_; refine Sb.c (Tk.t (Tk.t (Tk.t Tk.h))) ?_; refine Sb.c (Tk.t (Tk.t (Tk.t Tk.h))) ?_); (refine Sb.s ?_; refine Sb.s ?_; refine Sb.s ?_; exact Sb.r)))⟩
      · refine GO.buildSlice1 rfl rfl (by simp [Value.cells]) rfl ⟨by omega, by omega⟩ fun bs2 => ?_
        rw [show putParts [Value.agg #[i64 (sideO o1 : Nat), x]] = [i64 (sideO o1 : Nat), x] by simp [putParts, Value.cells]]
        refine GO.nil ⟨rfl, _, pt bs2 (row [i64 (sideO o1 : Nat), x] 28) :: own 27 1 ms.length vm ms :: own 28 2 rs.length vw (refsV (rs.map sideR)) :: p :: z :: R :: Z :: q :: F, rfl, ImpS.sb (by ((refine Sb.c (Tk.t Tk.h) ?_; refine Sb.c Tk.h ?_; refine Sb.c Tk.h ?_; refine Sb.c Tk.h ?_; refine Sb.c Tk.h ?_; refine Sb.c Tk.h ?_; refine Sb.c Tk.h ?_; refine Sb.c Tk.h ?_; refine Sb.c Tk.h ?_); (exact Sb.r))), ?_⟩
        refine GW.one (i := 2) (by kernel_rfl) rfl ?_
        refine GO.buildSlice1 rfl rfl (by simp [Value.cells]) rfl ⟨by omega, by omega⟩ fun bs1 => ?_
        rw [show putParts [Value.pointer pm] = [.pointer pm] by simp [putParts, Value.cells]]
        refine GO.nil ⟨rfl, _, pt bs1 (row [.pointer pm] 27) :: pt bs2 (row [i64 (sideO o1 : Nat), x] 28) :: own 27 1 ms.length vm ms :: own 28 2 rs.length vw (refsV (rs.map sideR)) :: p :: z :: R :: Z :: q :: F, rfl, ImpS.sb (by ((refine Sb.c (Tk.t Tk.h) ?_; refine Sb.c Tk.h ?_; refine Sb.c Tk.h ?_; refine Sb.c Tk.h ?_; refine Sb.c Tk.h ?_; refine Sb.c Tk.h ?_; refine Sb.c Tk.h ?_; refine Sb.c Tk.h ?_; refine Sb.c Tk.h ?_; refine Sb.c Tk.h ?_); (exact Sb.r))), ?_⟩
        refine GW.one (i := 3) (by kernel_rfl) rfl ?_
        refine GO.appendOwn (m := 1) (news := [.pointer pm]) rfl rfl rfl (Tk.t (Tk.t (Tk.t Tk.h))) (Tk.t Tk.h) rfl (by simp [Value.oneCell']) ⟨by decide, rfl⟩ Nat.one_pos (by unfold maxLen; omega) (by omega) fun vm2 => ?_
        refine GO.ownOne Tk.h fun hom2 => ?_
        refine GO.nil ⟨rfl, _, pt bs1 (row [.pointer pm] 27) :: pt bs2 (row [i64 (sideO o1 : Nat), x] 28) :: own 27 1 (ms.length + 1) vm2 (ms ++ [.pointer pm]) :: own 28 2 rs.length vw (refsV (rs.map sideR)) :: p :: z :: R :: Z :: q :: F, rfl, ImpS.sb (by ((refine Sb.c (Tk.t Tk.h) ?_; refine Sb.c (Tk.t Tk.h) ?_; refine Sb.c (Tk.t Tk.h) ?_; refine Sb.c Tk.h ?_; refine Sb.c Tk.h ?_; refine Sb.c Tk.h ?_; refine Sb.c Tk.h ?_; refine Sb.c Tk.h ?_; refine Sb.c Tk.h ?_; refine Sb.c Tk.h ?_); (exact Sb.r))), ?_⟩
        refine GW.one (i := 7) (by kernel_rfl) rfl ?_
        refine GO.appendOwn (m := 1) (news := [i64 (sideO o1 : Nat), x]) rfl rfl rfl (Tk.t (Tk.t (Tk.t (Tk.t Tk.h)))) (Tk.t (Tk.t Tk.h)) rfl (by simp [hx]; rfl) ⟨by decide, rfl⟩ Nat.one_pos (by unfold maxLen; omega) (by omega) fun vw2 => ?_
        refine GO.ownOne Tk.h fun how2 => ?_
        refine GO.nil ⟨rfl, _, pt bs1 (row [.pointer pm] 27) :: pt bs2 (row [i64 (sideO o1 : Nat), x] 28) :: own 27 1 (ms.length + 1) vm2 (ms ++ [.pointer pm]) :: own 28 2 (rs.length + 1) vw2 (refsV (rs.map sideR) ++ [i64 (sideO o1 : Nat), x]) :: p :: z :: R :: Z :: q :: F, rfl, ImpS.sb (by ((refine Sb.c (Tk.t Tk.h) ?_; refine Sb.c (Tk.t Tk.h) ?_; refine Sb.c (Tk.t Tk.h) ?_; refine Sb.c (Tk.t Tk.h) ?_; refine Sb.c Tk.h ?_; refine Sb.c Tk.h ?_; refine Sb.c Tk.h ?_; refine Sb.c Tk.h ?_; refine Sb.c Tk.h ?_; refine Sb.c Tk.h ?_); (exact Sb.r))), ?_⟩
        exact GW.nil ⟨vm2, vw2, hom2, how2, by (refine SubE.c rfl rfl ?_; refine SubE.c rfl rfl ?_; refine SubE.c rfl rfl ?_; refine SubE.c rfl rfl ?_; exact SubE.n), ImpS.sb (by ((refine Sb.c (Tk.t (Tk.t (Tk.t Tk.h))) ?_; refine Sb.c (Tk.t (Tk.t (Tk.t Tk.h))) ?_; refine Sb.c (Tk.t (Tk.t (Tk.t Tk.h))) ?_; refine Sb.c (Tk.t (Tk.t (Tk.t Tk.h))) ?_; refine Sb.c (Tk.t (Tk.t (Tk.t Tk.h))) ?_; refine Sb.c (Tk.t (Tk.t (Tk.t Tk.h))) ?_; refine Sb.c (Tk.t (Tk.t (Tk.t Tk.h))) ?_); (refine Sb.s ?_; refine Sb.s ?_; refine Sb.s ?_; exact Sb.r)))⟩
    · rintro L' H' ⟨vm2, vw2, hom2, how2, hL, hH⟩
      refine GO.keep hH (GO.sub hL Sb.r ?_)
      rw [← hml2, hrs2, ← hrl2]
      refine GO.merge (x := p) (y := R) (Tks.c (Tk.t (Tk.t Tk.h)) (Tks.c (Tk.t (Tk.t (Tk.t Tk.h))) Tks.n)) ?_
      refine GO.merge (x := z) (y := Z) (Tks.c (Tk.t (Tk.t (Tk.t Tk.h))) (Tks.c (Tk.t (Tk.t (Tk.t Tk.h))) Tks.n)) ?_
      (refine GO.assign rfl rfl ?_; refine GO.assign rfl rfl ?_; refine GO.nil ?_; refine kblock_n ?_; refine kthen_n ?_; refine G.region ?_; refine GO.move rfl rfl ?_; refine GO.addi rfl rfl rfl (by omega) ?_; refine GO.assign rfl rfl ?_; refine GO.nil ?_; refine kthen_n ?_)
      refine ⟨(i + 1, vm2, vw2, ms ++ [.pointer pm], rs ++ [(o1, x)], star [p, R], star [z, Z]), ⟨by dsimp only; omega, by dsimp only; omega, hch2, hom2, how2⟩, by dsimp only; omega, ?_, ?_⟩
      · (refine SubE.c rfl rfl ?_; refine SubE.c rfl rfl ?_; refine SubE.c rfl rfl ?_; refine SubE.c rfl rfl ?_; exact SubE.n)
      · ((refine Sb.c (Tk.t (Tk.t Tk.h)) ?_; refine Sb.c (Tk.t (Tk.t Tk.h)) ?_; refine Sb.c (Tk.t Tk.h) ?_; refine Sb.c Tk.h ?_; refine Sb.c Tk.h ?_); (exact Sb.r))
  · obtain rfl : i = l.length := by omega
    have hEE : decide (chainE (rs.map (·.1)) ≠ chainE (rs.map (·.1))) = false := decide_eq_false (fun h => h rfl)
    (refine G.exit ?_; refine kthen_x ?_; refine kthen_x ?_; refine kblock_x ?_; refine kthen_n ?_; refine G.seq ?_; refine G.region ?_; refine GO.move rfl rfl ?_)
    refine GO.ownSlK (el := 27) (sz := 1) (n := ms.length) (v := vm) (xs := ms) Tk.h fun hsl hsc => ?_
    refine GO.ownSlK (el := 28) (sz := 2) (n := rs.length) (v := vw) (xs := refsV (rs.map sideR)) (Tk.t Tk.h) fun hslR _ => ?_
    refine GO.call1 rfl rfl (pChain q R (own 27 1 ms.length vm ms) hq vm ms (rs.map (·.1)) hsl hsc (by rw [List.length_map, hch.len]) (by omega) (fun k m' o' a1 a2 => by rw [List.getElem?_map] at a2; obtain ⟨p', a3, rfl⟩ := Option.map_eq_some_iff.1 a2; exact (hch.at' k m' p' a1 a3).1) (fun o' ho' => by obtain ⟨p', a3, rfl⟩ := List.mem_map.1 ho'; obtain ⟨k, a4⟩ := List.getElem?_of_mem a3; have a5 := (List.getElem?_eq_some_iff.1 a4).1; exact (hch.at' k _ p' (List.getElem?_eq_getElem (by rw [hch.len]; exact a5)) a4).2.2.2.1)) (Tks.c (Tk.t (Tk.t Tk.h)) (Tks.c Tk.h (Tks.c (Tk.t (Tk.t Tk.h)) Tks.n))) ?_
    rintro _ _ ⟨mc, pc, rfl, hpc, rfl⟩
    (refine GO.move rfl rfl ?_; refine GO.extract rfl rfl rfl ?_; refine GO.extract rfl rfl rfl ?_; refine GO.assign rfl rfl ?_; refine GO.assign rfl rfl ?_; refine GO.nil ?_; refine kthen_n ?_; refine G.seq ?_; refine G.region ?_; refine GO.move rfl rfl ?_)
    refine GO.call1 rfl rfl (rChain Z (own 28 2 rs.length vw (refsV (rs.map sideR))) vw rs (rs.map (·.1)) rfl hslR (by omega) (fun p' hp' => by obtain ⟨k, a4⟩ := List.getElem?_of_mem hp'; have a5 := (List.getElem?_eq_some_iff.1 a4).1; have a6 := hch.at' k _ p' (List.getElem?_eq_getElem (by rw [hch.len]; exact a5)) a4; exact ⟨a6.2.1, a6.2.2.1, a6.2.2.2.1⟩)) (Tks.c (Tk.t (Tk.t (Tk.t (Tk.t (Tk.t Tk.h))))) (Tks.c (Tk.t (Tk.t (Tk.t (Tk.t Tk.h)))) Tks.n)) ?_
    rintro _ _ ⟨_, Z1, rfl, hrw, hsup, rfl⟩
    obtain ⟨xw, rfl, hxw⟩ := hrw.slR
    have hwc := WfM.chain (os := rs.map (·.1)) (fun o' ho' => by obtain ⟨p', a3, rfl⟩ := List.mem_map.1 ho'; obtain ⟨k, a4⟩ := List.getElem?_of_mem a3; have a5 := (List.getElem?_eq_some_iff.1 a4).1; exact (hch.at' k _ p' (List.getElem?_eq_getElem (by rw [hch.len]; exact a5)) a4).2.2.2.1)
    generalize chainO (rs.map (·.1)) = o2 at hpc hrw hwc ⊢
    generalize chainE (rs.map (·.1)) = E at hEE ⊢
    (refine GO.move rfl rfl ?_; refine GO.extract rfl rfl rfl ?_; refine GO.extract rfl rfl rfl ?_; refine GO.alloc rfl fun b10 => ?_; refine GO.storeW rfl rfl Tk.h ⟨rfl, rfl⟩ (by simp [Value.oneCell']; assumption) ?_; refine GO.assign rfl rfl ?_; refine GO.nil ?_; refine kthen_n ?_; refine G.seq ?_; refine G.seq ?_; refine G.region ?_; refine GO.move rfl rfl ?_; refine GO.move rfl rfl ?_; refine GO.neF rfl rfl rfl rfl ?_; refine GO.move rfl rfl ?_; refine GO.gT rfl rfl rfl ?_; refine GO.move rfl rfl ?_; refine GO.gT rfl rfl rfl ?_; refine GO.loadW rfl rfl rfl Tk.h rfl ?_; refine GO.gT rfl rfl rfl ?_)
    refine GO.call2 rfl rfl rfl (osame_spec pc Z1 q hq mc _ o2 hpc.has hrw hwc.wf (cells_fit o2)) (Tks.c (Tk.t (Tk.t (Tk.t Tk.h))) (Tks.c (Tk.t Tk.h) (Tks.c (Tk.t (Tk.t (Tk.t (Tk.t Tk.h)))) Tks.n))) ?_
    rintro _ _ ⟨rfl, rfl⟩
    (refine GO.gT rfl rfl rfl ?_; refine GO.not rfl rfl ?_; refine GO.pickF rfl rfl rfl ?_; refine GO.nil ?_; refine kthen_n ?_; refine G.condF rfl rfl ?_; refine G.skip ?_; refine kthen_n ?_; refine G.seq ?_; refine G.seq ?_; refine G.region ?_; refine GO.move rfl rfl ?_)
    rcases hpc with ⟨_, rfl⟩ | ⟨s2, X2, b2, _, rfl, rfl⟩
    · (refine GO.neqNilP rfl rfl ?_; refine GO.nil ?_; refine kthen_n ?_; refine G.condF rfl rfl ?_; refine G.skip ?_; refine kthen_n ?_; refine G.seq ?_; refine G.seq ?_; refine G.region ?_; refine GO.assign rfl rfl ?_; refine GO.nil ?_; refine kthen_n ?_; refine G.block ?_)
      refine G.loop (fun k : Nat => [(0, .slice a l.length cap), (3, vm), (4, vw), (12, i64 k)]) (fun _ => own 27 1 ms.length vm ms :: own 28 2 rs.length vw (refsV (rs.map sideR)) :: R :: Z1 :: q :: F) (fun k => k ≤ l.length) (fun k => l.length - k) 0 (by omega) ?_ ?_ ?_
      · (refine SubE.c rfl rfl ?_; refine SubE.c rfl rfl ?_; refine SubE.c rfl rfl ?_; refine SubE.c rfl rfl ?_; exact SubE.n)
      · ((refine Sb.c (Tk.t (Tk.t (Tk.t (Tk.t (Tk.t (Tk.t Tk.h)))))) ?_; refine Sb.c (Tk.t (Tk.t (Tk.t (Tk.t Tk.h)))) ?_; refine Sb.c (Tk.t (Tk.t (Tk.t (Tk.t Tk.h)))) ?_; refine Sb.c (Tk.t Tk.h) ?_; refine Sb.c (Tk.t Tk.h) ?_); (refine Sb.s ?_; refine Sb.s ?_; exact Sb.r))
      rintro k hk
      (refine G.seq ?_; refine G.seq ?_; refine G.region ?_; refine GO.move rfl rfl ?_; refine GO.move rfl rfl ?_; refine GO.lenS rfl rfl ?_; refine GO.lti rfl rfl rfl ?_; refine GO.nil ?_; refine kthen_n ?_)
      refine G.condD rfl (fun hlt => ?_) (fun hge => ?_)
      · have hk2 : k < l.length := by omega
        obtain ⟨m, hm⟩ : ∃ m, ms[k]? = some m := ⟨_, List.getElem?_eq_getElem (by omega)⟩
        obtain ⟨p', hp'⟩ : ∃ p', rs[k]? = some p' := ⟨_, List.getElem?_eq_getElem (by omega)⟩
        obtain ⟨hK, hRk, hx1, hwk, _⟩ := hch.at' k m p' hm hp'
        have hg2 : (rs.map sideR)[k]? = some (sideR p') := by rw [List.getElem?_map, hp']; rfl
        have hml3 : k < ms.length := by omega
        have hrl3 : k < rs.length := by omega
        refine G.ownForm (by omega) Tk.h fun bo1 cap1 e1 _ _ _ => ?_
        subst e1
        refine G.ownForm (by omega) (Tk.t Tk.h) fun bo2 cap2 e2 _ _ _ => ?_
        subst e2
        have rd1 : Rd (own 27 1 ms.length (.slice (some ⟨bo1, 0, none⟩) ms.length cap1) ms) ⟨bo1, 0 + k * 1, none⟩ m := by
          rw [Nat.zero_add, Nat.mul_one]
          exact Rd.own hm
        have rd2 : Rd (own 28 2 rs.length (.slice (some ⟨bo2, 0, none⟩) rs.length cap2) (refsV (rs.map sideR))) ⟨bo2, 0 + k * 2, none⟩ (i64 (sideO p'.1 : Nat)) := by
          rw [Nat.zero_add]
          exact Rd.own (refsV_get hg2).1
        have rd3 : Rd (own 28 2 rs.length (.slice (some ⟨bo2, 0, none⟩) rs.length cap2) (refsV (rs.map sideR))) ⟨bo2, 0 + k * 2 + 1, none⟩ p'.2 := by
          rw [Nat.zero_add]
          exact Rd.own (refsV_get hg2).2
        (refine G.skip ?_; refine kthen_n ?_; refine G.seq ?_; refine G.block ?_; refine G.seq ?_)
        refine G.draw 8 (by kernel_rfl) ?_
        ((apply GQ.step; focus (intro Z; refine GO.move rfl rfl ?_; exact KQ.z)); (apply GQ.step; focus (intro Z; refine GO.move rfl rfl ?_; exact KQ.z)); (apply GQ.step; focus (intro Z; refine GO.idxS rfl rfl rfl ⟨rfl, by omega⟩ ?_; exact KQ.z)); (apply GQ.step; focus (intro Z; refine GO.loadQ rfl rfl rfl Tk.h (by assumption) ?_; exact KQ.z)); (apply GQ.step; focus (intro Z; refine GO.move rfl rfl ?_; exact KQ.z)); (apply GQ.step; focus (intro Z; refine GO.move rfl rfl ?_; exact KQ.z)); (apply GQ.step; focus (intro Z; refine GO.idxS rfl rfl rfl ⟨rfl, by omega⟩ ?_; exact KQ.z)); (apply GQ.step; focus (intro Z; refine GO.load2 rfl rfl rfl (Tk.t Tk.h) (by assumption) (by assumption) ?_; exact KQ.z)); refine GQ.nil ?_)
        skip
        refine GO.call2 rfl rfl rfl (osame_spec R Z1 q hq m _ p'.1 hK.1 (hRk.sup hsup) hwk.wf (cells_fit p'.1)) (Tks.c (Tk.t (Tk.t Tk.h)) (Tks.c (Tk.t (Tk.t Tk.h)) (Tks.c (Tk.t (Tk.t Tk.h)) Tks.n))) ?_
        rintro _ _ ⟨rfl, rfl⟩
        (refine GO.assign rfl rfl ?_; refine GO.nil ?_; refine kthen_n ?_; refine G.seq ?_; refine G.region ?_; refine GO.move rfl rfl ?_; refine GO.not rfl rfl ?_; refine GO.nil ?_; refine kthen_n ?_; refine G.condF rfl rfl ?_; refine G.skip ?_; refine kblock_n ?_; refine kthen_n ?_; refine G.region ?_; refine GO.move rfl rfl ?_; refine GO.addi rfl rfl rfl (by omega) ?_; refine GO.assign rfl rfl ?_; refine GO.nil ?_; refine kthen_n ?_)
        refine ⟨k + 1, by omega, by omega, ?_, ?_⟩
        · (refine SubE.c rfl rfl ?_; refine SubE.c rfl rfl ?_; refine SubE.c rfl rfl ?_; refine SubE.c rfl rfl ?_; exact SubE.n)
        · ((refine Sb.c (Tk.t (Tk.t (Tk.t Tk.h))) ?_; refine Sb.c (Tk.t (Tk.t (Tk.t Tk.h))) ?_; refine Sb.c Tk.h ?_; refine Sb.c Tk.h ?_; refine Sb.c Tk.h ?_); (exact Sb.r))
      · (refine G.exit ?_; refine kthen_x ?_; refine kthen_x ?_; refine kblock_x ?_; refine kthen_n ?_; refine G.seq ?_; refine G.region ?_)
        refine GO.call0 rfl (pawake_spec q hq) (Tks.c (Tk.t (Tk.t (Tk.t (Tk.t Tk.h)))) Tks.n) ?_
        rintro _ _ ⟨rfl, rfl⟩
        (refine GO.assign rfl rfl ?_; refine GO.nil ?_; refine kthen_n ?_; refine G.ret ?_)
        refine KF2.r1 rfl (RV.t rfl) ⟨rfl, rfl⟩ (ImpS.sb ?_)
        ((refine Sb.c Tk.h ?_); (refine Sb.s ?_; refine Sb.s ?_; refine Sb.s ?_; refine Sb.s ?_; exact Sb.r))
    · (refine GO.neqNilP rfl rfl ?_; refine GO.nil ?_; refine kthen_n ?_; refine G.condT rfl rfl ?_; refine G.region ?_; refine GO.move rfl rfl ?_)
      refine GO.call3 rfl rfl rfl rfl (set_mat s2 b2 X2 0 0 (by have := hwc s2 X2 (by assumption); omega)) (Tks.c Tk.h Tks.n) ?_
      rintro _ _ (⟨_, _, _, _, _, _, rfl, rfl⟩ | ⟨_, rfl, rfl⟩)
      · (refine GO.nil ?_; refine kthen_n ?_; refine G.seq ?_; refine G.seq ?_; refine G.region ?_; refine GO.assign rfl rfl ?_; refine GO.nil ?_; refine kthen_n ?_; refine G.block ?_)
        refine G.loop (fun k : Nat => [(0, .slice a l.length cap), (3, vm), (4, vw), (12, i64 k)]) (fun _ => own 27 1 ms.length vm ms :: own 28 2 rs.length vw (refsV (rs.map sideR)) :: R :: Z1 :: q :: F) (fun k => k ≤ l.length) (fun k => l.length - k) 0 (by omega) ?_ ?_ ?_
        · (refine SubE.c rfl rfl ?_; refine SubE.c rfl rfl ?_; refine SubE.c rfl rfl ?_; refine SubE.c rfl rfl ?_; exact SubE.n)
        · ((refine Sb.c (Tk.t (Tk.t (Tk.t (Tk.t (Tk.t (Tk.t Tk.h)))))) ?_; refine Sb.c (Tk.t (Tk.t (Tk.t (Tk.t Tk.h)))) ?_; refine Sb.c (Tk.t (Tk.t (Tk.t (Tk.t Tk.h)))) ?_; refine Sb.c (Tk.t Tk.h) ?_; refine Sb.c (Tk.t Tk.h) ?_); (refine Sb.s ?_; refine Sb.s ?_; exact Sb.r))
        rintro k hk
        (refine G.seq ?_; refine G.seq ?_; refine G.region ?_; refine GO.move rfl rfl ?_; refine GO.move rfl rfl ?_; refine GO.lenS rfl rfl ?_; refine GO.lti rfl rfl rfl ?_; refine GO.nil ?_; refine kthen_n ?_)
        refine G.condD rfl (fun hlt => ?_) (fun hge => ?_)
        · have hk2 : k < l.length := by omega
          obtain ⟨m, hm⟩ : ∃ m, ms[k]? = some m := ⟨_, List.getElem?_eq_getElem (by omega)⟩
          obtain ⟨p', hp'⟩ : ∃ p', rs[k]? = some p' := ⟨_, List.getElem?_eq_getElem (by omega)⟩
          obtain ⟨hK, hRk, hx1, hwk, _⟩ := hch.at' k m p' hm hp'
          have hg2 : (rs.map sideR)[k]? = some (sideR p') := by rw [List.getElem?_map, hp']; rfl
          have hml3 : k < ms.length := by omega
          have hrl3 : k < rs.length := by omega
          refine G.ownForm (by omega) Tk.h fun bo1 cap1 e1 _ _ _ => ?_
          subst e1
          refine G.ownForm (by omega) (Tk.t Tk.h) fun bo2 cap2 e2 _ _ _ => ?_
          subst e2
          have rd1 : Rd (own 27 1 ms.length (.slice (some ⟨bo1, 0, none⟩) ms.length cap1) ms) ⟨bo1, 0 + k * 1, none⟩ m := by
            rw [Nat.zero_add, Nat.mul_one]
            exact Rd.own hm
          have rd2 : Rd (own 28 2 rs.length (.slice (some ⟨bo2, 0, none⟩) rs.length cap2) (refsV (rs.map sideR))) ⟨bo2, 0 + k * 2, none⟩ (i64 (sideO p'.1 : Nat)) := by
            rw [Nat.zero_add]
            exact Rd.own (refsV_get hg2).1
          have rd3 : Rd (own 28 2 rs.length (.slice (some ⟨bo2, 0, none⟩) rs.length cap2) (refsV (rs.map sideR))) ⟨bo2, 0 + k * 2 + 1, none⟩ p'.2 := by
            rw [Nat.zero_add]
            exact Rd.own (refsV_get hg2).2
          (refine G.skip ?_; refine kthen_n ?_; refine G.seq ?_; refine G.block ?_; refine G.seq ?_)
          refine G.draw 8 (by kernel_rfl) ?_
          ((apply GQ.step; focus (intro Z; refine GO.move rfl rfl ?_; exact KQ.z)); (apply GQ.step; focus (intro Z; refine GO.move rfl rfl ?_; exact KQ.z)); (apply GQ.step; focus (intro Z; refine GO.idxS rfl rfl rfl ⟨rfl, by omega⟩ ?_; exact KQ.z)); (apply GQ.step; focus (intro Z; refine GO.loadQ rfl rfl rfl Tk.h (by assumption) ?_; exact KQ.z)); (apply GQ.step; focus (intro Z; refine GO.move rfl rfl ?_; exact KQ.z)); (apply GQ.step; focus (intro Z; refine GO.move rfl rfl ?_; exact KQ.z)); (apply GQ.step; focus (intro Z; refine GO.idxS rfl rfl rfl ⟨rfl, by omega⟩ ?_; exact KQ.z)); (apply GQ.step; focus (intro Z; refine GO.load2 rfl rfl rfl (Tk.t Tk.h) (by assumption) (by assumption) ?_; exact KQ.z)); refine GQ.nil ?_)
          skip
          refine GO.call2 rfl rfl rfl (osame_spec R Z1 q hq m _ p'.1 hK.1 (hRk.sup hsup) hwk.wf (cells_fit p'.1)) (Tks.c (Tk.t (Tk.t Tk.h)) (Tks.c (Tk.t (Tk.t Tk.h)) (Tks.c (Tk.t (Tk.t Tk.h)) Tks.n))) ?_
          rintro _ _ ⟨rfl, rfl⟩
          (refine GO.assign rfl rfl ?_; refine GO.nil ?_; refine kthen_n ?_; refine G.seq ?_; refine G.region ?_; refine GO.move rfl rfl ?_; refine GO.not rfl rfl ?_; refine GO.nil ?_; refine kthen_n ?_; refine G.condF rfl rfl ?_; refine G.skip ?_; refine kblock_n ?_; refine kthen_n ?_; refine G.region ?_; refine GO.move rfl rfl ?_; refine GO.addi rfl rfl rfl (by omega) ?_; refine GO.assign rfl rfl ?_; refine GO.nil ?_; refine kthen_n ?_)
          refine ⟨k + 1, by omega, by omega, ?_, ?_⟩
          · (refine SubE.c rfl rfl ?_; refine SubE.c rfl rfl ?_; refine SubE.c rfl rfl ?_; refine SubE.c rfl rfl ?_; exact SubE.n)
          · ((refine Sb.c (Tk.t (Tk.t (Tk.t Tk.h))) ?_; refine Sb.c (Tk.t (Tk.t (Tk.t Tk.h))) ?_; refine Sb.c Tk.h ?_; refine Sb.c Tk.h ?_; refine Sb.c Tk.h ?_); (exact Sb.r))
        · (refine G.exit ?_; refine kthen_x ?_; refine kthen_x ?_; refine kblock_x ?_; refine kthen_n ?_; refine G.seq ?_; refine G.region ?_)
          refine GO.call0 rfl (pawake_spec q hq) (Tks.c (Tk.t (Tk.t (Tk.t (Tk.t Tk.h)))) Tks.n) ?_
          rintro _ _ ⟨rfl, rfl⟩
          (refine GO.assign rfl rfl ?_; refine GO.nil ?_; refine kthen_n ?_; refine G.ret ?_)
          refine KF2.r1 rfl (RV.t rfl) ⟨rfl, rfl⟩ (ImpS.sb ?_)
          ((refine Sb.c Tk.h ?_); (refine Sb.s ?_; refine Sb.s ?_; refine Sb.s ?_; refine Sb.s ?_; exact Sb.r))
      · (refine GO.nil ?_; refine kthen_n ?_; refine G.seq ?_; refine G.seq ?_; refine G.region ?_; refine GO.assign rfl rfl ?_; refine GO.nil ?_; refine kthen_n ?_; refine G.block ?_)
        refine G.loop (fun k : Nat => [(0, .slice a l.length cap), (3, vm), (4, vw), (12, i64 k)]) (fun _ => own 27 1 ms.length vm ms :: own 28 2 rs.length vw (refsV (rs.map sideR)) :: R :: Z1 :: q :: F) (fun k => k ≤ l.length) (fun k => l.length - k) 0 (by omega) ?_ ?_ ?_
        · (refine SubE.c rfl rfl ?_; refine SubE.c rfl rfl ?_; refine SubE.c rfl rfl ?_; refine SubE.c rfl rfl ?_; exact SubE.n)
        · ((refine Sb.c (Tk.t (Tk.t (Tk.t (Tk.t (Tk.t (Tk.t Tk.h)))))) ?_; refine Sb.c (Tk.t (Tk.t (Tk.t (Tk.t Tk.h)))) ?_; refine Sb.c (Tk.t (Tk.t (Tk.t (Tk.t Tk.h)))) ?_; refine Sb.c (Tk.t Tk.h) ?_; refine Sb.c (Tk.t Tk.h) ?_); (refine Sb.s ?_; refine Sb.s ?_; exact Sb.r))
        rintro k hk
        (refine G.seq ?_; refine G.seq ?_; refine G.region ?_; refine GO.move rfl rfl ?_; refine GO.move rfl rfl ?_; refine GO.lenS rfl rfl ?_; refine GO.lti rfl rfl rfl ?_; refine GO.nil ?_; refine kthen_n ?_)
        refine G.condD rfl (fun hlt => ?_) (fun hge => ?_)
        · have hk2 : k < l.length := by omega
          obtain ⟨m, hm⟩ : ∃ m, ms[k]? = some m := ⟨_, List.getElem?_eq_getElem (by omega)⟩
          obtain ⟨p', hp'⟩ : ∃ p', rs[k]? = some p' := ⟨_, List.getElem?_eq_getElem (by omega)⟩
          obtain ⟨hK, hRk, hx1, hwk, _⟩ := hch.at' k m p' hm hp'
          have hg2 : (rs.map sideR)[k]? = some (sideR p') := by rw [List.getElem?_map, hp']; rfl
          have hml3 : k < ms.length := by omega
          have hrl3 : k < rs.length := by omega
          refine G.ownForm (by omega) Tk.h fun bo1 cap1 e1 _ _ _ => ?_
          subst e1
          refine G.ownForm (by omega) (Tk.t Tk.h) fun bo2 cap2 e2 _ _ _ => ?_
          subst e2
          have rd1 : Rd (own 27 1 ms.length (.slice (some ⟨bo1, 0, none⟩) ms.length cap1) ms) ⟨bo1, 0 + k * 1, none⟩ m := by
            rw [Nat.zero_add, Nat.mul_one]
            exact Rd.own hm
          have rd2 : Rd (own 28 2 rs.length (.slice (some ⟨bo2, 0, none⟩) rs.length cap2) (refsV (rs.map sideR))) ⟨bo2, 0 + k * 2, none⟩ (i64 (sideO p'.1 : Nat)) := by
            rw [Nat.zero_add]
            exact Rd.own (refsV_get hg2).1
          have rd3 : Rd (own 28 2 rs.length (.slice (some ⟨bo2, 0, none⟩) rs.length cap2) (refsV (rs.map sideR))) ⟨bo2, 0 + k * 2 + 1, none⟩ p'.2 := by
            rw [Nat.zero_add]
            exact Rd.own (refsV_get hg2).2
          (refine G.skip ?_; refine kthen_n ?_; refine G.seq ?_; refine G.block ?_; refine G.seq ?_)
          refine G.draw 8 (by kernel_rfl) ?_
          ((apply GQ.step; focus (intro Z; refine GO.move rfl rfl ?_; exact KQ.z)); (apply GQ.step; focus (intro Z; refine GO.move rfl rfl ?_; exact KQ.z)); (apply GQ.step; focus (intro Z; refine GO.idxS rfl rfl rfl ⟨rfl, by omega⟩ ?_; exact KQ.z)); (apply GQ.step; focus (intro Z; refine GO.loadQ rfl rfl rfl Tk.h (by assumption) ?_; exact KQ.z)); (apply GQ.step; focus (intro Z; refine GO.move rfl rfl ?_; exact KQ.z)); (apply GQ.step; focus (intro Z; refine GO.move rfl rfl ?_; exact KQ.z)); (apply GQ.step; focus (intro Z; refine GO.idxS rfl rfl rfl ⟨rfl, by omega⟩ ?_; exact KQ.z)); (apply GQ.step; focus (intro Z; refine GO.load2 rfl rfl rfl (Tk.t Tk.h) (by assumption) (by assumption) ?_; exact KQ.z)); refine GQ.nil ?_)
          skip
          refine GO.call2 rfl rfl rfl (osame_spec R Z1 q hq m _ p'.1 hK.1 (hRk.sup hsup) hwk.wf (cells_fit p'.1)) (Tks.c (Tk.t (Tk.t Tk.h)) (Tks.c (Tk.t (Tk.t Tk.h)) (Tks.c (Tk.t (Tk.t Tk.h)) Tks.n))) ?_
          rintro _ _ ⟨rfl, rfl⟩
          (refine GO.assign rfl rfl ?_; refine GO.nil ?_; refine kthen_n ?_; refine G.seq ?_; refine G.region ?_; refine GO.move rfl rfl ?_; refine GO.not rfl rfl ?_; refine GO.nil ?_; refine kthen_n ?_; refine G.condF rfl rfl ?_; refine G.skip ?_; refine kblock_n ?_; refine kthen_n ?_; refine G.region ?_; refine GO.move rfl rfl ?_; refine GO.addi rfl rfl rfl (by omega) ?_; refine GO.assign rfl rfl ?_; refine GO.nil ?_; refine kthen_n ?_)
          refine ⟨k + 1, by omega, by omega, ?_, ?_⟩
          · (refine SubE.c rfl rfl ?_; refine SubE.c rfl rfl ?_; refine SubE.c rfl rfl ?_; refine SubE.c rfl rfl ?_; exact SubE.n)
          · ((refine Sb.c (Tk.t (Tk.t (Tk.t Tk.h))) ?_; refine Sb.c (Tk.t (Tk.t (Tk.t Tk.h))) ?_; refine Sb.c Tk.h ?_; refine Sb.c Tk.h ?_; refine Sb.c Tk.h ?_); (exact Sb.r))
        · (refine G.exit ?_; refine kthen_x ?_; refine kthen_x ?_; refine kblock_x ?_; refine kthen_n ?_; refine G.seq ?_; refine G.region ?_)
          refine GO.call0 rfl (pawake_spec q hq) (Tks.c (Tk.t (Tk.t (Tk.t (Tk.t Tk.h)))) Tks.n) ?_
          rintro _ _ ⟨rfl, rfl⟩
          (refine GO.assign rfl rfl ?_; refine GO.nil ?_; refine kthen_n ?_; refine G.ret ?_)
          refine KF2.r1 rfl (RV.t rfl) ⟨rfl, rfl⟩ (ImpS.sb ?_)
          ((refine Sb.c Tk.h ?_); (refine Sb.s ?_; refine Sb.s ?_; refine Sb.s ?_; refine Sb.s ?_; exact Sb.r))
end Go.Proofs.YtpemblhbfafmpaaDoor
namespace Go.Proofs.YtpemblhbfafmpaaDoor
open Go Go.ChangeShapes Go.WideShapes Go.ChangeAt Go.RowKit Go.Deep
theorem two_of {α : Type} {l : List α} (h : l.length = 2) : ∃ x y, l = [x, y] := by
  cases l with
  | nil => cases h
  | cons x l => cases l with
    | nil => cases h
    | cons y l => cases l with
      | nil => exact ⟨x, y, rfl⟩
      | cons z l => simp at h
theorem wf_le {n : Int} (h : (Lit.int .i64 n).wf = true) : ¬ 9223372036854775807 < n := by
  unfold Lit.wf at h
  rw [Bool.and_eq_true] at h
  have h2 := of_decide_eq_true h.2
  rw [show IntKind.i64.max = 9223372036854775807 by rfl] at h2
  omega
section
variable {H : Type} {enc : TypeId × Value → H} {w : World} {base : Nat} {spare : Nat → Bool} {held : Bool}
theorem open_cellsC {fuel : Nat} {v : Value} {x : DataW H × List MemPlace} (h : DataW.trod enc Tryd.prog w base spare held fuel 22 [v] = some x) :
    ∃ cs : List (Int × Int), SlC (init w) v cs := by
  obtain ⟨cs, ⟨a, cap, rfl, h1, h2⟩, _⟩ := open_cells h
  refine ⟨cs, a, cap, rfl, ?_, h2⟩
  rcases open_slice_fields Tryd.underlying22 Tryd.underlying70 (by kernel_rfl) (by kernel_rfl) h with ⟨hc, _⟩ | ⟨a', len, cap', m, D, Pl, hc, _, hl, _⟩
  · simp only [List.cons.injEq, and_true] at hc
    injection hc with _ e1 e2
    omega
  · simp only [List.cons.injEq, and_true] at hc
    injection hc with _ e1 e2
    omega
theorem open_grid {fuel : Nat} {cs : Array Value} {x : DataW H × List MemPlace} (h : DataW.trod enc Tryd.prog w base spare held fuel 24 (Value.agg cs).cells.toList = some x) :
    ∃ g : Int × List Cl, GridR (init w) (.agg cs) g := by
  have hC : Tryd.prog.cellsOf 24 = 2 := by kernel_rfl
  have hC3 : Tryd.prog.cellsOf 3 = 1 := by kernel_rfl
  have hCp : Tryd.prog.cellsOf 22 = 1 := by kernel_rfl
  obtain ⟨ys, n, _, rfl, hl, hyl, hf⟩ := DataW.trod_struct Tryd.underlying24 h
  have hcs : (Value.agg cs).cells = cs := rfl
  rw [hcs] at hl hf
  rw [hC] at hl
  obtain ⟨c0, c1, e⟩ := two_of hl
  obtain rfl : cs = [c0, c1].toArray := by rw [← e]
  have f0 := hf 0 { name := "Side", type := 3, offset := 0, embedded := false, tag := "", pkgPath := "", byteOffset := 0 } rfl
  have f1 := hf 1 { name := "Cells", type := 22, offset := 1, embedded := false, tag := "", pkgPath := "", byteOffset := 8 } rfl
  dsimp only at f0 f1
  rw [hC3] at f0
  rw [hCp] at f1
  have y0 : ∃ y, ys[0]? = some y := ⟨ys[0]'(by rw [hyl]; decide), List.getElem?_eq_getElem _⟩
  have y1 : ∃ y, ys[1]? = some y := ⟨ys[1]'(by rw [hyl]; decide), List.getElem?_eq_getElem _⟩
  obtain ⟨y0, g0⟩ := y0
  obtain ⟨y1, g1⟩ := y1
  rw [g0] at f0
  rw [g1] at f1
  obtain ⟨k, hk, _⟩ := DataW.trod_int Tryd.underlying3 f0
  have hk : c0 = i64 k := by simpa using hk
  subst hk
  obtain ⟨ps, h1⟩ := open_cellsC f1
  exact ⟨(k, ps), c1, rfl, h1⟩
end
end Go.Proofs.YtpemblhbfafmpaaDoor
namespace Go.Proofs.YtpemblhbfafmpaaDoor
open Go Go.ChangeShapes Go.WideShapes Go.ChangeAt Go.RowKit Go.Deep
section
variable {H : Type} {enc : TypeId × Value → H} {w : World} {base : Nat} {spare : Nat → Bool} {held : Bool}
theorem open_grids {fuel : Nat} {v : Value} {x : DataW H × List MemPlace} (h : DataW.trod enc Tryd.prog w base spare held fuel 45 [v] = some x) :
    ∃ (l : List (Int × Value)) (cs : Nat → List Cl), GridsR (init w) v l cs := by
  rcases open_slice_fields Tryd.underlying45 Tryd.underlying24 (by kernel_rfl) (by kernel_rfl) h with ⟨hc, _⟩ | ⟨a, len, cap, m, D, Pl, hc, _, hl, hm, hmm, _, hi⟩
  · simp only [List.cons.injEq, and_true] at hc
    subst hc
    exact ⟨[], fun _ => [], ⟨⟨none, 0, rfl, rfl, fun h => by simp at h⟩, fun k p hk => by simp at hk⟩⟩
  · simp only [List.cons.injEq, and_true] at hc
    subst hc
    have key : ∀ i, ∃ y : (Int × Value) × List Cl, i < len → w.cell? (a.add (i * 2)) = some (i64 y.1.1) ∧ w.cell? (a.add (i * 2 + 1)) = some y.1.2 ∧ SlC (init w) y.1.2 y.2 := by
      intro i
      by_cases hil : i < len
      · obtain ⟨ys, n, _, _, _, hf⟩ := hi i (by rw [hmm]; split <;> omega)
        obtain ⟨u0, y0, a0, _, t0⟩ := hf 0 _ rfl
        obtain ⟨u1, y1, a1, _, t1⟩ := hf 1 _ rfl
        obtain ⟨k, hk, _⟩ := DataW.trod_int Tryd.underlying3 t0
        simp only [List.cons.injEq, and_true] at hk
        subst hk
        obtain ⟨cs, hcs⟩ := open_cellsC t1
        exact ⟨((k, u1), cs), fun _ => ⟨a0, a1, hcs⟩⟩
      · exact ⟨((0, .slice none 0 0), []), fun h => absurd h hil⟩
    obtain ⟨f, hf⟩ := Classical.axiomOfChoice key
    have hlen : ((List.range len).map fun i => (f i).1).length = len := by simp
    have hget : ∀ k, k < len → ((List.range len).map fun i => (f i).1)[k]? = some (f k).1 := fun k hk => by rw [List.getElem?_map, List.getElem?_range hk]; rfl
    refine ⟨(List.range len).map fun i => (f i).1, fun i => (f i).2, ⟨⟨some a, cap, by rw [hlen], gridsV_len _, fun hpos => ?_⟩, fun k p hk => ?_⟩⟩
    · rw [hlen] at hpos
      obtain ⟨b, o, sp⟩ := a
      have hsp : sp = none := by
        have := (hf 0 hpos).1
        simpa [Addr.add] using World.cell?_spot this
      subst hsp
      refine ⟨b, o, rfl, fun j u hj => ?_⟩
      have hjl : j < len * 2 := by
        have := (List.getElem?_eq_some_iff.1 hj).1
        rw [gridsV_len, hlen] at this; exact this
      obtain ⟨g1, g2⟩ := gridsV_get (hget (j / 2) (by omega))
      obtain ⟨c1, c2, _⟩ := hf (j / 2) (by omega)
      apply Rd.init
      rcases Nat.mod_two_eq_zero_or_one j with h | h
      · have e : j / 2 * 2 = j := by omega
        rw [e] at g1 c1
        rw [g1] at hj
        rw [add_plain] at c1
        rw [c1]; exact hj
      · have e : j / 2 * 2 + 1 = j := by omega
        rw [e] at g2 c2
        rw [g2] at hj
        rw [add_plain] at c2
        rw [c2]; exact hj
    · have hkl : k < len := by
        have := (List.getElem?_eq_some_iff.1 hk).1
        rw [hlen] at this; exact this
      rw [hget k hkl] at hk
      injection hk with hk
      subst hk
      exact (hf k hkl).2.2
end
end Go.Proofs.YtpemblhbfafmpaaDoor
