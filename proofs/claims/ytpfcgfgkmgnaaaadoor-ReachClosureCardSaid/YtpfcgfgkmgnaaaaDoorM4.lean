/-
  The references, matrices that may be none.
-/
import Derived.Test.YtpfcgfgkmgnaaaaDoorM3
namespace Go.Proofs.YtpfcgfgkmgnaaaaDoor
open Go
abbrev Cl := Int × Int
def ltC (p q : Cl) : Bool := decide (p.1 < q.1) || (decide (p.1 = q.1) && decide (p.2 < q.2))
def mrg : List Cl → List Cl → List Cl
  | [], ys => ys
  | xs, [] => xs
  | a :: xs, b :: ys => if ltC a b then a :: mrg xs (b :: ys) else if a = b then b :: mrg xs ys else b :: mrg (a :: xs) ys
termination_by xs ys => xs.length + ys.length
/-- Has the second one a cell that the first has not? -/
def mrgM : List Cl → List Cl → Bool
  | [], ys => !ys.isEmpty
  | _, [] => false
  | a :: xs, b :: ys => if ltC a b then mrgM xs (b :: ys) else if a = b then mrgM xs ys else true
termination_by xs ys => xs.length + ys.length
theorem mrg_nil (xs : List Cl) : mrg xs [] = xs := by cases xs <;> simp [mrg]
theorem mrg_nil' (ys : List Cl) : mrg [] ys = ys := by simp [mrg]
theorem mrgM_nil (xs : List Cl) : mrgM xs [] = false := by cases xs <;> simp [mrgM]
theorem mrgM_nil' (b : Cl) (ys : List Cl) : mrgM [] (b :: ys) = true := by simp [mrgM]
theorem mrg_lt {a b : Cl} {xs ys : List Cl} (h : ltC a b = true) : mrg (a :: xs) (b :: ys) = a :: mrg xs (b :: ys) := by rw [mrg, if_pos h]
theorem mrg_eq {a b : Cl} {xs ys : List Cl} (h : ltC a b = false) (e : a = b) : mrg (a :: xs) (b :: ys) = b :: mrg xs ys := by rw [mrg, if_neg (by simp [h]), if_pos e]
theorem mrg_gt {a b : Cl} {xs ys : List Cl} (h : ltC a b = false) (e : a ≠ b) : mrg (a :: xs) (b :: ys) = b :: mrg (a :: xs) ys := by rw [mrg, if_neg (by simp [h]), if_neg e]
theorem mrgM_lt {a b : Cl} {xs ys : List Cl} (h : ltC a b = true) : mrgM (a :: xs) (b :: ys) = mrgM xs (b :: ys) := by rw [mrgM, if_pos h]
theorem mrgM_eq {a b : Cl} {xs ys : List Cl} (h : ltC a b = false) (e : a = b) : mrgM (a :: xs) (b :: ys) = mrgM xs ys := by rw [mrgM, if_neg (by simp [h]), if_pos e]
theorem mrgM_gt {a b : Cl} {xs ys : List Cl} (h : ltC a b = false) (e : a ≠ b) : mrgM (a :: xs) (b :: ys) = true := by rw [mrgM, if_neg (by simp [h]), if_neg e]
theorem drop_at {α : Type} {l : List α} {k : Nat} {x : α} (h : l[k]? = some x) : l.drop k = x :: l.drop (k + 1) := by
  obtain ⟨hk, rfl⟩ := List.getElem?_eq_some_iff.1 h
  exact List.drop_eq_getElem_cons hk
theorem cellsV_snoc (l : List Cl) (p : Cl) : cellsV l ++ [i64 p.1, i64 p.2] = cellsV (l ++ [p]) := by simp [cellsV]
attribute [local irreducible] G GO GR GT GQ Fn FnV pt init exs pur sat own ImpS
theorem before_spec (p r : Cl) : Fn Tryd.prog 103 #[.agg #[i64 p.1, i64 p.2], .agg #[i64 r.1, i64 r.2]] [] (fun v Q => v = .bool (ltC p r) ∧ Q = []) := by
  obtain ⟨a, b⟩ := p
  obtain ⟨c, d⟩ := r
  refine Fn.mk2 Tryd.func103 rfl rfl fun w0 F => ?_
  unfold ltC
  dsimp only
  cases h1 : decide (a < c) with
  | true =>
    (refine G.seq ?_; refine G.region ?_; refine GO.box rfl rfl rfl fun b2 => ?_; refine GO.box rfl rfl rfl fun b3 => ?_; refine GO.assign rfl rfl ?_; refine GO.nil ?_; refine kthen_n ?_; refine G.seq ?_; refine G.region ?_; refine GO.fieldAddr rfl rfl ?_; refine GO.load1 rfl rfl rfl (Tk.t Tk.h) rfl ?_; refine GO.fieldAddr rfl rfl ?_; refine GO.load1 rfl rfl rfl Tk.h rfl ?_; refine GO.lti rfl rfl rfl ?_; refine GO.move rfl rfl ?_; refine GO.gF rfl rfl rfl (by assumption) ?_; refine GO.gF rfl rfl rfl (by assumption) ?_; refine GO.gF rfl rfl rfl (by assumption) ?_; refine GO.gF rfl rfl rfl (by assumption) ?_; refine GO.gF rfl rfl rfl (by assumption) ?_; refine GO.gF rfl rfl rfl (by assumption) ?_; refine GO.gU rfl rfl rfl ?_; refine GO.gU rfl rfl rfl ?_; refine GO.gU rfl rfl rfl ?_; refine GO.gU rfl rfl rfl ?_; refine GO.gU rfl rfl rfl ?_; refine GO.gF rfl rfl rfl (by assumption) ?_; refine GO.pickTa rfl rfl (by assumption) rfl ?_; refine GO.assign rfl rfl ?_; refine GO.nil ?_; refine kthen_n ?_; refine G.ret ?_)
    refine KF2.r1 rfl (RV.t rfl) ⟨by rw [Bool.true_or], rfl⟩ (ImpS.sb ?_)
    (skip; (refine Sb.s ?_; refine Sb.s ?_; exact Sb.r))
  | false =>
    cases h2 : decide (a = c) with
    | true =>
      (refine G.seq ?_; refine G.region ?_; refine GO.box rfl rfl rfl fun b2 => ?_; refine GO.box rfl rfl rfl fun b3 => ?_; refine GO.assign rfl rfl ?_; refine GO.nil ?_; refine kthen_n ?_; refine G.seq ?_; refine G.region ?_; refine GO.fieldAddr rfl rfl ?_; refine GO.load1 rfl rfl rfl (Tk.t Tk.h) rfl ?_; refine GO.fieldAddr rfl rfl ?_; refine GO.load1 rfl rfl rfl Tk.h rfl ?_; refine GO.lti rfl rfl rfl ?_; refine GO.move rfl rfl ?_; refine GO.gT rfl rfl (by assumption) ?_; refine GO.fieldAddr rfl rfl ?_; refine GO.gT rfl rfl (by assumption) ?_; refine GO.load1 rfl rfl rfl (Tk.t Tk.h) rfl ?_; refine GO.gT rfl rfl (by assumption) ?_; refine GO.fieldAddr rfl rfl ?_; refine GO.gT rfl rfl (by assumption) ?_; refine GO.load1 rfl rfl rfl Tk.h rfl ?_; refine GO.gT rfl rfl (by assumption) ?_; refine GO.eqi rfl rfl rfl ?_; refine GO.gT rfl rfl (by assumption) ?_; refine GO.move rfl rfl ?_; refine GO.gT rfl rfl (by assumption) ?_; refine GO.fieldAddr rfl rfl ?_; refine GO.gT rfl rfl (by assumption) ?_; refine GO.load1 rfl rfl rfl (Tk.t Tk.h) rfl ?_; refine GO.gT rfl rfl (by assumption) ?_; refine GO.fieldAddr rfl rfl ?_; refine GO.gT rfl rfl (by assumption) ?_; refine GO.load1 rfl rfl rfl Tk.h rfl ?_; refine GO.gT rfl rfl (by assumption) ?_; refine GO.lti rfl rfl rfl ?_; refine GO.gT rfl rfl (by assumption) ?_; refine GO.pickTa rfl rfl (by assumption) rfl ?_; refine GO.pickFa rfl rfl (by assumption) rfl ?_; refine GO.assign rfl rfl ?_; refine GO.nil ?_; refine kthen_n ?_; refine G.ret ?_)
      refine KF2.r1 rfl (RV.t rfl) ⟨by rw [Bool.false_or, Bool.true_and], rfl⟩ (ImpS.sb ?_)
      (skip; (refine Sb.s ?_; refine Sb.s ?_; exact Sb.r))
    | false =>
      (refine G.seq ?_; refine G.region ?_; refine GO.box rfl rfl rfl fun b2 => ?_; refine GO.box rfl rfl rfl fun b3 => ?_; refine GO.assign rfl rfl ?_; refine GO.nil ?_; refine kthen_n ?_; refine G.seq ?_; refine G.region ?_; refine GO.fieldAddr rfl rfl ?_; refine GO.load1 rfl rfl rfl (Tk.t Tk.h) rfl ?_; refine GO.fieldAddr rfl rfl ?_; refine GO.load1 rfl rfl rfl Tk.h rfl ?_; refine GO.lti rfl rfl rfl ?_; refine GO.move rfl rfl ?_; refine GO.gT rfl rfl (by assumption) ?_; refine GO.fieldAddr rfl rfl ?_; refine GO.gT rfl rfl (by assumption) ?_; refine GO.load1 rfl rfl rfl (Tk.t Tk.h) rfl ?_; refine GO.gT rfl rfl (by assumption) ?_; refine GO.fieldAddr rfl rfl ?_; refine GO.gT rfl rfl (by assumption) ?_; refine GO.load1 rfl rfl rfl Tk.h rfl ?_; refine GO.gT rfl rfl (by assumption) ?_; refine GO.eqi rfl rfl rfl ?_; refine GO.gT rfl rfl (by assumption) ?_; refine GO.move rfl rfl ?_; refine GO.gF rfl rfl rfl (by assumption) ?_; refine GO.gF rfl rfl rfl (by assumption) ?_; refine GO.gF rfl rfl rfl (by assumption) ?_; refine GO.gF rfl rfl rfl (by assumption) ?_; refine GO.gF rfl rfl rfl (by assumption) ?_; refine GO.gT rfl rfl (by assumption) ?_; refine GO.pickFa rfl rfl (by assumption) rfl ?_; refine GO.pickFa rfl rfl (by assumption) rfl ?_; refine GO.assign rfl rfl ?_; refine GO.nil ?_; refine kthen_n ?_; refine G.ret ?_)
      refine KF2.r1 rfl (RV.t rfl) ⟨by rw [Bool.false_or, Bool.false_and], rfl⟩ (ImpS.sb ?_)
      (skip; (refine Sb.s ?_; refine Sb.s ?_; exact Sb.r))
end Go.Proofs.YtpfcgfgkmgnaaaaDoor
namespace Go.Proofs.YtpfcgfgkmgnaaaaDoor
open Go
theorem EqR.celC {d : Nat} (p r : Cl) : EqR Tryd.prog (d + 2) 63 (.agg #[i64 p.1, i64 p.2]) (.agg #[i64 r.1, i64 r.2]) (decide (p = r)) := by
  have h := EqR.cell (d := d) (a := p.1) (b := p.2) (a' := r.1) (b' := r.2)
  rwa [show (decide (p.1 = r.1) && decide (p.2 = r.2)) = decide (p = r) by rw [Bool.eq_iff_iff, Bool.and_eq_true, decide_eq_true_iff, decide_eq_true_iff, decide_eq_true_iff]; exact ⟨fun h => Prod.ext h.1 h.2, fun h => by rw [h]; exact ⟨rfl, rfl⟩⟩] at h
attribute [local irreducible] G GO GR GT GQ Fn FnV pt init exs pur sat own ImpS cellsV
set_option maxHeartbeats 8000000 in
theorem merge_spec (R : HP) (va vb : Value) (la lb : List Cl) (ha : SlR R va la.length 2 (cellsV la)) (hb : SlR R vb lb.length 2 (cellsV lb)) (hn : (la.length + lb.length) * 16 ≤ 140737488355328) :
    Fn Tryd.prog 101 #[va, vb] [R] (fun r Q => ∃ v, r = .tuple #[v, .bool (mrgM la lb)] ∧ Q = [own 63 2 (mrg la lb).length v (cellsV (mrg la lb)), R]) := by
  obtain ⟨aa, ca, rfl, _, hra⟩ := ha
  obtain ⟨ab, cb, rfl, _, hrb⟩ := hb
  refine Fn.mk2 Tryd.func101 rfl rfl fun w0 F => ?_
  refine G.ownNil (T := 63) (sz := 2) ?_
  (refine G.seq ?_; refine G.region ?_; refine GO.assign rfl rfl ?_; refine GO.assign rfl rfl ?_; refine GO.nil ?_; refine kthen_n ?_; refine G.seq ?_; refine G.region ?_; refine GO.assign rfl rfl ?_; refine GO.nil ?_; refine kthen_n ?_; refine G.seq ?_; refine G.region ?_; refine GO.assign rfl rfl ?_; refine GO.nil ?_; refine kthen_n ?_; refine G.seq ?_; refine G.region ?_; refine GO.assign rfl rfl ?_; refine GO.assign rfl rfl ?_; refine GO.nil ?_; refine kthen_n ?_; refine G.seq ?_; refine G.block ?_)
  refine G.loop (fun st : Nat × Nat × Value × List Cl × Bool => [(0, .slice aa la.length ca), (1, .slice ab lb.length cb), (6, st.2.2.1), (7, .bool st.2.2.2.2), (8, i64 (st.1 : Nat)), (9, i64 (st.2.1 : Nat))])
    (fun st => own 63 2 st.2.2.2.1.length st.2.2.1 (cellsV st.2.2.2.1) :: R :: F)
    (fun st => st.1 ≤ la.length ∧ st.2.1 ≤ lb.length ∧ st.2.2.2.1 ++ mrg (la.drop st.1) (lb.drop st.2.1) = mrg la lb ∧ (st.2.2.2.2 || mrgM (la.drop st.1) (lb.drop st.2.1)) = mrgM la lb ∧ st.2.2.2.1.length ≤ st.1 + st.2.1)
    (fun st => (la.length - st.1) + (lb.length - st.2.1)) (0, 0, .slice none 0 0, [], false) ⟨Nat.zero_le _, Nat.zero_le _, rfl, rfl, Nat.le_refl _⟩ ?_ ?_ ?_
  · (refine SubE.c rfl rfl ?_; refine SubE.c rfl rfl ?_; refine SubE.c rfl rfl ?_; refine SubE.c rfl rfl ?_; refine SubE.c rfl rfl ?_; refine SubE.c rfl rfl ?_; exact SubE.n)
  · rw [show cellsV [] = [] by unfold cellsV; rfl]
    ((refine Sb.c Tk.h ?_; refine Sb.c Tk.h ?_); (exact Sb.r))
  rintro ⟨i, j, v, out, more⟩ ⟨hi, hj, hout, hmore, hlen⟩
  dsimp only at hi hj hout hmore hlen ⊢
  cases hx : la[i]? with
  | none =>
    have hil : i = la.length := by have := List.getElem?_eq_none_iff.1 hx; omega
    have hda : la.drop i = [] := List.drop_eq_nil_iff.2 (by omega)
    rw [hda] at hout hmore
    have d1 : decide ((i : Int) < (la.length : Int)) = false := decide_eq_false (by omega)
    cases hy : lb[j]? with
    | none =>
      have hjl : j = lb.length := by have := List.getElem?_eq_none_iff.1 hy; omega
      have hdb : lb.drop j = [] := List.drop_eq_nil_iff.2 (by omega)
      rw [hdb, mrg_nil, List.append_nil] at hout
      rw [hdb, mrgM_nil, Bool.or_false] at hmore
      have d2 : decide ((j : Int) < (lb.length : Int)) = false := decide_eq_false (by omega)
      (refine G.seq ?_; refine G.seq ?_; refine G.region ?_; refine GO.move rfl rfl ?_; refine GO.move rfl rfl ?_; refine GO.lenS rfl rfl ?_; refine GO.lti rfl rfl rfl ?_; refine GO.move rfl rfl ?_; refine GO.gT rfl rfl (by assumption) ?_; refine GO.move rfl rfl ?_; refine GO.gT rfl rfl (by assumption) ?_; refine GO.move rfl rfl ?_; refine GO.gT rfl rfl (by assumption) ?_; refine GO.lenS rfl rfl ?_; refine GO.gT rfl rfl (by assumption) ?_; refine GO.lti rfl rfl rfl ?_; refine GO.pickFa rfl rfl (by assumption) rfl ?_; refine GO.nil ?_; refine kthen_n ?_; refine G.condF rfl (by assumption) ?_; refine G.exit ?_; refine kthen_x ?_; refine kthen_x ?_; refine kblock_x ?_; refine kthen_n ?_; refine G.seq ?_; refine G.region ?_; refine GO.move rfl rfl ?_; refine GO.move rfl rfl ?_; refine GO.assign rfl rfl ?_; refine GO.assign rfl rfl ?_; refine GO.nil ?_; refine kthen_n ?_; refine G.ret ?_)
      refine KF2.r2 rfl (RV.t rfl) (RV.t rfl) ⟨v, by rw [hmore], rfl⟩ (ImpS.sb ?_)
      rw [← hout]
      ((refine Sb.c Tk.h ?_; refine Sb.c Tk.h ?_); (exact Sb.r))
    | some y =>
      have hjl := (List.getElem?_eq_some_iff.1 hy).1
      rw [drop_at hy] at hout hmore
      rw [mrg_nil'] at hout
      rw [mrgM_nil', Bool.or_true] at hmore
      have d2 : decide ((j : Int) < (lb.length : Int)) = true := decide_eq_true (by omega)
      have d3 : decide ((j : Int) = (lb.length : Int)) = false := decide_eq_false (by omega)
      obtain ⟨bb, ob, rfl, hr⟩ := hrb (by omega)
      have r1 : Rd R ⟨bb, ob + j * 2, none⟩ (i64 y.1) := hr _ _ (cellsV_get hy).1
      have r2 : Rd R ⟨bb, ob + j * 2 + 1, none⟩ (i64 y.2) := hr _ _ (cellsV_get hy).2
      (refine G.seq ?_; refine G.seq ?_; refine G.region ?_; refine GO.move rfl rfl ?_; refine GO.move rfl rfl ?_; refine GO.lenS rfl rfl ?_; refine GO.lti rfl rfl rfl ?_; refine GO.move rfl rfl ?_; refine GO.gT rfl rfl (by assumption) ?_; refine GO.move rfl rfl ?_; refine GO.gT rfl rfl (by assumption) ?_; refine GO.move rfl rfl ?_; refine GO.gT rfl rfl (by assumption) ?_; refine GO.lenS rfl rfl ?_; refine GO.gT rfl rfl (by assumption) ?_; refine GO.lti rfl rfl rfl ?_; refine GO.pickFa rfl rfl (by assumption) rfl ?_; refine GO.nil ?_; refine kthen_n ?_; refine G.condT rfl (by assumption) ?_; refine G.skip ?_; refine kthen_n ?_; refine G.block ?_; refine G.seq ?_; refine G.seq ?_)
      refine G.draw 21 (by kernel_rfl) ?_
      ((apply GQ.step; focus (intro Z; refine GO.move rfl rfl ?_; exact KQ.z)); (apply GQ.step; focus (intro Z; refine GO.move rfl rfl ?_; exact KQ.z)); (apply GQ.step; focus (intro Z; refine GO.lenS rfl rfl ?_; exact KQ.z)); (apply GQ.step; focus (intro Z; refine GO.eqi rfl rfl rfl ?_; exact KQ.z)); (apply GQ.step; focus (intro Z; refine GO.move rfl rfl ?_; exact KQ.z)); (apply GQ.step; focus (intro Z; refine GO.gT rfl rfl (by assumption) ?_; refine GO.move rfl rfl ?_; exact KQ.z)); (apply GQ.step; focus (intro Z; refine GO.gT rfl rfl (by assumption) ?_; refine GO.move rfl rfl ?_; exact KQ.z)); (apply GQ.step; focus (intro Z; refine GO.gT rfl rfl (by assumption) ?_; refine GO.lenS rfl rfl ?_; exact KQ.z)); (apply GQ.step; focus (intro Z; refine GO.gT rfl rfl (by assumption) ?_; refine GO.lti rfl rfl rfl ?_; exact KQ.z)); (apply GQ.step; focus (intro Z; refine GO.gT rfl rfl (by assumption) ?_; refine GO.move rfl rfl ?_; exact KQ.z)); (apply GQ.step; focus (intro Z; refine GO.gF rfl rfl rfl (by assumption) ?_; exact KQ.z)); (apply GQ.step; focus (intro Z; refine GO.gF rfl rfl rfl (by assumption) ?_; exact KQ.z)); (apply GQ.step; focus (intro Z; refine GO.gF rfl rfl rfl (by assumption) ?_; exact KQ.z)); (apply GQ.step; focus (intro Z; refine GO.gF rfl rfl rfl (by assumption) ?_; exact KQ.z)); (apply GQ.step; focus (intro Z; refine GO.gF rfl rfl rfl (by assumption) ?_; exact KQ.z)); (apply GQ.step; focus (intro Z; refine GO.gF rfl rfl rfl (by assumption) ?_; exact KQ.z)); (apply GQ.step; focus (intro Z; refine GO.gF rfl rfl rfl (by assumption) ?_; exact KQ.z)); (apply GQ.step; focus (intro Z; refine GO.gF rfl rfl rfl (by assumption) ?_; exact KQ.z)); (apply GQ.step; focus (intro Z; refine GO.gF rfl rfl rfl (by assumption) ?_; exact KQ.z)); (apply GQ.step; focus (intro Z; refine GO.gT rfl rfl (by assumption) ?_; refine GO.pickFa rfl rfl (by assumption) rfl ?_; exact KQ.z)); (apply GQ.step; focus (intro Z; refine GO.pickFa rfl rfl (by assumption) rfl ?_; exact KQ.z)); refine GQ.nil ?_)
      (refine GO.nil ?_; refine kthen_n ?_; refine G.condF rfl rfl ?_; refine G.skip ?_; refine kthen_n ?_; refine G.seq ?_; refine G.seq ?_)
      refine G.draw 15 (by kernel_rfl) ?_
      ((apply GQ.step; focus (intro Z; refine GO.move rfl rfl ?_; exact KQ.z)); (apply GQ.step; focus (intro Z; refine GO.move rfl rfl ?_; exact KQ.z)); (apply GQ.step; focus (intro Z; refine GO.lenS rfl rfl ?_; exact KQ.z)); (apply GQ.step; focus (intro Z; refine GO.lti rfl rfl rfl ?_; exact KQ.z)); (apply GQ.step; focus (intro Z; refine GO.move rfl rfl ?_; exact KQ.z)); (apply GQ.step; focus (intro Z; refine GO.gF rfl rfl rfl (by assumption) ?_; exact KQ.z)); (apply GQ.step; focus (intro Z; refine GO.gF rfl rfl rfl (by assumption) ?_; exact KQ.z)); (apply GQ.step; focus (intro Z; refine GO.gF rfl rfl rfl (by assumption) ?_; exact KQ.z)); (apply GQ.step; focus (intro Z; refine GO.gF rfl rfl rfl (by assumption) ?_; exact KQ.z)); (apply GQ.step; focus (intro Z; refine GO.gF rfl rfl rfl (by assumption) ?_; exact KQ.z)); (apply GQ.step; focus (intro Z; refine GO.gF rfl rfl rfl (by assumption) ?_; exact KQ.z)); (apply GQ.step; focus (intro Z; refine GO.gF rfl rfl rfl (by assumption) ?_; exact KQ.z)); (apply GQ.step; focus (intro Z; refine GO.gF rfl rfl rfl (by assumption) ?_; exact KQ.z)); (apply GQ.step; focus (intro Z; refine GO.gF rfl rfl rfl (by assumption) ?_; exact KQ.z)); (apply GQ.step; focus (intro Z; refine GO.pickFa rfl rfl (by assumption) rfl ?_; exact KQ.z)); refine GQ.nil ?_)
      (refine GO.nil ?_; refine kthen_n ?_; refine G.condF rfl rfl ?_; refine G.region ?_; refine GO.assign rfl rfl ?_; refine GO.nil ?_; refine kthen_n ?_; refine G.seq ?_; refine G.region ?_; refine GO.move rfl rfl ?_; refine GO.move rfl rfl ?_; refine GO.move rfl rfl ?_; refine GO.idxS rfl rfl rfl ⟨rfl, by omega⟩ ?_; refine GO.load2 rfl rfl rfl (Tk.t Tk.h) (by assumption) (by assumption) ?_)
      refine GO.buildSlice1 rfl rfl (by simp; rfl) rfl ⟨by omega, by omega⟩ fun bs => ?_
      refine GO.appendOwn (m := 1) (news := [i64 y.1, i64 y.2]) rfl rfl rfl (Tk.t Tk.h) Tk.h rfl (by simp [Value.oneCell']) ⟨by decide, rfl⟩ Nat.one_pos (by unfold maxLen; omega) (by omega) fun v4 => ?_
      rw [cellsV_snoc, show out.length + 1 = (out ++ [y]).length by rw [List.length_append]; rfl]
      (refine GO.assign rfl rfl ?_; refine GO.nil ?_; refine kthen_n ?_; refine G.region ?_; refine GO.move rfl rfl ?_; refine GO.addi rfl rfl rfl (by omega) ?_; refine GO.assign rfl rfl ?_; refine GO.nil ?_; refine kblock_n ?_; refine kthen_n ?_)
      refine ⟨(i, j + 1, v4, out ++ [y], true), ⟨by dsimp only; omega, by dsimp only; omega, by dsimp only; rw [hda, mrg_nil', List.append_assoc]; exact hout, by dsimp only; rw [Bool.true_or]; exact hmore, by dsimp only; rw [List.length_append, List.length_singleton]; omega⟩, by dsimp only; omega, ?_, ?_⟩
      · (refine SubE.c rfl rfl ?_; refine SubE.c rfl rfl ?_; refine SubE.c rfl rfl ?_; refine SubE.c rfl rfl ?_; refine SubE.c rfl rfl ?_; refine SubE.c rfl rfl ?_; exact SubE.n)
      · ((refine Sb.c Tk.h ?_; refine Sb.c (Tk.t Tk.h) ?_); (refine Sb.s ?_; exact Sb.r))
  | some x =>
    have hil := (List.getElem?_eq_some_iff.1 hx).1
    have d1 : decide ((i : Int) < (la.length : Int)) = true := decide_eq_true (by omega)
    have hdx := drop_at hx
    rw [hdx] at hout hmore
    obtain ⟨ba, oa, rfl, hrx⟩ := hra (by omega)
    have r1 : Rd R ⟨ba, oa + i * 2, none⟩ (i64 x.1) := hrx _ _ (cellsV_get hx).1
    have r2 : Rd R ⟨ba, oa + i * 2 + 1, none⟩ (i64 x.2) := hrx _ _ (cellsV_get hx).2
    cases hy : lb[j]? with
    | none =>
      have hjl : j = lb.length := by have := List.getElem?_eq_none_iff.1 hy; omega
      have hdb : lb.drop j = [] := List.drop_eq_nil_iff.2 (by omega)
      rw [hdb, mrg_nil] at hout
      rw [hdb, mrgM_nil] at hmore
      have d3 : decide ((j : Int) = (lb.length : Int)) = true := decide_eq_true (by omega)
      (refine G.seq ?_; refine G.seq ?_; refine G.region ?_; refine GO.move rfl rfl ?_; refine GO.move rfl rfl ?_; refine GO.lenS rfl rfl ?_; refine GO.lti rfl rfl rfl ?_; refine GO.move rfl rfl ?_; refine GO.gF rfl rfl rfl (by assumption) ?_; refine GO.gF rfl rfl rfl (by assumption) ?_; refine GO.gF rfl rfl rfl (by assumption) ?_; refine GO.gF rfl rfl rfl (by assumption) ?_; refine GO.pickTa rfl rfl (by assumption) rfl ?_; refine GO.nil ?_; refine kthen_n ?_; refine G.condT rfl rfl ?_; refine G.skip ?_; refine kthen_n ?_; refine G.block ?_; refine G.seq ?_; refine G.seq ?_)
      refine G.draw 21 (by kernel_rfl) ?_
      ((apply GQ.step; focus (intro Z; refine GO.move rfl rfl ?_; exact KQ.z)); (apply GQ.step; focus (intro Z; refine GO.move rfl rfl ?_; exact KQ.z)); (apply GQ.step; focus (intro Z; refine GO.lenS rfl rfl ?_; exact KQ.z)); (apply GQ.step; focus (intro Z; refine GO.eqi rfl rfl rfl ?_; exact KQ.z)); (apply GQ.step; focus (intro Z; refine GO.move rfl rfl ?_; exact KQ.z)); (apply GQ.step; focus (intro Z; refine GO.gF rfl rfl rfl (by assumption) ?_; exact KQ.z)); (apply GQ.step; focus (intro Z; refine GO.gF rfl rfl rfl (by assumption) ?_; exact KQ.z)); (apply GQ.step; focus (intro Z; refine GO.gF rfl rfl rfl (by assumption) ?_; exact KQ.z)); (apply GQ.step; focus (intro Z; refine GO.gF rfl rfl rfl (by assumption) ?_; exact KQ.z)); (apply GQ.step; focus (intro Z; refine GO.gF rfl rfl rfl (by assumption) ?_; exact KQ.z)); (apply GQ.step; focus (intro Z; refine GO.gU rfl rfl rfl ?_; exact KQ.z)); (apply GQ.step; focus (intro Z; refine GO.gU rfl rfl rfl ?_; exact KQ.z)); (apply GQ.step; focus (intro Z; refine GO.gU rfl rfl rfl ?_; exact KQ.z)); (apply GQ.step; focus (intro Z; refine GO.gU rfl rfl rfl ?_; exact KQ.z)); (apply GQ.step; focus (intro Z; refine GO.gU rfl rfl rfl ?_; exact KQ.z)); (apply GQ.step; focus (intro Z; refine GO.gU rfl rfl rfl ?_; exact KQ.z)); (apply GQ.step; focus (intro Z; refine GO.gU rfl rfl rfl ?_; exact KQ.z)); (apply GQ.step; focus (intro Z; refine GO.gU rfl rfl rfl ?_; exact KQ.z)); (apply GQ.step; focus (intro Z; refine GO.gU rfl rfl rfl ?_; exact KQ.z)); (apply GQ.step; focus (intro Z; refine GO.gF rfl rfl rfl (by assumption) ?_; exact KQ.z)); (apply GQ.step; focus (intro Z; refine GO.pickTa rfl rfl (by assumption) rfl ?_; exact KQ.z)); refine GQ.nil ?_)
      (refine GO.nil ?_; refine kthen_n ?_; refine G.condT rfl rfl ?_; refine G.seq ?_; refine G.region ?_; refine GO.move rfl rfl ?_; refine GO.move rfl rfl ?_; refine GO.move rfl rfl ?_; refine GO.idxS rfl rfl rfl ⟨rfl, by omega⟩ ?_; refine GO.load2 rfl rfl rfl (Tk.t Tk.h) (by assumption) (by assumption) ?_)
      refine GO.buildSlice1 rfl rfl (by simp; rfl) rfl ⟨by omega, by omega⟩ fun bs => ?_
      refine GO.appendOwn (m := 1) (news := [i64 x.1, i64 x.2]) rfl rfl rfl (Tk.t Tk.h) Tk.h rfl (by simp [Value.oneCell']) ⟨by decide, rfl⟩ Nat.one_pos (by unfold maxLen; omega) (by omega) fun v4 => ?_
      rw [cellsV_snoc, show out.length + 1 = (out ++ [x]).length by rw [List.length_append]; rfl]
      (refine GO.assign rfl rfl ?_; refine GO.nil ?_; refine kthen_n ?_; refine G.seq ?_; refine G.region ?_; refine GO.move rfl rfl ?_; refine GO.addi rfl rfl rfl (by omega) ?_; refine GO.assign rfl rfl ?_; refine GO.nil ?_; refine kthen_n ?_; refine G.exit ?_; refine kthen_x ?_; refine kblock_x ?_; refine kthen_n ?_)
      refine ⟨(i + 1, j, v4, out ++ [x], more), ⟨by dsimp only; omega, by dsimp only; omega, by dsimp only; rw [hdb, mrg_nil, List.append_assoc]; exact hout, by dsimp only; rw [hdb, mrgM_nil]; exact hmore, by dsimp only; rw [List.length_append, List.length_singleton]; omega⟩, by dsimp only; omega, ?_, ?_⟩
      · (refine SubE.c rfl rfl ?_; refine SubE.c rfl rfl ?_; refine SubE.c rfl rfl ?_; refine SubE.c rfl rfl ?_; refine SubE.c rfl rfl ?_; refine SubE.c rfl rfl ?_; exact SubE.n)
      · ((refine Sb.c Tk.h ?_; refine Sb.c (Tk.t Tk.h) ?_); (refine Sb.s ?_; exact Sb.r))
    | some y =>
      have hjl := (List.getElem?_eq_some_iff.1 hy).1
      have hdy := drop_at hy
      rw [hdy] at hout hmore
      have d3 : decide ((j : Int) = (lb.length : Int)) = false := decide_eq_false (by omega)
      obtain ⟨bb, ob, rfl, hry⟩ := hrb (by omega)
      have r3 : Rd R ⟨bb, ob + j * 2, none⟩ (i64 y.1) := hry _ _ (cellsV_get hy).1
      have r4 : Rd R ⟨bb, ob + j * 2 + 1, none⟩ (i64 y.2) := hry _ _ (cellsV_get hy).2
      (refine G.seq ?_; refine G.seq ?_; refine G.region ?_; refine GO.move rfl rfl ?_; refine GO.move rfl rfl ?_; refine GO.lenS rfl rfl ?_; refine GO.lti rfl rfl rfl ?_; refine GO.move rfl rfl ?_; refine GO.gF rfl rfl rfl (by assumption) ?_; refine GO.gF rfl rfl rfl (by assumption) ?_; refine GO.gF rfl rfl rfl (by assumption) ?_; refine GO.gF rfl rfl rfl (by assumption) ?_; refine GO.pickTa rfl rfl (by assumption) rfl ?_; refine GO.nil ?_; refine kthen_n ?_; refine G.condT rfl rfl ?_; refine G.skip ?_; refine kthen_n ?_; refine G.block ?_; refine G.seq ?_; refine G.seq ?_)
      refine G.draw 21 (by kernel_rfl) ?_
      ((apply GQ.step; focus (intro Z; refine GO.move rfl rfl ?_; exact KQ.z)); (apply GQ.step; focus (intro Z; refine GO.move rfl rfl ?_; exact KQ.z)); (apply GQ.step; focus (intro Z; refine GO.lenS rfl rfl ?_; exact KQ.z)); (apply GQ.step; focus (intro Z; refine GO.eqi rfl rfl rfl ?_; exact KQ.z)); (apply GQ.step; focus (intro Z; refine GO.move rfl rfl ?_; exact KQ.z)); (apply GQ.step; focus (intro Z; refine GO.gT rfl rfl (by assumption) ?_; refine GO.move rfl rfl ?_; exact KQ.z)); (apply GQ.step; focus (intro Z; refine GO.gT rfl rfl (by assumption) ?_; refine GO.move rfl rfl ?_; exact KQ.z)); (apply GQ.step; focus (intro Z; refine GO.gT rfl rfl (by assumption) ?_; refine GO.lenS rfl rfl ?_; exact KQ.z)); (apply GQ.step; focus (intro Z; refine GO.gT rfl rfl (by assumption) ?_; refine GO.lti rfl rfl rfl ?_; exact KQ.z)); (apply GQ.step; focus (intro Z; refine GO.gT rfl rfl (by assumption) ?_; refine GO.move rfl rfl ?_; exact KQ.z)); (apply GQ.step; focus (intro Z; refine GO.gT rfl rfl (by assumption) ?_; refine GO.move rfl rfl ?_; exact KQ.z)); (apply GQ.step; focus (intro Z; refine GO.gT rfl rfl (by assumption) ?_; refine GO.move rfl rfl ?_; exact KQ.z)); (apply GQ.step; focus (intro Z; refine GO.gT rfl rfl (by assumption) ?_; refine GO.idxS rfl rfl rfl ⟨rfl, by omega⟩ ?_; exact KQ.z)); (apply GQ.step; focus (intro Z; refine GO.gT rfl rfl (by assumption) ?_; refine GO.load2 rfl rfl rfl (Tk.t Tk.h) (by assumption) (by assumption) ?_; exact KQ.z)); (apply GQ.step; focus (intro Z; refine GO.gT rfl rfl (by assumption) ?_; refine GO.move rfl rfl ?_; exact KQ.z)); (apply GQ.step; focus (intro Z; refine GO.gT rfl rfl (by assumption) ?_; refine GO.move rfl rfl ?_; exact KQ.z)); (apply GQ.step; focus (intro Z; refine GO.gT rfl rfl (by assumption) ?_; refine GO.idxS rfl rfl rfl ⟨rfl, by omega⟩ ?_; exact KQ.z)); (apply GQ.step; focus (intro Z; refine GO.gT rfl rfl (by assumption) ?_; refine GO.load2 rfl rfl rfl (Tk.t Tk.h) (by assumption) (by assumption) ?_; exact KQ.z)))
      apply GQ.step; focus (intro Z; refine GO.gT rfl rfl (by assumption) ?_; refine GO.call2 rfl rfl rfl (before_spec x y) Tks.n ?_; rintro _ _ ⟨rfl, rfl⟩; exact KQ.z)
      cases hl : ltC x y with
      | true =>
        rw [mrg_lt hl] at hout
        rw [mrgM_lt hl] at hmore
        ((apply GQ.step; focus (intro Z; refine GO.gT rfl rfl (by assumption) ?_; refine GO.pickTa rfl rfl (by assumption) rfl ?_; exact KQ.z)); (apply GQ.step; focus (intro Z; refine GO.pickFa rfl rfl (by assumption) rfl ?_; exact KQ.z)); refine GQ.nil ?_)
        (refine GO.nil ?_; refine kthen_n ?_; refine G.condT rfl rfl ?_; refine G.seq ?_; refine G.region ?_; refine GO.move rfl rfl ?_; refine GO.move rfl rfl ?_; refine GO.move rfl rfl ?_; refine GO.idxS rfl rfl rfl ⟨rfl, by omega⟩ ?_; refine GO.load2 rfl rfl rfl (Tk.t Tk.h) (by assumption) (by assumption) ?_)
        refine GO.buildSlice1 rfl rfl (by simp; rfl) rfl ⟨by omega, by omega⟩ fun bs => ?_
        refine GO.appendOwn (m := 1) (news := [i64 x.1, i64 x.2]) rfl rfl rfl (Tk.t Tk.h) Tk.h rfl (by simp [Value.oneCell']) ⟨by decide, rfl⟩ Nat.one_pos (by unfold maxLen; omega) (by omega) fun v4 => ?_
        rw [cellsV_snoc, show out.length + 1 = (out ++ [x]).length by rw [List.length_append]; rfl]
        (refine GO.assign rfl rfl ?_; refine GO.nil ?_; refine kthen_n ?_; refine G.seq ?_; refine G.region ?_; refine GO.move rfl rfl ?_; refine GO.addi rfl rfl rfl (by omega) ?_; refine GO.assign rfl rfl ?_; refine GO.nil ?_; refine kthen_n ?_; refine G.exit ?_; refine kthen_x ?_; refine kblock_x ?_; refine kthen_n ?_)
        refine ⟨(i + 1, j, v4, out ++ [x], more), ⟨by dsimp only; omega, by dsimp only; omega, by dsimp only; rw [hdy, List.append_assoc]; exact hout, by dsimp only; rw [hdy]; exact hmore, by dsimp only; rw [List.length_append, List.length_singleton]; omega⟩, by dsimp only; omega, ?_, ?_⟩
        · (refine SubE.c rfl rfl ?_; refine SubE.c rfl rfl ?_; refine SubE.c rfl rfl ?_; refine SubE.c rfl rfl ?_; refine SubE.c rfl rfl ?_; refine SubE.c rfl rfl ?_; exact SubE.n)
        · ((refine Sb.c Tk.h ?_; refine Sb.c (Tk.t Tk.h) ?_); (refine Sb.s ?_; exact Sb.r))
      | false =>
        ((apply GQ.step; focus (intro Z; refine GO.gT rfl rfl (by assumption) ?_; refine GO.pickTa rfl rfl (by assumption) rfl ?_; exact KQ.z)); (apply GQ.step; focus (intro Z; refine GO.pickFa rfl rfl (by assumption) rfl ?_; exact KQ.z)); refine GQ.nil ?_)
        (refine GO.nil ?_; refine kthen_n ?_; refine G.condF rfl rfl ?_; refine G.skip ?_; refine kthen_n ?_; refine G.seq ?_; refine G.seq ?_)
        refine G.draw 15 (by kernel_rfl) ?_
        ((apply GQ.step; focus (intro Z; refine GO.move rfl rfl ?_; exact KQ.z)); (apply GQ.step; focus (intro Z; refine GO.move rfl rfl ?_; exact KQ.z)); (apply GQ.step; focus (intro Z; refine GO.lenS rfl rfl ?_; exact KQ.z)); (apply GQ.step; focus (intro Z; refine GO.lti rfl rfl rfl ?_; exact KQ.z)); (apply GQ.step; focus (intro Z; refine GO.move rfl rfl ?_; exact KQ.z)); (apply GQ.step; focus (intro Z; refine GO.gT rfl rfl (by assumption) ?_; refine GO.move rfl rfl ?_; exact KQ.z)); (apply GQ.step; focus (intro Z; refine GO.gT rfl rfl (by assumption) ?_; refine GO.move rfl rfl ?_; exact KQ.z)); (apply GQ.step; focus (intro Z; refine GO.gT rfl rfl (by assumption) ?_; refine GO.idxS rfl rfl rfl ⟨rfl, by omega⟩ ?_; exact KQ.z)); (apply GQ.step; focus (intro Z; refine GO.gT rfl rfl (by assumption) ?_; refine GO.load2 rfl rfl rfl (Tk.t Tk.h) (by assumption) (by assumption) ?_; exact KQ.z)); (apply GQ.step; focus (intro Z; refine GO.gT rfl rfl (by assumption) ?_; refine GO.move rfl rfl ?_; exact KQ.z)); (apply GQ.step; focus (intro Z; refine GO.gT rfl rfl (by assumption) ?_; refine GO.move rfl rfl ?_; exact KQ.z)); (apply GQ.step; focus (intro Z; refine GO.gT rfl rfl (by assumption) ?_; refine GO.idxS rfl rfl rfl ⟨rfl, by omega⟩ ?_; exact KQ.z)); (apply GQ.step; focus (intro Z; refine GO.gT rfl rfl (by assumption) ?_; refine GO.load2 rfl rfl rfl (Tk.t Tk.h) (by assumption) (by assumption) ?_; exact KQ.z)))
        apply GQ.step; focus (intro Z; refine GO.gT rfl rfl (by assumption) ?_; refine GO.eqlA (EqR.celC x y) rfl rfl rfl ?_; exact KQ.z)
        by_cases he : x = y
        · rw [decide_eq_true he]
          rw [mrg_eq hl he] at hout
          rw [mrgM_eq hl he] at hmore
          ((apply GQ.step; focus (intro Z; refine GO.pickTa rfl rfl (by assumption) rfl ?_; exact KQ.z)); refine GQ.nil ?_)
          (refine GO.nil ?_; refine kthen_n ?_; refine G.condT rfl rfl ?_; refine G.region ?_; refine GO.move rfl rfl ?_; refine GO.addi rfl rfl rfl (by omega) ?_; refine GO.assign rfl rfl ?_; refine GO.nil ?_; refine kthen_n ?_; refine G.seq ?_; refine G.region ?_; refine GO.move rfl rfl ?_; refine GO.move rfl rfl ?_; refine GO.move rfl rfl ?_; refine GO.idxS rfl rfl rfl ⟨rfl, by omega⟩ ?_; refine GO.load2 rfl rfl rfl (Tk.t Tk.h) (by assumption) (by assumption) ?_)
          refine GO.buildSlice1 rfl rfl (by simp; rfl) rfl ⟨by omega, by omega⟩ fun bs => ?_
          refine GO.appendOwn (m := 1) (news := [i64 y.1, i64 y.2]) rfl rfl rfl (Tk.t Tk.h) Tk.h rfl (by simp [Value.oneCell']) ⟨by decide, rfl⟩ Nat.one_pos (by unfold maxLen; omega) (by omega) fun v4 => ?_
          rw [cellsV_snoc, show out.length + 1 = (out ++ [y]).length by rw [List.length_append]; rfl]
          (refine GO.assign rfl rfl ?_; refine GO.nil ?_; refine kthen_n ?_; refine G.region ?_; refine GO.move rfl rfl ?_; refine GO.addi rfl rfl rfl (by omega) ?_; refine GO.assign rfl rfl ?_; refine GO.nil ?_; refine kblock_n ?_; refine kthen_n ?_)
          refine ⟨(i + 1, j + 1, v4, out ++ [y], more), ⟨by dsimp only; omega, by dsimp only; omega, by dsimp only; rw [List.append_assoc]; exact hout, by dsimp only; exact hmore, by dsimp only; rw [List.length_append, List.length_singleton]; omega⟩, by dsimp only; omega, ?_, ?_⟩
          · (refine SubE.c rfl rfl ?_; refine SubE.c rfl rfl ?_; refine SubE.c rfl rfl ?_; refine SubE.c rfl rfl ?_; refine SubE.c rfl rfl ?_; refine SubE.c rfl rfl ?_; exact SubE.n)
          · ((refine Sb.c Tk.h ?_; refine Sb.c (Tk.t Tk.h) ?_); (refine Sb.s ?_; exact Sb.r))
        · rw [decide_eq_false he]
          rw [mrg_gt hl he] at hout
          rw [mrgM_gt hl he, Bool.or_true] at hmore
          ((apply GQ.step; focus (intro Z; refine GO.pickTa rfl rfl (by assumption) rfl ?_; exact KQ.z)); refine GQ.nil ?_)
          (refine GO.nil ?_; refine kthen_n ?_; refine G.condF rfl rfl ?_; refine G.region ?_; refine GO.assign rfl rfl ?_; refine GO.nil ?_; refine kthen_n ?_; refine G.seq ?_; refine G.region ?_; refine GO.move rfl rfl ?_; refine GO.move rfl rfl ?_; refine GO.move rfl rfl ?_; refine GO.idxS rfl rfl rfl ⟨rfl, by omega⟩ ?_; refine GO.load2 rfl rfl rfl (Tk.t Tk.h) (by assumption) (by assumption) ?_)
          refine GO.buildSlice1 rfl rfl (by simp; rfl) rfl ⟨by omega, by omega⟩ fun bs => ?_
          refine GO.appendOwn (m := 1) (news := [i64 y.1, i64 y.2]) rfl rfl rfl (Tk.t Tk.h) Tk.h rfl (by simp [Value.oneCell']) ⟨by decide, rfl⟩ Nat.one_pos (by unfold maxLen; omega) (by omega) fun v4 => ?_
          rw [cellsV_snoc, show out.length + 1 = (out ++ [y]).length by rw [List.length_append]; rfl]
          (refine GO.assign rfl rfl ?_; refine GO.nil ?_; refine kthen_n ?_; refine G.region ?_; refine GO.move rfl rfl ?_; refine GO.addi rfl rfl rfl (by omega) ?_; refine GO.assign rfl rfl ?_; refine GO.nil ?_; refine kblock_n ?_; refine kthen_n ?_)
          refine ⟨(i, j + 1, v4, out ++ [y], true), ⟨by dsimp only; omega, by dsimp only; omega, by dsimp only; rw [hdx, List.append_assoc]; exact hout, by dsimp only; rw [Bool.true_or]; exact hmore, by dsimp only; rw [List.length_append, List.length_singleton]; omega⟩, by dsimp only; omega, ?_, ?_⟩
          · (refine SubE.c rfl rfl ?_; refine SubE.c rfl rfl ?_; refine SubE.c rfl rfl ?_; refine SubE.c rfl rfl ?_; refine SubE.c rfl rfl ?_; refine SubE.c rfl rfl ?_; exact SubE.n)
          · ((refine Sb.c Tk.h ?_; refine Sb.c (Tk.t Tk.h) ?_); (refine Sb.s ?_; exact Sb.r))
end Go.Proofs.YtpfcgfgkmgnaaaaDoor
namespace Go.Proofs.YtpfcgfgkmgnaaaaDoor
open Go
def srt (l : List Cl) : List Cl := if l.length < 2 then l else mrg (srt (l.take (l.length / 2))) (srt (l.drop (l.length / 2)))
termination_by l.length
decreasing_by
  · rw [List.length_take]; omega
  · rw [List.length_drop]; omega
theorem srt_small {l : List Cl} (h : l.length < 2) : srt l = l := by rw [srt, if_pos h]
theorem srt_big {l : List Cl} (h : ¬ l.length < 2) : srt l = mrg (srt (l.take (l.length / 2))) (srt (l.drop (l.length / 2))) := by rw [srt, if_neg h]
theorem mrg_len : ∀ (n : Nat) (xs ys : List Cl), xs.length + ys.length ≤ n → (mrg xs ys).length ≤ xs.length + ys.length
  | _, [], ys, _ => by rw [mrg_nil']; simp
  | _, x :: xs, [], _ => by rw [mrg_nil]; simp
  | 0, x :: xs, y :: ys, h => by simp at h
  | n + 1, x :: xs, y :: ys, h => by
    simp only [List.length_cons] at h ⊢
    cases hl : ltC x y with
    | true =>
      rw [mrg_lt hl, List.length_cons]
      have := mrg_len n xs (y :: ys) (by simp only [List.length_cons]; omega)
      simp only [List.length_cons] at this
      omega
    | false =>
      by_cases e : x = y
      · rw [mrg_eq hl e, List.length_cons]
        have := mrg_len n xs ys (by omega)
        omega
      · rw [mrg_gt hl e, List.length_cons]
        have := mrg_len n (x :: xs) ys (by simp only [List.length_cons]; omega)
        simp only [List.length_cons] at this
        omega
theorem srt_len : ∀ (n : Nat) (l : List Cl), l.length ≤ n → (srt l).length ≤ l.length
  | 0, l, h => by rw [srt_small (by omega)]; exact Nat.le_refl _
  | n + 1, l, h => by
    by_cases h2 : l.length < 2
    · rw [srt_small h2]; exact Nat.le_refl _
    · rw [srt_big h2]
      have h3 := mrg_len _ (srt (l.take (l.length / 2))) (srt (l.drop (l.length / 2))) (Nat.le_refl _)
      have h4 := srt_len n (l.take (l.length / 2)) (by rw [List.length_take]; omega)
      have h5 := srt_len n (l.drop (l.length / 2)) (by rw [List.length_drop]; omega)
      rw [List.length_take] at h4
      rw [List.length_drop] at h5
      omega
/-- A slice of cells that can be read, its room at least its length. -/
def SlC (q : HP) (v : Value) (l : List Cl) : Prop := ∃ a cap, v = .slice a l.length cap ∧ l.length ≤ cap ∧ (0 < l.length → ∃ b o, a = some ⟨b, o, none⟩ ∧ ∀ j u, (cellsV l)[j]? = some u → Rd q ⟨b, o + j, none⟩ u)
theorem SlC.slR {q : HP} {v : Value} {l : List Cl} (h : SlC q v l) : SlR q v l.length 2 (cellsV l) := let ⟨a, cap, h1, _, h3⟩ := h; ⟨a, cap, h1, cellsV_len l, h3⟩
theorem cellsV_take {l : List Cl} {h j : Nat} {u : Value} (hu : (cellsV (l.take h))[j]? = some u) : (cellsV l)[j]? = some u := by
  have e : cellsV l = cellsV (l.take h) ++ cellsV (l.drop h) := by rw [← cellsV_app, List.take_append_drop]
  rw [e, List.getElem?_append_left (List.getElem?_eq_some_iff.1 hu).1]
  exact hu
theorem cellsV_drop {l : List Cl} {h j : Nat} {u : Value} (hh : h ≤ l.length) (hu : (cellsV (l.drop h))[j]? = some u) : (cellsV l)[h * 2 + j]? = some u := by
  have e : cellsV l = cellsV (l.take h) ++ cellsV (l.drop h) := by rw [← cellsV_app, List.take_append_drop]
  have hl : (cellsV (l.take h)).length = h * 2 := by rw [cellsV_len, List.length_take]; omega
  rw [e, List.getElem?_append_right (by omega), hl, show h * 2 + j - h * 2 = j by omega]
  exact hu
theorem Sl.slR {q : HP} {v : Value} {l : List Cl} (h : Sl q v l.length 2 (cellsV l)) : SlR q v l.length 2 (cellsV l) := h
theorem cellsV_ones (l : List Cl) : ∀ u ∈ cellsV l, u.oneCell' = true := by
  intro u hu
  obtain ⟨p, _, hp⟩ := List.mem_flatMap.1 hu
  simp at hp
  rcases hp with rfl | rfl <;> rfl
attribute [local irreducible] G GO GR GT GQ Fn FnV pt init exs pur sat own ImpS cellsV
set_option maxHeartbeats 8000000 in
theorem sorted_spec : ∀ (n : Nat) (l : List Cl), l.length ≤ n → ∀ (R : HP) (v : Value), SlC R v l → l.length * 16 ≤ 140737488355328 →
    Fn Tryd.prog 74 #[v] [R] (fun r Q => Q = [own 63 2 (srt l).length r (cellsV (srt l)), R]) := by
  intro n
  induction n with
  | zero =>
    intro l hl R v hv hb
    obtain rfl : l = [] := List.eq_nil_of_length_eq_zero (by omega)
    have hv2 := hv.slR
    obtain ⟨a, cap, rfl, hc, hr⟩ := hv
    refine Fn.mk2 Tryd.func74 rfl rfl fun w0 F => ?_
    rw [srt_small (by simp)]
    (refine G.seq ?_; refine G.region ?_; refine GO.assign rfl rfl ?_; refine GO.nil ?_; refine kthen_n ?_; refine G.seq ?_; refine G.seq ?_; refine G.region ?_; refine GO.move rfl rfl ?_; refine GO.lenS rfl rfl ?_; refine GO.lti rfl rfl rfl ?_; refine GO.nil ?_; refine kthen_n ?_; refine G.condT rfl rfl ?_; refine G.seq ?_; refine G.region ?_)
    refine GO.buildSlice0 rfl fun v16 => ?_
    (refine GO.move rfl rfl ?_)
    refine GO.appendFrom (m := ([] : List Cl).length) (q := R) rfl rfl rfl Tk.h Tk.h hv2 (cellsV_ones _) ⟨by decide, rfl⟩ (by decide) (by decide) fun v12 => ?_
    rw [List.nil_append, Nat.zero_add]
    (refine GO.assign rfl rfl ?_; refine GO.nil ?_; refine kthen_n ?_; refine G.ret ?_; refine kthen_r ?_)
    refine KF2.r1 rfl (RV.t rfl) rfl (ImpS.sb ?_)
    ((refine Sb.c Tk.h ?_; refine Sb.c Tk.h ?_); (exact Sb.r))
  | succ n ih =>
    intro l hl R v hv hb
    have hv2 := hv.slR
    obtain ⟨a, cap, rfl, hc, hr⟩ := hv
    refine Fn.mk2 Tryd.func74 rfl rfl fun w0 F => ?_
    (refine G.seq ?_; refine G.region ?_; refine GO.assign rfl rfl ?_; refine GO.nil ?_; refine kthen_n ?_; refine G.seq ?_; refine G.seq ?_; refine G.region ?_; refine GO.move rfl rfl ?_; refine GO.lenS rfl rfl ?_; refine GO.lti rfl rfl rfl ?_; refine GO.nil ?_; refine kthen_n ?_)
    refine G.condD rfl (fun hlt => ?_) (fun hge => ?_)
    · rw [srt_small (by omega)]
      (refine G.seq ?_; refine G.region ?_)
      refine GO.buildSlice0 rfl fun v16 => ?_
      (refine GO.move rfl rfl ?_)
      refine GO.appendFrom (m := l.length) (q := R) rfl rfl rfl Tk.h Tk.h hv2 (cellsV_ones _) ⟨by decide, rfl⟩ (by unfold maxLen; omega) (by omega) fun v12 => ?_
      rw [List.nil_append, Nat.zero_add]
      (refine GO.assign rfl rfl ?_; refine GO.nil ?_; refine kthen_n ?_; refine G.ret ?_; refine kthen_r ?_)
      refine KF2.r1 rfl (RV.t rfl) rfl (ImpS.sb ?_)
      ((refine Sb.c Tk.h ?_; refine Sb.c Tk.h ?_); (exact Sb.r))
    · obtain ⟨bo, oo, rfl, hrd⟩ := hr (by omega)
      rw [srt_big (by omega)]
      have hA := srt_len _ (l.take (l.length / 2)) (Nat.le_refl _)
      have hB := srt_len _ (l.drop (l.length / 2)) (Nat.le_refl _)
      have hlt : (l.take (l.length / 2)).length = l.length / 2 := by rw [List.length_take]; omega
      have hld : (l.drop (l.length / 2)).length = l.length - l.length / 2 := List.length_drop
      have s1 : SlC R (.slice (some ⟨bo, oo, none⟩) (l.length / 2) cap) (l.take (l.length / 2)) := ⟨_, _, by rw [hlt], by omega, fun _ => ⟨bo, oo, rfl, fun j u hj => hrd _ _ (cellsV_take hj)⟩⟩
      have s2 : SlC R (.slice (some ⟨bo, oo + l.length / 2 * 2, none⟩) (l.length - l.length / 2) (cap - l.length / 2)) (l.drop (l.length / 2)) := ⟨_, _, by rw [hld], by omega, fun _ => ⟨bo, _, rfl, fun j u hj => by rw [Nat.add_assoc]; exact hrd _ _ (cellsV_drop (by omega) hj)⟩⟩
      have i1 := ih (l.take (l.length / 2)) (by omega) R _ s1 (by omega)
      have i2 := ih (l.drop (l.length / 2)) (by omega) R _ s2 (by omega)
      generalize srt (l.take (l.length / 2)) = A at hA i1 ⊢
      generalize srt (l.drop (l.length / 2)) = B at hB i2 ⊢
      (refine G.skip ?_; refine kthen_n ?_; refine G.seq ?_)
      refine G.drawT 14 14368 [] (R :: F) (by kernel_rfl) (keys_of rfl) (ImpS.sb Sb.r) ?_
      ((apply GR.step rfl; focus (intro Z; refine GO.move rfl rfl ?_; exact KQ.z)); (apply GR.step rfl; focus (intro Z; refine GO.move rfl rfl ?_; exact KQ.z)); (apply GR.step rfl; focus (intro Z; refine GO.lenS rfl rfl ?_; exact KQ.z)); (apply GR.step rfl; focus (intro Z; refine GO.quoi rfl rfl rfl (by omega) ?_; exact KQ.z)))
      apply GR.step rfl; focus (intro Z; refine GO.sliceHi (l := l.length / 2) rfl rfl rfl ⟨by omega, by omega⟩ ?_; exact KQ.z)
      (refine GR.skip rfl ?_; (apply GR.step rfl; focus (intro Z; refine GO.move rfl rfl ?_; exact KQ.z)); (apply GR.step rfl; focus (intro Z; refine GO.move rfl rfl ?_; exact KQ.z)); (apply GR.step rfl; focus (intro Z; refine GO.lenS rfl rfl ?_; exact KQ.z)); (apply GR.step rfl; focus (intro Z; refine GO.quoi rfl rfl rfl (by omega) ?_; exact KQ.z)))
      apply GR.step rfl; focus (intro Z; refine GO.sliceLo (l := l.length / 2) rfl rfl rfl ⟨by omega, by omega, by omega⟩ ?_; exact KQ.z)
      (refine GR.skip rfl ?_; refine GR.skip rfl ?_; refine GR.skip rfl ?_; refine GR.nil ?_)
      (repeat refine GT.skip rfl ?_)
      refine GT.step rfl ?_
      refine GO.call1 rfl rfl (i1) (Tks.c Tk.h Tks.n) ?_
      rintro v3 _ rfl
      refine GO.nil ⟨rfl, _, own 63 2 A.length v3 (cellsV A) :: R :: F, rfl, ImpS.sb (by ((refine Sb.c Tk.h ?_; refine Sb.c Tk.h ?_); (exact Sb.r))), ?_⟩
      (repeat refine GT.skip rfl ?_)
      refine GT.step rfl ?_
      refine GO.call1 rfl rfl (i2) (Tks.c (Tk.t Tk.h) Tks.n) ?_
      rintro v4 _ rfl
      refine GO.nil ⟨rfl, _, own 63 2 B.length v4 (cellsV B) :: own 63 2 A.length v3 (cellsV A) :: R :: F, rfl, ImpS.sb (by ((refine Sb.c Tk.h ?_; refine Sb.c (Tk.t Tk.h) ?_; refine Sb.c Tk.h ?_); (exact Sb.r))), ?_⟩
      refine GT.step rfl ?_
      refine GO.assign rfl rfl ?_
      refine GO.nil ⟨rfl, _, _, rfl, ImpS.refl, ?_⟩
      refine GT.step rfl ?_
      refine GO.assign rfl rfl ?_
      refine GO.nil ⟨rfl, _, _, rfl, ImpS.refl, ?_⟩
      refine GT.nil ?_
      refine GO.ownSl Tk.h fun sl4 => ?_
      refine GO.ownSl (Tk.t Tk.h) fun sl3 => ?_
      (refine GO.nil ?_; refine kthen_n ?_; refine G.seq ?_; refine G.region ?_; refine GO.move rfl rfl ?_; refine GO.move rfl rfl ?_)
      refine GO.merge (x := own 63 2 A.length v3 (cellsV A)) (y := own 63 2 B.length v4 (cellsV B)) (Tks.c (Tk.t Tk.h) (Tks.c Tk.h Tks.n)) ?_
      refine GO.call2 rfl rfl rfl (merge_spec (star [own 63 2 A.length v3 (cellsV A), own 63 2 B.length v4 (cellsV B)]) v3 v4 A B (Sl.sup (Sup.left _ _) sl3) (Sl.sup (Sup.right _ _) sl4) (by omega)) (Tks.c Tk.h Tks.n) ?_
      rintro _ _ ⟨v, rfl, rfl⟩
      (refine GO.move rfl rfl ?_; refine GO.extract rfl rfl rfl ?_; refine GO.extract rfl rfl rfl ?_; refine GO.assign rfl rfl ?_; refine GO.assign rfl rfl ?_; refine GO.nil ?_; refine kthen_n ?_; refine G.seq ?_; refine G.region ?_; refine GO.move rfl rfl ?_; refine GO.assign rfl rfl ?_; refine GO.nil ?_; refine kthen_n ?_; refine G.ret ?_)
      refine KF2.r1 rfl (RV.t rfl) rfl (ImpS.sb ?_)
      ((refine Sb.c Tk.h ?_; refine Sb.c (Tk.t Tk.h) ?_); (refine Sb.s ?_; exact Sb.r))
end Go.Proofs.YtpfcgfgkmgnaaaaDoor
namespace Go.Proofs.YtpfcgfgkmgnaaaaDoor
open Go
theorem ltC_iff (p r : Cl) : ltC p r = true ↔ p.1 < r.1 ∨ (p.1 = r.1 ∧ p.2 < r.2) := by
  unfold ltC
  simp only [Bool.or_eq_true, Bool.and_eq_true, decide_eq_true_eq]
theorem ltC_trans {a b c : Cl} (h1 : ltC a b = true) (h2 : ltC b c = true) : ltC a c = true := by rw [ltC_iff] at *; omega
theorem ltC_asymm {a b : Cl} (h : ltC a b = true) : ¬ ltC b a = true := by rw [ltC_iff] at *; omega
theorem ltC_irr (a : Cl) : ¬ ltC a a = true := by rw [ltC_iff]; omega
theorem ltC_tri {a b : Cl} (h : ltC a b = false) (e : a ≠ b) : ltC b a = true := by
  have h1 : ¬ ltC a b = true := by rw [h]; simp
  rw [ltC_iff] at *
  have : ¬ (a.1 = b.1 ∧ a.2 = b.2) := fun h => e (Prod.ext h.1 h.2)
  omega
/-- Rising, each once. -/
def Up (l : List Cl) : Prop := l.Pairwise fun a b => ltC a b = true
theorem mrg_mem : ∀ (n : Nat) (xs ys : List Cl), xs.length + ys.length ≤ n → ∀ p, p ∈ mrg xs ys ↔ p ∈ xs ∨ p ∈ ys
  | _, [], ys, _, p => by rw [mrg_nil']; simp
  | _, x :: xs, [], _, p => by rw [mrg_nil]; simp
  | 0, x :: xs, y :: ys, h, p => by simp at h
  | n + 1, x :: xs, y :: ys, h, p => by
    simp only [List.length_cons] at h
    cases hl : ltC x y with
    | true =>
      have ih := mrg_mem n xs (y :: ys) (by simp only [List.length_cons]; omega) p
      rw [mrg_lt hl, List.mem_cons, ih, List.mem_cons, List.mem_cons]
      exact ⟨fun h => by rcases h with h | h | h | h <;> simp [h], fun h => by rcases h with (h | h) | h | h <;> simp [h]⟩
    | false =>
      by_cases e : x = y
      · have ih := mrg_mem n xs ys (by omega) p
        rw [mrg_eq hl e, List.mem_cons, ih, List.mem_cons, List.mem_cons, e]
        exact ⟨fun h => by rcases h with h | h | h <;> simp [h], fun h => by rcases h with (h | h) | h | h <;> simp [h]⟩
      · have ih := mrg_mem n (x :: xs) ys (by simp only [List.length_cons]; omega) p
        rw [mrg_gt hl e, List.mem_cons, ih, List.mem_cons, List.mem_cons]
        exact ⟨fun h => by rcases h with h | (h | h) | h <;> simp [h], fun h => by rcases h with (h | h) | h | h <;> simp [h]⟩
theorem mrg_up : ∀ (n : Nat) (xs ys : List Cl), xs.length + ys.length ≤ n → Up xs → Up ys → Up (mrg xs ys)
  | _, [], ys, _, _, hy => by rw [mrg_nil']; exact hy
  | _, x :: xs, [], _, hx, _ => by rw [mrg_nil]; exact hx
  | 0, x :: xs, y :: ys, h, _, _ => by simp at h
  | n + 1, x :: xs, y :: ys, h, hx, hy => by
    simp only [List.length_cons] at h
    have hx' := List.pairwise_cons.1 hx
    have hy' := List.pairwise_cons.1 hy
    cases hl : ltC x y with
    | true =>
      rw [mrg_lt hl]
      refine List.pairwise_cons.2 ⟨fun p hp => ?_, mrg_up n xs (y :: ys) (by simp only [List.length_cons]; omega) hx'.2 hy⟩
      rcases (mrg_mem _ _ _ (Nat.le_refl _) p).1 hp with h | h
      · exact hx'.1 p h
      · rcases List.mem_cons.1 h with rfl | h
        · exact hl
        · exact ltC_trans hl (hy'.1 p h)
    | false =>
      by_cases e : x = y
      · subst e
        rw [mrg_eq hl rfl]
        refine List.pairwise_cons.2 ⟨fun p hp => ?_, mrg_up n xs ys (by omega) hx'.2 hy'.2⟩
        rcases (mrg_mem _ _ _ (Nat.le_refl _) p).1 hp with h | h
        · exact hx'.1 p h
        · exact hy'.1 p h
      · have hg := ltC_tri hl e
        rw [mrg_gt hl e]
        refine List.pairwise_cons.2 ⟨fun p hp => ?_, mrg_up n (x :: xs) ys (by simp only [List.length_cons]; omega) hx hy'.2⟩
        rcases (mrg_mem _ _ _ (Nat.le_refl _) p).1 hp with h | h
        · rcases List.mem_cons.1 h with rfl | h
          · exact hg
          · exact ltC_trans hg (hx'.1 p h)
        · exact hy'.1 p h
theorem mrgM_iff : ∀ (n : Nat) (xs ys : List Cl), xs.length + ys.length ≤ n → Up xs → Up ys → (mrgM xs ys = true ↔ ∃ p, p ∈ ys ∧ p ∉ xs)
  | _, [], [], _, _, _ => by rw [mrgM_nil]; simp
  | _, [], y :: ys, _, _, _ => by rw [mrgM_nil']; exact ⟨fun _ => ⟨y, by simp, by simp⟩, fun _ => rfl⟩
  | _, x :: xs, [], _, _, _ => by rw [mrgM_nil]; simp
  | 0, x :: xs, y :: ys, h, _, _ => by simp at h
  | n + 1, x :: xs, y :: ys, h, hx, hy => by
    simp only [List.length_cons] at h
    have hx' := List.pairwise_cons.1 hx
    have hy' := List.pairwise_cons.1 hy
    cases hl : ltC x y with
    | true =>
      rw [mrgM_lt hl, mrgM_iff n xs (y :: ys) (by simp only [List.length_cons]; omega) hx'.2 hy]
      constructor
      · rintro ⟨p, hp, hn⟩
        refine ⟨p, hp, fun hm => ?_⟩
        rcases List.mem_cons.1 hm with rfl | hm
        · rcases List.mem_cons.1 hp with rfl | hp
          · exact ltC_irr _ hl
          · exact ltC_irr _ (ltC_trans hl (hy'.1 _ hp))
        · exact hn hm
      · rintro ⟨p, hp, hn⟩
        exact ⟨p, hp, fun hm => hn (List.mem_cons_of_mem _ hm)⟩
    | false =>
      by_cases e : x = y
      · subst e
        rw [mrgM_eq hl rfl, mrgM_iff n xs ys (by omega) hx'.2 hy'.2]
        constructor
        · rintro ⟨p, hp, hn⟩
          refine ⟨p, List.mem_cons_of_mem _ hp, fun hm => ?_⟩
          rcases List.mem_cons.1 hm with rfl | hm
          · exact ltC_irr _ (hy'.1 _ hp)
          · exact hn hm
        · rintro ⟨p, hp, hn⟩
          rcases List.mem_cons.1 hp with rfl | hp
          · exact absurd (by simp) hn
          · exact ⟨p, hp, fun hm => hn (List.mem_cons_of_mem _ hm)⟩
      · have hg := ltC_tri hl e
        rw [mrgM_gt hl e]
        refine ⟨fun _ => ⟨y, by simp, fun hm => ?_⟩, fun _ => rfl⟩
        rcases List.mem_cons.1 hm with rfl | hm
        · exact e rfl
        · exact ltC_irr _ (ltC_trans hg (hx'.1 _ hm))
theorem srt_mem : ∀ (n : Nat) (l : List Cl), l.length ≤ n → ∀ p, p ∈ srt l ↔ p ∈ l
  | 0, l, h, p => by rw [srt_small (by omega)]
  | n + 1, l, h, p => by
    by_cases h2 : l.length < 2
    · rw [srt_small h2]
    · rw [srt_big h2, mrg_mem _ _ _ (Nat.le_refl _), srt_mem n (l.take (l.length / 2)) (by rw [List.length_take]; omega), srt_mem n (l.drop (l.length / 2)) (by rw [List.length_drop]; omega), ← List.mem_append, List.take_append_drop]
theorem srt_up : ∀ (n : Nat) (l : List Cl), l.length ≤ n → Up (srt l)
  | 0, l, h => by
    obtain rfl : l = [] := List.eq_nil_of_length_eq_zero (by omega)
    rw [srt_small (by simp)]; exact List.Pairwise.nil
  | n + 1, l, h => by
    by_cases h2 : l.length < 2
    · rw [srt_small h2]
      match l, h2 with
      | [], _ => exact List.Pairwise.nil
      | [x], _ => exact List.pairwise_singleton _ _
    · rw [srt_big h2]
      exact mrg_up _ _ _ (Nat.le_refl _) (srt_up n _ (by rw [List.length_take]; omega)) (srt_up n _ (by rw [List.length_drop]; omega))
theorem up_unique {l m : List Cl} (hl : Up l) (hm : Up m) (h : ∀ p, p ∈ l ↔ p ∈ m) : l = m := strict_unique (R := fun a b => ltC a b = true) (fun _ _ h => ltC_asymm h) hl hm h
theorem cells_up (X : Nat → Nat → Bool) : Up (castL (cellsX X)) := by
  unfold Up castL cellsX restX
  rw [List.map_map, List.pairwise_map]
  refine List.Pairwise.imp ?_ (List.Pairwise.filter _ (List.pairwise_lt_range' (s := 0) (n := 1048576 - 0) 1))
  intro a b hab
  rw [ltC_iff]
  show ((a / 1024 : Nat) : Int) < ((b / 1024 : Nat) : Int) ∨ (((a / 1024 : Nat) : Int) = ((b / 1024 : Nat) : Int) ∧ ((a % 1024 : Nat) : Int) < ((b % 1024 : Nat) : Int))
  omega
theorem cast_mem {s : Nat} {X : Nat → Nat → Bool} (hs : s ≤ 1024) (hx : ∀ r c, X r c = true → r < s ∧ c < s) (p : Cl) : p ∈ castL (cellsX X) ↔ 0 ≤ p.1 ∧ 0 ≤ p.2 ∧ X p.1.toNat p.2.toNat = true := by
  unfold castL
  rw [List.mem_map]
  constructor
  · rintro ⟨u, hu, rfl⟩
    refine ⟨by dsimp only; omega, by dsimp only; omega, ?_⟩
    show X ((u.1 : Int)).toNat ((u.2 : Int)).toNat = true
    rw [Int.toNat_natCast, Int.toNat_natCast]
    exact cellsX_true hu
  · rintro ⟨h1, h2, h3⟩
    refine ⟨(p.1.toNat, p.2.toNat), cellsX_pos hs hx h3, Prod.ext ?_ ?_⟩
    · show ((p.1.toNat : Nat) : Int) = p.1; omega
    · show ((p.2.toNat : Nat) : Int) = p.2; omega
theorem setL_mem {s : Nat} (r c : Nat) : ∀ (l : List Cl) (Y : Nat → Nat → Bool), inL s l = true → (setL Y l r c = true ↔ Y r c = true ∨ ((r : Int), (c : Int)) ∈ l)
  | [], Y, _ => by simp [setL]
  | p :: l, Y, h => by
    have hp : inM s p.1 p.2 = true ∧ inL s l = true := by unfold inL at h ⊢; simpa using h
    obtain ⟨m, n, e1, e2, _, _⟩ := inM_at hp.1
    show setL (addX Y p.1.toNat p.2.toNat) l r c = true ↔ _
    rw [setL_mem r c l _ hp.2, List.mem_cons]
    have ea : (addX Y p.1.toNat p.2.toNat r c = true) ↔ (Y r c = true ∨ ((r : Int), (c : Int)) = p) := by
      unfold addX
      rw [Bool.or_eq_true, Bool.and_eq_true, decide_eq_true_iff, decide_eq_true_iff]
      refine or_congr Iff.rfl ⟨fun h => Prod.ext ?_ ?_, fun h => ?_⟩
      · show (r : Int) = p.1; omega
      · show (c : Int) = p.2; omega
      · have h1 : (r : Int) = p.1 := congrArg Prod.fst h
        have h2 : (c : Int) = p.2 := congrArg Prod.snd h
        omega
    rw [ea, or_assoc]
/-- The reference's list is the matrix's. -/
theorem srt_cells {s : Nat} {l : List Cl} (hs : s ≤ 1024) (h : inL s l = true) : srt l = castL (cellsX (setL noX l)) := by
  have hall : ∀ p, p ∈ l → ∃ m n : Nat, p.1 = m ∧ p.2 = n ∧ m < s ∧ n < s := fun p hp => inM_at ((List.all_eq_true.1 h) p hp)
  have hm := fun r c => setL_mem (s := s) r c l noX h
  have hx : ∀ r c, setL noX l r c = true → r < s ∧ c < s := fun r c hx => by
    rcases (hm r c).1 hx with h0 | h0
    · cases h0
    · obtain ⟨m, n, e1, e2, h1, h2⟩ := hall _ h0
      have e1 : (r : Int) = m := e1
      have e2 : (c : Int) = n := e2
      omega
  refine up_unique (srt_up _ _ (Nat.le_refl _)) (cells_up _) fun p => ?_
  rw [srt_mem _ _ (Nat.le_refl _), cast_mem hs hx]
  constructor
  · intro hp
    obtain ⟨m, n, e1, e2, _, _⟩ := hall p hp
    refine ⟨by omega, by omega, (hm _ _).2 (.inr ?_)⟩
    rw [show (((p.1.toNat : Nat) : Int), ((p.2.toNat : Nat) : Int)) = p from Prod.ext (by show ((p.1.toNat : Nat) : Int) = p.1; omega) (by show ((p.2.toNat : Nat) : Int) = p.2; omega)]
    exact hp
  · rintro ⟨h1, h2, h3⟩
    rcases (hm _ _).1 h3 with h0 | h0
    · cases h0
    · rwa [show (((p.1.toNat : Nat) : Int), ((p.2.toNat : Nat) : Int)) = p from Prod.ext (by show ((p.1.toNat : Nat) : Int) = p.1; omega) (by show ((p.2.toNat : Nat) : Int) = p.2; omega)] at h0
end Go.Proofs.YtpfcgfgkmgnaaaaDoor
namespace Go.Proofs.YtpfcgfgkmgnaaaaDoor
open Go
abbrev refV (s : Int) (v : Value) : Value := .agg #[i64 s, v]
theorem built_ref (s : Int) : Tryd.prog.built 28 [(0, i64 s)] = some [i64 s, .slice none 0 0].toArray := by kernel_rfl
def inS (s : Int) (i : Int) : Bool := decide (0 ≤ i) && decide (i < s)
def refOk (s : Int) : Bool := !(decide (s < 1) || decide (1024 < s))
theorem refOk_t {s : Int} (h : refOk s = true) : 1 ≤ s ∧ s ≤ 1024 := by
  unfold refOk at h
  simp at h
  omega
theorem refOk_f {s : Int} (h : refOk s = false) : ¬ (1 ≤ s ∧ s ≤ 1024) := by
  unfold refOk at h
  simp at h
  omega
attribute [local irreducible] G GO GR GT GQ Fn FnV pt init exs pur sat own ImpS cellsV
set_option maxRecDepth 40000 in
theorem refIn_spec (s i : Int) (v : Value) (hv : v.oneCell' = true) : Fn Tryd.prog 73 #[refV s v, i64 i] [] (fun r Q => r = .bool (inS s i) ∧ Q = []) := by
  refine Fn.mk2 Tryd.func73 rfl rfl fun w0 F => ?_
  unfold inS
  (refine G.seq ?_; refine G.region ?_; refine GO.box rfl rfl rfl fun b2 => ?_; refine GO.assign rfl rfl ?_; refine GO.nil ?_; refine kthen_n ?_; refine G.seq ?_; refine G.region ?_; refine GO.move rfl rfl ?_; refine GO.gei rfl rfl rfl ?_; refine GO.move rfl rfl ?_)
  cases h1 : decide (0 ≤ i) with
  | true =>
    (refine GO.gT rfl rfl rfl ?_; refine GO.move rfl rfl ?_; refine GO.gT rfl rfl rfl ?_; refine GO.fieldAddr rfl rfl ?_; refine GO.gT rfl rfl rfl ?_; refine GO.load1 rfl rfl rfl Tk.h rfl ?_; refine GO.gT rfl rfl rfl ?_; refine GO.lti rfl rfl rfl ?_; refine GO.pickT rfl rfl rfl ?_; refine GO.assign rfl rfl ?_; refine GO.nil ?_; refine kthen_n ?_; refine G.ret ?_)
    refine KF2.r1 rfl (RV.t rfl) ⟨by rw [Bool.true_and], rfl⟩ (ImpS.sb ?_)
    (skip; (refine Sb.s ?_; exact Sb.r))
  | false =>
    (refine GO.gF rfl rfl rfl rfl ?_; refine GO.gF rfl rfl rfl rfl ?_; refine GO.gF rfl rfl rfl rfl ?_; refine GO.gF rfl rfl rfl rfl ?_; refine GO.pickF rfl rfl rfl ?_; refine GO.assign rfl rfl ?_; refine GO.nil ?_; refine kthen_n ?_; refine G.ret ?_)
    refine KF2.r1 rfl (RV.t rfl) ⟨by rw [Bool.false_and], rfl⟩ (ImpS.sb ?_)
    (skip; (refine Sb.s ?_; exact Sb.r))
set_option maxRecDepth 40000 in
theorem refNew_spec (s : Int) : Fn Tryd.prog 42 #[i64 s] [] (fun r Q => r = (if refOk s then .tuple #[refV s (.slice none 0 0), i64 0] else .tuple #[refV 0 (.slice none 0 0), i64 2]) ∧ Q = []) := by
  refine Fn.mk2 Tryd.func42 rfl rfl fun w0 F => ?_
  unfold refOk
  (refine G.seq ?_; refine G.region ?_; refine GO.alloc rfl fun b2 => ?_; refine GO.assign rfl rfl ?_; refine GO.nil ?_; refine kthen_n ?_; refine G.seq ?_; refine G.seq ?_; refine G.region ?_; refine GO.move rfl rfl ?_; refine GO.lti rfl rfl rfl ?_; refine GO.move rfl rfl ?_)
  by_cases a : s < 1
  · rw [show decide (s < 1) = true from decide_eq_true a]
    (refine GO.gF rfl rfl rfl rfl ?_; refine GO.gF rfl rfl rfl rfl ?_; refine GO.pickT rfl rfl rfl ?_; refine GO.nil ?_; refine kthen_n ?_; refine G.condT rfl rfl ?_; refine G.seq ?_; refine G.region ?_; refine GO.build0 rfl ?_; refine GO.storeW rfl rfl Tk.h ⟨rfl, rfl⟩ (by simp [Value.oneCell']) ?_; refine GO.assign rfl rfl ?_; refine GO.nil ?_; refine kthen_n ?_; refine G.ret ?_; refine kthen_r ?_)
    refine KF2.r2 rfl (RV.cW (n := 2) rfl rfl (by (exact Tk.h)) rfl) (RV.t rfl) ⟨rfl, rfl⟩ (ImpS.sb ?_)
    (skip; (refine Sb.s ?_; exact Sb.r))
  · rw [show decide (s < 1) = false from decide_eq_false a]
    (refine GO.gT rfl rfl rfl ?_; refine GO.move rfl rfl ?_; refine GO.gT rfl rfl rfl ?_; refine GO.gti rfl rfl rfl ?_; refine GO.pickF rfl rfl rfl ?_; refine GO.nil ?_; refine kthen_n ?_)
    by_cases b : 1024 < s
    · rw [show decide (1024 < s) = true from decide_eq_true b]
      (refine G.condT rfl rfl ?_; refine G.seq ?_; refine G.region ?_; refine GO.build0 rfl ?_; refine GO.storeW rfl rfl Tk.h ⟨rfl, rfl⟩ (by simp [Value.oneCell']) ?_; refine GO.assign rfl rfl ?_; refine GO.nil ?_; refine kthen_n ?_; refine G.ret ?_; refine kthen_r ?_)
      refine KF2.r2 rfl (RV.cW (n := 2) rfl rfl (by (exact Tk.h)) rfl) (RV.t rfl) ⟨rfl, rfl⟩ (ImpS.sb ?_)
      (skip; (refine Sb.s ?_; exact Sb.r))
    · rw [show decide (1024 < s) = false from decide_eq_false b]
      (refine G.condF rfl rfl ?_; refine G.skip ?_; refine kthen_n ?_; refine G.seq ?_; refine G.region ?_; refine GO.move rfl rfl ?_)
      refine GO.buildPart1 (built_ref s) rfl rfl ?_
      (refine GO.storeW rfl rfl Tk.h ⟨rfl, rfl⟩ (by simp [Value.oneCell']) ?_; refine GO.assign rfl rfl ?_; refine GO.nil ?_; refine kthen_n ?_; refine G.ret ?_)
      refine KF2.r2 rfl (RV.cW (n := 2) rfl rfl (by (exact Tk.h)) rfl) (RV.t rfl) ⟨rfl, rfl⟩ (ImpS.sb ?_)
      (skip; (refine Sb.s ?_; exact Sb.r))
theorem inM_inS (n : Nat) (a b : Int) : inM n a b = (inS n a && inS n b) := by
  unfold inM inS
  rw [Bool.decide_and, Bool.decide_and]
def refOfR (s : Int) (l : List Cl) (R : HP) (r : Value) (Q : List HP) : Prop :=
  (∃ n : Nat, s = n ∧ 1 ≤ n ∧ n ≤ 1024 ∧ inL n l = true ∧ ∃ v, r = .tuple #[refV n v, i64 0] ∧ Q = [own 63 2 (srt l).length v (cellsV (srt l)), R]) ∨
  (¬ (1 ≤ s ∧ s ≤ 1024 ∧ inL s.toNat l = true) ∧ r = .tuple #[refV 0 (.slice none 0 0), i64 2] ∧ Q = [R])
set_option maxHeartbeats 4000000 in
set_option maxRecDepth 40000 in
theorem refOf_spec (s : Int) (R : HP) (v : Value) (l : List Cl) (hv : SlC R v l) (hb : l.length * 16 ≤ 140737488355328) : Fn Tryd.prog 40 #[i64 s, v] [R] (refOfR s l R) := by
  have hv2 := hv
  obtain ⟨a, cap, rfl, hc, hr⟩ := hv
  refine Fn.mk2 Tryd.func40 rfl rfl fun w0 F => ?_
  (refine G.seq ?_; refine G.region ?_; refine GO.alloc rfl fun b4 => ?_; refine GO.assign rfl rfl ?_; refine GO.nil ?_; refine kthen_n ?_; refine G.seq ?_; refine G.region ?_; refine GO.move rfl rfl ?_)
  refine GO.call1 rfl rfl (refNew_spec s) Tks.n ?_
  rintro _ _ ⟨rfl, rfl⟩
  cases hok : refOk s with
  | false =>
    rw [if_neg (by simp)]
    (refine GO.move rfl rfl ?_; refine GO.extract rfl rfl rfl ?_; refine GO.extract rfl rfl rfl ?_; refine GO.alloc rfl fun b6 => ?_; refine GO.storeW rfl rfl Tk.h ⟨rfl, rfl⟩ (by simp [Value.oneCell']) ?_; refine GO.assign rfl rfl ?_; refine GO.nil ?_; refine kthen_n ?_; refine G.seq ?_; refine G.seq ?_; refine G.region ?_; refine GO.move rfl rfl ?_; refine GO.nei rfl rfl rfl ?_; refine GO.nil ?_; refine kthen_n ?_; refine G.condT rfl rfl ?_; refine G.seq ?_; refine G.region ?_; refine GO.build0 rfl ?_; refine GO.move rfl rfl ?_; refine GO.storeW rfl rfl (Tk.t Tk.h) ⟨rfl, rfl⟩ (by simp [Value.oneCell']) ?_; refine GO.assign rfl rfl ?_; refine GO.nil ?_; refine kthen_n ?_; refine G.ret ?_; refine kthen_r ?_)
    refine KF2.r2 rfl (RV.cW (n := 2) rfl rfl (by (exact Tk.h)) rfl) (RV.t rfl) (.inr ⟨fun h => refOk_f hok ⟨h.1, h.2.1⟩, rfl, rfl⟩) (ImpS.sb ?_)
    ((refine Sb.c (Tk.t (Tk.t Tk.h)) ?_); (refine Sb.s ?_; refine Sb.s ?_; exact Sb.r))
  | true =>
    rw [if_pos rfl]
    obtain ⟨n, rfl⟩ := Int.eq_ofNat_of_zero_le (show 0 ≤ s by have := refOk_t hok; omega)
    have hn := refOk_t hok
    clear hok
    (refine GO.move rfl rfl ?_; refine GO.extract rfl rfl rfl ?_; refine GO.extract rfl rfl rfl ?_; refine GO.alloc rfl fun b6 => ?_; refine GO.storeW rfl rfl Tk.h ⟨rfl, rfl⟩ (by simp [Value.oneCell']) ?_; refine GO.assign rfl rfl ?_; refine GO.nil ?_; refine kthen_n ?_; refine G.seq ?_; refine G.seq ?_; refine G.region ?_; refine GO.move rfl rfl ?_; refine GO.neF rfl rfl rfl rfl ?_; refine GO.nil ?_; refine kthen_n ?_; refine G.condF rfl rfl ?_; refine G.skip ?_; refine kthen_n ?_; refine G.seq ?_; refine G.seq ?_; refine G.region ?_; refine GO.assign rfl rfl ?_; refine GO.nil ?_; refine kthen_n ?_; refine G.block ?_)
    refine G.loop (fun k : Nat => [(1, .slice a l.length cap), (4, .pointer (some ⟨b4, 0, none⟩)), (6, .pointer (some ⟨b6, 0, none⟩)), (8, i64 k)])
      (fun k => pt b4 (row [i64 0, .slice none 0 0] 28) :: pt b6 (row [i64 (n : Nat), .slice none 0 0] 28) :: R :: F) (fun k => k ≤ l.length ∧ inL n (l.take k) = true) (fun k => l.length - k) 0 ⟨by omega, by simp [inL]⟩ ?_ ?_ ?_
    · (refine SubE.c rfl rfl ?_; refine SubE.c rfl rfl ?_; refine SubE.c rfl rfl ?_; refine SubE.c rfl rfl ?_; exact SubE.n)
    · ((refine Sb.c (Tk.t Tk.h) ?_; refine Sb.c Tk.h ?_; refine Sb.c Tk.h ?_); (exact Sb.r))
    rintro k ⟨hk, hall⟩
    (refine G.seq ?_; refine G.seq ?_; refine G.region ?_; refine GO.move rfl rfl ?_; refine GO.move rfl rfl ?_; refine GO.lenS rfl rfl ?_; refine GO.lti rfl rfl rfl ?_; refine GO.nil ?_; refine kthen_n ?_)
    refine G.condD rfl (fun hlt => ?_) (fun hge => ?_)
    · have hlt' : k < l.length := by omega
      obtain ⟨b', o, rfl, hrd⟩ := hr (by omega)
      obtain ⟨p, hp⟩ : ∃ p, l[k]? = some p := ⟨l[k], by simp [hlt']⟩
      have r1 : Rd R ⟨b', o + k * 2, none⟩ (i64 p.1) := hrd _ _ (cellsV_get hp).1
      have r2 : Rd R ⟨b', o + k * 2 + 1, none⟩ (i64 p.2) := hrd _ _ (cellsV_get hp).2
      (refine G.skip ?_; refine kthen_n ?_; refine G.seq ?_; refine G.block ?_; refine G.seq ?_)
      refine G.draw 18 (by kernel_rfl) ?_
      ((apply GQ.step; focus (intro Z; refine GO.loadW rfl rfl rfl (Tk.t Tk.h) rfl ?_; exact KQ.z)); (apply GQ.step; focus (intro Z; refine GO.move rfl rfl ?_; exact KQ.z)); (apply GQ.step; focus (intro Z; refine GO.move rfl rfl ?_; exact KQ.z)); (apply GQ.step; focus (intro Z; refine GO.idxS rfl rfl rfl ⟨rfl, by omega⟩ ?_; exact KQ.z)); (apply GQ.step; focus (intro Z; refine GO.fieldAddr rfl rfl ?_; exact KQ.z)); (apply GQ.step; focus (intro Z; refine GO.loadQ rfl rfl rfl (Tk.t (Tk.t Tk.h)) (by assumption) ?_; exact KQ.z)))
      apply GQ.step; focus (intro Z; refine GO.call2 rfl rfl rfl (refIn_spec (n : Int) p.1 (.slice none 0 0) rfl) Tks.n ?_; rintro _ _ ⟨rfl, rfl⟩; exact KQ.z)
      cases h1 : inS n p.1 with
      | false =>
        ((apply GQ.step; focus (intro Z; refine GO.not rfl rfl ?_; exact KQ.z)); (apply GQ.step; focus (intro Z; refine GO.move rfl rfl ?_; exact KQ.z)); (apply GQ.step; focus (intro Z; refine GO.gF rfl rfl rfl rfl ?_; exact KQ.z)); (apply GQ.step; focus (intro Z; refine GO.gF rfl rfl rfl rfl ?_; exact KQ.z)); (apply GQ.step; focus (intro Z; refine GO.gF rfl rfl rfl rfl ?_; exact KQ.z)); (apply GQ.step; focus (intro Z; refine GO.gF rfl rfl rfl rfl ?_; exact KQ.z)); (apply GQ.step; focus (intro Z; refine GO.gF rfl rfl rfl rfl ?_; exact KQ.z)); (apply GQ.step; focus (intro Z; refine GO.gF rfl rfl rfl rfl ?_; exact KQ.z)); (apply GQ.step; focus (intro Z; refine GO.gF rfl rfl rfl rfl ?_; exact KQ.z)); (apply GQ.step; focus (intro Z; refine GO.gF rfl rfl rfl rfl ?_; exact KQ.z)); (apply GQ.step; focus (intro Z; refine GO.pickT rfl rfl rfl ?_; exact KQ.z)); refine GQ.nil ?_)
        (refine GO.nil ?_; refine kthen_n ?_; refine G.condT rfl rfl ?_; refine G.seq ?_; refine G.region ?_; refine GO.build0 rfl ?_; refine GO.storeW rfl rfl Tk.h ⟨rfl, rfl⟩ (by simp [Value.oneCell']) ?_; refine GO.assign rfl rfl ?_; refine GO.nil ?_; refine kthen_n ?_; refine G.ret ?_; refine kblock_r ?_; refine kthen_r ?_; refine kthen_r ?_; refine kblock_r ?_; refine kthen_r ?_)
        refine KF2.r2 rfl (RV.cW (n := 2) rfl rfl (by (exact Tk.h)) rfl) (RV.t rfl) (.inr ⟨fun h => ?_, rfl, rfl⟩) (ImpS.sb ?_)
        · have h3 := h.2.2
          rw [Int.toNat_natCast, inL_not hp (by rw [inM_inS, h1]; rfl)] at h3
          cases h3
        · ((refine Sb.c (Tk.t (Tk.t Tk.h)) ?_); (refine Sb.s ?_; refine Sb.s ?_; exact Sb.r))
      | true =>
        ((apply GQ.step; focus (intro Z; refine GO.not rfl rfl ?_; exact KQ.z)); (apply GQ.step; focus (intro Z; refine GO.move rfl rfl ?_; exact KQ.z)); (apply GQ.step; focus (intro Z; refine GO.gT rfl rfl rfl ?_; refine GO.loadW rfl rfl rfl (Tk.t Tk.h) rfl ?_; exact KQ.z)); (apply GQ.step; focus (intro Z; refine GO.gT rfl rfl rfl ?_; refine GO.move rfl rfl ?_; exact KQ.z)); (apply GQ.step; focus (intro Z; refine GO.gT rfl rfl rfl ?_; refine GO.move rfl rfl ?_; exact KQ.z)); (apply GQ.step; focus (intro Z; refine GO.gT rfl rfl rfl ?_; refine GO.idxS rfl rfl rfl ⟨rfl, by omega⟩ ?_; exact KQ.z)); (apply GQ.step; focus (intro Z; refine GO.gT rfl rfl rfl ?_; refine GO.fieldAddr rfl rfl ?_; exact KQ.z)); (apply GQ.step; focus (intro Z; refine GO.gT rfl rfl rfl ?_; refine GO.loadQ rfl rfl rfl (Tk.t (Tk.t Tk.h)) (by assumption) ?_; exact KQ.z)))
        apply GQ.step; focus (intro Z; refine GO.gT rfl rfl rfl ?_; refine GO.call2 rfl rfl rfl (refIn_spec (n : Int) p.2 (.slice none 0 0) rfl) Tks.n ?_; rintro _ _ ⟨rfl, rfl⟩; exact KQ.z)
        cases h2 : inS n p.2 with
        | false =>
          ((apply GQ.step; focus (intro Z; refine GO.gT rfl rfl rfl ?_; refine GO.not rfl rfl ?_; exact KQ.z)); (apply GQ.step; focus (intro Z; refine GO.pickF rfl rfl rfl ?_; exact KQ.z)); refine GQ.nil ?_)
          (refine GO.nil ?_; refine kthen_n ?_; refine G.condT rfl rfl ?_; refine G.seq ?_; refine G.region ?_; refine GO.build0 rfl ?_; refine GO.storeW rfl rfl Tk.h ⟨rfl, rfl⟩ (by simp [Value.oneCell']) ?_; refine GO.assign rfl rfl ?_; refine GO.nil ?_; refine kthen_n ?_; refine G.ret ?_; refine kblock_r ?_; refine kthen_r ?_; refine kthen_r ?_; refine kblock_r ?_; refine kthen_r ?_)
          refine KF2.r2 rfl (RV.cW (n := 2) rfl rfl (by (exact Tk.h)) rfl) (RV.t rfl) (.inr ⟨fun h => ?_, rfl, rfl⟩) (ImpS.sb ?_)
          · have h3 := h.2.2
            rw [Int.toNat_natCast, inL_not hp (by rw [inM_inS, h2]; exact Bool.and_false _)] at h3
            cases h3
          · ((refine Sb.c (Tk.t (Tk.t Tk.h)) ?_); (refine Sb.s ?_; refine Sb.s ?_; exact Sb.r))
        | true =>
          ((apply GQ.step; focus (intro Z; refine GO.gT rfl rfl rfl ?_; refine GO.not rfl rfl ?_; exact KQ.z)); (apply GQ.step; focus (intro Z; refine GO.pickF rfl rfl rfl ?_; exact KQ.z)); refine GQ.nil ?_)
          (refine GO.nil ?_; refine kthen_n ?_; refine G.condF rfl rfl ?_; refine G.skip ?_; refine kblock_n ?_; refine kthen_n ?_; refine G.region ?_; refine GO.move rfl rfl ?_; refine GO.addi rfl rfl rfl (by omega) ?_; refine GO.assign rfl rfl ?_; refine GO.nil ?_; refine kthen_n ?_)
          refine ⟨k + 1, ⟨by omega, inL_succ hp hall (by rw [inM_inS, h1, h2]; rfl)⟩, by omega, ?_, ?_⟩
          · (refine SubE.c rfl rfl ?_; refine SubE.c rfl rfl ?_; refine SubE.c rfl rfl ?_; refine SubE.c rfl rfl ?_; exact SubE.n)
          · ((refine Sb.c Tk.h ?_; refine Sb.c Tk.h ?_; refine Sb.c Tk.h ?_); (exact Sb.r))
    · obtain rfl : k = l.length := by omega
      rw [List.take_length] at hall
      (refine G.exit ?_; refine kthen_x ?_; refine kthen_x ?_; refine kblock_x ?_; refine kthen_n ?_; refine G.seq ?_; refine G.region ?_; refine GO.move rfl rfl ?_)
      refine GO.call1 rfl rfl (sorted_spec _ l (Nat.le_refl _) R (.slice a l.length cap) hv2 hb) (Tks.c (Tk.t (Tk.t Tk.h)) Tks.n) ?_
      rintro v2 _ rfl
      refine GO.ownOne Tk.h fun hone => ?_
      (refine GO.fieldAddr rfl rfl ?_; refine GO.store1 rfl rfl (by assumption) (Tk.t (Tk.t (Tk.t Tk.h))) (by simp) ?_; refine GO.nil ?_; refine kthen_n ?_; refine G.seq ?_; refine G.region ?_; refine GO.loadW rfl rfl rfl Tk.h rfl ?_; refine GO.storeW rfl rfl (Tk.t (Tk.t (Tk.t Tk.h))) ⟨rfl, rfl⟩ (by simp [Value.oneCell']; assumption) ?_; refine GO.assign rfl rfl ?_; refine GO.nil ?_; refine kthen_n ?_; refine G.ret ?_)
      refine KF2.r2 rfl (RV.cW (n := 2) rfl rfl (by (exact Tk.h)) rfl) (RV.t rfl) (.inl ⟨n, rfl, by omega, by omega, hall, v2, rfl, rfl⟩) (ImpS.sb ?_)
      ((refine Sb.c (Tk.t (Tk.t Tk.h)) ?_; refine Sb.c (Tk.t (Tk.t Tk.h)) ?_); (refine Sb.s ?_; refine Sb.s ?_; exact Sb.r))
end Go.Proofs.YtpfcgfgkmgnaaaaDoor
namespace Go.Proofs.YtpfcgfgkmgnaaaaDoor
open Go
/-- None, or a side and cells. -/
abbrev OptM := Option (Nat × (Nat → Nat → Bool))
def sideO : OptM → Nat
  | none => 0
  | some (s, _) => s
def setO : OptM → Nat → Nat → Bool
  | none => noX
  | some (_, X) => X
def nilO : OptM → Bool
  | none => true
  | some _ => false
/-- v is such a matrix, that the piece R holds. -/
structure HasO (R : HP) (v : Value) (o : OptM) : Prop where
  side : Fn Tryd.prog 23 #[v] [R] (fun r Q => r = i64 (sideO o) ∧ Q = [R])
  len : Fn Tryd.prog 28 #[v] [R] (fun r Q => r = i64 (cntX (setO o)) ∧ Q = [R])
  cells : Fn Tryd.prog 65 #[v] [R] (fun r Q => ∃ b3 v', r = .func (.func 96) #[] #[.pointer (some ⟨b3, 0, none⟩)] ∧ Q = [bkM (setO o) b3 v', R])
  blocks : o ≠ none → Fn Tryd.prog 81 #[v] [R] (fun r Q => ∃ b3 v', r = .func (.func 104) #[] #[.pointer (some ⟨b3, 0, none⟩)] ∧ Q = [bkM (setO o) b3 v', R])
  form : (o = none ∧ v = .pointer none) ∨ (o ≠ none ∧ ∃ b, v = ptrV b)
theorem HasO.one (s b : Nat) (X : Nat → Nat → Bool) : HasO (mat s X b) (ptrV b) (some (s, X)) := ⟨side_mat s b X, len_mat s b X, mcells_mat s b X, fun _ => blocks_mat s b X, .inr ⟨by simp, b, rfl⟩⟩
theorem Fn.leftV {P : Program} {f : FuncId} {args : Array Value} {A B : HP} {S : Value → Prop} (h : Fn P f args [A] (fun r Q => S r ∧ Q = [A])) : Fn P f args [star [A, B]] (fun r Q => S r ∧ Q = [star [A, B]]) :=
  (Fn.left (S := fun r N => S r ∧ N = []) (h.mono fun r Q hq => ⟨[], ⟨hq.1, rfl⟩, hq.2⟩)).mono fun r Q hq => by obtain ⟨N, ⟨h1, rfl⟩, h2⟩ := hq; exact ⟨h1, h2⟩
theorem Fn.rightV {P : Program} {f : FuncId} {args : Array Value} {A B : HP} {S : Value → Prop} (h : Fn P f args [B] (fun r Q => S r ∧ Q = [B])) : Fn P f args [star [A, B]] (fun r Q => S r ∧ Q = [star [A, B]]) :=
  (Fn.right (S := fun r N => S r ∧ N = []) (h.mono fun r Q hq => ⟨[], ⟨hq.1, rfl⟩, hq.2⟩)).mono fun r Q hq => by obtain ⟨N, ⟨h1, rfl⟩, h2⟩ := hq; exact ⟨h1, h2⟩
theorem Fn.leftI {P : Program} {f : FuncId} {args : Array Value} {A B : HP} {S : Value → HP → Prop} (h : Fn P f args [A] (fun r Q => ∃ p, S r p ∧ Q = [p, A])) : Fn P f args [star [A, B]] (fun r Q => ∃ p, S r p ∧ Q = [p, star [A, B]]) :=
  (Fn.left (S := fun r N => ∃ p, S r p ∧ N = [p]) (h.mono fun r Q hq => by obtain ⟨p, h1, h2⟩ := hq; exact ⟨[p], ⟨p, h1, rfl⟩, h2⟩)).mono fun r Q hq => by obtain ⟨N, ⟨p, h1, rfl⟩, h2⟩ := hq; exact ⟨p, h1, h2⟩
theorem Fn.rightI {P : Program} {f : FuncId} {args : Array Value} {A B : HP} {S : Value → HP → Prop} (h : Fn P f args [B] (fun r Q => ∃ p, S r p ∧ Q = [p, B])) : Fn P f args [star [A, B]] (fun r Q => ∃ p, S r p ∧ Q = [p, star [A, B]]) :=
  (Fn.right (S := fun r N => ∃ p, S r p ∧ N = [p]) (h.mono fun r Q hq => by obtain ⟨p, h1, h2⟩ := hq; exact ⟨[p], ⟨p, h1, rfl⟩, h2⟩)).mono fun r Q hq => by obtain ⟨N, ⟨p, h1, rfl⟩, h2⟩ := hq; exact ⟨p, h1, h2⟩
theorem HasO.left {A B : HP} {v : Value} {o : OptM} (h : HasO A v o) : HasO (star [A, B]) v o :=
  ⟨Fn.leftV (S := fun r => r = i64 (sideO o)) h.side, Fn.leftV (S := fun r => r = i64 (cntX (setO o))) h.len,
   (Fn.leftI (S := fun r p => ∃ b3 v', r = .func (.func 96) #[] #[.pointer (some ⟨b3, 0, none⟩)] ∧ p = bkM (setO o) b3 v') (h.cells.mono fun r Q hq => by obtain ⟨b3, v', h1, h2⟩ := hq; exact ⟨_, ⟨b3, v', h1, rfl⟩, h2⟩)).mono fun r Q hq => by obtain ⟨p, ⟨b3, v', h1, rfl⟩, h2⟩ := hq; exact ⟨b3, v', h1, h2⟩,
   fun hne => (Fn.leftI (S := fun r p => ∃ b3 v', r = .func (.func 104) #[] #[.pointer (some ⟨b3, 0, none⟩)] ∧ p = bkM (setO o) b3 v') ((h.blocks hne).mono fun r Q hq => by obtain ⟨b3, v', h1, h2⟩ := hq; exact ⟨_, ⟨b3, v', h1, rfl⟩, h2⟩)).mono fun r Q hq => by obtain ⟨p, ⟨b3, v', h1, rfl⟩, h2⟩ := hq; exact ⟨b3, v', h1, h2⟩, h.form⟩
theorem HasO.right {A B : HP} {v : Value} {o : OptM} (h : HasO B v o) : HasO (star [A, B]) v o :=
  ⟨Fn.rightV (S := fun r => r = i64 (sideO o)) h.side, Fn.rightV (S := fun r => r = i64 (cntX (setO o))) h.len,
   (Fn.rightI (S := fun r p => ∃ b3 v', r = .func (.func 96) #[] #[.pointer (some ⟨b3, 0, none⟩)] ∧ p = bkM (setO o) b3 v') (h.cells.mono fun r Q hq => by obtain ⟨b3, v', h1, h2⟩ := hq; exact ⟨_, ⟨b3, v', h1, rfl⟩, h2⟩)).mono fun r Q hq => by obtain ⟨p, ⟨b3, v', h1, rfl⟩, h2⟩ := hq; exact ⟨b3, v', h1, h2⟩,
   fun hne => (Fn.rightI (S := fun r p => ∃ b3 v', r = .func (.func 104) #[] #[.pointer (some ⟨b3, 0, none⟩)] ∧ p = bkM (setO o) b3 v') ((h.blocks hne).mono fun r Q hq => by obtain ⟨b3, v', h1, h2⟩ := hq; exact ⟨_, ⟨b3, v', h1, rfl⟩, h2⟩)).mono fun r Q hq => by obtain ⟨p, ⟨b3, v', h1, rfl⟩, h2⟩ := hq; exact ⟨b3, v', h1, h2⟩, h.form⟩
theorem HasO.hasM {R : HP} {v : Value} {s : Nat} {X : Nat → Nat → Bool} (h : HasO R v (some (s, X))) : HasM R v s X := ⟨h.side, h.blocks (by simp)⟩
theorem posL_no : posL noX = [] := by
  unfold posL
  rw [List.filter_eq_nil_iff]
  intro z _ h
  obtain ⟨r, c, _, _, hx⟩ := hasB_iff.1 h
  cases hx
theorem ImpS.nilOwn {el : TypeId} {sz : Nat} {H : List HP} : ImpS H (Go.Proofs.YtpfcgfgkmgnaaaaDoor.own el sz 0 (.slice none 0 0) [] :: H) := fun _ _ s => own_nil s
/-- The reference's matrix, beside. -/
def RefO (q : HP) (rv : Value) (o : OptM) : Prop := ∃ v, rv = refV (sideO o) v ∧ v.oneCell' = true ∧ SlC q v (castL (cellsX (setO o)))
attribute [local irreducible] G GO GR GT Fn FnV pt init exs pur sat own ImpS mat posL allV orL restX cellsX
theorem cells_nil : Fn Tryd.prog 65 #[.pointer none] [] (fun r Q => ∃ b3 v', r = .func (.func 96) #[] #[.pointer (some ⟨b3, 0, none⟩)] ∧ Q = [bkM noX b3 v']) := by
  refine Fn.mk2 Tryd.func65 rfl rfl fun w0 F => ?_
  (refine G.seq ?_; refine G.region ?_; refine GO.assign rfl rfl ?_; refine GO.nil ?_; refine kthen_n ?_; refine G.seq ?_; refine G.region ?_; refine GO.move rfl rfl ?_)
  refine GO.call1 rfl rfl (all_nil) Tks.n ?_
  rintro _ _ ⟨rfl, rfl⟩
  (refine GO.alloc rfl fun b3 => ?_; refine GO.store1 rfl rfl rfl Tk.h (by decide) ?_; refine GO.nil ?_; refine kthen_n ?_; refine G.seq ?_; refine G.region ?_; refine GO.makeFunc1 rfl rfl ?_; refine GO.assign rfl rfl ?_; refine GO.nil ?_; refine kthen_n ?_; refine G.ret ?_)
  refine KF2.r1 rfl (RV.t rfl) ⟨b3, .slice none 0 0, rfl, rfl⟩ ?_
  refine ImpS.flat (k := [_, _]) (M := F) ?_
  rw [posL_no, show allV noX [] = [] by unfold allV; rfl, show ([] : List Nat).length = 0 from rfl]
  refine ImpS.trans (ImpS.nilOwn (el := 106) (sz := 66)) (ImpS.sb ?_)
  ((refine Sb.c (Tk.t Tk.h) ?_; refine Sb.c Tk.h ?_); (exact Sb.r))
theorem HasO.nil (R : HP) : HasO R (.pointer none) none :=
  ⟨(Fn.frame side_nil [R]).mono fun r Q h => by obtain ⟨Q', ⟨h1, rfl⟩, rfl⟩ := h; exact ⟨h1, rfl⟩,
   (Fn.frame len_nil [R]).mono fun r Q h => by obtain ⟨Q', ⟨h1, rfl⟩, rfl⟩ := h; exact ⟨by rw [h1]; show i64 0 = i64 (cntX noX); rw [cntX_no]; rfl, rfl⟩,
   (Fn.frame cells_nil [R]).mono fun r Q h => by obtain ⟨Q', ⟨b3, v', h1, rfl⟩, rfl⟩ := h; exact ⟨b3, v', h1, rfl⟩,
   fun h => absurd rfl h, .inl ⟨rfl, rfl⟩⟩
end Go.Proofs.YtpfcgfgkmgnaaaaDoor
namespace Go.Proofs.YtpfcgfgkmgnaaaaDoor
open Go
structure WfO (o : OptM) : Prop where
  some : ∀ s X, o = some (s, X) → 1 ≤ s ∧ s ≤ 1024
theorem eqNil_none {d : Nat} : True := trivial
attribute [local irreducible] G GO GR GT Fn FnV pt init exs pur sat own ImpS mat posL allV orL restX cellsX cellsV
set_option maxHeartbeats 8000000 in
theorem osame_spec (R z q : HP) (hq : Tab q) (v rv : Value) (o : OptM) (ho : HasO R v o) (hr : RefO z rv o) (hw : WfO o) (hc : ¬ 1048576 < (cellsX (setO o)).length) :
    Fn Tryd.prog 35 #[v, rv] [R, z, q] (fun r Q => r = .bool true ∧ Q = [R, z, q]) := by
  obtain ⟨v2, rfl, hone, hsl⟩ := hr
  have hlen := cellsX_len (setO o)
  have hcl := castL_len (cellsX (setO o))
  obtain ⟨a, cap, rfl, hcap, hrd⟩ := hsl
  refine Fn.mk2 Tryd.func35 rfl rfl fun w0 F => ?_
  rw [hcl] at hrd ⊢
  rcases ho.form with ⟨rfl, rfl⟩ | ⟨hne, b, rfl⟩
  · (refine G.seq ?_; refine G.region ?_; refine GO.box rfl rfl rfl fun b3 => ?_; refine GO.alloc rfl fun b4 => ?_; refine GO.nil ?_; refine kthen_n ?_; refine G.seq ?_; refine G.seq ?_)
    refine G.draw 21 (by kernel_rfl) ?_
    ((apply GQ.step; focus (intro Z; refine GO.move rfl rfl ?_; exact KQ.z)); (apply GQ.step; focus (intro Z; refine GO.eqNilP rfl rfl ?_; exact KQ.z)); (apply GQ.step; focus (intro Z; refine GO.fieldAddr rfl rfl ?_; exact KQ.z)); (apply GQ.step; focus (intro Z; refine GO.load1 rfl rfl rfl (Tk.t Tk.h) rfl ?_; exact KQ.z)); (apply GQ.step; focus (intro Z; refine GO.eqT rfl rfl rfl rfl ?_; exact KQ.z)))
    apply GQ.step; focus (intro Z; refine GO.neqF rfl rfl rfl rfl ?_; exact KQ.z)
    ((apply GQ.step; focus (intro Z; refine GO.move rfl rfl ?_; exact KQ.z)); (apply GQ.step; focus (intro Z; refine GO.gT rfl rfl rfl ?_; refine GO.move rfl rfl ?_; exact KQ.z)))
    apply GQ.step; focus (intro Z; refine GO.gT rfl rfl rfl ?_; refine GO.call1 rfl rfl (ho.side) (Tks.c (Tk.t (Tk.t Tk.h)) Tks.n) ?_; rintro _ _ ⟨rfl, rfl⟩; refine GO.nil (KQ.s ?_); ((refine Sb.c (Tk.t Tk.h) ?_; refine Sb.c (Tk.t Tk.h) ?_; refine Sb.c Tk.h ?_; refine Sb.c Tk.h ?_; refine Sb.c Tk.h ?_); (exact Sb.r)))
    ((apply GQ.step; focus (intro Z; refine GO.gT rfl rfl rfl ?_; refine GO.fieldAddr rfl rfl ?_; exact KQ.z)); (apply GQ.step; focus (intro Z; refine GO.gT rfl rfl rfl ?_; refine GO.load1 rfl rfl rfl (Tk.t Tk.h) rfl ?_; exact KQ.z)); (apply GQ.step; focus (intro Z; refine GO.gT rfl rfl rfl ?_; refine GO.neF rfl rfl rfl rfl ?_; exact KQ.z)); (apply GQ.step; focus (intro Z; refine GO.pickF rfl rfl rfl ?_; exact KQ.z)); (apply GQ.step; focus (intro Z; refine GO.move rfl rfl ?_; exact KQ.z)); (apply GQ.step; focus (intro Z; refine GO.gT rfl rfl rfl ?_; refine GO.move rfl rfl ?_; exact KQ.z)))
    apply GQ.step; focus (intro Z; refine GO.gT rfl rfl rfl ?_; refine GO.call1 rfl rfl (ho.len) (Tks.c (Tk.t (Tk.t Tk.h)) Tks.n) ?_; rintro _ _ ⟨rfl, rfl⟩; refine GO.nil (KQ.s ?_); ((refine Sb.c (Tk.t Tk.h) ?_; refine Sb.c (Tk.t Tk.h) ?_; refine Sb.c Tk.h ?_; refine Sb.c Tk.h ?_; refine Sb.c Tk.h ?_); (exact Sb.r)))
    rw [← hlen]
    ((apply GQ.step; focus (intro Z; refine GO.gT rfl rfl rfl ?_; refine GO.fieldAddr rfl rfl ?_; exact KQ.z)); (apply GQ.step; focus (intro Z; refine GO.gT rfl rfl rfl ?_; refine GO.load1 rfl rfl rfl (Tk.t Tk.h) rfl ?_; exact KQ.z)); (apply GQ.step; focus (intro Z; refine GO.gT rfl rfl rfl ?_; refine GO.lenS rfl rfl ?_; exact KQ.z)); (apply GQ.step; focus (intro Z; refine GO.gT rfl rfl rfl ?_; refine GO.neF rfl rfl rfl rfl ?_; exact KQ.z)); (apply GQ.step; focus (intro Z; refine GO.pickF rfl rfl rfl ?_; exact KQ.z)); refine GQ.nil ?_)
    (refine GO.nil ?_; refine kthen_n ?_; refine G.condF rfl rfl ?_; refine G.skip ?_; refine kthen_n ?_; refine G.seq ?_; refine G.region ?_; refine GO.alloc rfl fun b5 => ?_; refine GO.store1 rfl rfl rfl Tk.h (by decide) ?_; refine GO.nil ?_; refine kthen_n ?_; refine G.seq ?_; refine G.region ?_; refine GO.move rfl rfl ?_)
    refine GO.call1 rfl rfl (ho.cells) (Tks.c (Tk.t (Tk.t (Tk.t Tk.h))) Tks.n) ?_
    rintro _ _ ⟨bI, vI, rfl, rfl⟩
    (refine GO.assign rfl rfl ?_; refine GO.nil ?_; refine kthen_n ?_; refine G.seq ?_; refine G.seq ?_; refine G.region ?_; refine GO.move rfl rfl ?_)
    refine GO.eqNilF rfl rfl ?_
    (refine GO.nil ?_; refine kthen_n ?_; refine G.condF rfl rfl ?_; refine G.skip ?_; refine kthen_n ?_; refine G.seq ?_; refine G.seq ?_; refine G.region ?_; refine GO.move rfl rfl ?_; refine GO.nil ?_; refine kthen_n ?_; refine G.block ?_)
    refine G.rangeF (F := R :: pt b4 (row [.bool false] 4) :: F) (psl := [35, 36]) (v := .func (.func 96) #[] #[.pointer (some ⟨bI, 0, none⟩)]) (xs := (cellsX (setO (none : OptM))).map celV) (Sh := [q]) (Gm := [bkM (setO (none : OptM)) bI vI])
      (fun k => [pt b3 (row [i64 ((sideO (none : OptM) : Nat) : Int), .slice a (cellsX (setO (none : OptM))).length cap] 28), pt b5 (row [i64 (k : Nat)] 3), z])
      (fun _ _ => [pur False]) (fun _ h => by cases h) rfl (fun u hu => by obtain ⟨p, _, rfl⟩ := List.mem_map.1 hu; rfl) rfl (mcells_seq q hq (setO (none : OptM)) bI vI) ?_ (fun lp Lr Lb w1 F1 k uu huu => ?_) ?_ ?_
    · (refine Tks.c (Tk.t (Tk.t (Tk.t (Tk.t Tk.h)))) ?_; refine Tks.c (Tk.t (Tk.t Tk.h)) ?_; refine Tks.c (Tk.t (Tk.t (Tk.t Tk.h))) ?_; refine Tks.c (Tk.t (Tk.t (Tk.t Tk.h))) ?_; exact Tks.n)
    · obtain ⟨p, hp, rfl⟩ : ∃ p, (cellsX (setO (none : OptM)))[k]? = some p ∧ uu = celV p := by
        rw [List.getElem?_map] at huu
        cases hcc : (cellsX (setO (none : OptM)))[k]? with
        | none => simp [hcc] at huu
        | some p => simp [hcc] at huu; exact ⟨p, rfl, huu.symm⟩
      have hkl := (List.getElem?_eq_some_iff.1 hp).1
      have hpc : (castL (cellsX (setO (none : OptM))))[k]? = some ((p.1 : Int), (p.2 : Int)) := by unfold castL; rw [List.getElem?_map, hp]; rfl
      obtain ⟨bo, oo, rfl, hr2⟩ := hrd (by omega)
      have r1 : Rd z ⟨bo, oo + k * 2, none⟩ (i64 ((p.1 : Nat) : Int)) := hr2 _ _ (cellsV_get hpc).1
      have r2 : Rd z ⟨bo, oo + k * 2 + 1, none⟩ (i64 ((p.2 : Nat) : Int)) := hr2 _ _ (cellsV_get hpc).2
      have d1 : decide (((cellsX (setO (none : OptM))).length : Int) ≤ (k : Int)) = false := decide_eq_false (by omega)
      have hceq := EqR.celC (d := 9998) ((p.1 : Int), (p.2 : Int)) ((p.1 : Int), (p.2 : Int))
      rw [decide_eq_true rfl] at hceq
      change G _ _ _ _ ((36, i64 (p.2 : Nat)) :: (35, i64 (p.1 : Nat)) :: _) (pt b3 (row [i64 ((sideO (none : OptM) : Nat) : Int), .slice (some ⟨bo, oo, none⟩) (cellsX (setO (none : OptM))).length cap] 28) :: pt b5 (row [i64 (k : Nat)] 3) :: z :: q :: F1)
      (refine G.seq ?_; refine G.region ?_; refine GO.assign rfl rfl ?_; refine GO.nil ?_; refine kthen_n ?_; refine G.region ?_; refine GO.assign rfl rfl ?_; refine GO.nil ?_)
      refine kA_n ?_
      (refine G.block ?_; refine G.seq ?_; refine G.seq ?_; refine G.region ?_; refine GO.load1 rfl rfl rfl (Tk.t Tk.h) rfl ?_; refine GO.fieldAddr rfl rfl ?_; refine GO.load1 rfl rfl rfl Tk.h rfl ?_; refine GO.lenS rfl rfl ?_; refine GO.gei rfl rfl rfl ?_; refine GO.move rfl rfl ?_; refine GO.gT rfl rfl (by assumption) ?_; refine GO.fieldAddr rfl rfl ?_; refine GO.gT rfl rfl (by assumption) ?_; refine GO.load1 rfl rfl rfl Tk.h rfl ?_; refine GO.gT rfl rfl (by assumption) ?_; refine GO.load1 rfl rfl rfl (Tk.t Tk.h) rfl ?_; refine GO.gT rfl rfl (by assumption) ?_; refine GO.idxS rfl rfl rfl ⟨rfl, by omega⟩ ?_; refine GO.gT rfl rfl (by assumption) ?_; refine GO.load2 rfl rfl rfl (Tk.t (Tk.t Tk.h)) (by assumption) (by assumption) ?_; refine GO.gT rfl rfl (by assumption) ?_; refine GO.move rfl rfl ?_; refine GO.gT rfl rfl (by assumption) ?_; refine GO.move rfl rfl ?_; refine GO.gT rfl rfl (by assumption) ?_; refine GO.build2 rfl rfl rfl rfl ?_; refine GO.gT rfl rfl (by assumption) ?_)
      refine GO.neqA hceq rfl rfl rfl ?_
      (refine GO.pickFa rfl rfl (by assumption) rfl ?_; refine GO.nil ?_; refine kthen_n ?_; refine G.condF rfl rfl ?_; refine G.skip ?_; refine kthen_n ?_; refine G.region ?_; refine GO.load1 rfl rfl rfl (Tk.t Tk.h) rfl ?_; refine GO.addi rfl rfl rfl (by omega) ?_; refine GO.store1 rfl rfl rfl (Tk.t Tk.h) (by simp) ?_; refine GO.nil ?_; refine kblock_n ?_)
      refine kB_n (ImpS.sb ?_)
      ((refine Sb.c (Tk.t Tk.h) ?_; refine Sb.c Tk.h ?_; refine Sb.c Tk.h ?_; refine Sb.c Tk.h ?_); (exact Sb.r))
    · rw [List.length_map]
      change G _ _ _ _ _ (pt b3 (row [i64 ((sideO (none : OptM) : Nat) : Int), .slice a (cellsX (setO (none : OptM))).length cap] 28) :: pt b5 (row [i64 ((cellsX (setO (none : OptM))).length : Nat)] 3) :: z :: q :: bkM (setO (none : OptM)) bI vI :: R :: pt b4 (row [.bool false] 4) :: F)
      (refine G.seq ?_; refine G.region ?_; refine GO.load1 rfl rfl rfl (Tk.t Tk.h) rfl ?_; refine GO.fieldAddr rfl rfl ?_; refine GO.load1 rfl rfl rfl Tk.h rfl ?_; refine GO.lenS rfl rfl ?_; refine GO.eqT rfl rfl rfl rfl ?_; refine GO.store1 rfl rfl rfl (Tk.t (Tk.t (Tk.t (Tk.t (Tk.t (Tk.t Tk.h)))))) (by decide) ?_; refine GO.nil ?_; refine kthen_n ?_; refine G.ret ?_)
      refine KF2.r1 rfl (RV.c1 rfl rfl (by (exact Tk.h)) rfl) ⟨rfl, rfl⟩ (ImpS.sb ?_)
      ((refine Sb.c (Tk.t (Tk.t (Tk.t (Tk.t (Tk.t (Tk.t Tk.h)))))) ?_; refine Sb.c (Tk.t (Tk.t (Tk.t Tk.h))) ?_; refine Sb.c (Tk.t (Tk.t (Tk.t Tk.h))) ?_); (refine Sb.s ?_; refine Sb.s ?_; refine Sb.s ?_; refine Sb.s ?_; exact Sb.r))
    · intro i jc hi
      exact G.pur fun h => h.elim
  · obtain ⟨⟨s, X⟩, rfl⟩ := Option.ne_none_iff_exists'.1 hne
    have hs := hw.some s X rfl
    (refine G.seq ?_; refine G.region ?_; refine GO.box rfl rfl rfl fun b3 => ?_; refine GO.alloc rfl fun b4 => ?_; refine GO.nil ?_; refine kthen_n ?_; refine G.seq ?_; refine G.seq ?_)
    refine G.draw 21 (by kernel_rfl) ?_
    ((apply GQ.step; focus (intro Z; refine GO.move rfl rfl ?_; exact KQ.z)); (apply GQ.step; focus (intro Z; refine GO.eqNilP rfl rfl ?_; exact KQ.z)); (apply GQ.step; focus (intro Z; refine GO.fieldAddr rfl rfl ?_; exact KQ.z)); (apply GQ.step; focus (intro Z; refine GO.load1 rfl rfl rfl (Tk.t Tk.h) rfl ?_; exact KQ.z)); (apply GQ.step; focus (intro Z; refine GO.eqi rfl rfl rfl ?_; exact KQ.z)))
    apply GQ.step; focus (intro Z; refine GO.neqF rfl rfl rfl (by show false = decide (((s : Nat) : Int) = 0); rw [decide_eq_false (by omega)]) ?_; exact KQ.z)
    ((apply GQ.step; focus (intro Z; refine GO.move rfl rfl ?_; exact KQ.z)); (apply GQ.step; focus (intro Z; refine GO.gT rfl rfl rfl ?_; refine GO.move rfl rfl ?_; exact KQ.z)))
    apply GQ.step; focus (intro Z; refine GO.gT rfl rfl rfl ?_; refine GO.call1 rfl rfl (ho.side) (Tks.c (Tk.t (Tk.t Tk.h)) Tks.n) ?_; rintro _ _ ⟨rfl, rfl⟩; refine GO.nil (KQ.s ?_); ((refine Sb.c (Tk.t Tk.h) ?_; refine Sb.c (Tk.t Tk.h) ?_; refine Sb.c Tk.h ?_; refine Sb.c Tk.h ?_; refine Sb.c Tk.h ?_); (exact Sb.r)))
    ((apply GQ.step; focus (intro Z; refine GO.gT rfl rfl rfl ?_; refine GO.fieldAddr rfl rfl ?_; exact KQ.z)); (apply GQ.step; focus (intro Z; refine GO.gT rfl rfl rfl ?_; refine GO.load1 rfl rfl rfl (Tk.t Tk.h) rfl ?_; exact KQ.z)); (apply GQ.step; focus (intro Z; refine GO.gT rfl rfl rfl ?_; refine GO.neF rfl rfl rfl rfl ?_; exact KQ.z)); (apply GQ.step; focus (intro Z; refine GO.pickF rfl rfl rfl ?_; exact KQ.z)); (apply GQ.step; focus (intro Z; refine GO.move rfl rfl ?_; exact KQ.z)); (apply GQ.step; focus (intro Z; refine GO.gT rfl rfl rfl ?_; refine GO.move rfl rfl ?_; exact KQ.z)))
    apply GQ.step; focus (intro Z; refine GO.gT rfl rfl rfl ?_; refine GO.call1 rfl rfl (ho.len) (Tks.c (Tk.t (Tk.t Tk.h)) Tks.n) ?_; rintro _ _ ⟨rfl, rfl⟩; refine GO.nil (KQ.s ?_); ((refine Sb.c (Tk.t Tk.h) ?_; refine Sb.c (Tk.t Tk.h) ?_; refine Sb.c Tk.h ?_; refine Sb.c Tk.h ?_; refine Sb.c Tk.h ?_); (exact Sb.r)))
    rw [← hlen]
    ((apply GQ.step; focus (intro Z; refine GO.gT rfl rfl rfl ?_; refine GO.fieldAddr rfl rfl ?_; exact KQ.z)); (apply GQ.step; focus (intro Z; refine GO.gT rfl rfl rfl ?_; refine GO.load1 rfl rfl rfl (Tk.t Tk.h) rfl ?_; exact KQ.z)); (apply GQ.step; focus (intro Z; refine GO.gT rfl rfl rfl ?_; refine GO.lenS rfl rfl ?_; exact KQ.z)); (apply GQ.step; focus (intro Z; refine GO.gT rfl rfl rfl ?_; refine GO.neF rfl rfl rfl rfl ?_; exact KQ.z)); (apply GQ.step; focus (intro Z; refine GO.pickF rfl rfl rfl ?_; exact KQ.z)); refine GQ.nil ?_)
    (refine GO.nil ?_; refine kthen_n ?_; refine G.condF rfl rfl ?_; refine G.skip ?_; refine kthen_n ?_; refine G.seq ?_; refine G.region ?_; refine GO.alloc rfl fun b5 => ?_; refine GO.store1 rfl rfl rfl Tk.h (by decide) ?_; refine GO.nil ?_; refine kthen_n ?_; refine G.seq ?_; refine G.region ?_; refine GO.move rfl rfl ?_)
    refine GO.call1 rfl rfl (ho.cells) (Tks.c (Tk.t (Tk.t (Tk.t Tk.h))) Tks.n) ?_
    rintro _ _ ⟨bI, vI, rfl, rfl⟩
    (refine GO.assign rfl rfl ?_; refine GO.nil ?_; refine kthen_n ?_; refine G.seq ?_; refine G.seq ?_; refine G.region ?_; refine GO.move rfl rfl ?_)
    refine GO.eqNilF rfl rfl ?_
    (refine GO.nil ?_; refine kthen_n ?_; refine G.condF rfl rfl ?_; refine G.skip ?_; refine kthen_n ?_; refine G.seq ?_; refine G.seq ?_; refine G.region ?_; refine GO.move rfl rfl ?_; refine GO.nil ?_; refine kthen_n ?_; refine G.block ?_)
    refine G.rangeF (F := R :: pt b4 (row [.bool false] 4) :: F) (psl := [35, 36]) (v := .func (.func 96) #[] #[.pointer (some ⟨bI, 0, none⟩)]) (xs := (cellsX (setO (some (s, X) : OptM))).map celV) (Sh := [q]) (Gm := [bkM (setO (some (s, X) : OptM)) bI vI])
      (fun k => [pt b3 (row [i64 ((sideO (some (s, X) : OptM) : Nat) : Int), .slice a (cellsX (setO (some (s, X) : OptM))).length cap] 28), pt b5 (row [i64 (k : Nat)] 3), z])
      (fun _ _ => [pur False]) (fun _ h => by cases h) rfl (fun u hu => by obtain ⟨p, _, rfl⟩ := List.mem_map.1 hu; rfl) rfl (mcells_seq q hq (setO (some (s, X) : OptM)) bI vI) ?_ (fun lp Lr Lb w1 F1 k uu huu => ?_) ?_ ?_
    · (refine Tks.c (Tk.t (Tk.t (Tk.t (Tk.t Tk.h)))) ?_; refine Tks.c (Tk.t (Tk.t Tk.h)) ?_; refine Tks.c (Tk.t (Tk.t (Tk.t Tk.h))) ?_; refine Tks.c (Tk.t (Tk.t (Tk.t Tk.h))) ?_; exact Tks.n)
    · obtain ⟨p, hp, rfl⟩ : ∃ p, (cellsX (setO (some (s, X) : OptM)))[k]? = some p ∧ uu = celV p := by
        rw [List.getElem?_map] at huu
        cases hcc : (cellsX (setO (some (s, X) : OptM)))[k]? with
        | none => simp [hcc] at huu
        | some p => simp [hcc] at huu; exact ⟨p, rfl, huu.symm⟩
      have hkl := (List.getElem?_eq_some_iff.1 hp).1
      have hpc : (castL (cellsX (setO (some (s, X) : OptM))))[k]? = some ((p.1 : Int), (p.2 : Int)) := by unfold castL; rw [List.getElem?_map, hp]; rfl
      obtain ⟨bo, oo, rfl, hr2⟩ := hrd (by omega)
      have r1 : Rd z ⟨bo, oo + k * 2, none⟩ (i64 ((p.1 : Nat) : Int)) := hr2 _ _ (cellsV_get hpc).1
      have r2 : Rd z ⟨bo, oo + k * 2 + 1, none⟩ (i64 ((p.2 : Nat) : Int)) := hr2 _ _ (cellsV_get hpc).2
      have d1 : decide (((cellsX (setO (some (s, X) : OptM))).length : Int) ≤ (k : Int)) = false := decide_eq_false (by omega)
      have hceq := EqR.celC (d := 9998) ((p.1 : Int), (p.2 : Int)) ((p.1 : Int), (p.2 : Int))
      rw [decide_eq_true rfl] at hceq
      change G _ _ _ _ ((36, i64 (p.2 : Nat)) :: (35, i64 (p.1 : Nat)) :: _) (pt b3 (row [i64 ((sideO (some (s, X) : OptM) : Nat) : Int), .slice (some ⟨bo, oo, none⟩) (cellsX (setO (some (s, X) : OptM))).length cap] 28) :: pt b5 (row [i64 (k : Nat)] 3) :: z :: q :: F1)
      (refine G.seq ?_; refine G.region ?_; refine GO.assign rfl rfl ?_; refine GO.nil ?_; refine kthen_n ?_; refine G.region ?_; refine GO.assign rfl rfl ?_; refine GO.nil ?_)
      refine kA_n ?_
      (refine G.block ?_; refine G.seq ?_; refine G.seq ?_; refine G.region ?_; refine GO.load1 rfl rfl rfl (Tk.t Tk.h) rfl ?_; refine GO.fieldAddr rfl rfl ?_; refine GO.load1 rfl rfl rfl Tk.h rfl ?_; refine GO.lenS rfl rfl ?_; refine GO.gei rfl rfl rfl ?_; refine GO.move rfl rfl ?_; refine GO.gT rfl rfl (by assumption) ?_; refine GO.fieldAddr rfl rfl ?_; refine GO.gT rfl rfl (by assumption) ?_; refine GO.load1 rfl rfl rfl Tk.h rfl ?_; refine GO.gT rfl rfl (by assumption) ?_; refine GO.load1 rfl rfl rfl (Tk.t Tk.h) rfl ?_; refine GO.gT rfl rfl (by assumption) ?_; refine GO.idxS rfl rfl rfl ⟨rfl, by omega⟩ ?_; refine GO.gT rfl rfl (by assumption) ?_; refine GO.load2 rfl rfl rfl (Tk.t (Tk.t Tk.h)) (by assumption) (by assumption) ?_; refine GO.gT rfl rfl (by assumption) ?_; refine GO.move rfl rfl ?_; refine GO.gT rfl rfl (by assumption) ?_; refine GO.move rfl rfl ?_; refine GO.gT rfl rfl (by assumption) ?_; refine GO.build2 rfl rfl rfl rfl ?_; refine GO.gT rfl rfl (by assumption) ?_)
      refine GO.neqA hceq rfl rfl rfl ?_
      (refine GO.pickFa rfl rfl (by assumption) rfl ?_; refine GO.nil ?_; refine kthen_n ?_; refine G.condF rfl rfl ?_; refine G.skip ?_; refine kthen_n ?_; refine G.region ?_; refine GO.load1 rfl rfl rfl (Tk.t Tk.h) rfl ?_; refine GO.addi rfl rfl rfl (by omega) ?_; refine GO.store1 rfl rfl rfl (Tk.t Tk.h) (by simp) ?_; refine GO.nil ?_; refine kblock_n ?_)
      refine kB_n (ImpS.sb ?_)
      ((refine Sb.c (Tk.t Tk.h) ?_; refine Sb.c Tk.h ?_; refine Sb.c Tk.h ?_; refine Sb.c Tk.h ?_); (exact Sb.r))
    · rw [List.length_map]
      change G _ _ _ _ _ (pt b3 (row [i64 ((sideO (some (s, X) : OptM) : Nat) : Int), .slice a (cellsX (setO (some (s, X) : OptM))).length cap] 28) :: pt b5 (row [i64 ((cellsX (setO (some (s, X) : OptM))).length : Nat)] 3) :: z :: q :: bkM (setO (some (s, X) : OptM)) bI vI :: R :: pt b4 (row [.bool false] 4) :: F)
      (refine G.seq ?_; refine G.region ?_; refine GO.load1 rfl rfl rfl (Tk.t Tk.h) rfl ?_; refine GO.fieldAddr rfl rfl ?_; refine GO.load1 rfl rfl rfl Tk.h rfl ?_; refine GO.lenS rfl rfl ?_; refine GO.eqT rfl rfl rfl rfl ?_; refine GO.store1 rfl rfl rfl (Tk.t (Tk.t (Tk.t (Tk.t (Tk.t (Tk.t Tk.h)))))) (by decide) ?_; refine GO.nil ?_; refine kthen_n ?_; refine G.ret ?_)
      refine KF2.r1 rfl (RV.c1 rfl rfl (by (exact Tk.h)) rfl) ⟨rfl, rfl⟩ (ImpS.sb ?_)
      ((refine Sb.c (Tk.t (Tk.t (Tk.t (Tk.t (Tk.t (Tk.t Tk.h)))))) ?_; refine Sb.c (Tk.t (Tk.t (Tk.t Tk.h))) ?_; refine Sb.c (Tk.t (Tk.t (Tk.t Tk.h))) ?_); (refine Sb.s ?_; refine Sb.s ?_; refine Sb.s ?_; refine Sb.s ?_; exact Sb.r))
    · intro i jc hi
      exact G.pur fun h => h.elim
end Go.Proofs.YtpfcgfgkmgnaaaaDoor
namespace Go.Proofs.YtpfcgfgkmgnaaaaDoor
open Go
/-- How many cells stand in rows ahead of one. -/
def preN (X : Nat → Nat → Bool) (i : Nat) : Nat := (lines X i).length
theorem preN_zero (X : Nat → Nat → Bool) : preN X 0 = 0 := rfl
theorem preN_succ (X : Nat → Nat → Bool) (i : Nat) : preN X (i + 1) = preN X i + (rowX X i).length := lines_more X i
def fstA (X : Nat → Nat → Bool) (k : Nat) : Nat → Nat := fun j => match j with | 0 => 0 | j + 1 => (colsK X k j).length
def fstB (X : Nat → Nat → Bool) (i : Nat) : Nat → Nat := fun j => if j ≤ i then preN X j else (rowX X (j - 1)).length
theorem fstA_zero (X : Nat → Nat → Bool) : fstA X 0 = fun _ => 0 := by
  funext j
  cases j <;> rfl
theorem fstA_succ {X : Nat → Nat → Bool} {k r c : Nat} (h : (cellsX X)[k]? = some (r, c)) : fstA X (k + 1) = upd (fstA X k) (r + 1) (fstA X k (r + 1) + 1) := by
  funext j
  unfold upd
  by_cases e : j = r + 1
  · subst e
    rw [if_pos rfl]
    show (colsK X (k + 1) r).length = (colsK X k r).length + 1
    rw [colsK_at h, List.length_append]; rfl
  · rw [if_neg e]
    cases j with
    | zero => rfl
    | succ j =>
      show (colsK X (k + 1) j).length = (colsK X k j).length
      rw [colsK_ne h (by omega)]
theorem fstB_zero {s : Nat} {X : Nat → Nat → Bool} (hs : s ≤ 1024) (hin : ∀ r c, X r c = true → r < s ∧ c < s) {j : Nat} (hj : j < s + 1) : fstA X (cellsX X).length j = fstB X 0 j := by
  unfold fstB
  cases j with
  | zero => rfl
  | succ j =>
    rw [if_neg (by omega)]
    show (colsK X (cellsX X).length j).length = (rowX X (j + 1 - 1)).length
    rw [colsK_end hs hin (by omega), Nat.add_sub_cancel]
theorem fstB_succ (X : Nat → Nat → Bool) (i : Nat) : fstB X (i + 1) = upd (fstB X i) (i + 1) (fstB X i (i + 1) + fstB X i i) := by
  funext j
  unfold upd fstB
  by_cases e : j = i + 1
  · subst e
    rw [if_pos rfl, if_pos (Nat.le_refl _), if_neg (by omega), if_pos (Nat.le_refl _), preN_succ, Nat.add_sub_cancel, Nat.add_comm]
  · rw [if_neg e]
    by_cases h : j ≤ i
    · rw [if_pos h, if_pos (by omega)]
    · rw [if_neg h, if_neg (by omega)]
abbrev numR (b : Nat) (f : Nat → Nat) (n : Nat) : HP := pt b (row (rowV (fun x : Nat => i64 (x : Nat)) f n) 3)
theorem rowV_ext {α : Type} {f : α → Value} {o o' : Nat → α} {n : Nat} (h : ∀ j, j < n → o j = o' j) : rowV f o n = rowV f o' n := List.map_congr_left fun j hj => by rw [h j (List.mem_range.1 hj)]
attribute [local irreducible] G GO GR GT Fn FnV pt init exs pur sat own ImpS mat posL allV orL restX cellsX cellsV fstA fstB preN
end Go.Proofs.YtpfcgfgkmgnaaaaDoor
namespace Go.Proofs.YtpfcgfgkmgnaaaaDoor
open Go
theorem line_get {X : Nat → Nat → Bool} {i m c : Nat} (hi : i < 1024) (h : (rowX X i)[m]? = some c) : (cellsX X)[preN X i + m]? = some (i, c) := by
  have hm := (List.getElem?_eq_some_iff.1 h).1
  rw [lines_rest X (i := i + 1) (by omega), lines_succ, List.append_assoc]
  unfold preN
  rw [List.getElem?_append_right (by omega), Nat.add_sub_cancel_left, List.getElem?_append_left (by rw [List.length_map]; exact hm), List.getElem?_map, h]; rfl
/-- Met: by a row's first columns. -/
def metA (X Y : Nat → Nat → Bool) (i m : Nat) : Nat → Bool := fun j => ((rowX X i).take m).any fun c => Y c j
/-- .. and by the first cells of one more row. -/
def metB (f : Nat → Bool) (l : List Nat) (t : Nat) : Nat → Bool := fun j => f j || (l.take t).any fun x => decide (x = j)
theorem metA_zero (X Y : Nat → Nat → Bool) (i : Nat) : metA X Y i 0 = fun _ => false := rfl
theorem metB_zero (f : Nat → Bool) (l : List Nat) : metB f l 0 = f := by funext j; simp [metB]
theorem metB_succ {f : Nat → Bool} {l : List Nat} {t x : Nat} (h : l[t]? = some x) : metB f l (t + 1) = upd (metB f l t) x true := by
  funext j
  unfold metB upd
  rw [List.take_add_one, h]
  by_cases e : j = x
  · subst e; simp
  · rw [if_neg e]
    have e2 : decide (x = j) = false := decide_eq_false fun h => e h.symm
    simp [List.any_append, e2]
theorem metB_end {s : Nat} {X Y : Nat → Nat → Bool} (hs : s ≤ 1024) (hy : ∀ r c, Y r c = true → r < s ∧ c < s) {i m c : Nat} (h : (rowX X i)[m]? = some c) : metB (metA X Y i m) (rowX Y c) (rowX Y c).length = metA X Y i (m + 1) := by
  funext j
  unfold metB metA
  rw [List.take_length, List.take_add_one, h, List.any_append]
  refine congrArg _ ?_
  rw [Bool.eq_iff_iff, List.any_eq_true]
  simp only [Option.toList_some, List.any_cons, List.any_nil, Bool.or_false, decide_eq_true_eq]
  constructor
  · rintro ⟨x, hx, rfl⟩
    exact (List.mem_filter.1 hx).2
  · intro hj
    have := (hy _ _ hj).2
    exact ⟨j, List.mem_filter.2 ⟨List.mem_range.2 (by omega), hj⟩, rfl⟩
theorem metA_end (X Y : Nat → Nat → Bool) (i : Nat) : metA X Y i (rowX X i).length = fun j => mulX X Y i j := by
  funext j
  unfold metA mulX rowX
  rw [List.take_length, List.any_filter]
theorem rowX_none {X Y : Nat → Nat → Bool} {i : Nat} (h : (rowX X i).length = 0) : rowX (mulX X Y) i = [] := by
  refine List.filter_eq_nil_iff.2 fun c hc => ?_
  have e := congrFun (metA_end X Y i) c
  rw [h] at e
  have e : (false : Bool) = mulX X Y i c := e
  rw [← e]
  simp
/-- What is told: all rows ahead, and of one row its first columns. -/
def toldX (Z : Nat → Nat → Bool) (i j : Nat) : List (Nat × Nat) := lines Z i ++ (rowTo Z i j).map fun c => (i, c)
theorem rowTo_zero (Z : Nat → Nat → Bool) (i : Nat) : rowTo Z i 0 = [] := rfl
theorem toldX_zero (Z : Nat → Nat → Bool) (i : Nat) : toldX Z i 0 = lines Z i := by unfold toldX; rw [rowTo_zero, List.map_nil, List.append_nil]
theorem rowTo_one (Z : Nat → Nat → Bool) (i j : Nat) : rowTo Z i (j + 1) = rowTo Z i j ++ (if Z i j then [j] else []) := by
  unfold rowTo
  rw [List.range_succ, List.filter_append]
  cases h : Z i j <;> simp [h]
theorem toldX_yes {Z : Nat → Nat → Bool} {i j : Nat} (h : Z i j = true) : toldX Z i (j + 1) = toldX Z i j ++ [(i, j)] := by
  unfold toldX; rw [rowTo_one, h, if_pos rfl, List.map_append, List.append_assoc]; rfl
theorem toldX_no {Z : Nat → Nat → Bool} {i j : Nat} (h : Z i j = false) : toldX Z i (j + 1) = toldX Z i j := by
  unfold toldX; rw [rowTo_one, h, if_neg (by simp), List.append_nil]
theorem toldX_end {s : Nat} {Z : Nat → Nat → Bool} (hs : s ≤ 1024) (hin : ∀ r c, Z r c = true → r < s ∧ c < s) (i : Nat) : toldX Z i s = lines Z (i + 1) := by
  unfold toldX; rw [rowTo_end hin (Nat.le_refl _) hs, lines_succ]
theorem told_none {X Y : Nat → Nat → Bool} {i : Nat} (h : (rowX X i).length = 0) : lines (mulX X Y) (i + 1) = lines (mulX X Y) i := by
  rw [lines_succ, rowX_none h, List.map_nil, List.append_nil]
theorem castL_snoc (l : List (Nat × Nat)) (p : Nat × Nat) : castL (l ++ [p]) = castL l ++ [((p.1 : Int), (p.2 : Int))] := by unfold castL; rw [List.map_append]; rfl
theorem toldX_len (Z : Nat → Nat → Bool) {i j : Nat} (hi : i < 1024) (hj : j ≤ 1024) : ¬ 1049600 < (toldX Z i j).length := by
  have h2 := lines_len Z (i := i) (by omega)
  have h3 := rowTo_len Z i j
  have h4 := cnt_max Z
  unfold toldX
  rw [List.length_append, List.length_map]
  omega
end Go.Proofs.YtpfcgfgkmgnaaaaDoor
namespace Go.Proofs.YtpfcgfgkmgnaaaaDoor
open Go
/-- The error that fit tells. -/
def errF (n : Nat) (f : Nat → Nat) : Int := if (List.range n).any (fun k => decide (f k = 0)) then 1 else if (List.range n).any (fun k => !decide (f k = f 0)) then 5 else 0
theorem fitR_err {n : Nat} {f : Nat → Nat} {r : Value} (h : fitR n f r) : r = i64 (errF n f) := by
  unfold errF
  rcases h with ⟨⟨k, hk, h0⟩, rfl⟩ | ⟨ha, ⟨k, hk, h0⟩, rfl⟩ | ⟨ha, rfl⟩
  · rw [if_pos (List.any_eq_true.2 ⟨k, List.mem_range.2 hk, decide_eq_true h0⟩)]
  · rw [if_neg, if_pos (List.any_eq_true.2 ⟨k, List.mem_range.2 hk, by rw [decide_eq_false h0]; rfl⟩)]
    intro h
    obtain ⟨j, hj, h⟩ := List.any_eq_true.1 h
    exact ha j (List.mem_range.1 hj) (of_decide_eq_true h)
  · rw [if_neg, if_neg]
    · intro h
      obtain ⟨j, hj, h⟩ := List.any_eq_true.1 h
      rw [decide_eq_true (ha j (List.mem_range.1 hj)).2] at h
      cases h
    · intro h
      obtain ⟨j, hj, h⟩ := List.any_eq_true.1 h
      exact (ha j (List.mem_range.1 hj)).1 (of_decide_eq_true h)
theorem errF_zero {n : Nat} {f : Nat → Nat} (h : errF n f = 0) : ∀ k, k < n → f k ≠ 0 ∧ f k = f 0 := by
  intro k hk
  unfold errF at h
  split at h
  · cases h
  · rename_i h1
    split at h
    · cases h
    · rename_i h2
      constructor
      · intro h0
        exact h1 (List.any_eq_true.2 ⟨k, List.mem_range.2 hk, decide_eq_true h0⟩)
      · refine Classical.byContradiction fun h0 => ?_
        exact h2 (List.any_eq_true.2 ⟨k, List.mem_range.2 hk, by rw [decide_eq_false h0]; rfl⟩)
theorem errF_cases (n : Nat) (f : Nat → Nat) : errF n f = 0 ∨ errF n f = 1 ∨ errF n f = 5 := by
  unfold errF
  split
  · exact .inr (.inl rfl)
  · split
    · exact .inr (.inr rfl)
    · exact .inl rfl
def sidesL (l : List OptM) (k : Nat) : Nat := sideO (l[k]?.getD none)
def errL (l : List OptM) : Int := errF l.length (sidesL l)
theorem sidesL_get {l : List OptM} {k : Nat} {o : OptM} (h : l[k]? = some o) : sidesL l k = sideO o := by unfold sidesL; rw [h]; rfl
/-- A matrix within its bounds. -/
def WfM (o : OptM) : Prop := ∀ s X, o = some (s, X) → (1 ≤ s ∧ s ≤ 1024) ∧ ∀ r c, X r c = true → r < s ∧ c < s
theorem WfM.wf {o : OptM} (h : WfM o) : WfO o := ⟨fun s X e => (h s X e).1⟩
theorem WfM.no : WfM none := fun _ _ h => by cases h
def mulO : OptM → OptM → OptM
  | some (s, X), some (t, Y) => if s = t then some (s, mulX X Y) else none
  | _, _ => none
theorem mulO_some {s t : Nat} {X Y : Nat → Nat → Bool} : mulO (some (s, X)) (some (t, Y)) = if s = t then some (s, mulX X Y) else none := rfl
theorem WfM.mul {a b : OptM} (ha : WfM a) (hb : WfM b) : WfM (mulO a b) := by
  intro s X h
  match a, b, ha, hb, h with
  | some (s', X'), some (t, Y), ha, hb, h =>
    rw [mulO_some] at h
    by_cases e : s' = t
    · subst e
      rw [if_pos rfl] at h
      injection h with h
      injection h with h1 h2
      subst h1 h2
      exact ⟨(ha _ _ rfl).1, mulX_in (ha _ _ rfl).2 (hb _ _ rfl).2⟩
    · rw [if_neg e] at h
      cases h
  | none, _, _, _, h => cases h
  | some _, none, _, _, h => cases h
theorem sideO_pos {o : OptM} (h : WfM o) : sideO o ≠ 0 ↔ o ≠ none := by
  match o, h with
  | none, _ => exact ⟨fun h => absurd rfl h, fun h => absurd rfl h⟩
  | some (s, X), h =>
    have := (h _ _ rfl).1
    exact ⟨fun _ h => (by cases h), fun _ h => by have h : s = 0 := h; omega⟩
/-- Both are there, of one side; or there is an error, and no product. -/
theorem errL_two {a b : OptM} (ha : WfM a) (hb : WfM b) : (errL [a, b] = 0 ∧ ∃ s X Y, a = some (s, X) ∧ b = some (s, Y) ∧ mulO a b = some (s, mulX X Y)) ∨ (errL [a, b] ≠ 0 ∧ mulO a b = none) := by
  by_cases h : errL [a, b] = 0
  · have h2 := errF_zero h
    have h0 := h2 0 (by show 0 < 2; omega)
    have h1 := h2 1 (by show 1 < 2; omega)
    have e0 : sidesL [a, b] 0 = sideO a := rfl
    have e1 : sidesL [a, b] 1 = sideO b := rfl
    rw [e0] at h0 h1
    rw [e1] at h1
    match a, b, ha, hb, h0, h1, h with
    | some (s, X), some (t, Y), ha, hb, h0, h1, h =>
      obtain rfl : t = s := h1.2
      exact .inl ⟨h, t, X, Y, rfl, rfl, if_pos rfl⟩
    | none, _, _, _, h0, _, _ => exact absurd rfl h0.1
    | some _, none, _, _, _, h1, _ => exact absurd rfl h1.1
  · refine .inr ⟨h, ?_⟩
    match a, b, ha, hb, h with
    | some (s, X), some (t, Y), ha, hb, h =>
      unfold mulO
      refine if_neg fun e => h ?_
      subst e
      have hs := (ha _ _ rfl).1
      unfold errL errF
      rw [if_neg, if_neg]
      · intro hh
        obtain ⟨j, hj, hh⟩ := List.any_eq_true.1 hh
        have hj := List.mem_range.1 hj
        match j, hj, hh with
        | 0, _, hh => simp at hh
        | 1, _, hh =>
          have e : sidesL [some (s, X), some (s, Y)] 1 = sidesL [some (s, X), some (s, Y)] 0 := rfl
          rw [e] at hh
          simp at hh
        | j + 2, hj, _ => exact absurd hj (by show ¬ j + 2 < 2; omega)
      · intro hh
        obtain ⟨j, hj, hh⟩ := List.any_eq_true.1 hh
        have hj := List.mem_range.1 hj
        have hh := of_decide_eq_true hh
        match j, hj, hh with
        | 0, _, hh => have hh : s = 0 := hh; omega
        | 1, _, hh => have hh : s = 0 := hh; omega
        | j + 2, hj, _ => exact absurd hj (by show ¬ j + 2 < 2; omega)
    | none, _, _, _, _ => rfl
    | some _, none, _, _, _ => rfl
/-- Matrices of the reference, one behind another. -/
def refsV (l : List (Nat × Value)) : List Value := l.flatMap fun p => [i64 (p.1 : Nat), p.2]
theorem refsV_len : ∀ l : List (Nat × Value), (refsV l).length = l.length * 2
  | [] => rfl
  | p :: l => by
    have ih := refsV_len l
    unfold refsV at ih ⊢
    rw [List.flatMap_cons, List.length_append, ih, List.length_cons]
    simp only [List.length_cons, List.length_nil]
    omega
theorem refsV_get : ∀ {l : List (Nat × Value)} {k : Nat} {p : Nat × Value}, l[k]? = some p → (refsV l)[k * 2]? = some (i64 (p.1 : Nat)) ∧ (refsV l)[k * 2 + 1]? = some p.2
  | [], _, _, h => by simp at h
  | t :: ss, 0, s, h => by simp at h; subst h; simp [refsV]
  | t :: ss, k + 1, s, h => by
    have := refsV_get (l := ss) (k := k) (by simpa using h)
    have e : refsV (t :: ss) = i64 (t.1 : Nat) :: t.2 :: refsV ss := rfl
    rw [e, show (k + 1) * 2 = k * 2 + 2 by omega]
    simpa using this
attribute [local irreducible] G GO GR GT Fn FnV pt init exs pur sat own ImpS refsV
end Go.Proofs.YtpfcgfgkmgnaaaaDoor
namespace Go.Proofs.YtpfcgfgkmgnaaaaDoor
open Go
theorem cells_no : cellsX noX = [] := by
  refine List.eq_nil_of_length_eq_zero ?_
  rw [cellsX_len, cntX_no]
theorem RefO.nil (q : HP) : RefO q (refV 0 (.slice none 0 0)) none := ⟨.slice none 0 0, rfl, rfl, none, 0, by
  show Value.slice none 0 0 = .slice none (castL (cellsX noX)).length 0
  rw [castL_len, cells_no]; rfl, by
  show (castL (cellsX noX)).length ≤ 0
  rw [castL_len, cells_no]; exact Nat.le_refl _, fun h => by
  change 0 < (castL (cellsX noX)).length at h
  rw [castL_len, cells_no] at h
  exact absurd h (by show ¬ 0 < 0; omega)⟩
theorem own_slC {v : Value} {l : List Cl} {F : List HP} {w : World} (s : sat (own 63 2 l.length v (cellsV l) :: F) w) : SlC (own 63 2 l.length v (cellsV l)) v l := by
  obtain ⟨a, cap, e, h1, h2⟩ := own_sl s
  subst e
  refine ⟨a, cap, rfl, ?_, h2⟩
  rcases own_shape s with ⟨g1, g2, _, _⟩ | ⟨b, cap', rest', g1, _, g3, _, _, _⟩
  · omega
  · injection g1 with _ _ g1
    omega
theorem own_one {el : TypeId} {sz n : Nat} {v : Value} {xs : List Value} {l : List HP} {w : World} (s : sat (own el sz n v xs :: l) w) : v.oneCell' = true := by
  rcases own_shape s with ⟨rfl, _⟩ | ⟨_, _, _, rfl, _⟩ <;> rfl
theorem GO.ownSlC {P : Program} {c : Cx} {A : Array Oper} {os : List Oper} {K : Kont} {L : Env} {H F : List HP} {v : Value} {l : List Cl} (tk : Tk (own 63 2 l.length v (cellsV l)) H F) (k : SlC (own 63 2 l.length v (cellsV l)) v l → GO P c A os K L H) : GO P c A os K L H := by
  rintro a w ⟨h1, h2, ds, h3, h4, h5⟩
  exact k (own_slC (sat_perm (List.Perm.append_right _ tk) h5)) a w ⟨h1, h2, ds, h3, h4, h5⟩
/-- A matrix's cells of our own are such a matrix. -/
theorem RefO.own {v : Value} {s : Nat} {X : Nat → Nat → Bool} (h1 : v.oneCell' = true) (h2 : SlC (own 63 2 (castL (cellsX X)).length v (cellsV (castL (cellsX X)))) v (castL (cellsX X))) : RefO (Go.Proofs.YtpfcgfgkmgnaaaaDoor.own 63 2 (castL (cellsX X)).length v (cellsV (castL (cellsX X)))) (refV s v) (some (s, X)) := ⟨v, rfl, h1, h2⟩
theorem RefO.slR {q : HP} {rv : Value} {o : OptM} (h : RefO q rv o) : ∃ v, rv = refV (sideO o) v ∧ v.oneCell' = true := let ⟨v, h1, h2, _⟩ := h; ⟨v, h1, h2⟩
theorem RefO.sup {q q' : HP} (hs : Sup q q') {rv : Value} {o : OptM} (h : RefO q rv o) : RefO q' rv o := let ⟨v, h1, h2, a, cap, h3, h4, h5⟩ := h
  ⟨v, h1, h2, a, cap, h3, h4, fun hp => let ⟨b, o, e, hr⟩ := h5 hp; ⟨b, o, e, fun j u hj => hs _ _ (hr j u hj)⟩⟩
theorem rowX_one {s i : Nat} (hs : s ≤ 1024) (hi : i < s) : rowX (oneX s) i = [i] := by
  refine strict_unique (R := fun a b : Nat => a < b) (fun _ _ h => by omega) (List.Pairwise.filter _ List.pairwise_lt_range) (List.pairwise_singleton _ _) fun x => ?_
  rw [List.mem_singleton]
  unfold rowX oneX
  rw [List.mem_filter, List.mem_range, decide_eq_true_iff]
  omega
theorem lines_one {s : Nat} (hs : s ≤ 1024) {i : Nat} (hi : i < s) : lines (oneX s) (i + 1) = lines (oneX s) i ++ [(i, i)] := by rw [lines_succ, rowX_one hs hi]; rfl
theorem one_in {s : Nat} : ∀ r c, oneX s r c = true → r < s ∧ c < s := fun r c h => by
  unfold oneX at h
  rw [decide_eq_true_iff] at h
  omega
def oneO (s : Int) : OptM := if refOk s then some (s.toNat, oneX s.toNat) else none
attribute [local irreducible] G GO GR GT Fn FnV pt init exs pur sat own ImpS mat posL allV orL restX cellsX cellsV refsV lines oneX
end Go.Proofs.YtpfcgfgkmgnaaaaDoor
namespace Go.Proofs.YtpfcgfgkmgnaaaaDoor
open Go
theorem HasO.ptr {R : HP} {v : Value} {o : OptM} (h : HasO R v o) : ∃ p, v = .pointer p := by
  rcases h.form with ⟨_, rfl⟩ | ⟨_, b, rfl⟩
  · exact ⟨_, rfl⟩
  · exact ⟨_, rfl⟩
/-- v is such a matrix, and the piece p is all of it. -/
def MatO (p : HP) (v : Value) (o : OptM) : Prop := (o = none ∧ v = .pointer none) ∨ ∃ s X b, o = some (s, X) ∧ v = ptrV b ∧ p = mat s X b
theorem MatO.has {p : HP} {v : Value} {o : OptM} (h : MatO p v o) : HasO p v o := by
  rcases h with ⟨rfl, rfl⟩ | ⟨s, X, b, rfl, rfl, rfl⟩
  · exact HasO.nil _
  · exact HasO.one _ _ _
theorem MatO.one (s b : Nat) (X : Nat → Nat → Bool) : MatO (mat s X b) (ptrV b) (some (s, X)) := .inr ⟨s, X, b, rfl, rfl, rfl⟩
theorem MatO.nil (p : HP) : MatO p (.pointer none) none := .inl ⟨rfl, rfl⟩
def gridO (s : Int) (l : List Cl) : OptM := if refOk s && inL s.toNat l then some (s.toNat, setL noX l) else none
theorem gridO_t {n : Nat} {l : List Cl} (h1 : 1 ≤ n) (h2 : n ≤ 1024) (h3 : inL n l = true) : gridO n l = some (n, setL noX l) := by
  unfold gridO refOk
  rw [Int.toNat_natCast, h3, if_pos]
  simp only [Bool.and_true, Bool.not_eq_true', Bool.or_eq_false_iff, decide_eq_false_iff_not]
  omega
theorem gridO_f {s : Int} {l : List Cl} (h : ¬ (1 ≤ s ∧ s ≤ 1024 ∧ inL s.toNat l = true)) : gridO s l = none := by
  unfold gridO
  refine if_neg fun hh => h ?_
  rw [Bool.and_eq_true] at hh
  have := refOk_t hh.1
  exact ⟨this.1, this.2, hh.2⟩
theorem gridO_wf (s : Int) (l : List Cl) : WfM (gridO s l) := by
  intro t X h
  by_cases hh : 1 ≤ s ∧ s ≤ 1024 ∧ inL s.toNat l = true
  · obtain ⟨n, rfl⟩ := Int.eq_ofNat_of_zero_le (show 0 ≤ s by omega)
    rw [Int.toNat_natCast] at hh
    rw [gridO_t (by omega) (by omega) hh.2.2] at h
    simp only [Option.some.injEq, Prod.mk.injEq] at h
    obtain ⟨rfl, rfl⟩ := h
    refine ⟨⟨by omega, by omega⟩, fun r c hrc => ?_⟩
    rcases (setL_mem r c l noX hh.2.2).1 hrc with h0 | h0
    · cases h0
    · have h1 := List.all_eq_true.1 hh.2.2 _ h0
      unfold inM at h1
      simp only [Bool.and_eq_true, decide_eq_true_eq] at h1
      omega
  · rw [gridO_f hh] at h
    cases h
def fewF (n : Nat) (f : Nat → Nat) : Bool := (List.range n).all fun k => decide (f k ≤ 400)
theorem fewF_f {n k : Nat} {f : Nat → Nat} (hk : k < n) (h : 400 < f k) : fewF n f = false := by
  unfold fewF
  rw [List.all_eq_false]
  exact ⟨k, List.mem_range.2 hk, by rw [decide_eq_false (by omega)]; simp⟩
theorem fewF_t {n : Nat} {f : Nat → Nat} (h : ∀ k, k < n → f k ≤ 400) : fewF n f = true := List.all_eq_true.2 fun k hk => decide_eq_true (h k (List.mem_range.1 hk))
theorem fewF_get {n : Nat} {f : Nat → Nat} (h : fewF n f = true) {k : Nat} (hk : k < n) : f k ≤ 400 := of_decide_eq_true (List.all_eq_true.1 h k (List.mem_range.2 hk))
/-- Grids, one behind another. -/
def gridsV (l : List (Int × Value)) : List Value := l.flatMap fun p => [i64 p.1, p.2]
theorem gridsV_len : ∀ l : List (Int × Value), (gridsV l).length = l.length * 2
  | [] => rfl
  | p :: l => by
    have ih := gridsV_len l
    unfold gridsV at ih ⊢
    rw [List.flatMap_cons, List.length_append, ih, List.length_cons]
    simp only [List.length_cons, List.length_nil]
    omega
theorem gridsV_get : ∀ {l : List (Int × Value)} {k : Nat} {p : Int × Value}, l[k]? = some p → (gridsV l)[k * 2]? = some (i64 p.1) ∧ (gridsV l)[k * 2 + 1]? = some p.2
  | [], _, _, h => by simp at h
  | t :: ss, 0, s, h => by simp at h; subst h; simp [gridsV]
  | t :: ss, k + 1, s, h => by
    have := gridsV_get (l := ss) (k := k) (by simpa using h)
    have e : gridsV (t :: ss) = i64 t.1 :: t.2 :: gridsV ss := rfl
    rw [e, show (k + 1) * 2 = k * 2 + 2 by omega]
    simpa using this
attribute [local irreducible] G GO GR GT Fn FnV pt init exs pur sat own ImpS mat posL allV orL restX cellsX cellsV refsV lines oneX gridsV
set_option maxHeartbeats 4000000 in
theorem pMulO (q R : HP) (hq : Tab q) (va vb : Value) (a b : OptM) (ha : HasO R va a) (hb : HasO R vb b) (wa : WfM a) (wb : WfM b) :
    Fn Tryd.prog 19 #[va, vb] [R, q] (fun r Q => ∃ v p, r = .tuple #[v, i64 (errL [a, b])] ∧ MatO p v (mulO a b) ∧ Q = [p, R, q]) := by
  have two := errL_two wa wb
  have hfit := fun b9 : Nat => (fit_spec R (pt b9 (row [va, vb] 35)) (.slice (some ⟨b9, 0, none⟩) 2 2) [va, vb] (sidesL [a, b]) (row_sl rfl) (fun k u hk => by
    match k, hk with
    | 0, hk =>
      obtain rfl : va = u := by simpa using hk
      exact ha.side
    | 1, hk =>
      obtain rfl : vb = u := by simpa using hk
      exact hb.side) (by show ¬ 9223372036854775806 < 2; omega)).mono fun r Q h => (⟨fitR_err h.1, h.2⟩ : r = i64 (errL [a, b]) ∧ Q = [R, pt b9 (row [va, vb] 35)])
  obtain ⟨pa, rfl⟩ := ha.ptr
  obtain ⟨pb, rfl⟩ := hb.ptr
  generalize errL [a, b] = e at two hfit ⊢
  rcases two with ⟨rfl, s, X, Y, rfl, rfl, hmo⟩ | ⟨he, hmo⟩
  · have hm := pmul_spec q R hq _ _ s X Y ha.hasM hb.hasM (wa _ _ rfl).1 (wa _ _ rfl).2 (wb _ _ rfl).2
    rw [hmo]
    refine Fn.mk2 Tryd.func19 rfl rfl fun w0 F => ?_
    (refine G.seq ?_; refine G.region ?_; refine GO.assign rfl rfl ?_; refine GO.assign rfl rfl ?_; refine GO.nil ?_; refine kthen_n ?_; refine G.seq ?_; refine G.region ?_; refine GO.move rfl rfl ?_; refine GO.move rfl rfl ?_)
    refine GO.buildSlice2 rfl rfl rfl (by simp [Value.cells]) rfl ⟨by omega, by omega⟩ fun b9 => ?_
    rw [show putParts [Value.pointer pa, .pointer pb] = [.pointer pa, .pointer pb] by simp [putParts, Value.cells]]
    refine GO.call1 rfl rfl (hfit b9) (Tks.c (Tk.t Tk.h) (Tks.c Tk.h Tks.n)) ?_
    rintro _ _ ⟨rfl, rfl⟩
    (refine GO.assign rfl rfl ?_; refine GO.nil ?_; refine kthen_n ?_; refine G.seq ?_; refine G.seq ?_; refine G.region ?_; refine GO.move rfl rfl ?_; refine GO.neF rfl rfl rfl rfl ?_; refine GO.nil ?_; refine kthen_n ?_; refine G.condF rfl rfl ?_; refine G.skip ?_; refine kthen_n ?_; refine G.seq ?_; refine G.region ?_; refine GO.move rfl rfl ?_; refine GO.move rfl rfl ?_)
    refine GO.call2 rfl rfl rfl (hm) (Tks.c Tk.h (Tks.c (Tk.t Tk.h) Tks.n)) ?_
    rintro _ _ ⟨b', rfl, rfl⟩
    (refine GO.assign rfl rfl ?_; refine GO.assign rfl rfl ?_; refine GO.nil ?_; refine kthen_n ?_; refine G.ret ?_)
    refine KF2.r2 rfl (RV.t rfl) (RV.t rfl) ⟨_, _, rfl, MatO.one _ _ _, rfl⟩ (ImpS.sb ?_)
    ((refine Sb.c Tk.h ?_; refine Sb.c Tk.h ?_; refine Sb.c Tk.h ?_); (refine Sb.s ?_; exact Sb.r))
  · rw [hmo]
    have hd : decide (e ≠ 0) = true := decide_eq_true he
    refine Fn.mk2 Tryd.func19 rfl rfl fun w0 F => ?_
    (refine G.seq ?_; refine G.region ?_; refine GO.assign rfl rfl ?_; refine GO.assign rfl rfl ?_; refine GO.nil ?_; refine kthen_n ?_; refine G.seq ?_; refine G.region ?_; refine GO.move rfl rfl ?_; refine GO.move rfl rfl ?_)
    refine GO.buildSlice2 rfl rfl rfl (by simp [Value.cells]) rfl ⟨by omega, by omega⟩ fun b9 => ?_
    rw [show putParts [Value.pointer pa, .pointer pb] = [.pointer pa, .pointer pb] by simp [putParts, Value.cells]]
    refine GO.call1 rfl rfl (hfit b9) (Tks.c (Tk.t Tk.h) (Tks.c Tk.h Tks.n)) ?_
    rintro _ _ ⟨rfl, rfl⟩
    (refine GO.assign rfl rfl ?_; refine GO.nil ?_; refine kthen_n ?_; refine G.seq ?_; refine G.seq ?_; refine G.region ?_; refine GO.move rfl rfl ?_; refine GO.nei rfl rfl rfl ?_; refine GO.nil ?_; refine kthen_n ?_; refine G.condT rfl (by assumption) ?_; refine G.seq ?_; refine G.region ?_; refine GO.move rfl rfl ?_; refine GO.assign rfl rfl ?_; refine GO.assign rfl rfl ?_; refine GO.nil ?_; refine kthen_n ?_; refine G.ret ?_; refine kthen_r ?_)
    refine KF2.r2 rfl (RV.t rfl) (RV.t rfl) ⟨_, star [], rfl, MatO.nil _, rfl⟩ (ImpS.flat (k := []) (M := R :: q :: F) (ImpS.sb ?_))
    ((refine Sb.c Tk.h ?_; refine Sb.c (Tk.t Tk.h) ?_); (refine Sb.s ?_; exact Sb.r))
end Go.Proofs.YtpfcgfgkmgnaaaaDoor
namespace Go.Proofs.YtpfcgfgkmgnaaaaDoor
open Go
theorem lines_noX : lines noX 0 = cellsX noX := by rw [cells_no]; unfold lines; rfl
attribute [local irreducible] G GO GR GT Fn FnV pt init exs pur sat own ImpS mat posL allV orL restX cellsX cellsV refsV lines oneX gridsV
theorem refOk_nat {s : Int} (h : refOk s = true) : ∃ n : Nat, s = n ∧ 1 ≤ n ∧ n ≤ 1024 := by
  have h2 := refOk_t h
  obtain ⟨n, rfl⟩ := Int.eq_ofNat_of_zero_le (show 0 ≤ s by omega)
  exact ⟨n, rfl, by omega, by omega⟩
theorem oneO_t {n : Nat} (h : refOk n = true) : oneO n = some (n, oneX n) := by unfold oneO; rw [h, if_pos rfl, Int.toNat_natCast]
theorem oneO_f {s : Int} (h : refOk s = false) : oneO s = none := by unfold oneO; rw [h]; rfl
theorem oneO_wf (s : Int) : WfM (oneO s) := by
  cases h : refOk s with
  | false => rw [oneO_f h]; exact WfM.no
  | true =>
    obtain ⟨n, rfl, h1, h2⟩ := refOk_nat h
    rw [oneO_t h]
    intro t X e
    injection e with e
    injection e with e1 e2
    subst e1 e2
    exact ⟨⟨h1, h2⟩, one_in⟩
def oneE (s : Int) : Int := if refOk s then 0 else 2
def gridE (s : Int) (l : List Cl) : Int := if refOk s && inL s.toNat l then 0 else 2
theorem rOf_ref (s : Int) (q : HP) (u : Value) (l : List Cl) (hu : SlC q u l) (hb : l.length * 16 ≤ 140737488355328) :
    Fn Tryd.prog 40 #[i64 s, u] [q] (fun r Q => ∃ v p e, r = .tuple #[refV (sideO (gridO s l)) v, i64 e] ∧ v.oneCell' = true ∧ RefO p (refV (sideO (gridO s l)) v) (gridO s l) ∧ Q = [p, q]) := by
  have h := refOf_spec s q u l hu hb
  unfold Fn at *
  intro F w hw
  refine (h F w hw).mono ?_
  rintro e w' ⟨v, Q, h1, h2, ⟨n, rfl, hn1, hn2, hin, v2, rfl, rfl⟩ | ⟨hno, rfl, rfl⟩, d⟩
  · rw [gridO_t hn1 hn2 hin]
    rw [srt_cells hn2 hin] at d
    have d1 := own_one d
    exact ⟨_, _, h1, h2, ⟨v2, _, 0, rfl, d1, RefO.own d1 (own_slC d), rfl⟩, d⟩
  · rw [gridO_f hno]
    exact ⟨_, _, h1, h2, ⟨.slice none 0 0, star [], 2, rfl, rfl, RefO.nil _, rfl⟩, sat_flat.2 d⟩
theorem mof_ref (s : Int) (q : HP) (u : Value) (l : List Cl) (hu : SlC q u l) (hb : l.length * 16 ≤ 140737488355328) :
    Fn Tryd.prog 39 #[i64 s, u] [q] (fun r Q => ∃ v p e, r = .tuple #[v, i64 e] ∧ MatO p v (gridO s l) ∧ Q = [p, q]) := by
  have h := mof_spec s q u l hu.slR (by omega)
  unfold Fn at *
  intro F w hw
  refine (h F w hw).mono ?_
  rintro e w' ⟨v, Q, h1, h2, ⟨n, b, rfl, hn1, hn2, hin, rfl, rfl⟩ | ⟨hno, rfl, rfl⟩, d⟩
  · rw [gridO_t hn1 hn2 hin]
    exact ⟨_, _, h1, h2, ⟨_, _, 0, rfl, MatO.one _ _ _, rfl⟩, d⟩
  · rw [gridO_f hno]
    exact ⟨_, _, h1, h2, ⟨.pointer none, star [], 2, rfl, MatO.nil _, rfl⟩, sat_flat.2 d⟩
set_option maxHeartbeats 4000000 in
theorem made_specG (s : Int) (q : HP) (u : Value) (l : List Cl) (hu : SlC q u l) (hb : l.length * 16 ≤ 140737488355328) :
    Fn Tryd.prog 9 #[.agg #[i64 s, u]] [q] (fun r Q => ∃ v x p z, r = .tuple #[v, refV (sideO (gridO s l)) x] ∧ x.oneCell' = true ∧ MatO p v (gridO s l) ∧ RefO z (refV (sideO (gridO s l)) x) (gridO s l) ∧ Q = [p, z, q]) := by
  have h1 := mof_ref s q u l hu hb
  have h2 := rOf_ref s q u l hu hb
  have hu1 : u.oneCell' = true := by obtain ⟨a, cap, rfl, _⟩ := hu; rfl
  refine Fn.mk2 Tryd.func9 rfl rfl fun w0 F => ?_
  (refine G.seq ?_; refine G.region ?_; refine GO.box rfl rfl rfl fun b1 => ?_; refine GO.assign rfl rfl ?_; refine GO.alloc rfl fun b3 => ?_; refine GO.nil ?_; refine kthen_n ?_; refine G.seq ?_; refine G.region ?_; refine GO.fieldAddr rfl rfl ?_; refine GO.load1 rfl rfl rfl (Tk.t Tk.h) rfl ?_; refine GO.fieldAddr rfl rfl ?_; refine GO.load1 rfl rfl rfl (Tk.t Tk.h) rfl ?_)
  refine GO.call2 rfl rfl rfl (h1) (Tks.c (Tk.t (Tk.t Tk.h)) Tks.n) ?_
  rintro _ _ ⟨v, p, e, rfl, hp, rfl⟩
  (refine GO.move rfl rfl ?_; refine GO.extract rfl rfl rfl ?_; refine GO.extract rfl rfl rfl ?_; refine GO.assign rfl rfl ?_; refine GO.assign rfl rfl ?_; refine GO.nil ?_; refine kthen_n ?_; refine G.seq ?_; refine G.region ?_; refine GO.fieldAddr rfl rfl ?_; refine GO.load1 rfl rfl rfl (Tk.t (Tk.t (Tk.t Tk.h))) rfl ?_; refine GO.fieldAddr rfl rfl ?_; refine GO.load1 rfl rfl rfl (Tk.t (Tk.t (Tk.t Tk.h))) rfl ?_)
  refine GO.call2 rfl rfl rfl (h2) (Tks.c (Tk.t Tk.h) Tks.n) ?_
  rintro _ _ ⟨x, z, e2, rfl, hx1, hz, rfl⟩
  (refine GO.move rfl rfl ?_; refine GO.extract rfl rfl rfl ?_; refine GO.extract rfl rfl rfl ?_; refine GO.alloc rfl fun b6 => ?_; refine GO.storeW rfl rfl Tk.h ⟨rfl, rfl⟩ (by simp [Value.oneCell']; assumption) ?_; refine GO.assign rfl rfl ?_; refine GO.nil ?_; refine kthen_n ?_; refine G.seq ?_)
  refine G.draw 3 (by kernel_rfl) ?_
  ((apply GQ.step; focus (intro Z; refine GO.move rfl rfl ?_; exact KQ.z)); (apply GQ.step; focus (intro Z; refine GO.loadW rfl rfl rfl Tk.h rfl ?_; exact KQ.z)); (apply GQ.step; focus (intro Z; refine GO.assign rfl rfl ?_; exact KQ.z)); refine GQ.nil ?_)
  (refine GO.storeW rfl rfl (Tk.t (Tk.t (Tk.t (Tk.t Tk.h)))) ⟨rfl, rfl⟩ (by simp [Value.oneCell']; assumption) ?_; refine GO.nil ?_; refine kthen_n ?_; refine G.ret ?_)
  refine KF2.r2 rfl (RV.t rfl) (RV.cW (n := 2) rfl rfl (by (exact Tk.h)) rfl) ⟨v, x, p, z, rfl, hx1, hp, hz, rfl⟩ (ImpS.sb ?_)
  ((refine Sb.c (Tk.t (Tk.t (Tk.t (Tk.t Tk.h)))) ?_; refine Sb.c (Tk.t (Tk.t Tk.h)) ?_; refine Sb.c (Tk.t (Tk.t Tk.h)) ?_); (refine Sb.s ?_; refine Sb.s ?_; refine Sb.s ?_; exact Sb.r))
end Go.Proofs.YtpfcgfgkmgnaaaaDoor
namespace Go.Proofs.YtpfcgfgkmgnaaaaDoor
open Go
/-- A side and cells, as they are asked for. -/
def GridR (q : HP) (v : Value) (g : Int × List Cl) : Prop := ∃ u, v = .agg #[i64 g.1, u] ∧ SlC q u g.2
theorem GO.keep {P : Program} {c : Cx} {A : Array Oper} {os : List Oper} {K : Kont} {L : Env} {H H' : List HP} (h : ImpS H H') (k : GO P c A os K L H') : GO P c A os K L H := GO.imp (fun l w s => h l w s) k
theorem G.keep {P : Program} {c : Cx} {x : Code} {K : Kont} {L : Env} {H H' : List HP} (h : ImpS H H') (k : G P c x K L H') : G P c x K L H := G.imp (fun l w s => h l w s) k
theorem cells_fit (o : OptM) : ¬ 1048576 < (cellsX (setO o)).length := by rw [cellsX_len]; have := cnt_max (setO o); omega
end Go.Proofs.YtpfcgfgkmgnaaaaDoor
namespace Go.Proofs.YtpfcgfgkmgnaaaaDoor
open Go
theorem mrg_ge : ∀ (n : Nat) (xs ys : List Cl), xs.length + ys.length ≤ n → xs.length ≤ (mrg xs ys).length ∧ ys.length ≤ (mrg xs ys).length
  | _, [], ys, _ => by rw [mrg_nil']; exact ⟨Nat.zero_le _, Nat.le_refl _⟩
  | _, x :: xs, [], _ => by rw [mrg_nil]; exact ⟨Nat.le_refl _, Nat.zero_le _⟩
  | 0, x :: xs, y :: ys, h => by simp at h
  | n + 1, x :: xs, y :: ys, h => by
    simp only [List.length_cons] at h
    cases hl : ltC x y with
    | true =>
      have ih := mrg_ge n xs (y :: ys) (by simp only [List.length_cons]; omega)
      rw [mrg_lt hl]
      simp only [List.length_cons] at ih ⊢
      omega
    | false =>
      by_cases e : x = y
      · have ih := mrg_ge n xs ys (by omega)
        rw [mrg_eq hl e]
        simp only [List.length_cons]
        omega
      · have ih := mrg_ge n (x :: xs) ys (by simp only [List.length_cons]; omega)
        rw [mrg_gt hl e]
        simp only [List.length_cons] at ih ⊢
        omega
theorem mrgM_len : ∀ (n : Nat) (xs ys : List Cl), xs.length + ys.length ≤ n → mrgM xs ys = decide (xs.length < (mrg xs ys).length)
  | _, [], [], _ => by rw [mrgM_nil, mrg_nil]; rfl
  | _, [], y :: ys, _ => by rw [mrgM_nil', mrg_nil']; simp
  | _, x :: xs, [], _ => by rw [mrgM_nil, mrg_nil, decide_eq_false (by omega)]
  | 0, x :: xs, y :: ys, h => by simp at h
  | n + 1, x :: xs, y :: ys, h => by
    simp only [List.length_cons] at h
    cases hl : ltC x y with
    | true =>
      have ih := mrgM_len n xs (y :: ys) (by simp only [List.length_cons]; omega)
      rw [mrg_lt hl, mrgM_lt hl, ih, decide_eq_decide]
      simp only [List.length_cons]
      omega
    | false =>
      by_cases e : x = y
      · have ih := mrgM_len n xs ys (by omega)
        rw [mrg_eq hl e, mrgM_eq hl e, ih, decide_eq_decide]
        simp only [List.length_cons]
        omega
      · have ih := mrg_ge n (x :: xs) ys (by simp only [List.length_cons]; omega)
        rw [mrg_gt hl e, mrgM_gt hl e]
        simp only [List.length_cons] at ih ⊢
        rw [decide_eq_true (by omega)]
theorem uni_in {s : Nat} {X Y : Nat → Nat → Bool} (hx : ∀ r c, X r c = true → r < s ∧ c < s) (hy : ∀ r c, Y r c = true → r < s ∧ c < s) : ∀ r c, uniX X Y r c = true → r < s ∧ c < s := fun r c h => by
  unfold uniX at h
  rcases Bool.or_eq_true _ _ ▸ h with h | h
  · exact hx r c h
  · exact hy r c h
theorem mrg_uni {s : Nat} {X Y : Nat → Nat → Bool} (hs : s ≤ 1024) (hx : ∀ r c, X r c = true → r < s ∧ c < s) (hy : ∀ r c, Y r c = true → r < s ∧ c < s) : mrg (castL (cellsX X)) (castL (cellsX Y)) = castL (cellsX (uniX X Y)) := by
  refine up_unique (mrg_up _ _ _ (Nat.le_refl _) (cells_up X) (cells_up Y)) (cells_up _) fun p => ?_
  rw [mrg_mem _ _ _ (Nat.le_refl _), cast_mem hs hx, cast_mem hs hy, cast_mem hs (uni_in hx hy)]
  unfold uniX
  rw [Bool.or_eq_true]
  constructor
  · rintro (⟨h1, h2, h3⟩ | ⟨h1, h2, h3⟩)
    · exact ⟨h1, h2, .inl h3⟩
    · exact ⟨h1, h2, .inr h3⟩
  · rintro ⟨h1, h2, h3 | h3⟩
    · exact .inl ⟨h1, h2, h3⟩
    · exact .inr ⟨h1, h2, h3⟩
theorem mrgM_uni {s : Nat} {X Y : Nat → Nat → Bool} (hs : s ≤ 1024) (hx : ∀ r c, X r c = true → r < s ∧ c < s) (hy : ∀ r c, Y r c = true → r < s ∧ c < s) : mrgM (castL (cellsX X)) (castL (cellsX Y)) = decide (cntX X < cntX (uniX X Y)) := by
  rw [mrgM_len _ _ _ (Nat.le_refl _), mrg_uni hs hx hy, castL_len, castL_len, cellsX_len, cellsX_len]
def joinO : OptM → OptM → OptM
  | some (s, X), some (t, Y) => if s = t then some (s, uniX X Y) else some (s, X)
  | o, _ => o
def joinB : OptM → OptM → Bool
  | some (s, X), some (t, Y) => decide (s = t) && decide (cntX X < cntX (uniX X Y))
  | _, _ => false
theorem joinO_same (s : Nat) (X Y : Nat → Nat → Bool) : joinO (some (s, X)) (some (s, Y)) = some (s, uniX X Y) := if_pos rfl
theorem joinB_same (s : Nat) (X Y : Nat → Nat → Bool) : joinB (some (s, X)) (some (s, Y)) = decide (cntX X < cntX (uniX X Y)) := by
  show (decide (s = s) && _) = _
  rw [decide_eq_true rfl, Bool.true_and]
theorem GO.ownV {P : Program} {c : Cx} {A : Array Oper} {os : List Oper} {K : Kont} {L : Env} {H F : List HP} {el : TypeId} {sz n : Nat} {v : Value} {xs : List Value} (tk : Tk (own el sz n v xs) H F) (k : ∀ (a : Option Addr) (cap : Nat), v = .slice a n cap → GO P c A os K L H) : GO P c A os K L H := by
  rintro a w ⟨h1, h2, ds, h3, h4, h5⟩
  obtain ⟨a', cap, e, _⟩ := own_sl (sat_perm (List.Perm.append_right _ tk) h5)
  exact k a' cap e a w ⟨h1, h2, ds, h3, h4, h5⟩
theorem RefO.left {z z' : HP} {rv : Value} {o : OptM} (h : RefO z rv o) : RefO (star [z, z']) rv o := h.sup (Sup.left _ _)
theorem RefO.right {z z' : HP} {rv : Value} {o : OptM} (h : RefO z rv o) : RefO (star [z', z]) rv o := h.sup (Sup.right _ _)
attribute [local irreducible] G GO GR GT Fn FnV pt init exs pur sat own ImpS mat posL allV orL restX cellsX cellsV refsV lines oneX gridsV uniX
def pairE (s t : Nat) : Int := if s = 0 then 1 else if t = 0 then 1 else if s = t then 0 else 5
theorem rpair_spec (s t : Nat) (va vb : Value) (ha : va.oneCell' = true) (hb : vb.oneCell' = true) : Fn Tryd.prog 102 #[refV s va, refV t vb] [] (fun r Q => r = i64 (pairE s t) ∧ Q = []) := by
  unfold pairE
  refine Fn.mk2 Tryd.func102 rfl rfl fun w0 F => ?_
  by_cases h1 : s = 0
  · have d1 : decide (((s : Nat) : Int) = 0) = true := decide_eq_true (by omega)
    rw [if_pos h1]
    (refine G.seq ?_; refine G.region ?_; refine GO.box rfl rfl rfl fun b2 => ?_; refine GO.box rfl rfl rfl fun b3 => ?_; refine GO.assign rfl rfl ?_; refine GO.nil ?_; refine kthen_n ?_; refine G.seq ?_; refine G.seq ?_; refine G.region ?_; refine GO.fieldAddr rfl rfl ?_; refine GO.load1 rfl rfl rfl (Tk.t Tk.h) rfl ?_; refine GO.eqi rfl rfl rfl ?_; refine GO.move rfl rfl ?_; refine GO.gF rfl rfl rfl (by assumption) ?_; refine GO.gF rfl rfl rfl (by assumption) ?_; refine GO.gF rfl rfl rfl (by assumption) ?_; refine GO.pickTa rfl rfl (by assumption) rfl ?_; refine GO.nil ?_; refine kthen_n ?_; refine G.condT rfl rfl ?_; refine G.seq ?_; refine G.region ?_; refine GO.assign rfl rfl ?_; refine GO.nil ?_; refine kthen_n ?_; refine G.ret ?_; refine kthen_r ?_)
    refine KF2.r1 rfl (RV.t rfl) ⟨rfl, rfl⟩ (ImpS.sb ?_)
    (skip; (refine Sb.s ?_; refine Sb.s ?_; exact Sb.r))
  · have d1 : decide (((s : Nat) : Int) = 0) = false := decide_eq_false (by omega)
    rw [if_neg h1]
    by_cases h2 : t = 0
    · have d2 : decide (((t : Nat) : Int) = 0) = true := decide_eq_true (by omega)
      rw [if_pos h2]
      (refine G.seq ?_; refine G.region ?_; refine GO.box rfl rfl rfl fun b2 => ?_; refine GO.box rfl rfl rfl fun b3 => ?_; refine GO.assign rfl rfl ?_; refine GO.nil ?_; refine kthen_n ?_; refine G.seq ?_; refine G.seq ?_; refine G.region ?_; refine GO.fieldAddr rfl rfl ?_; refine GO.load1 rfl rfl rfl (Tk.t Tk.h) rfl ?_; refine GO.eqi rfl rfl rfl ?_; refine GO.move rfl rfl ?_; refine GO.gT rfl rfl (by assumption) ?_; refine GO.fieldAddr rfl rfl ?_; refine GO.gT rfl rfl (by assumption) ?_; refine GO.load1 rfl rfl rfl Tk.h rfl ?_; refine GO.gT rfl rfl (by assumption) ?_; refine GO.eqi rfl rfl rfl ?_; refine GO.pickFa rfl rfl (by assumption) rfl ?_; refine GO.nil ?_; refine kthen_n ?_; refine G.condT rfl (by assumption) ?_; refine G.seq ?_; refine G.region ?_; refine GO.assign rfl rfl ?_; refine GO.nil ?_; refine kthen_n ?_; refine G.ret ?_; refine kthen_r ?_)
      refine KF2.r1 rfl (RV.t rfl) ⟨rfl, rfl⟩ (ImpS.sb ?_)
      (skip; (refine Sb.s ?_; refine Sb.s ?_; exact Sb.r))
    · have d2 : decide (((t : Nat) : Int) = 0) = false := decide_eq_false (by omega)
      rw [if_neg h2]
      by_cases h3 : s = t
      · have d3 : decide (((s : Nat) : Int) ≠ ((t : Nat) : Int)) = false := decide_eq_false (by omega)
        rw [if_pos h3]
        (refine G.seq ?_; refine G.region ?_; refine GO.box rfl rfl rfl fun b2 => ?_; refine GO.box rfl rfl rfl fun b3 => ?_; refine GO.assign rfl rfl ?_; refine GO.nil ?_; refine kthen_n ?_; refine G.seq ?_; refine G.seq ?_; refine G.region ?_; refine GO.fieldAddr rfl rfl ?_; refine GO.load1 rfl rfl rfl (Tk.t Tk.h) rfl ?_; refine GO.eqi rfl rfl rfl ?_; refine GO.move rfl rfl ?_; refine GO.gT rfl rfl (by assumption) ?_; refine GO.fieldAddr rfl rfl ?_; refine GO.gT rfl rfl (by assumption) ?_; refine GO.load1 rfl rfl rfl Tk.h rfl ?_; refine GO.gT rfl rfl (by assumption) ?_; refine GO.eqi rfl rfl rfl ?_; refine GO.pickFa rfl rfl (by assumption) rfl ?_; refine GO.nil ?_; refine kthen_n ?_; refine G.condF rfl (by assumption) ?_; refine G.skip ?_; refine kthen_n ?_; refine G.seq ?_; refine G.seq ?_; refine G.region ?_; refine GO.fieldAddr rfl rfl ?_; refine GO.load1 rfl rfl rfl (Tk.t Tk.h) rfl ?_; refine GO.fieldAddr rfl rfl ?_; refine GO.load1 rfl rfl rfl Tk.h rfl ?_; refine GO.nei rfl rfl rfl ?_; refine GO.nil ?_; refine kthen_n ?_; refine G.condF rfl (by assumption) ?_; refine G.skip ?_; refine kthen_n ?_; refine G.seq ?_; refine G.region ?_; refine GO.assign rfl rfl ?_; refine GO.nil ?_; refine kthen_n ?_; refine G.ret ?_)
        refine KF2.r1 rfl (RV.t rfl) ⟨rfl, rfl⟩ (ImpS.sb ?_)
        (skip; (refine Sb.s ?_; refine Sb.s ?_; exact Sb.r))
      · have d3 : decide (((s : Nat) : Int) ≠ ((t : Nat) : Int)) = true := decide_eq_true (by omega)
        rw [if_neg h3]
        (refine G.seq ?_; refine G.region ?_; refine GO.box rfl rfl rfl fun b2 => ?_; refine GO.box rfl rfl rfl fun b3 => ?_; refine GO.assign rfl rfl ?_; refine GO.nil ?_; refine kthen_n ?_; refine G.seq ?_; refine G.seq ?_; refine G.region ?_; refine GO.fieldAddr rfl rfl ?_; refine GO.load1 rfl rfl rfl (Tk.t Tk.h) rfl ?_; refine GO.eqi rfl rfl rfl ?_; refine GO.move rfl rfl ?_; refine GO.gT rfl rfl (by assumption) ?_; refine GO.fieldAddr rfl rfl ?_; refine GO.gT rfl rfl (by assumption) ?_; refine GO.load1 rfl rfl rfl Tk.h rfl ?_; refine GO.gT rfl rfl (by assumption) ?_; refine GO.eqi rfl rfl rfl ?_; refine GO.pickFa rfl rfl (by assumption) rfl ?_; refine GO.nil ?_; refine kthen_n ?_; refine G.condF rfl (by assumption) ?_; refine G.skip ?_; refine kthen_n ?_; refine G.seq ?_; refine G.seq ?_; refine G.region ?_; refine GO.fieldAddr rfl rfl ?_; refine GO.load1 rfl rfl rfl (Tk.t Tk.h) rfl ?_; refine GO.fieldAddr rfl rfl ?_; refine GO.load1 rfl rfl rfl Tk.h rfl ?_; refine GO.nei rfl rfl rfl ?_; refine GO.nil ?_; refine kthen_n ?_; refine G.condT rfl (by assumption) ?_; refine G.seq ?_; refine G.region ?_; refine GO.assign rfl rfl ?_; refine GO.nil ?_; refine kthen_n ?_; refine G.ret ?_; refine kthen_r ?_)
        refine KF2.r1 rfl (RV.t rfl) ⟨rfl, rfl⟩ (ImpS.sb ?_)
        (skip; (refine Sb.s ?_; refine Sb.s ?_; exact Sb.r))
theorem pairE_same {s : Nat} (h : 1 ≤ s) : pairE s s = 0 := by unfold pairE; rw [if_neg (by omega), if_neg (by omega), if_pos rfl]
set_option maxHeartbeats 4000000 in
theorem rJoin_core (z : HP) (ra rb : Value) (s : Nat) (X Y : Nat → Nat → Bool) (hra : RefO z ra (some (s, X))) (hrb : RefO z rb (some (s, Y))) (hs : 1 ≤ s ∧ s ≤ 1024) (hx : ∀ r c, X r c = true → r < s ∧ c < s) (hy : ∀ r c, Y r c = true → r < s ∧ c < s) :
    Fn Tryd.prog 77 #[ra, rb] [z] (fun r Q => ∃ v, r = .tuple #[refV s v, .bool (decide (cntX X < cntX (uniX X Y))), i64 0] ∧ Q = [own 63 2 (castL (cellsX (uniX X Y))).length v (cellsV (castL (cellsX (uniX X Y)))), z]) := by
  have hm := mrg_uni hs.2 hx hy
  have hmM := mrgM_uni hs.2 hx hy
  obtain ⟨va, rfl, honea, hsla⟩ := hra
  obtain ⟨vb, rfl, honeb, hslb⟩ := hrb
  have hl1 : (castL (cellsX X)).length ≤ 1048576 := by rw [castL_len, cellsX_len]; have := cnt_max X; omega
  have hl2 : (castL (cellsX Y)).length ≤ 1048576 := by rw [castL_len, cellsX_len]; have := cnt_max Y; omega
  have hg := merge_spec z va vb (castL (cellsX X)) (castL (cellsX Y)) hsla.slR hslb.slR (by omega)
  rw [hm, hmM] at hg
  have hpr := rpair_spec s s va vb honea honeb
  rw [pairE_same hs.1] at hpr
  change Fn _ _ #[refV s va, refV s vb] _ _
  generalize decide (cntX X < cntX (uniX X Y)) = bn at hg ⊢
  refine Fn.mk2 Tryd.func77 rfl rfl fun w0 F => ?_
  (refine G.seq ?_; refine G.region ?_; refine GO.box rfl rfl rfl fun b2 => ?_; refine GO.box rfl rfl rfl fun b3 => ?_; refine GO.alloc rfl fun b4 => ?_; refine GO.assign rfl rfl ?_; refine GO.assign rfl rfl ?_; refine GO.nil ?_; refine kthen_n ?_; refine G.seq ?_; refine G.region ?_; refine GO.loadW rfl rfl rfl (Tk.t (Tk.t Tk.h)) rfl ?_; refine GO.loadW rfl rfl rfl (Tk.t Tk.h) rfl ?_)
  refine GO.call2 rfl rfl rfl (hpr) Tks.n ?_
  rintro _ _ ⟨rfl, rfl⟩
  (refine GO.assign rfl rfl ?_; refine GO.nil ?_; refine kthen_n ?_; refine G.seq ?_; refine G.seq ?_; refine G.region ?_; refine GO.move rfl rfl ?_; refine GO.neF rfl rfl rfl rfl ?_; refine GO.nil ?_; refine kthen_n ?_; refine G.condF rfl rfl ?_; refine G.skip ?_; refine kthen_n ?_; refine G.seq ?_; refine G.region ?_; refine GO.fieldAddr rfl rfl ?_; refine GO.load1 rfl rfl rfl (Tk.t (Tk.t Tk.h)) rfl ?_; refine GO.fieldAddr rfl rfl ?_; refine GO.load1 rfl rfl rfl (Tk.t Tk.h) rfl ?_)
  refine GO.call2 rfl rfl rfl (hg) (Tks.c (Tk.t (Tk.t (Tk.t Tk.h))) Tks.n) ?_
  rintro _ _ ⟨v, rfl, rfl⟩
  refine GO.ownV Tk.h fun a9 cap9 hv9 => ?_
  subst hv9
  (refine GO.move rfl rfl ?_; refine GO.extract rfl rfl rfl ?_; refine GO.extract rfl rfl rfl ?_; refine GO.assign rfl rfl ?_; refine GO.assign rfl rfl ?_; refine GO.nil ?_; refine kthen_n ?_; refine G.seq ?_; refine G.region ?_; refine GO.fieldAddr rfl rfl ?_; refine GO.load1 rfl rfl rfl (Tk.t (Tk.t (Tk.t (Tk.t Tk.h)))) rfl ?_; refine GO.move rfl rfl ?_; refine GO.build2 rfl rfl rfl rfl ?_; refine GO.move rfl rfl ?_)
  rw [show ∀ n : Nat, (putParts [i64 (s : Nat), Value.slice a9 n cap9]).toArray = #[i64 (s : Nat), Value.slice a9 n cap9] from fun n => by simp [putParts, Value.cells]]
  (refine GO.storeW rfl rfl (Tk.t (Tk.t Tk.h)) ⟨rfl, rfl⟩ (by simp [Value.oneCell']) ?_; refine GO.assign rfl rfl ?_; refine GO.assign rfl rfl ?_; refine GO.nil ?_; refine kthen_n ?_; refine G.ret ?_)
  refine KF2.r3 rfl (RV.cW (n := 2) rfl rfl (by (exact Tk.h)) rfl) (RV.t rfl) (RV.t rfl) ⟨_, rfl, rfl⟩ (ImpS.sb ?_)
  ((refine Sb.c (Tk.t Tk.h) ?_; refine Sb.c (Tk.t Tk.h) ?_); (refine Sb.s ?_; refine Sb.s ?_; refine Sb.s ?_; exact Sb.r))
theorem rJoin_same (z : HP) (ra rb : Value) (s : Nat) (X Y : Nat → Nat → Bool) (hra : RefO z ra (some (s, X))) (hrb : RefO z rb (some (s, Y))) (hs : 1 ≤ s ∧ s ≤ 1024) (hx : ∀ r c, X r c = true → r < s ∧ c < s) (hy : ∀ r c, Y r c = true → r < s ∧ c < s) :
    Fn Tryd.prog 77 #[ra, rb] [z] (fun r Q => ∃ v p, r = .tuple #[refV s v, .bool (decide (cntX X < cntX (uniX X Y))), i64 0] ∧ v.oneCell' = true ∧ RefO p (refV s v) (some (s, uniX X Y)) ∧ Q = [p, z]) := by
  have h := rJoin_core z ra rb s X Y hra hrb hs hx hy
  unfold Fn at *
  intro F w hw
  refine (h F w hw).mono ?_
  rintro e w' ⟨v, Q, h1, h2, ⟨u, rfl, rfl⟩, d⟩
  have d1 := own_one d
  have d2 := own_slC d
  exact ⟨_, _, h1, h2, ⟨u, _, rfl, d1, RefO.own d1 d2, rfl⟩, d⟩
end Go.Proofs.YtpfcgfgkmgnaaaaDoor
namespace Go.Proofs.YtpfcgfgkmgnaaaaDoor
open Go
def intoO (c a b : OptM) : OptM := if errL [c, a, b] = 0 then joinO c (mulO a b) else c
def intoB (c a b : OptM) : Bool := if errL [c, a, b] = 0 then joinB c (mulO a b) else false
theorem side_some {o : OptM} (h : sideO o ≠ 0) : ∃ X, o = some (sideO o, X) := by
  match o, h with
  | none, h => exact absurd rfl h
  | some (s, X), _ => exact ⟨X, rfl⟩
theorem errL_three {c a b : OptM} (h : errL [c, a, b] = 0) : ∃ s C A B, c = some (s, C) ∧ a = some (s, A) ∧ b = some (s, B) := by
  have h2 := errF_zero h
  have h0 := h2 0 (by show 0 < 3; omega)
  have h1 := h2 1 (by show 1 < 3; omega)
  have h3 := h2 2 (by show 2 < 3; omega)
  obtain ⟨C, hC⟩ := side_some (o := c) h0.1
  obtain ⟨A, hA⟩ := side_some (o := a) h1.1
  obtain ⟨B, hB⟩ := side_some (o := b) h3.1
  have e1 : sideO a = sideO c := h1.2
  have e2 : sideO b = sideO c := h3.2
  rw [e1] at hA
  rw [e2] at hB
  exact ⟨_, C, A, B, hC, hA, hB⟩
theorem mulO_same (s : Nat) (X Y : Nat → Nat → Bool) : mulO (some (s, X)) (some (s, Y)) = some (s, mulX X Y) := if_pos rfl
theorem joinO_side (c m : OptM) : sideO (joinO c m) = sideO c := by
  match c, m with
  | some (s, X), some (t, Y) =>
    by_cases e : s = t
    · rw [show joinO (some (s, X)) (some (t, Y)) = some (s, uniX X Y) from if_pos e]; rfl
    · rw [show joinO (some (s, X)) (some (t, Y)) = some (s, X) from if_neg e]
  | none, _ => rfl
  | some _, none => rfl
theorem intoO_side (c a b : OptM) : sideO (intoO c a b) = sideO c := by
  unfold intoO
  split
  · exact joinO_side c _
  · rfl
theorem errL_congr {l m : List OptM} (h : l.length = m.length) (k : ∀ j, sidesL l j = sidesL m j) : errL l = errL m := by
  unfold errL
  rw [h, show sidesL l = sidesL m from funext k]
theorem errL3 {c a b c' a' b' : OptM} (h1 : sideO c = sideO c') (h2 : sideO a = sideO a') (h3 : sideO b = sideO b') : errL [c, a, b] = errL [c', a', b'] := errL_congr rfl fun j => by
  match j with
  | 0 => exact h1
  | 1 => exact h2
  | 2 => exact h3
  | _ + 3 => rfl
theorem WfM.into {c a b : OptM} (hc : WfM c) (ha : WfM a) (hb : WfM b) : WfM (intoO c a b) := by
  unfold intoO
  split
  · rename_i h
    obtain ⟨s, C, A, B, rfl, rfl, rfl⟩ := errL_three h
    rw [mulO_same, joinO_same]
    intro t X e
    injection e with e
    injection e with e1 e2
    subst e1 e2
    exact ⟨(hc _ _ rfl).1, uni_in (hc _ _ rfl).2 (mulX_in (ha _ _ rfl).2 (hb _ _ rfl).2)⟩
  · exact hc
/-- Once more gives nothing. -/
theorem into_again (c a b : OptM) : intoO (intoO c a b) a b = intoO c a b ∧ intoB (intoO c a b) a b = false := by
  by_cases h : errL [c, a, b] = 0
  · obtain ⟨s, C, A, B, rfl, rfl, rfl⟩ := errL_three h
    have e : intoO (some (s, C)) (some (s, A)) (some (s, B)) = some (s, uniX C (mulX A B)) := by unfold intoO; rw [if_pos h, mulO_same, joinO_same]
    have h2 : errL [some (s, uniX C (mulX A B)), some (s, A), some (s, B)] = 0 := by rw [← h]; exact errL3 rfl rfl rfl
    have hu : uniX (uniX C (mulX A B)) (mulX A B) = uniX C (mulX A B) := by
      funext r c
      unfold uniX
      cases C r c <;> cases mulX A B r c <;> rfl
    rw [e]
    unfold intoO intoB
    rw [if_pos h2, if_pos h2, mulO_same, joinO_same, joinB_same, hu, decide_eq_false (Nat.lt_irrefl _)]
    exact ⟨rfl, rfl⟩
  · have e : intoO c a b = c := if_neg h
    rw [e]
    exact ⟨e, if_neg h⟩
theorem fitK (R : HP) (b9 : Nat) (vs : List Value) (os : List OptM) (n : Nat) (hn : vs.length = n) (hm : os.length = n) (hb : n ≤ 1000) (h : ∀ (k : Nat) (v : Value) (o : OptM), vs[k]? = some v → os[k]? = some o → HasO R v o) :
    Fn Tryd.prog 53 #[.slice (some ⟨b9, 0, none⟩) n n] [R, pt b9 (row vs 35)] (fun r Q => r = i64 (errL os) ∧ Q = [R, pt b9 (row vs 35)]) := by
  subst hn
  refine (fit_spec R (pt b9 (row vs 35)) (.slice (some ⟨b9, 0, none⟩) vs.length vs.length) vs (sidesL os) (row_sl rfl) (fun k u hk => ?_) (by omega)).mono fun r Q hq => ⟨?_, hq.2⟩
  · have hlt := (List.getElem?_eq_some_iff.1 hk).1
    have ho : os[k]? = some os[k] := List.getElem?_eq_getElem (by omega)
    rw [sidesL_get ho]
    exact (h k u _ hk ho).side
  · have := fitR_err hq.1
    rw [← hm] at this
    exact this
attribute [local irreducible] G GO GR GT Fn FnV pt init exs pur sat own ImpS mat posL allV orL restX cellsX cellsV refsV lines oneX gridsV uniX
set_option maxHeartbeats 8000000 in
theorem pIntoO (q : HP) (hq : Tab q) (pc R : HP) (vc va vb : Value) (c a b : OptM) (hc : MatO pc vc c) (ha : HasO (star [pc, R]) va a) (hb : HasO (star [pc, R]) vb b) (wc : WfM c) (wa : WfM a) (wb : WfM b) :
    Fn Tryd.prog 52 #[vc, va, vb] [star [pc, R], q] (fun r Q => ∃ pc', r = .tuple #[.bool (intoB c a b), i64 (errL [c, a, b])] ∧ MatO pc' vc (intoO c a b) ∧ Q = [star [pc', R], q]) := by
  have hfit := fun b9 => fitK (star [pc, R]) b9 [vc, va, vb] [c, a, b] 3 rfl rfl (by omega) (fun k v o h1 h2 => by
    match k, h1, h2 with
    | 0, h1, h2 => injection h1 with h1; injection h2 with h2; subst h1 h2; exact HasO.left hc.has
    | 1, h1, h2 => injection h1 with h1; injection h2 with h2; subst h1 h2; exact ha
    | 2, h1, h2 => injection h1 with h1; injection h2 with h2; subst h1 h2; exact hb)
  obtain ⟨cc, rfl⟩ := hc.has.ptr
  obtain ⟨ca, rfl⟩ := ha.ptr
  obtain ⟨cb, rfl⟩ := hb.ptr
  unfold intoO intoB
  by_cases h0 : errL [c, a, b] = 0
  · rw [if_pos h0, if_pos h0, h0]
    rw [h0] at hfit
    obtain ⟨s, C, A, B, rfl, rfl, rfl⟩ := errL_three h0
    rw [mulO_same, joinO_same, joinB_same]
    rcases hc with ⟨h, _⟩ | ⟨s', C', bc, e1, e2, rfl⟩
    · cases h
    · injection e1 with e1
      injection e1 with e3 e4
      subst e3 e4
      injection e2 with e2
      subst e2
      have hm := pmul_spec q (star [mat s C bc, R]) hq _ _ s A B ha.hasM hb.hasM (wc _ _ rfl).1 (wa _ _ rfl).2 (wb _ _ rfl).2
      generalize mulX A B = M at hm ⊢
      refine Fn.mk2 Tryd.func52 rfl rfl fun w0 F => ?_
      (refine G.seq ?_; refine G.region ?_; refine GO.assign rfl rfl ?_; refine GO.assign rfl rfl ?_; refine GO.nil ?_; refine kthen_n ?_; refine G.seq ?_; refine G.region ?_; refine GO.move rfl rfl ?_; refine GO.move rfl rfl ?_; refine GO.move rfl rfl ?_)
      refine GO.buildSlice3 rfl rfl rfl rfl (by simp [Value.cells]) rfl ⟨by omega, by omega⟩ fun b9 => ?_
      rw [show putParts [Value.pointer (some ⟨bc, 0, none⟩), .pointer ca, .pointer cb] = [.pointer (some ⟨bc, 0, none⟩), .pointer ca, .pointer cb] by simp [putParts, Value.cells]]
      refine GO.call1 rfl rfl (hfit b9) (Tks.c (Tk.t Tk.h) (Tks.c Tk.h Tks.n)) ?_
      rintro _ _ ⟨rfl, rfl⟩
      (refine GO.assign rfl rfl ?_; refine GO.nil ?_; refine kthen_n ?_; refine G.seq ?_; refine G.seq ?_; refine G.region ?_; refine GO.move rfl rfl ?_; refine GO.neF rfl rfl rfl rfl ?_; refine GO.nil ?_; refine kthen_n ?_; refine G.condF rfl rfl ?_; refine G.skip ?_; refine kthen_n ?_; refine G.seq ?_; refine G.region ?_; refine GO.move rfl rfl ?_; refine GO.move rfl rfl ?_; refine GO.move rfl rfl ?_)
      refine GO.call2 rfl rfl rfl (hm) (Tks.c Tk.h (Tks.c (Tk.t Tk.h) Tks.n)) ?_
      rintro _ _ ⟨b', rfl, rfl⟩
      skip
      refine GO.unpair (x := mat s C bc) (y := R) (Tk.t Tk.h) ?_
      refine GO.call2 rfl rfl rfl (join_mat s s bc b' C M) (Tks.c Tk.h (Tks.c (Tk.t Tk.h) Tks.n)) ?_
      rintro _ _ (⟨_, rfl, rfl⟩ | ⟨hne, _, _⟩)
      rotate_left 1
      · exact absurd rfl hne
      refine GO.pair (x := mat s (uniX C M) bc) (y := R) (Tks.c Tk.h (Tks.c (Tk.t Tk.h) Tks.n)) ?_
      (refine GO.extract rfl rfl rfl ?_; refine GO.extract rfl rfl rfl ?_; refine GO.assign rfl rfl ?_; refine GO.assign rfl rfl ?_; refine GO.nil ?_; refine kthen_n ?_; refine G.ret ?_)
      refine KF2.r2 rfl (RV.t rfl) (RV.t rfl) ⟨_, rfl, MatO.one _ _ _, rfl⟩ (ImpS.sb ?_)
      ((refine Sb.c Tk.h ?_; refine Sb.c (Tk.t Tk.h) ?_); (refine Sb.s ?_; refine Sb.s ?_; exact Sb.r))
  · rw [if_neg h0, if_neg h0]
    generalize errL [c, a, b] = e at h0 hfit ⊢
    have hd : decide (e ≠ 0) = true := decide_eq_true h0
    refine Fn.mk2 Tryd.func52 rfl rfl fun w0 F => ?_
    (refine G.seq ?_; refine G.region ?_; refine GO.assign rfl rfl ?_; refine GO.assign rfl rfl ?_; refine GO.nil ?_; refine kthen_n ?_; refine G.seq ?_; refine G.region ?_; refine GO.move rfl rfl ?_; refine GO.move rfl rfl ?_; refine GO.move rfl rfl ?_)
    refine GO.buildSlice3 rfl rfl rfl rfl (by simp [Value.cells]) rfl ⟨by omega, by omega⟩ fun b9 => ?_
    rw [show putParts [Value.pointer cc, .pointer ca, .pointer cb] = [.pointer cc, .pointer ca, .pointer cb] by simp [putParts, Value.cells]]
    refine GO.call1 rfl rfl (hfit b9) (Tks.c (Tk.t Tk.h) (Tks.c Tk.h Tks.n)) ?_
    rintro _ _ ⟨rfl, rfl⟩
    (refine GO.assign rfl rfl ?_; refine GO.nil ?_; refine kthen_n ?_; refine G.seq ?_; refine G.seq ?_; refine G.region ?_; refine GO.move rfl rfl ?_; refine GO.nei rfl rfl rfl ?_; refine GO.nil ?_; refine kthen_n ?_; refine G.condT rfl (by assumption) ?_; refine G.seq ?_; refine G.region ?_; refine GO.move rfl rfl ?_; refine GO.assign rfl rfl ?_; refine GO.assign rfl rfl ?_; refine GO.nil ?_; refine kthen_n ?_; refine G.ret ?_; refine kthen_r ?_)
    refine KF2.r2 rfl (RV.t rfl) (RV.t rfl) ⟨pc, rfl, hc, rfl⟩ (ImpS.sb ?_)
    ((refine Sb.c Tk.h ?_; refine Sb.c (Tk.t Tk.h) ?_); (refine Sb.s ?_; exact Sb.r))
end Go.Proofs.YtpfcgfgkmgnaaaaDoor
