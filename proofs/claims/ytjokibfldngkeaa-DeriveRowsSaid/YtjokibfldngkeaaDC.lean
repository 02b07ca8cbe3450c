/-
  The table of facts: has, add.
-/
import Derived.Test.YtjokibfldngkeaaDB
import Derived.Test.YtjokibfldngkeaaNB
namespace Go.Proofs.Ytjokibfldngkeaa
open Go
theorem EqFs.three {P : Program} {t : TypeId} {k : IntKind} [UL P t (.int k)] {d : Nat} {f1 f2 f3 : Field} {a b c a' b' c' : Int} (n1 : f1.name ≠ "_") (n2 : f2.name ≠ "_") (n3 : f3.name ≠ "_") (t1 : f1.type = t) (t2 : f2.type = t) (t3 : f3.type = t) (o1 : f1.offset = 0) (o2 : f2.offset = 1) (o3 : f3.offset = 2) :
    EqFs P (d + 1) [i64 a, i64 b, i64 c] [i64 a', i64 b', i64 c'] [f1, f2, f3] (decide (a = a') && (decide (b = b') && decide (c = c'))) := by
  refine ⟨i64 a, i64 a', decide (a = a'), _, n1, ?_, ?_, ?_, ⟨i64 b, i64 b', decide (b = b'), _, n2, ?_, ?_, ?_, ⟨i64 c, i64 c', decide (c = c'), true, n3, ?_, ?_, ?_, rfl, by simp⟩, rfl⟩, rfl⟩
  · rw [t1, o1]; exact PartR.one rfl rfl
  · rw [t1, o1]; exact PartR.one rfl rfl
  · rw [t1]; exact EqR.int
  · rw [t2, o2]; exact PartR.one rfl rfl
  · rw [t2, o2]; exact PartR.one rfl rfl
  · rw [t2]; exact EqR.int
  · rw [t3, o3]; exact PartR.one rfl rfl
  · rw [t3, o3]; exact PartR.one rfl rfl
  · rw [t3]; exact EqR.int
theorem EqR.f3 (a b : F3) : EqR Try.prog 10000 62 (f3V a) (f3V b) (decide (a = b)) := by
  have h : EqR Try.prog (9998 + 1 + 1) 62 (.agg [i64 a.1, i64 a.2.1, i64 a.2.2].toArray) (.agg [i64 b.1, i64 b.2.1, i64 b.2.2].toArray) (decide (a.1 = b.1) && (decide (a.2.1 = b.2.1) && decide (a.2.2 = b.2.2))) :=
    EqR.struct (EqFs.three (t := 3) (by decide) (by decide) (by decide) rfl rfl rfl rfl rfl rfl)
  rwa [show (decide (a.1 = b.1) && (decide (a.2.1 = b.2.1) && decide (a.2.2 = b.2.2))) = decide (a = b) by
    rw [Bool.eq_iff_iff]; simp only [Bool.and_eq_true, decide_eq_true_iff]; exact ⟨fun h => Prod.ext h.1 (Prod.ext h.2.1 h.2.2), fun h => by rw [h]; exact ⟨rfl, rfl, rfl⟩⟩] at h
theorem check_f3 (e : Bool) (a : F3) (w : World) : (Instr.checkKey e 10000 62 (f3V a)).run Try.prog w = .ok () w := by
  have h3 : ∀ (v : Value) (w : World), (∃ n, v = i64 n) → (Instr.checkKey e 9999 3 v).run Try.prog w = .ok () w := fun v w ⟨n, hv⟩ => by
    subst hv
    unfold Instr.checkKey
    rw [Sem.run_bind, run_underlying Try.underlying3, Result.andThen_ok]
    rfl
  have p0 : ∀ w, (part 3 [i64 a.1, i64 a.2.1, i64 a.2.2].toArray 0).run Try.prog w = .ok (i64 a.1) w := fun w => run_part1 (P := Try.prog) (t := 3) rfl rfl w
  have p1 : ∀ w, (part 3 [i64 a.1, i64 a.2.1, i64 a.2.2].toArray 1).run Try.prog w = .ok (i64 a.2.1) w := fun w => run_part1 (P := Try.prog) (t := 3) rfl rfl w
  have p2 : ∀ w, (part 3 [i64 a.1, i64 a.2.1, i64 a.2.2].toArray 2).run Try.prog w = .ok (i64 a.2.2) w := fun w => run_part1 (P := Try.prog) (t := 3) rfl rfl w
  unfold Instr.checkKey f3V
  rw [Sem.run_bind, run_underlying Try.underlying62, Result.andThen_ok]
  simp [Sem.run_bind, Result.andThen, p0, p1, p2, h3]
instance : K3 Try.prog 62 := ⟨EqR.f3, ⟨_, Try.underlying62⟩, check_f3⟩
instance : ZV Try.prog 3 (i64 0) := ⟨by kernel_rfl⟩
/-- A table's facts, by their numbers. -/
def numF (n : Nat) : List F3 → List (F3 × Value)
  | [] => []
  | f :: fs => (f, i64 (n : Nat)) :: numF (n + 1) fs
theorem numF_snoc (f : F3) : ∀ (fs : List F3) (n : Nat), numF n (fs ++ [f]) = numF n fs ++ [(f, i64 ((n + fs.length : Nat) : Int))]
  | [], n => rfl
  | g :: fs, n => by
    show _ :: numF (n + 1) (fs ++ [f]) = _ :: (numF (n + 1) fs ++ _)
    rw [numF_snoc f fs (n + 1), List.length_cons, show n + 1 + fs.length = n + (fs.length + 1) by omega]
theorem find_num (f : F3) : ∀ (fs : List F3) (n i : Nat), (f ∈ fs → ∃ j v, findL f (numF n fs) i = some (j, v)) ∧ (f ∉ fs → findL f (numF n fs) i = none)
  | [], n, i => ⟨fun h => by simp at h, fun _ => rfl⟩
  | g :: fs, n, i => by
    have ih := find_num f fs (n + 1) (i + 1)
    have e : findL f (numF n (g :: fs)) i = if f = g then some (i, i64 (n : Nat)) else findL f (numF (n + 1) fs) (i + 1) := rfl
    rw [e]
    by_cases h : f = g
    · rw [if_pos h]
      exact ⟨fun _ => ⟨_, _, rfl⟩, fun hn => absurd (by rw [h]; exact List.mem_cons_self ..) hn⟩
    · rw [if_neg h]
      simp only [List.mem_cons, h, false_or]
      exact ih
theorem look_num (f : F3) (fs : List F3) (z : Value) : ∃ v, lookV z f (numF 0 fs) = .tuple #[v, .bool (decide (f ∈ fs))] := by
  obtain ⟨h1, h2⟩ := find_num f fs 0 0
  unfold lookV
  by_cases h : f ∈ fs
  · obtain ⟨j, v, e⟩ := h1 h
    rw [e, decide_eq_true h]; exact ⟨v, rfl⟩
  · rw [h2 h, decide_eq_false h]; exact ⟨z, rfl⟩
def f3sV (fs : List F3) : List Value := fs.flatMap fun f => [i64 f.1, i64 f.2.1, i64 f.2.2]
theorem f3sV_len (fs : List F3) : (f3sV fs).length = fs.length * 3 := by
  induction fs with
  | nil => rfl
  | cons p fs ih => simp only [f3sV, List.flatMap_cons, List.length_append, List.length_cons, List.length_nil] at ih ⊢; omega
theorem f3sV_snoc (fs : List F3) (f : F3) : f3sV (fs ++ [f]) = f3sV fs ++ [i64 f.1, i64 f.2.1, i64 f.2.2] := by simp [f3sV]
abbrev ptrT (b : Nat) : Value := .pointer (some ⟨b, 0, none⟩)
/-- A table: at bt; its map at bm; its row. -/
abbrev tabH (bt : Nat) (n : Int) (pv wv : Value) (bm : Nat) (rv : Value) : HP := pt bt (row [i64 n, pv, wv, .map (some bm), rv] 88)
abbrev tabL (bt : Nat) (n : Int) (pv wv : Value) (bm : Nat) (rv : Value) (fs : List F3) : List HP := [tabH bt n pv wv bm rv, pt bm (mapO (numF 0 fs)), own 62 3 fs.length rv (f3sV fs)]
attribute [local irreducible] G GO GR GT Fn FnV pt init exs pur sat own ImpS f3sV numF mapO
set_option maxHeartbeats 4000000 in
theorem has_spec (bt : Nat) (n : Int) (pv wv : Value) (bm : Nat) (rv : Value) (fs : List F3) (f : F3) :
    Fn Try.prog 27 #[ptrT bt, f3V f] (tabL bt n pv wv bm rv fs) (fun r Q => r = .bool (decide (f ∈ fs)) ∧ Q = tabL bt n pv wv bm rv fs) := by
  obtain ⟨u, hu⟩ := look_num f fs (i64 0)
  obtain ⟨f1, f2, f3⟩ := f
  refine Fn.mk2 Try.func27 rfl rfl fun w0 F => ?_
  (refine G.seq ?_; refine G.region ?_; refine GO.box rfl rfl rfl fun b3 => ?_; refine GO.assign rfl rfl ?_; refine GO.nil ?_; refine kthen_n ?_; refine G.seq ?_)
  refine G.draw 11 (by kernel_rfl) ?_
  ((apply GQ.step; focus (intro Z; refine GO.move rfl rfl ?_; exact KQ.z)); (apply GQ.step; focus (intro Z; refine GO.nilCheck rfl rfl ?_; exact KQ.z)); (apply GQ.step; focus (intro Z; refine GO.fieldAddr rfl rfl ?_; exact KQ.z)); (apply GQ.step; focus (intro Z; refine GO.load1 rfl rfl rfl (Tk.t Tk.h) rfl ?_; exact KQ.z)); (apply GQ.step; focus (intro Z; refine GO.loadW rfl rfl rfl Tk.h rfl ?_; exact KQ.z)))
  apply GQ.step; focus (intro Z; refine GO.lookupK (l := numF 0 fs) (k := (f1, f2, f3)) rfl rfl rfl (Tk.t (Tk.t Tk.h)) ?_; rw [hu]; exact KQ.z)
  ((apply GQ.step; focus (intro Z; refine GO.move rfl rfl ?_; exact KQ.z)); (apply GQ.step; focus (intro Z; refine GO.extract rfl rfl rfl ?_; exact KQ.z)); (apply GQ.step; focus (intro Z; refine GO.extract rfl rfl rfl ?_; exact KQ.z)); (apply GQ.step; focus (intro Z; refine GO.assign rfl rfl ?_; exact KQ.z)); (apply GQ.step; focus (intro Z; refine GO.assign rfl rfl ?_; exact KQ.z)); refine GQ.nil ?_)
  (refine GO.nil ?_; refine kthen_n ?_; refine G.seq ?_; refine G.region ?_; refine GO.move rfl rfl ?_; refine GO.assign rfl rfl ?_; refine GO.nil ?_; refine kthen_n ?_; refine G.ret ?_)
  refine KF2.r1 rfl (RV.t rfl) ⟨rfl, rfl⟩ (ImpS.sb ?_)
  ((refine Sb.c (Tk.t Tk.h) ?_; refine Sb.c (Tk.t Tk.h) ?_; refine Sb.c (Tk.t Tk.h) ?_); (refine Sb.s ?_; exact Sb.r))
set_option maxHeartbeats 4000000 in
theorem add_spec (bt : Nat) (n : Int) (pv wv : Value) (bm : Nat) (rv : Value) (fs : List F3) (f : F3) (hn : ¬ 10000000 ≤ fs.length) :
    Fn Try.prog 56 #[ptrT bt, f3V f] (tabL bt n pv wv bm rv fs) (fun r Q => ∃ rv', Q = tabL bt n pv wv bm rv' (addF fs f)) := by
  have hs := has_spec bt n pv wv bm rv fs f
  obtain ⟨_, hnone⟩ := find_num f fs 0 0
  have hsn := f3sV_snoc fs f
  have hnum := numF_snoc f fs 0
  rw [Nat.zero_add] at hnum
  unfold addF
  by_cases hf : f ∈ fs
  · rw [decide_eq_true hf] at hs
    rw [if_pos hf]
    obtain ⟨f1, f2, f3⟩ := f
    refine Fn.mk2 Try.func56 rfl rfl fun w0 F => ?_
    (refine G.seq ?_; refine G.region ?_; refine GO.box rfl rfl rfl fun b3 => ?_; refine GO.nil ?_; refine kthen_n ?_; refine G.seq ?_; refine G.region ?_; refine GO.move rfl rfl ?_; refine GO.loadW rfl rfl rfl Tk.h rfl ?_)
    refine GO.call2 rfl rfl rfl (hs) (Tks.c (Tk.t Tk.h) (Tks.c (Tk.t Tk.h) (Tks.c (Tk.t Tk.h) Tks.n))) ?_
    rintro _ _ ⟨rfl, rfl⟩
    (refine GO.not rfl rfl ?_; refine GO.nil ?_; refine kthen_n ?_; refine G.condF rfl rfl ?_; refine G.skip ?_)
    refine KF2.n0 rfl ⟨rv, rfl⟩ (ImpS.sb ?_)
    ((refine Sb.c Tk.h ?_; refine Sb.c Tk.h ?_; refine Sb.c Tk.h ?_); (refine Sb.s ?_; exact Sb.r))
  · rw [decide_eq_false hf] at hs
    rw [if_neg hf]
    replace hnone := hnone hf
    obtain ⟨f1, f2, f3⟩ := f
    dsimp only at hsn
    refine Fn.mk2 Try.func56 rfl rfl fun w0 F => ?_
    (refine G.seq ?_; refine G.region ?_; refine GO.box rfl rfl rfl fun b3 => ?_; refine GO.nil ?_; refine kthen_n ?_; refine G.seq ?_; refine G.region ?_; refine GO.move rfl rfl ?_; refine GO.loadW rfl rfl rfl Tk.h rfl ?_)
    refine GO.call2 rfl rfl rfl (hs) (Tks.c (Tk.t Tk.h) (Tks.c (Tk.t Tk.h) (Tks.c (Tk.t Tk.h) Tks.n))) ?_
    rintro _ _ ⟨rfl, rfl⟩
    (refine GO.not rfl rfl ?_; refine GO.nil ?_; refine kthen_n ?_; refine G.condT rfl rfl ?_; refine G.seq ?_)
    refine G.draw 10 (by kernel_rfl) ?_
    ((apply GQ.step; focus (intro Z; refine GO.move rfl rfl ?_; exact KQ.z)); (apply GQ.step; focus (intro Z; refine GO.nilCheck rfl rfl ?_; exact KQ.z)); (apply GQ.step; focus (intro Z; refine GO.fieldAddr rfl rfl ?_; exact KQ.z)); (apply GQ.step; focus (intro Z; refine GO.load1 rfl rfl rfl Tk.h rfl ?_; exact KQ.z)); (apply GQ.step; focus (intro Z; refine GO.loadW rfl rfl rfl (Tk.t (Tk.t (Tk.t Tk.h))) rfl ?_; exact KQ.z)); (apply GQ.step; focus (intro Z; refine GO.move rfl rfl ?_; exact KQ.z)); (apply GQ.step; focus (intro Z; refine GO.nilCheck rfl rfl ?_; exact KQ.z)); (apply GQ.step; focus (intro Z; refine GO.fieldAddr rfl rfl ?_; exact KQ.z)); (apply GQ.step; focus (intro Z; refine GO.load1 rfl rfl rfl Tk.h rfl ?_; exact KQ.z)); (apply GQ.step; focus (intro Z; refine GO.lenOwn rfl rfl (Tk.t (Tk.t Tk.h)) ?_; exact KQ.z)); refine GQ.nil ?_)
    skip
    refine GO.insertK (l := numF 0 fs) (k := (f1, f2, f3)) rfl rfl rfl (Tk.t Tk.h) hnone ?_
    rw [← hnum]
    (refine GO.nil ?_; refine kthen_n ?_)
    refine G.drawT 10 192 [tabH bt n pv wv bm rv, pt b3 (row [i64 f1, i64 f2, i64 f3] 62)] (pt bm (mapO (numF 0 (fs ++ [(f1, f2, f3)]))) :: own 62 3 fs.length rv (f3sV fs) :: F) (by kernel_rfl) (keys_of rfl) (ImpS.sb (by ((refine Sb.c (Tk.t Tk.h) ?_; refine Sb.c (Tk.t (Tk.t Tk.h)) ?_; refine Sb.c Tk.h ?_; refine Sb.c Tk.h ?_); (exact Sb.r)))) ?_
    ((apply GR.step rfl; focus (intro Z; refine GO.move rfl rfl ?_; exact KQ.z)); (apply GR.step rfl; focus (intro Z; refine GO.move rfl rfl ?_; exact KQ.z)); (apply GR.step rfl; focus (intro Z; refine GO.nilCheck rfl rfl ?_; exact KQ.z)); (apply GR.step rfl; focus (intro Z; refine GO.fieldAddr rfl rfl ?_; exact KQ.z)); (apply GR.step rfl; focus (intro Z; refine GO.load1 rfl rfl rfl Tk.h rfl ?_; exact KQ.z)); (apply GR.step rfl; focus (intro Z; refine GO.loadW rfl rfl rfl (Tk.t Tk.h) rfl ?_; exact KQ.z)); refine GR.skip rfl ?_; refine GR.skip rfl ?_; (apply GR.step rfl; focus (intro Z; refine GO.nilCheck rfl rfl ?_; exact KQ.z)); (apply GR.step rfl; focus (intro Z; refine GO.fieldAddr rfl rfl ?_; exact KQ.z)); refine GR.nil ?_)
    (repeat refine GT.skip rfl ?_)
    refine GT.step rfl ?_
    refine GO.buildSlice1 (n := 3) (v1 := .agg #[i64 f1, i64 f2, i64 f3]) rfl rfl (fun v hv => by rw [List.mem_singleton.1 hv]; rfl) rfl ⟨by omega, by omega⟩ fun bs => ?_
    refine GO.nil ⟨rfl, _, pt bs (row [i64 f1, i64 f2, i64 f3] 62) :: pt bm (mapO (numF 0 (fs ++ [(f1, f2, f3)]))) :: own 62 3 fs.length rv (f3sV fs) :: F, rfl, ImpS.sb (by ((refine Sb.c (Tk.t Tk.h) ?_; refine Sb.c (Tk.t Tk.h) ?_; refine Sb.c Tk.h ?_; refine Sb.c Tk.h ?_; refine Sb.c Tk.h ?_); (exact Sb.r))), ?_⟩
    (repeat refine GT.skip rfl ?_)
    refine GT.step rfl ?_
    refine GO.appendOwn (m := 1) (news := [i64 f1, i64 f2, i64 f3]) rfl rfl rfl (Tk.t (Tk.t (Tk.t (Tk.t Tk.h)))) (Tk.t (Tk.t Tk.h)) rfl (by simp [Value.oneCell']) ⟨by decide, rfl⟩ Nat.one_pos (by unfold maxLen; omega) (by omega) fun v4 => ?_
    refine GO.nil ⟨rfl, _, own 62 3 (fs.length + 1) v4 (f3sV fs ++ [i64 f1, i64 f2, i64 f3]) :: pt bm (mapO (numF 0 (fs ++ [(f1, f2, f3)]))) :: F, rfl, ImpS.sb (by ((refine Sb.c (Tk.t Tk.h) ?_; refine Sb.c (Tk.t Tk.h) ?_; refine Sb.c Tk.h ?_; refine Sb.c (Tk.t Tk.h) ?_); (refine Sb.s ?_; exact Sb.r))), ?_⟩
    (repeat refine GT.skip rfl ?_)
    refine GT.nil ?_
    refine GO.ownOne (Tk.t (Tk.t Tk.h)) fun hone => ?_
    refine GO.store1 (l := [i64 n, pv, wv, .map (some bm), rv]) rfl rfl (by assumption) Tk.h (by simp) ?_
    (refine GO.nil ?_)
    rw [← hsn, show fs.length + 1 = (fs ++ [(f1, f2, f3)]).length by rw [List.length_append]; rfl]
    refine KF2.n0 (Q := tabL bt n pv wv bm v4 (fs ++ [(f1, f2, f3)])) rfl ⟨v4, rfl⟩ (ImpS.sb ?_)
    ((refine Sb.c Tk.h ?_; refine Sb.c (Tk.t (Tk.t Tk.h)) ?_; refine Sb.c (Tk.t Tk.h) ?_); (refine Sb.s ?_; exact Sb.r))
end Go.Proofs.Ytjokibfldngkeaa
