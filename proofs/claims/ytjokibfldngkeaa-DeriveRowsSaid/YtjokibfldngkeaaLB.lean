/-
  The reference's Copy.
-/
import Derived.Test.YtjokibfldngkeaaLA
namespace Go.Proofs.Ytjokibfldngkeaa
open Go
attribute [local irreducible] G GO GR GT Fn pt init exs pur sat own ImpS
theorem built_cnf (n : Int) : Try.prog.built 24 [(0, i64 n)] = some [i64 n, .slice none 0 0].toArray := by kernel_rfl
/-- The copied productions so far. -/
def Cop (z : HP) (ps : List ProdD) (k : Nat) (cells : List Value) : Prop := ∀ j p, j < k → ps[j]? = some p → ∃ bv, cells[j * 2]? = some (i64 p.1) ∧ cells[j * 2 + 1]? = some bv ∧ SymsR z bv p.2
theorem Cop.sup {z z' : HP} (h : Sup z z') {ps : List ProdD} {k : Nat} {cells : List Value} (hc : Cop z ps k cells) : Cop z' ps k cells :=
  fun j p hj hp => let ⟨bv, a, b, c⟩ := hc j p hj hp; ⟨bv, a, b, c.sup h⟩
theorem Cop.succ {z : HP} {ps : List ProdD} {k : Nat} {cells : List Value} {p : ProdD} {bv : Value} (hc : Cop z ps k cells) (hl : cells.length = k * 2) (hp : ps[k]? = some p) (hb : SymsR z bv p.2) : Cop z ps (k + 1) (cells ++ [i64 p.1, bv]) := by
  intro j p' hj hp'
  by_cases e : j = k
  · subst e
    rw [hp] at hp'
    simp only [Option.some.injEq] at hp'
    subst hp'
    refine ⟨bv, ?_, ?_, hb⟩
    · rw [List.getElem?_append_right (by omega), hl]; simp
    · rw [List.getElem?_append_right (by omega), hl, show j * 2 + 1 - j * 2 = 1 by omega]; rfl
  · obtain ⟨bv', a, b, c⟩ := hc j p' (by omega) hp'
    exact ⟨bv', by rw [List.getElem?_append_left (by omega)]; exact a, by rw [List.getElem?_append_left (by omega)]; exact b, c⟩
set_option maxHeartbeats 4000000 in
set_option maxRecDepth 20000 in
theorem copy_spec (q : HP) (v : Value) (C : CnfD) (hv : CnfR q v C) (hz : Fits C) : Fn Try.prog 10 #[v] [q] (fun r Q => ∃ z, CnfR z r C ∧ Q = [z, q]) := by
  obtain ⟨pv, rfl, hp⟩ := hv
  obtain ⟨a0, cap0, rfl⟩ := hp.form
  have hz1 := hz.1
  refine Fn.mk Try.func10 rfl rfl fun w0 F => ?_
  (refine G.seq ?_; refine G.region ?_)
  refine GO.box rfl rfl rfl fun b1 => ?_
  refine GO.alloc rfl fun b2 => ?_
  (refine GO.nil ?_; refine kthen_n ?_; refine G.seq ?_; refine G.region ?_; refine GO.fieldAddr rfl rfl ?_; refine GO.load1 rfl rfl rfl (Tk.t Tk.h) rfl ?_)
  refine GO.buildPart1 (built_cnf _) rfl rfl ?_
  refine GO.alloc rfl fun b3 => ?_
  refine GO.storeW rfl rfl Tk.h ⟨rfl, rfl⟩ (by simp [Value.oneCell']) ?_
  (refine GO.nil ?_; refine kthen_n ?_; refine G.seq ?_; refine G.seq ?_; refine G.region ?_; refine GO.assign rfl rfl ?_; refine GO.nil ?_; refine kthen_n ?_; refine G.block ?_)
  refine G.ownNil (T := 52) (sz := 2) ?_
  refine G.imp (H' := pur True :: _) (fun l w s => sat_pur.2 ⟨trivial, s⟩) ?_
  refine G.loop4 (fun (k : Nat) (_ : Value) (_ : List Value) (_ : HP) => [(1, .pointer (some ⟨b1, 0, none⟩)), (2, .pointer (some ⟨b2, 0, none⟩)), (3, .pointer (some ⟨b3, 0, none⟩)), (4, i64 k)])
    (fun k pv cells z => own 52 2 k pv cells :: pt b3 (row [i64 C.nts, pv] 24) :: z :: pt b1 (row [i64 C.nts, .slice a0 C.prods.length cap0] 24) :: q :: pt b2 (row [i64 0, .slice none 0 0] 24) :: F)
    (fun k pv cells z => k ≤ C.prods.length ∧ Cop z C.prods k cells) (fun k _ _ _ => C.prods.length - k) 0 (.slice none 0 0) [] (pur True) ⟨by omega, fun j p hj => by omega⟩ ?_ ?_ ?_
  · (refine SubE.c rfl rfl ?_; refine SubE.c rfl rfl ?_; refine SubE.c rfl rfl ?_; refine SubE.c rfl rfl ?_; exact SubE.n)
  · ((refine Sb.c (Tk.t Tk.h) ?_; refine Sb.c (Tk.t Tk.h) ?_; refine Sb.c Tk.h ?_; refine Sb.c (Tk.t Tk.h) ?_; refine Sb.c (Tk.t Tk.h) ?_; refine Sb.c Tk.h ?_); (exact Sb.r))
  rintro k pv cells z ⟨hk, hc⟩
  refine G.ownMax Tk.h fun hmx hcl => ?_
  refine G.ownOne Tk.h fun hone => ?_
  (refine G.seq ?_; refine G.seq ?_; refine G.region ?_; refine GO.move rfl rfl ?_; refine GO.fieldAddr rfl rfl ?_; refine GO.load1 rfl rfl rfl (Tk.t (Tk.t (Tk.t Tk.h))) rfl ?_; refine GO.lenS rfl rfl ?_; refine GO.lti rfl rfl rfl ?_; refine GO.nil ?_; refine kthen_n ?_)
  refine G.condD rfl (fun hlt => ?_) (fun hge => ?_)
  · have hlt' : k < C.prods.length := by omega
    obtain ⟨p, hpk⟩ : ∃ p, C.prods[k]? = some p := ⟨C.prods[k], by simp [hlt']⟩
    obtain ⟨b, o, bv, rfl, _, r1, r2, hs⟩ := hp.at hpk
    have hpl := hz.2 p (List.mem_of_getElem? hpk)
    (refine G.skip ?_; refine kthen_n ?_; refine G.seq ?_; refine G.block ?_; refine G.seq ?_; refine G.region ?_; refine GO.assign rfl rfl ?_; refine GO.nil ?_; refine kthen_n ?_; refine G.seq ?_; refine G.region ?_; refine GO.move rfl rfl ?_; refine GO.fieldAddr rfl rfl ?_; refine GO.load1 rfl rfl rfl (Tk.t (Tk.t (Tk.t Tk.h))) rfl ?_; refine GO.move rfl rfl ?_; refine GO.idxS rfl rfl rfl ⟨rfl, by omega⟩ ?_; refine GO.fieldAddr rfl rfl ?_)
    refine GO.loadQ rfl rfl rfl (q := q) (by (exact (Tk.t (Tk.t (Tk.t (Tk.t Tk.h)))))) r2 ?_
    refine GO.ownNil (T := 54) (sz := 2) ?_
    refine GO.appendFrom (m := p.2.length) (q := q) rfl rfl rfl (by (exact Tk.h)) (by (exact (Tk.t (Tk.t (Tk.t (Tk.t Tk.h)))))) hs (symsV_one _) ⟨by decide, rfl⟩ (by unfold maxLen; omega) (by omega) fun v5 => ?_
    rw [List.nil_append, Nat.zero_add p.2.length]
    refine GO.ownRd Tk.h fun q5 h5 => ?_
    (refine GO.assign rfl rfl ?_; refine GO.nil ?_; refine kthen_n ?_)
    obtain ⟨a5, cap5, e5, _⟩ := id h5
    subst e5
    refine G.merge (x := q5) (y := z) (Tks.c Tk.h (Tks.c (Tk.t (Tk.t Tk.h)) Tks.n)) ?_
    have hc' : Cop (star [q5, z]) C.prods (k + 1) (cells ++ [i64 p.1, .slice a5 p.2.length cap5]) := (hc.sup (Sup.right q5 z)).succ hcl hpk (Sl.sup (Sup.left q5 z) h5)
    generalize star [q5, z] = z' at hc' ⊢
    clear hc h5
    refine G.drawT 13 3072 [pt b3 (row [i64 C.nts, pv] 24), pt b1 (row [i64 C.nts, .slice (some ⟨b, o, none⟩) C.prods.length cap0] 24), q, z', pt b2 (row [i64 0, .slice none 0 0] 24)] (own 52 2 k pv cells :: F) (by kernel_rfl) (keys_of rfl) (ImpS.sb (by ((refine Sb.c (Tk.t (Tk.t Tk.h)) ?_; refine Sb.c (Tk.t (Tk.t Tk.h)) ?_; refine Sb.c (Tk.t (Tk.t Tk.h)) ?_; refine Sb.c Tk.h ?_; refine Sb.c (Tk.t Tk.h) ?_; refine Sb.c Tk.h ?_); (exact Sb.r)))) ?_
    ((apply GR.step rfl; focus (intro Z; refine GO.fieldAddr rfl rfl ?_; exact KQ.z)); (apply GR.step rfl; focus (intro Z; refine GO.load1 rfl rfl rfl Tk.h rfl ?_; exact KQ.z)); (apply GR.step rfl; focus (intro Z; refine GO.fieldAddr rfl rfl ?_; exact KQ.z)); (apply GR.step rfl; focus (intro Z; refine GO.load1 rfl rfl rfl (Tk.t Tk.h) rfl ?_; exact KQ.z)); (apply GR.step rfl; focus (intro Z; refine GO.move rfl rfl ?_; exact KQ.z)); (apply GR.step rfl; focus (intro Z; refine GO.idxS rfl rfl rfl ⟨rfl, by omega⟩ ?_; exact KQ.z)); (apply GR.step rfl; focus (intro Z; refine GO.fieldAddr rfl rfl ?_; exact KQ.z)))
    apply GR.step rfl; focus (intro Z; refine GO.loadQ rfl rfl rfl (q := q) (by (exact (Tk.t (Tk.t Tk.h)))) r1 ?_; exact KQ.z)
    ((apply GR.step rfl; focus (intro Z; refine GO.move rfl rfl ?_; exact KQ.z)); (apply GR.step rfl; focus (intro Z; refine GO.build2 rfl rfl rfl rfl ?_; exact KQ.z)))
    (repeat refine GR.skip rfl ?_)
    ((apply GR.step rfl; focus (intro Z; refine GO.fieldAddr rfl rfl ?_; exact KQ.z)))
    refine GR.nil ?_
    (repeat refine GT.skip rfl ?_)
    refine GT.step rfl ?_
    refine GO.buildSlice1 rfl rfl (by simp; rfl) rfl ⟨by omega, by omega⟩ fun b6 => ?_
    refine GO.nil ⟨rfl, _, pt b6 (row [i64 p.1, .slice a5 p.2.length cap5] 52) :: own 52 2 k pv cells :: F, rfl, ImpS.sb (by ((refine Sb.c (Tk.t Tk.h) ?_; refine Sb.c (Tk.t Tk.h) ?_; refine Sb.c (Tk.t Tk.h) ?_; refine Sb.c (Tk.t Tk.h) ?_; refine Sb.c (Tk.t Tk.h) ?_; refine Sb.c Tk.h ?_; refine Sb.c Tk.h ?_); (exact Sb.r))), ?_⟩
    refine GT.step rfl ?_
    refine GO.appendOwn (m := 1) (news := [i64 p.1, .slice a5 p.2.length cap5]) rfl rfl rfl (by (exact (Tk.t (Tk.t (Tk.t (Tk.t (Tk.t (Tk.t Tk.h)))))))) (by (exact (Tk.t (Tk.t (Tk.t (Tk.t (Tk.t Tk.h))))))) rfl (by simp [Value.oneCell']) ⟨by decide, rfl⟩ Nat.one_pos (by have := hz.1; unfold maxLen; omega) (by have := hz.1; omega) fun v2 => ?_
    refine GO.ownOne Tk.h fun hone2 => ?_
    refine GO.nil ⟨rfl, _, own 52 2 (k + 1) v2 (cells ++ [i64 p.1, .slice a5 p.2.length cap5]) :: F, rfl, ImpS.sb (by ((refine Sb.c (Tk.t Tk.h) ?_; refine Sb.c (Tk.t Tk.h) ?_; refine Sb.c (Tk.t Tk.h) ?_; refine Sb.c (Tk.t Tk.h) ?_; refine Sb.c (Tk.t Tk.h) ?_; refine Sb.c Tk.h ?_); (refine Sb.s ?_; exact Sb.r))), ?_⟩
    (repeat refine GT.skip rfl ?_)
    refine GT.nil ?_
    refine GO.store1 rfl rfl hone2 (by (exact Tk.h)) (by simp) ?_
    (refine GO.nil ?_; refine kblock_n ?_; refine kthen_n ?_; refine G.region ?_; refine GO.move rfl rfl ?_; refine GO.addi rfl rfl rfl (by omega) ?_; refine GO.assign rfl rfl ?_; refine GO.nil ?_; refine kthen_n ?_)
    refine ⟨k + 1, v2, cells ++ [i64 p.1, .slice a5 p.2.length cap5], z', ⟨by omega, hc'⟩, by omega, ?_, ?_⟩
    · (refine SubE.c rfl rfl ?_; refine SubE.c rfl rfl ?_; refine SubE.c rfl rfl ?_; refine SubE.c rfl rfl ?_; exact SubE.n)
    · ((refine Sb.c (Tk.t (Tk.t (Tk.t (Tk.t (Tk.t Tk.h))))) ?_; refine Sb.c Tk.h ?_; refine Sb.c (Tk.t (Tk.t Tk.h)) ?_; refine Sb.c Tk.h ?_; refine Sb.c Tk.h ?_; refine Sb.c Tk.h ?_); (exact Sb.r))
  · have : k = C.prods.length := by omega
    subst this
    (refine G.exit ?_; refine G.seq ?_; refine G.region ?_)
    refine GO.loadW rfl rfl rfl (Tk.t Tk.h) rfl ?_
    refine GO.storeW rfl rfl (Tk.t (Tk.t (Tk.t (Tk.t (Tk.t Tk.h))))) ⟨rfl, rfl⟩ (by simp [Value.oneCell']; exact hone) ?_
    refine GO.ownRd (Tk.t Tk.h) fun q6 h6 => ?_
    refine GO.merge (x := q6) (y := z) (Tks.c Tk.h (Tks.c (by (exact (Tk.t (Tk.t Tk.h)))) Tks.n)) ?_
    (refine GO.nil ?_; refine kthen_n ?_; refine G.ret ?_)
    refine KF.r1 rfl (RV.cW rfl rfl (Tk.t Tk.h) rfl) ⟨star [q6, z], ⟨pv, rfl, cells, Sl.sup (Sup.left q6 z) h6, fun j p hj => (hc.sup (Sup.right q6 z)) j p (List.getElem?_eq_some_iff.1 hj).1 hj⟩, rfl⟩ ?_
    ((refine Sb.c Tk.h ?_; refine Sb.c (Tk.t (Tk.t (Tk.t Tk.h))) ?_); (refine Sb.s ?_; refine Sb.s ?_; refine Sb.s ?_; exact Sb.r))
end Go.Proofs.Ytjokibfldngkeaa
