/-
  QLv, part 1.
-/
import Derived.Test.YtcemehocbemfmaaY
import Derived.Test.YtcemehocbemfmaaTy
import Derived.Test.YtcemehocbemfmaaW
import Derived.Test.YtcemehocbemfmaaNA
import Derived.Test.YtcemehocbemfmaaZ
namespace Go.Proofs.Ytcemehocbemfmaa
open Go
abbrev SymD := Bool × Int
abbrev ProdD := Int × List SymD
structure CnfD where
  nts : Int
  prods : List ProdD
def symsV (ss : List SymD) : List Value := ss.flatMap fun s => [.bool s.1, i64 s.2]
theorem symsV_len (ss : List SymD) : (symsV ss).length = ss.length * 2 := by
  induction ss with
  | nil => rfl
  | cons s ss ih => simp only [symsV, List.flatMap_cons, List.length_append, List.length_cons, List.length_nil] at ih ⊢; omega
theorem symsV_one (ss : List SymD) : ∀ u ∈ symsV ss, u.oneCell' = true := by
  intro u hu
  obtain ⟨s, _, h⟩ := List.mem_flatMap.1 hu
  simp at h
  rcases h with rfl | rfl <;> rfl
theorem symsV_get : ∀ {ss : List SymD} {k : Nat} {s : SymD}, ss[k]? = some s → (symsV ss)[k * 2]? = some (.bool s.1) ∧ (symsV ss)[k * 2 + 1]? = some (i64 s.2)
  | [], _, _, h => by simp at h
  | t :: ss, 0, s, h => by simp at h; subst h; simp [symsV]
  | t :: ss, k + 1, s, h => by
    have := symsV_get (ss := ss) (k := k) (by simpa using h)
    have e : symsV (t :: ss) = .bool t.1 :: i64 t.2 :: symsV ss := rfl
    rw [e, show (k + 1) * 2 = k * 2 + 2 by omega]
    simpa using this
/-- The value v is a list of symbols that can be read in q. -/
def SymsR (q : HP) (v : Value) (ss : List SymD) : Prop := Sl q v ss.length 2 (symsV ss)
/-- Likewise a list of productions. -/
def PrsR (q : HP) (v : Value) (ps : List ProdD) : Prop :=
  ∃ cells, Sl q v ps.length 2 cells ∧ ∀ k p, ps[k]? = some p → ∃ bv, cells[k * 2]? = some (i64 p.1) ∧ cells[k * 2 + 1]? = some bv ∧ SymsR q bv p.2
def CnfR (q : HP) (v : Value) (C : CnfD) : Prop := ∃ pv, v = .agg [i64 C.nts, pv].toArray ∧ PrsR q pv C.prods
theorem SymsR.sup {q q' : HP} (h : Sup q q') {v : Value} {ss : List SymD} (k : SymsR q v ss) : SymsR q' v ss := Sl.sup h k
theorem PrsR.sup {q q' : HP} (h : Sup q q') {v : Value} {ps : List ProdD} (k : PrsR q v ps) : PrsR q' v ps := by
  obtain ⟨cells, h1, h2⟩ := k
  exact ⟨cells, Sl.sup h h1, fun k p hp => let ⟨bv, a, b, c⟩ := h2 k p hp; ⟨bv, a, b, c.sup h⟩⟩
theorem CnfR.sup {q q' : HP} (h : Sup q q') {v : Value} {C : CnfD} (k : CnfR q v C) : CnfR q' v C := let ⟨pv, a, b⟩ := k; ⟨pv, a, b.sup h⟩
theorem SymsR.form {q : HP} {v : Value} {ss : List SymD} (h : SymsR q v ss) : ∃ a cap, v = .slice a ss.length cap := let ⟨a, cap, e, _⟩ := h; ⟨a, cap, e⟩
theorem PrsR.form {q : HP} {v : Value} {ps : List ProdD} (h : PrsR q v ps) : ∃ a cap, v = .slice a ps.length cap := let ⟨_, ⟨a, cap, e, _⟩, _⟩ := h; ⟨a, cap, e⟩
theorem SymsR.at {q : HP} {a : Option Addr} {n cap k : Nat} {ss : List SymD} {s : SymD} (h : SymsR q (.slice a n cap) ss) (hk : ss[k]? = some s) :
    ∃ b o, a = some ⟨b, o, none⟩ ∧ n = ss.length ∧ Rd q ⟨b, o + k * 2, none⟩ (.bool s.1) ∧ Rd q ⟨b, o + k * 2 + 1, none⟩ (i64 s.2) := by
  obtain ⟨a', cap', e, hl, hr⟩ := h
  injection e with e1 e2 e3
  subst e1 e2
  have hlt := (List.getElem?_eq_some_iff.1 hk).1
  obtain ⟨b, o, rfl, hr'⟩ := hr (by omega)
  obtain ⟨h1, h2⟩ := symsV_get hk
  exact ⟨b, o, rfl, rfl, hr' _ _ h1, hr' _ _ h2⟩
theorem PrsR.at {q : HP} {a : Option Addr} {n cap k : Nat} {ps : List ProdD} {p : ProdD} (h : PrsR q (.slice a n cap) ps) (hk : ps[k]? = some p) :
    ∃ b o bv, a = some ⟨b, o, none⟩ ∧ n = ps.length ∧ Rd q ⟨b, o + k * 2, none⟩ (i64 p.1) ∧ Rd q ⟨b, o + k * 2 + 1, none⟩ bv ∧ SymsR q bv p.2 := by
  obtain ⟨cells, ⟨a', cap', e, hl, hr⟩, hc⟩ := h
  injection e with e1 e2 e3
  subst e1 e2
  have hlt := (List.getElem?_eq_some_iff.1 hk).1
  obtain ⟨b, o, rfl, hr'⟩ := hr (by omega)
  obtain ⟨bv, h1, h2, h3⟩ := hc k p hk
  exact ⟨b, o, bv, rfl, rfl, hr' _ _ h1, hr' _ _ h2, h3⟩
/-- What fits into memory. -/
def Fits (C : CnfD) : Prop := C.prods.length * 32 ≤ 140737488355328 ∧ ∀ p ∈ C.prods, p.2.length * 16 ≤ 140737488355328
end Go.Proofs.Ytcemehocbemfmaa
namespace Go.Proofs.Ytcemehocbemfmaa
open Go
attribute [local irreducible] G GO GR GT Fn pt init exs pur sat own ImpS
theorem built_cnf (n : Int) : Try.prog.built 24 [(0, i64 n)] = some [i64 n, .slice none 0 0].toArray := by kernel_rfl
/-- The copied productions so far. -/
def Cop (z : HP) (ps : List ProdD) (k : Nat) (cells : List Value) : Prop := ∀ j p, j < k → ps[j]? = some p → ∃ bv, cells[j * 2]? = some (i64 p.1) ∧ cells[j * 2 + 1]? = some bv ∧ SymsR z bv p.2
theorem Cop.sup {z z' : HP} (h : Sup z z') {ps : List ProdD} {k : Nat} {cells : List Value} (hc : Cop z ps k cells) : Cop z' ps k cells :=
  fun j p hj hp => let ⟨bv, a, b, c⟩ := hc j p hj hp; ⟨bv, a, b, c.sup h⟩
theorem Cop.succ {z : HP} {ps : List ProdD} {k : Nat} {cells : List Value} {p : ProdD} {bv : Value} (hc : Cop z ps k cells) (hl : cells.length = k * 2) (hp : ps[k]? = some p) (hb : SymsR z bv p.2) : Cop z ps (k + 1) (cells ++ [i64 p.1, bv]) := by
  intro j p' hj hp'
  by_cases e : j = k
  · subst e
    rw [hp] at hp'
    simp only [Option.some.injEq] at hp'
    subst hp'
    refine ⟨bv, ?_, ?_, hb⟩
    · rw [List.getElem?_append_right (by omega), hl]; simp
    · rw [List.getElem?_append_right (by omega), hl, show j * 2 + 1 - j * 2 = 1 by omega]; rfl
  · obtain ⟨bv', a, b, c⟩ := hc j p' (by omega) hp'
    exact ⟨bv', by rw [List.getElem?_append_left (by omega)]; exact a, by rw [List.getElem?_append_left (by omega)]; exact b, c⟩
set_option maxHeartbeats 4000000 in
set_option maxRecDepth 20000 in
theorem copy_spec (q : HP) (v : Value) (C : CnfD) (hv : CnfR q v C) (hz : Fits C) : Fn Try.prog 10 #[v] [q] (fun r Q => ∃ z, CnfR z r C ∧ Q = [z, q]) := by
  obtain ⟨pv, rfl, hp⟩ := hv
  obtain ⟨a0, cap0, rfl⟩ := hp.form
  have hz1 := hz.1
  refine Fn.mk Try.func10 rfl rfl fun w0 F => ?_
  (refine G.seq ?_; refine G.region ?_)
  refine GO.box rfl rfl rfl fun b1 => ?_
  refine GO.alloc rfl fun b2 => ?_
  (refine GO.nil ?_; refine kthen_n ?_; refine G.seq ?_; refine G.region ?_; refine GO.fieldAddr rfl rfl ?_; refine GO.load1 rfl rfl rfl (Tk.t Tk.h) rfl ?_)
  refine GO.buildPart1 (built_cnf _) rfl rfl ?_
  refine GO.alloc rfl fun b3 => ?_
  refine GO.storeW rfl rfl Tk.h ⟨rfl, rfl⟩ (by simp [Value.oneCell']) ?_
  (refine GO.nil ?_; refine kthen_n ?_; refine G.seq ?_; refine G.seq ?_; refine G.region ?_; refine GO.assign rfl rfl ?_; refine GO.nil ?_; refine kthen_n ?_; refine G.block ?_)
  refine G.ownNil (T := 42) (sz := 2) ?_
  refine G.imp (H' := pur True :: _) (fun l w s => sat_pur.2 ⟨trivial, s⟩) ?_
  refine G.loop4 (fun (k : Nat) (_ : Value) (_ : List Value) (_ : HP) => [(1, .pointer (some ⟨b1, 0, none⟩)), (2, .pointer (some ⟨b2, 0, none⟩)), (3, .pointer (some ⟨b3, 0, none⟩)), (4, i64 k)])
    (fun k pv cells z => own 42 2 k pv cells :: pt b3 (row [i64 C.nts, pv] 24) :: z :: pt b1 (row [i64 C.nts, .slice a0 C.prods.length cap0] 24) :: q :: pt b2 (row [i64 0, .slice none 0 0] 24) :: F)
    (fun k pv cells z => k ≤ C.prods.length ∧ Cop z C.prods k cells) (fun k _ _ _ => C.prods.length - k) 0 (.slice none 0 0) [] (pur True) ⟨by omega, fun j p hj => by omega⟩ ?_ ?_ ?_
  · (refine SubE.c rfl rfl ?_; refine SubE.c rfl rfl ?_; refine SubE.c rfl rfl ?_; refine SubE.c rfl rfl ?_; exact SubE.n)
  · ((refine Sb.c (Tk.t Tk.h) ?_; refine Sb.c (Tk.t Tk.h) ?_; refine Sb.c Tk.h ?_; refine Sb.c (Tk.t Tk.h) ?_; refine Sb.c (Tk.t Tk.h) ?_; refine Sb.c Tk.h ?_); (exact Sb.r))
  rintro k pv cells z ⟨hk, hc⟩
  refine G.ownMax Tk.h fun hmx hcl => ?_
  refine G.ownOne Tk.h fun hone => ?_
  (refine G.seq ?_; refine G.seq ?_; refine G.region ?_; refine GO.move rfl rfl ?_; refine GO.fieldAddr rfl rfl ?_; refine GO.load1 rfl rfl rfl (Tk.t (Tk.t (Tk.t Tk.h))) rfl ?_; refine GO.lenS rfl rfl ?_; refine GO.lti rfl rfl rfl ?_; refine GO.nil ?_; refine kthen_n ?_)
  refine G.condD rfl (fun hlt => ?_) (fun hge => ?_)
  · have hlt' : k < C.prods.length := by omega
    obtain ⟨p, hpk⟩ : ∃ p, C.prods[k]? = some p := ⟨C.prods[k], by simp [hlt']⟩
    obtain ⟨b, o, bv, rfl, _, r1, r2, hs⟩ := hp.at hpk
    have hpl := hz.2 p (List.mem_of_getElem? hpk)
    (refine G.skip ?_; refine kthen_n ?_; refine G.seq ?_; refine G.block ?_; refine G.seq ?_; refine G.region ?_; refine GO.assign rfl rfl ?_; refine GO.nil ?_; refine kthen_n ?_; refine G.seq ?_; refine G.region ?_; refine GO.move rfl rfl ?_; refine GO.fieldAddr rfl rfl ?_; refine GO.load1 rfl rfl rfl (Tk.t (Tk.t (Tk.t Tk.h))) rfl ?_; refine GO.move rfl rfl ?_; refine GO.idxS rfl rfl rfl ⟨rfl, by omega⟩ ?_; refine GO.fieldAddr rfl rfl ?_)
    refine GO.loadQ rfl rfl rfl (q := q) (by (exact (Tk.t (Tk.t (Tk.t (Tk.t Tk.h)))))) r2 ?_
    refine GO.ownNil (T := 63) (sz := 2) ?_
    refine GO.appendFrom (m := p.2.length) (q := q) rfl rfl rfl (by (exact Tk.h)) (by (exact (Tk.t (Tk.t (Tk.t (Tk.t Tk.h)))))) hs (symsV_one _) ⟨by decide, rfl⟩ (by unfold maxLen; omega) (by omega) fun v5 => ?_
    rw [List.nil_append, Nat.zero_add p.2.length]
    refine GO.ownRd Tk.h fun q5 h5 => ?_
    (refine GO.assign rfl rfl ?_; refine GO.nil ?_; refine kthen_n ?_)
    obtain ⟨a5, cap5, e5, _⟩ := id h5
    subst e5
    refine G.merge (x := q5) (y := z) (Tks.c Tk.h (Tks.c (Tk.t (Tk.t Tk.h)) Tks.n)) ?_
    have hc' : Cop (star [q5, z]) C.prods (k + 1) (cells ++ [i64 p.1, .slice a5 p.2.length cap5]) := (hc.sup (Sup.right q5 z)).succ hcl hpk (Sl.sup (Sup.left q5 z) h5)
    generalize star [q5, z] = z' at hc' ⊢
    clear hc h5
    refine G.drawT 13 3072 [pt b3 (row [i64 C.nts, pv] 24), pt b1 (row [i64 C.nts, .slice (some ⟨b, o, none⟩) C.prods.length cap0] 24), q, z', pt b2 (row [i64 0, .slice none 0 0] 24)] (own 42 2 k pv cells :: F) (by kernel_rfl) (keys_of rfl) (ImpS.sb (by ((refine Sb.c (Tk.t (Tk.t Tk.h)) ?_; refine Sb.c (Tk.t (Tk.t Tk.h)) ?_; refine Sb.c (Tk.t (Tk.t Tk.h)) ?_; refine Sb.c Tk.h ?_; refine Sb.c (Tk.t Tk.h) ?_; refine Sb.c Tk.h ?_); (exact Sb.r)))) ?_
    ((apply GR.step rfl; focus (intro Z; refine GO.fieldAddr rfl rfl ?_; exact KQ.z)); (apply GR.step rfl; focus (intro Z; refine GO.load1 rfl rfl rfl Tk.h rfl ?_; exact KQ.z)); (apply GR.step rfl; focus (intro Z; refine GO.fieldAddr rfl rfl ?_; exact KQ.z)); (apply GR.step rfl; focus (intro Z; refine GO.load1 rfl rfl rfl (Tk.t Tk.h) rfl ?_; exact KQ.z)); (apply GR.step rfl; focus (intro Z; refine GO.move rfl rfl ?_; exact KQ.z)); (apply GR.step rfl; focus (intro Z; refine GO.idxS rfl rfl rfl ⟨rfl, by omega⟩ ?_; exact KQ.z)); (apply GR.step rfl; focus (intro Z; refine GO.fieldAddr rfl rfl ?_; exact KQ.z)))
    apply GR.step rfl; focus (intro Z; refine GO.loadQ rfl rfl rfl (q := q) (by (exact (Tk.t (Tk.t Tk.h)))) r1 ?_; exact KQ.z)
    ((apply GR.step rfl; focus (intro Z; refine GO.move rfl rfl ?_; exact KQ.z)); (apply GR.step rfl; focus (intro Z; refine GO.build2 rfl rfl rfl rfl ?_; exact KQ.z)))
    (repeat refine GR.skip rfl ?_)
    ((apply GR.step rfl; focus (intro Z; refine GO.fieldAddr rfl rfl ?_; exact KQ.z)))
    refine GR.nil ?_
    (repeat refine GT.skip rfl ?_)
    refine GT.step rfl ?_
    refine GO.buildSlice1 rfl rfl (by simp; rfl) rfl ⟨by omega, by omega⟩ fun b6 => ?_
    refine GO.nil ⟨rfl, _, pt b6 (row [i64 p.1, .slice a5 p.2.length cap5] 42) :: own 42 2 k pv cells :: F, rfl, ImpS.sb (by ((refine Sb.c (Tk.t Tk.h) ?_; refine Sb.c (Tk.t Tk.h) ?_; refine Sb.c (Tk.t Tk.h) ?_; refine Sb.c (Tk.t Tk.h) ?_; refine Sb.c (Tk.t Tk.h) ?_; refine Sb.c Tk.h ?_; refine Sb.c Tk.h ?_); (exact Sb.r))), ?_⟩
    refine GT.step rfl ?_
    refine GO.appendOwn (m := 1) (news := [i64 p.1, .slice a5 p.2.length cap5]) rfl rfl rfl (by (exact (Tk.t (Tk.t (Tk.t (Tk.t (Tk.t (Tk.t Tk.h)))))))) (by (exact (Tk.t (Tk.t (Tk.t (Tk.t (Tk.t Tk.h))))))) rfl (by simp [Value.oneCell']) ⟨by decide, rfl⟩ Nat.one_pos (by have := hz.1; unfold maxLen; omega) (by have := hz.1; omega) fun v2 => ?_
    refine GO.ownOne Tk.h fun hone2 => ?_
    refine GO.nil ⟨rfl, _, own 42 2 (k + 1) v2 (cells ++ [i64 p.1, .slice a5 p.2.length cap5]) :: F, rfl, ImpS.sb (by ((refine Sb.c (Tk.t Tk.h) ?_; refine Sb.c (Tk.t Tk.h) ?_; refine Sb.c (Tk.t Tk.h) ?_; refine Sb.c (Tk.t Tk.h) ?_; refine Sb.c (Tk.t Tk.h) ?_; refine Sb.c Tk.h ?_); (refine Sb.s ?_; exact Sb.r))), ?_⟩
    (repeat refine GT.skip rfl ?_)
    refine GT.nil ?_
    refine GO.store1 rfl rfl hone2 (by (exact Tk.h)) (by simp) ?_
    (refine GO.nil ?_; refine kblock_n ?_; refine kthen_n ?_; refine G.region ?_; refine GO.move rfl rfl ?_; refine GO.addi rfl rfl rfl (by omega) ?_; refine GO.assign rfl rfl ?_; refine GO.nil ?_; refine kthen_n ?_)
    refine ⟨k + 1, v2, cells ++ [i64 p.1, .slice a5 p.2.length cap5], z', ⟨by omega, hc'⟩, by omega, ?_, ?_⟩
    · (refine SubE.c rfl rfl ?_; refine SubE.c rfl rfl ?_; refine SubE.c rfl rfl ?_; refine SubE.c rfl rfl ?_; exact SubE.n)
    · ((refine Sb.c (Tk.t (Tk.t (Tk.t (Tk.t (Tk.t Tk.h))))) ?_; refine Sb.c Tk.h ?_; refine Sb.c (Tk.t (Tk.t Tk.h)) ?_; refine Sb.c Tk.h ?_; refine Sb.c Tk.h ?_; refine Sb.c Tk.h ?_); (exact Sb.r))
  · have : k = C.prods.length := by omega
    subst this
    (refine G.exit ?_; refine G.seq ?_; refine G.region ?_)
    refine GO.loadW rfl rfl rfl (Tk.t Tk.h) rfl ?_
    refine GO.storeW rfl rfl (Tk.t (Tk.t (Tk.t (Tk.t (Tk.t Tk.h))))) ⟨rfl, rfl⟩ (by simp [Value.oneCell']; exact hone) ?_
    refine GO.ownRd (Tk.t Tk.h) fun q6 h6 => ?_
    refine GO.merge (x := q6) (y := z) (Tks.c Tk.h (Tks.c (by (exact (Tk.t (Tk.t Tk.h)))) Tks.n)) ?_
    (refine GO.nil ?_; refine kthen_n ?_; refine G.ret ?_)
    refine KF.r1 rfl (RV.cW rfl rfl (Tk.t Tk.h) rfl) ⟨star [q6, z], ⟨pv, rfl, cells, Sl.sup (Sup.left q6 z) h6, fun j p hj => (hc.sup (Sup.right q6 z)) j p (List.getElem?_eq_some_iff.1 hj).1 hj⟩, rfl⟩ ?_
    ((refine Sb.c Tk.h ?_; refine Sb.c (Tk.t (Tk.t (Tk.t Tk.h))) ?_); (refine Sb.s ?_; refine Sb.s ?_; refine Sb.s ?_; exact Sb.r))
end Go.Proofs.Ytcemehocbemfmaa
namespace Go.Proofs.Ytcemehocbemfmaa
open Go
attribute [local irreducible] G GO GR GT Fn pt init exs pur sat own ImpS
def symOK (n : Int) (s : SymD) : Bool := !(decide (s.2 < 0) || (s.1 && decide (16 ≤ s.2)) || (!s.1 && decide (n ≤ s.2)))
def prodOK (n : Int) (p : ProdD) : Bool := !(decide (p.1 < 0) || decide (n ≤ p.1)) && p.2.all (symOK n)
def okC (C : CnfD) : Bool := !(decide (C.nts < 1) || decide (1024 < C.nts)) && C.prods.all (prodOK C.nts)
theorem all_succ {α : Type} {l : List α} {k : Nat} {a : α} {f : α → Bool} (h : l[k]? = some a) (h1 : (l.take k).all f = true) (h2 : f a = true) : (l.take (k + 1)).all f = true := by
  rw [List.take_add_one, h, List.all_append, h1]; simp [h2]
theorem all_not {α : Type} {l : List α} {k : Nat} {a : α} {f : α → Bool} (h : l[k]? = some a) (h2 : f a = false) : l.all f = false := by
  rw [List.all_eq_false]; exact ⟨a, List.mem_of_getElem? h, by simp [h2]⟩
set_option maxHeartbeats 4000000 in
set_option maxRecDepth 20000 in
theorem rcheck_spec (q : HP) (v : Value) (C : CnfD) (hv : CnfR q v C) (hz : Fits C) : Fn Try.prog 14 #[v] [q] (fun r Q => r = i64 (if okC C then 0 else 220) ∧ Q = [q]) := by
  obtain ⟨pv, rfl, hp⟩ := hv
  obtain ⟨a0, cap0, rfl⟩ := hp.form
  have hz1 := hz.1
  refine Fn.mk Try.func14 rfl rfl fun w0 F => ?_
  (refine G.seq ?_; refine G.region ?_)
  refine GO.box rfl rfl rfl fun b1 => ?_
  (refine GO.assign rfl rfl ?_; refine GO.nil ?_; refine kthen_n ?_; refine G.seq ?_; refine G.seq ?_; refine G.region ?_; refine GO.fieldAddr rfl rfl ?_; refine GO.load1 rfl rfl rfl Tk.h rfl ?_; refine GO.lti rfl rfl rfl ?_; refine GO.move rfl rfl ?_)
  refine GO.cut1 14 (.bool (decide (C.nts < 1) || decide (1024 < C.nts))) ?_ ?_
  · refine GO.splitD 10 rfl (fun h => ?_) (fun h => ?_)
    · (refine GO.gF rfl rfl rfl rfl ?_; refine GO.gF rfl rfl rfl rfl ?_; refine GO.gF rfl rfl rfl rfl ?_; refine GO.pickT rfl rfl rfl ?_; refine GO.nil ?_; refine kthen_n ?_)
      refine ⟨?_, ImpS.sb ?_⟩
      · ((refine SubE.c rfl ?_ ?_; focus (simp; omega)); (refine SubE.c rfl ?_ ?_; focus (simp; omega)); refine SubE.c rfl rfl ?_; refine SubE.c rfl rfl ?_; refine SubE.c rfl rfl ?_; refine SubE.c rfl rfl ?_; refine SubE.c rfl rfl ?_; refine SubE.c rfl rfl ?_; exact SubE.n)
      · ((refine Sb.c Tk.h ?_; refine Sb.c Tk.h ?_); (exact Sb.r))
    · (refine GO.gT rfl rfl rfl ?_; refine GO.fieldAddr rfl rfl ?_; refine GO.gT rfl rfl rfl ?_; refine GO.load1 rfl rfl rfl Tk.h rfl ?_; refine GO.gT rfl rfl rfl ?_; refine GO.gti rfl rfl rfl ?_; refine GO.pickF rfl rfl rfl ?_; refine GO.nil ?_; refine kthen_n ?_)
      refine ⟨?_, ImpS.sb ?_⟩
      · ((refine SubE.c rfl ?_ ?_; focus (simp; omega)); (refine SubE.c rfl ?_ ?_; focus (simp; omega)); refine SubE.c rfl rfl ?_; refine SubE.c rfl rfl ?_; refine SubE.c rfl rfl ?_; refine SubE.c rfl rfl ?_; refine SubE.c rfl rfl ?_; refine SubE.c rfl rfl ?_; exact SubE.n)
      · ((refine Sb.c Tk.h ?_; refine Sb.c Tk.h ?_); (exact Sb.r))
  refine G.cond rfl (fun hb => ?_) (fun hb => ?_)
  · (refine G.seq ?_; refine G.region ?_; refine GO.assign rfl rfl ?_; refine GO.nil ?_; refine kthen_n ?_; refine G.ret ?_; refine kthen_r ?_)
    refine KF.r1 rfl (RV.t rfl) ⟨?_, rfl⟩ ?_
    · unfold okC; rw [hb]; rfl
    · ((refine Sb.c (Tk.t Tk.h) ?_); (refine Sb.s ?_; exact Sb.r))
  (refine G.skip ?_; refine kthen_n ?_; refine G.seq ?_; refine G.seq ?_; refine G.region ?_; refine GO.assign rfl rfl ?_; refine GO.nil ?_; refine kthen_n ?_; refine G.block ?_)
  refine G.loop (fun k : Nat => [(1, .pointer (some ⟨b1, 0, none⟩)), (3, i64 k)]) (fun _ => pt b1 (row [i64 C.nts, .slice a0 C.prods.length cap0] 24) :: q :: F) (fun k => k ≤ C.prods.length ∧ (C.prods.take k).all (prodOK C.nts) = true) (fun k => C.prods.length - k) 0 ⟨by omega, rfl⟩ ?_ ?_ ?_
  · (refine SubE.c rfl rfl ?_; refine SubE.c rfl rfl ?_; exact SubE.n)
  · ((refine Sb.c Tk.h ?_; refine Sb.c Tk.h ?_); (exact Sb.r))
  rintro k ⟨hk, hall⟩
  (refine G.seq ?_; refine G.seq ?_; refine G.region ?_; refine GO.move rfl rfl ?_; refine GO.fieldAddr rfl rfl ?_; refine GO.load1 rfl rfl rfl Tk.h rfl ?_; refine GO.lenS rfl rfl ?_; refine GO.lti rfl rfl rfl ?_; refine GO.nil ?_; refine kthen_n ?_)
  refine G.condD rfl (fun hlt => ?_) (fun hge => ?_)
  · have hlt' : k < C.prods.length := by omega
    obtain ⟨p, hpk⟩ : ∃ p, C.prods[k]? = some p := ⟨C.prods[k], by simp [hlt']⟩
    obtain ⟨b, o, bv, rfl, _, r1, r2, hs⟩ := hp.at hpk
    obtain ⟨ab, capb, rfl⟩ := hs.form
    have hpl := hz.2 p (List.mem_of_getElem? hpk)
    (refine G.skip ?_; refine kthen_n ?_; refine G.seq ?_; refine G.block ?_; refine G.seq ?_; refine G.region ?_; refine GO.fieldAddr rfl rfl ?_; refine GO.load1 rfl rfl rfl Tk.h rfl ?_; refine GO.move rfl rfl ?_; refine GO.idxS rfl rfl rfl ⟨rfl, by omega⟩ ?_)
    refine GO.load2 (q := q) rfl rfl rfl (by (exact (Tk.t Tk.h))) r1 r2 ?_
    refine GO.alloc rfl fun b4 => ?_
    refine GO.storeW rfl rfl Tk.h ⟨rfl, rfl⟩ (by simp [Value.oneCell']) ?_
    (refine GO.nil ?_; refine kthen_n ?_; refine G.seq ?_; refine G.seq ?_; refine G.region ?_; refine GO.fieldAddr rfl rfl ?_; refine GO.load1 rfl rfl rfl Tk.h rfl ?_; refine GO.lti rfl rfl rfl ?_; refine GO.move rfl rfl ?_)
    refine GO.cut1 36 (.bool (decide (p.1 < 0) || decide (C.nts ≤ p.1))) ?_ ?_
    · refine GO.splitD 30 rfl (fun h => ?_) (fun h => ?_)
      · (refine GO.gF rfl rfl rfl rfl ?_; refine GO.gF rfl rfl rfl rfl ?_; refine GO.gF rfl rfl rfl rfl ?_; refine GO.gF rfl rfl rfl rfl ?_; refine GO.gF rfl rfl rfl rfl ?_; refine GO.pickT rfl rfl rfl ?_; refine GO.nil ?_; refine kthen_n ?_)
        refine ⟨?_, ImpS.sb ?_⟩
        · ((refine SubE.c rfl ?_ ?_; focus (simp; omega)); (refine SubE.c rfl ?_ ?_; focus (simp; omega)); refine SubE.c rfl rfl ?_; refine SubE.c rfl rfl ?_; refine SubE.c rfl rfl ?_; refine SubE.c rfl rfl ?_; refine SubE.c rfl rfl ?_; refine SubE.c rfl rfl ?_; refine SubE.c rfl rfl ?_; refine SubE.c rfl rfl ?_; refine SubE.c rfl rfl ?_; refine SubE.c rfl rfl ?_; refine SubE.c rfl rfl ?_; refine SubE.c rfl rfl ?_; refine SubE.c rfl rfl ?_; refine SubE.c rfl rfl ?_; refine SubE.c rfl rfl ?_; refine SubE.c rfl rfl ?_; exact SubE.n)
        · ((refine Sb.c Tk.h ?_; refine Sb.c Tk.h ?_; refine Sb.c Tk.h ?_); (exact Sb.r))
      · (refine GO.gT rfl rfl rfl ?_; refine GO.fieldAddr rfl rfl ?_; refine GO.gT rfl rfl rfl ?_; refine GO.load1 rfl rfl rfl Tk.h rfl ?_; refine GO.gT rfl rfl rfl ?_; refine GO.fieldAddr rfl rfl ?_; refine GO.gT rfl rfl rfl ?_; refine GO.load1 rfl rfl rfl (Tk.t Tk.h) rfl ?_; refine GO.gT rfl rfl rfl ?_; refine GO.gei rfl rfl rfl ?_; refine GO.pickF rfl rfl rfl ?_; refine GO.nil ?_; refine kthen_n ?_)
        refine ⟨?_, ImpS.sb ?_⟩
        · ((refine SubE.c rfl ?_ ?_; focus (simp; omega)); (refine SubE.c rfl ?_ ?_; focus (simp; omega)); refine SubE.c rfl rfl ?_; refine SubE.c rfl rfl ?_; refine SubE.c rfl rfl ?_; refine SubE.c rfl rfl ?_; refine SubE.c rfl rfl ?_; refine SubE.c rfl rfl ?_; refine SubE.c rfl rfl ?_; refine SubE.c rfl rfl ?_; refine SubE.c rfl rfl ?_; refine SubE.c rfl rfl ?_; refine SubE.c rfl rfl ?_; refine SubE.c rfl rfl ?_; refine SubE.c rfl rfl ?_; refine SubE.c rfl rfl ?_; refine SubE.c rfl rfl ?_; refine SubE.c rfl rfl ?_; exact SubE.n)
        · ((refine Sb.c Tk.h ?_; refine Sb.c Tk.h ?_; refine Sb.c Tk.h ?_); (exact Sb.r))
    refine G.cond rfl (fun hb => ?_) (fun hb2 => ?_)
    · (refine G.seq ?_; refine G.region ?_; refine GO.assign rfl rfl ?_; refine GO.nil ?_; refine kthen_n ?_; refine G.ret ?_; refine kthen_r ?_; refine kblock_r ?_; refine kthen_r ?_; refine kthen_r ?_; refine kblock_r ?_; refine kthen_r ?_)
      refine KF.r1 rfl (RV.t rfl) ⟨?_, rfl⟩ ?_
      · unfold okC; rw [all_not hpk (by unfold prodOK; rw [hb]; rfl)]; simp
      · ((refine Sb.c (Tk.t (Tk.t Tk.h)) ?_); (refine Sb.s ?_; refine Sb.s ?_; exact Sb.r))
    (refine G.skip ?_; refine kthen_n ?_; refine G.seq ?_; refine G.region ?_; refine GO.assign rfl rfl ?_; refine GO.nil ?_; refine kthen_n ?_; refine G.block ?_)
    refine G.loop (fun j : Nat => [(1, .pointer (some ⟨b1, 0, none⟩)), (3, i64 k), (4, .pointer (some ⟨b4, 0, none⟩)), (5, i64 j)]) (fun _ => pt b4 (row [i64 p.1, .slice ab p.2.length capb] 42) :: pt b1 (row [i64 C.nts, .slice (some ⟨b, o, none⟩) C.prods.length cap0] 24) :: q :: F) (fun j => j ≤ p.2.length ∧ (p.2.take j).all (symOK C.nts) = true) (fun j => p.2.length - j) 0 ⟨by omega, rfl⟩ ?_ ?_ ?_
    · (refine SubE.c rfl rfl ?_; refine SubE.c rfl rfl ?_; refine SubE.c rfl rfl ?_; refine SubE.c rfl rfl ?_; exact SubE.n)
    · ((refine Sb.c Tk.h ?_; refine Sb.c Tk.h ?_; refine Sb.c Tk.h ?_); (exact Sb.r))
    rintro j ⟨hj, halls⟩
    (refine G.seq ?_; refine G.seq ?_; refine G.region ?_; refine GO.move rfl rfl ?_; refine GO.fieldAddr rfl rfl ?_; refine GO.load1 rfl rfl rfl Tk.h rfl ?_; refine GO.lenS rfl rfl ?_; refine GO.lti rfl rfl rfl ?_; refine GO.nil ?_; refine kthen_n ?_)
    refine G.condD rfl (fun hlt => ?_) (fun hge => ?_)
    · have hjl : j < p.2.length := by omega
      obtain ⟨⟨lb, m⟩, hsj⟩ : ∃ s : SymD, p.2[j]? = some s := ⟨p.2[j], by simp [hjl]⟩
      obtain ⟨b', o', rfl, _, r3, r4⟩ := hs.at hsj
      dsimp only at r3 r4
      (refine G.skip ?_; refine kthen_n ?_; refine G.seq ?_; refine G.block ?_; refine G.seq ?_; refine G.region ?_; refine GO.fieldAddr rfl rfl ?_; refine GO.load1 rfl rfl rfl Tk.h rfl ?_; refine GO.move rfl rfl ?_; refine GO.idxS rfl rfl rfl ⟨rfl, by omega⟩ ?_)
      refine GO.load2 (q := q) rfl rfl rfl (by (exact (Tk.t (Tk.t Tk.h)))) r3 r4 ?_
      refine GO.alloc rfl fun b6 => ?_
      refine GO.storeW rfl rfl Tk.h ⟨rfl, rfl⟩ (by simp [Value.oneCell']) ?_
      (refine GO.nil ?_; refine kthen_n ?_; refine G.seq ?_; refine G.region ?_; refine GO.fieldAddr rfl rfl ?_; refine GO.load1 rfl rfl rfl Tk.h rfl ?_; refine GO.lti rfl rfl rfl ?_; refine GO.move rfl rfl ?_)
      refine GO.cut1 72 (.bool (decide (m < 0) || (lb && decide (16 ≤ m)) || (!lb && decide (C.nts ≤ m)))) ?_ ?_
      · refine GO.splitD 52 rfl (fun h => ?_) (fun h => ?_)
        · (refine GO.gF rfl rfl rfl rfl ?_; refine GO.gF rfl rfl rfl rfl ?_; refine GO.gF rfl rfl rfl rfl ?_; refine GO.gU rfl rfl rfl ?_; refine GO.gU rfl rfl rfl ?_; refine GO.gU rfl rfl rfl ?_; refine GO.gF rfl rfl rfl rfl ?_; refine GO.pickT rfl rfl rfl ?_; refine GO.move rfl rfl ?_; refine GO.gF rfl rfl rfl rfl ?_; refine GO.gF rfl rfl rfl rfl ?_; refine GO.gF rfl rfl rfl rfl ?_; refine GO.gF rfl rfl rfl rfl ?_; refine GO.gU rfl rfl rfl ?_; refine GO.gU rfl rfl rfl ?_; refine GO.gU rfl rfl rfl ?_; refine GO.gU rfl rfl rfl ?_; refine GO.gU rfl rfl rfl ?_; refine GO.gF rfl rfl rfl rfl ?_; refine GO.pickT rfl rfl rfl ?_; refine GO.nil ?_; refine kthen_n ?_)
          refine ⟨?_, ImpS.sb ?_⟩
          · ((refine SubE.c rfl ?_ ?_; focus (simp; omega)); (refine SubE.c rfl ?_ ?_; focus (simp; omega)); refine SubE.c rfl rfl ?_; refine SubE.c rfl rfl ?_; refine SubE.c rfl rfl ?_; refine SubE.c rfl rfl ?_; refine SubE.c rfl rfl ?_; refine SubE.c rfl rfl ?_; refine SubE.c rfl rfl ?_; refine SubE.c rfl rfl ?_; refine SubE.c rfl rfl ?_; refine SubE.c rfl rfl ?_; refine SubE.c rfl rfl ?_; refine SubE.c rfl rfl ?_; refine SubE.c rfl rfl ?_; refine SubE.c rfl rfl ?_; refine SubE.c rfl rfl ?_; refine SubE.c rfl rfl ?_; refine SubE.c rfl rfl ?_; refine SubE.c rfl rfl ?_; exact SubE.n)
          · ((refine Sb.c Tk.h ?_; refine Sb.c Tk.h ?_; refine Sb.c Tk.h ?_; refine Sb.c Tk.h ?_); (exact Sb.r))
        · (refine GO.gT rfl rfl rfl ?_; refine GO.fieldAddr rfl rfl ?_; refine GO.gT rfl rfl rfl ?_; refine GO.load1 rfl rfl rfl Tk.h rfl ?_; refine GO.gT rfl rfl rfl ?_; refine GO.move rfl rfl ?_)
          cases lb with
          | true =>
            (refine GO.gT rfl rfl rfl ?_; refine GO.fieldAddr rfl rfl ?_; refine GO.gT rfl rfl rfl ?_; refine GO.load1 rfl rfl rfl Tk.h rfl ?_; refine GO.gT rfl rfl rfl ?_; refine GO.gei rfl rfl rfl ?_; refine GO.gT rfl rfl rfl ?_; refine GO.pickT rfl rfl rfl ?_; refine GO.pickF rfl rfl rfl ?_; refine GO.move rfl rfl ?_)
            refine GO.splitD 61 rfl (fun h2 => ?_) (fun h2 => ?_)
            · (refine GO.gF rfl rfl rfl rfl ?_; refine GO.gF rfl rfl rfl rfl ?_; refine GO.gF rfl rfl rfl rfl ?_; refine GO.gF rfl rfl rfl rfl ?_; refine GO.gU rfl rfl rfl ?_; refine GO.gU rfl rfl rfl ?_; refine GO.gU rfl rfl rfl ?_; refine GO.gU rfl rfl rfl ?_; refine GO.gU rfl rfl rfl ?_; refine GO.gF rfl rfl rfl rfl ?_; refine GO.pickT rfl rfl rfl ?_; refine GO.nil ?_; refine kthen_n ?_)
              refine ⟨?_, ImpS.sb ?_⟩
              · ((refine SubE.c rfl ?_ ?_; focus (simp; omega)); (refine SubE.c rfl ?_ ?_; focus (simp; omega)); refine SubE.c rfl rfl ?_; refine SubE.c rfl rfl ?_; refine SubE.c rfl rfl ?_; refine SubE.c rfl rfl ?_; refine SubE.c rfl rfl ?_; refine SubE.c rfl rfl ?_; refine SubE.c rfl rfl ?_; refine SubE.c rfl rfl ?_; refine SubE.c rfl rfl ?_; refine SubE.c rfl rfl ?_; refine SubE.c rfl rfl ?_; refine SubE.c rfl rfl ?_; refine SubE.c rfl rfl ?_; refine SubE.c rfl rfl ?_; refine SubE.c rfl rfl ?_; refine SubE.c rfl rfl ?_; refine SubE.c rfl rfl ?_; refine SubE.c rfl rfl ?_; exact SubE.n)
              · ((refine Sb.c Tk.h ?_; refine Sb.c Tk.h ?_; refine Sb.c Tk.h ?_; refine Sb.c Tk.h ?_); (exact Sb.r))
            · (refine GO.gT rfl rfl rfl ?_; refine GO.fieldAddr rfl rfl ?_; refine GO.gT rfl rfl rfl ?_; refine GO.load1 rfl rfl rfl Tk.h rfl ?_; refine GO.gT rfl rfl rfl ?_; refine GO.not rfl rfl ?_; refine GO.gT rfl rfl rfl ?_; refine GO.move rfl rfl ?_; refine GO.gF rfl rfl rfl rfl ?_; refine GO.gF rfl rfl rfl rfl ?_; refine GO.gF rfl rfl rfl rfl ?_; refine GO.gF rfl rfl rfl rfl ?_; refine GO.gF rfl rfl rfl rfl ?_; refine GO.gT rfl rfl rfl ?_; refine GO.pickF rfl rfl rfl ?_; refine GO.pickF rfl rfl rfl ?_; refine GO.nil ?_; refine kthen_n ?_)
              refine ⟨?_, ImpS.sb ?_⟩
              · ((refine SubE.c rfl ?_ ?_; focus (simp; omega)); (refine SubE.c rfl ?_ ?_; focus (simp; omega)); refine SubE.c rfl rfl ?_; refine SubE.c rfl rfl ?_; refine SubE.c rfl rfl ?_; refine SubE.c rfl rfl ?_; refine SubE.c rfl rfl ?_; refine SubE.c rfl rfl ?_; refine SubE.c rfl rfl ?_; refine SubE.c rfl rfl ?_; refine SubE.c rfl rfl ?_; refine SubE.c rfl rfl ?_; refine SubE.c rfl rfl ?_; refine SubE.c rfl rfl ?_; refine SubE.c rfl rfl ?_; refine SubE.c rfl rfl ?_; refine SubE.c rfl rfl ?_; refine SubE.c rfl rfl ?_; refine SubE.c rfl rfl ?_; refine SubE.c rfl rfl ?_; exact SubE.n)
              · ((refine Sb.c Tk.h ?_; refine Sb.c Tk.h ?_; refine Sb.c Tk.h ?_; refine Sb.c Tk.h ?_); (exact Sb.r))
          | false =>
            (refine GO.gF rfl rfl rfl rfl ?_; refine GO.gF rfl rfl rfl rfl ?_; refine GO.gF rfl rfl rfl rfl ?_; refine GO.gT rfl rfl rfl ?_; refine GO.pickF rfl rfl rfl ?_; refine GO.pickF rfl rfl rfl ?_; refine GO.move rfl rfl ?_; refine GO.gT rfl rfl rfl ?_; refine GO.fieldAddr rfl rfl ?_; refine GO.gT rfl rfl rfl ?_; refine GO.load1 rfl rfl rfl Tk.h rfl ?_; refine GO.gT rfl rfl rfl ?_; refine GO.not rfl rfl ?_; refine GO.gT rfl rfl rfl ?_; refine GO.move rfl rfl ?_; refine GO.gT rfl rfl rfl ?_; refine GO.fieldAddr rfl rfl ?_; refine GO.gT rfl rfl rfl ?_; refine GO.load1 rfl rfl rfl Tk.h rfl ?_; refine GO.gT rfl rfl rfl ?_; refine GO.fieldAddr rfl rfl ?_; refine GO.gT rfl rfl rfl ?_; refine GO.load1 rfl rfl rfl (Tk.t (Tk.t Tk.h)) rfl ?_; refine GO.gT rfl rfl rfl ?_; refine GO.gei rfl rfl rfl ?_; refine GO.gT rfl rfl rfl ?_; refine GO.pickT rfl rfl rfl ?_; refine GO.pickF rfl rfl rfl ?_; refine GO.nil ?_; refine kthen_n ?_)
            refine ⟨?_, ImpS.sb ?_⟩
            · ((refine SubE.c rfl ?_ ?_; focus (simp; omega)); (refine SubE.c rfl ?_ ?_; focus (simp; omega)); refine SubE.c rfl rfl ?_; refine SubE.c rfl rfl ?_; refine SubE.c rfl rfl ?_; refine SubE.c rfl rfl ?_; refine SubE.c rfl rfl ?_; refine SubE.c rfl rfl ?_; refine SubE.c rfl rfl ?_; refine SubE.c rfl rfl ?_; refine SubE.c rfl rfl ?_; refine SubE.c rfl rfl ?_; refine SubE.c rfl rfl ?_; refine SubE.c rfl rfl ?_; refine SubE.c rfl rfl ?_; refine SubE.c rfl rfl ?_; refine SubE.c rfl rfl ?_; refine SubE.c rfl rfl ?_; refine SubE.c rfl rfl ?_; refine SubE.c rfl rfl ?_; exact SubE.n)
            · ((refine Sb.c Tk.h ?_; refine Sb.c Tk.h ?_; refine Sb.c Tk.h ?_; refine Sb.c Tk.h ?_); (exact Sb.r))
      refine G.cond rfl (fun hb3 => ?_) (fun hb3 => ?_)
      · (refine G.seq ?_; refine G.region ?_; refine GO.assign rfl rfl ?_; refine GO.nil ?_; refine kthen_n ?_; refine G.ret ?_; refine kblock_r ?_; refine kthen_r ?_; refine kthen_r ?_; refine kblock_r ?_; refine kblock_r ?_; refine kthen_r ?_; refine kthen_r ?_; refine kblock_r ?_; refine kthen_r ?_)
        refine KF.r1 rfl (RV.t rfl) ⟨?_, rfl⟩ ?_
        · unfold okC
          rw [all_not hpk (by unfold prodOK; rw [all_not hsj (by unfold symOK; rw [hb3]; rfl)]; simp)]; simp
        · ((refine Sb.c (Tk.t (Tk.t (Tk.t Tk.h))) ?_); (refine Sb.s ?_; refine Sb.s ?_; refine Sb.s ?_; exact Sb.r))
      (refine G.skip ?_; refine kblock_n ?_; refine kthen_n ?_; refine G.region ?_; refine GO.move rfl rfl ?_; refine GO.addi rfl rfl rfl (by omega) ?_; refine GO.assign rfl rfl ?_; refine GO.nil ?_; refine kthen_n ?_)
      refine ⟨j + 1, ⟨by omega, all_succ hsj halls (by unfold symOK; rw [hb3]; rfl)⟩, by omega, ?_, ?_⟩
      · (refine SubE.c rfl rfl ?_; refine SubE.c rfl rfl ?_; refine SubE.c rfl rfl ?_; refine SubE.c rfl rfl ?_; exact SubE.n)
      · ((refine Sb.c (Tk.t Tk.h) ?_; refine Sb.c (Tk.t Tk.h) ?_; refine Sb.c (Tk.t Tk.h) ?_); (refine Sb.s ?_; exact Sb.r))
    · have : j = p.2.length := by omega
      subst this
      rw [List.take_length] at halls
      (refine G.exit ?_; refine G.region ?_; refine GO.move rfl rfl ?_; refine GO.addi rfl rfl rfl (by omega) ?_; refine GO.assign rfl rfl ?_; refine GO.nil ?_; refine kthen_n ?_)
      refine ⟨k + 1, ⟨by omega, all_succ hpk hall (by unfold prodOK; rw [hb2, halls]; rfl)⟩, by omega, ?_, ?_⟩
      · (refine SubE.c rfl rfl ?_; refine SubE.c rfl rfl ?_; exact SubE.n)
      · ((refine Sb.c (Tk.t Tk.h) ?_; refine Sb.c (Tk.t Tk.h) ?_); (refine Sb.s ?_; exact Sb.r))
  · have : k = C.prods.length := by omega
    subst this
    rw [List.take_length] at hall
    (refine G.exit ?_; refine G.seq ?_; refine G.region ?_; refine GO.assign rfl rfl ?_; refine GO.nil ?_; refine kthen_n ?_; refine G.ret ?_)
    refine KF.r1 rfl (RV.t rfl) ⟨?_, rfl⟩ ?_
    · unfold okC; rw [hb, hall]; rfl
    · ((refine Sb.c (Tk.t Tk.h) ?_); (refine Sb.s ?_; exact Sb.r))
end Go.Proofs.Ytcemehocbemfmaa
namespace Go.Proofs.Ytcemehocbemfmaa
open Go
/-- May a symbol be left out? -/
def nulS (E : Int → Bool) (s : SymD) : Bool := !s.1 && E s.2
/-- What comes of a body. -/
def subs (E : Int → Bool) : List SymD → List (List SymD)
  | [] => [[]]
  | s :: r => (if nulS E s then subs E r else []) ++ (subs E r).map (s :: ·)
/-- How many symbols may be left out. -/
def cntE (E : Int → Bool) : List SymD → Nat
  | [] => 0
  | s :: r => (if nulS E s then 1 else 0) + cntE E r
/-- The body of a number: its bits tell what is left out. -/
def maskF (E : Int → Bool) : Nat → List SymD → List SymD
  | _, [] => []
  | m, s :: r => if nulS E s then (if m % 2 = 1 then maskF E (m / 2) r else s :: maskF E (m / 2) r) else s :: maskF E m r
theorem mask_mem (E : Int → Bool) : ∀ (r : List SymD) (m : Nat), maskF E m r ∈ subs E r
  | [], m => by simp [maskF, subs]
  | s :: r, m => by
    unfold maskF subs
    by_cases h : nulS E s = true
    · rw [if_pos h, if_pos h]
      split
      · exact List.mem_append_left _ (mask_mem E r _)
      · exact List.mem_append_right _ (List.mem_map_of_mem (mask_mem E r _))
    · rw [if_neg h, if_neg h]
      exact List.mem_append_right _ (List.mem_map_of_mem (mask_mem E r _))
theorem mem_mask (E : Int → Bool) : ∀ (r : List SymD) (x : List SymD), x ∈ subs E r → ∃ m, m < 2 ^ cntE E r ∧ x = maskF E m r
  | [], x, h => ⟨0, by simp [cntE], by simpa [maskF, subs] using h⟩
  | s :: r, x, h => by
    unfold subs at h
    unfold cntE
    rcases List.mem_append.1 h with h | h
    · by_cases hs : nulS E s = true
      · rw [if_pos hs] at h
        obtain ⟨m, h1, rfl⟩ := mem_mask E r x h
        refine ⟨2 * m + 1, ?_, ?_⟩
        · rw [if_pos hs, Nat.pow_add]; omega
        · conv => rhs; unfold maskF
          rw [if_pos hs, if_pos (by omega), show (2 * m + 1) / 2 = m by omega]
      · rw [if_neg hs] at h; cases h
    · obtain ⟨y, hy, rfl⟩ := List.mem_map.1 h
      obtain ⟨m, h1, rfl⟩ := mem_mask E r y hy
      by_cases hs : nulS E s = true
      · refine ⟨2 * m, ?_, ?_⟩
        · rw [if_pos hs, Nat.pow_add]; omega
        · conv => rhs; unfold maskF
          rw [if_pos hs, if_neg (by omega), show (2 * m) / 2 = m by omega]
      · refine ⟨m, ?_, ?_⟩
        · rw [if_neg hs, Nat.zero_add]; exact h1
        · conv => rhs; unfold maskF
          rw [if_neg hs]
theorem mask_snoc (E : Int → Bool) (s : SymD) : ∀ (l : List SymD) (m : Nat), maskF E m (l ++ [s]) = maskF E m l ++ (if nulS E s then (if (m / 2 ^ cntE E l) % 2 = 1 then [] else [s]) else [s])
  | [], m => by
    simp only [List.nil_append, maskF, cntE, Nat.pow_zero, Nat.div_one]
  | t :: l, m => by
    have ih := fun m => mask_snoc E s l m
    rw [List.cons_append]
    unfold maskF cntE
    by_cases ht : nulS E t = true
    · rw [if_pos ht, if_pos ht, if_pos ht, ih, Nat.pow_add, Nat.pow_one, Nat.div_div_eq_div_mul]
      split <;> simp
    · rw [if_neg ht, if_neg ht, if_neg ht, ih, Nat.zero_add]; simp
theorem cnt_snoc (E : Int → Bool) (s : SymD) : ∀ l : List SymD, cntE E (l ++ [s]) = cntE E l + (if nulS E s then 1 else 0)
  | [] => by simp [cntE]
  | t :: l => by
    have ih := cnt_snoc E s l
    rw [List.cons_append]
    unfold cntE
    rw [ih]; omega
theorem mask_len (E : Int → Bool) : ∀ (r : List SymD) (m : Nat), (maskF E m r).length ≤ r.length
  | [], _ => by simp [maskF]
  | s :: r, m => by
    unfold maskF
    have h1 := mask_len E r (m / 2)
    have h2 := mask_len E r m
    split
    · split <;> simp <;> omega
    · simp; omega
theorem mask_sub (E : Int → Bool) : ∀ (r : List SymD) (m : Nat) (s : SymD), s ∈ maskF E m r → s ∈ r
  | [], _, _, h => by simp [maskF] at h
  | t :: r, m, s, h => by
    unfold maskF at h
    split at h
    · split at h
      · exact List.mem_cons_of_mem _ (mask_sub E r _ s h)
      · rcases List.mem_cons.1 h with h | h
        · rw [h]; exact List.mem_cons_self ..
        · exact List.mem_cons_of_mem _ (mask_sub E r _ s h)
    · rcases List.mem_cons.1 h with h | h
      · rw [h]; exact List.mem_cons_self ..
      · exact List.mem_cons_of_mem _ (mask_sub E r _ s h)
/-! ### The order -/
def symLt (x y : SymD) : Bool := if x.1 = y.1 then decide (x.2 < y.2) else y.1
def bodyLt : List SymD → List SymD → Bool
  | s :: a, t :: b => if s = t then bodyLt a b else symLt s t
  | _, _ => false
def prodLt (p q : ProdD) : Bool := if p.1 = q.1 then (if p.2.length = q.2.length then bodyLt p.2 q.2 else decide (p.2.length < q.2.length)) else decide (p.1 < q.1)
theorem symLt_irr (s : SymD) : symLt s s = false := by unfold symLt; simp
theorem symLt_tri {s t : SymD} (h : s ≠ t) : symLt s t = !symLt t s := by
  obtain ⟨a, m⟩ := s
  obtain ⟨b, n⟩ := t
  unfold symLt
  dsimp only
  by_cases e : a = b
  · subst e
    rw [if_pos rfl, if_pos rfl]
    have : m ≠ n := fun e => h (by rw [e])
    by_cases h1 : m < n
    · rw [decide_eq_true h1, decide_eq_false (by omega)]; rfl
    · rw [decide_eq_false h1, decide_eq_true (by omega)]; rfl
  · rw [if_neg e, if_neg (Ne.symm e)]
    cases a <;> cases b <;> simp_all
theorem symLt_trans {s t u : SymD} (h : symLt s t = true) (k : symLt t u = true) : symLt s u = true := by
  obtain ⟨a, m⟩ := s
  obtain ⟨b, n⟩ := t
  obtain ⟨c, o⟩ := u
  unfold symLt at *
  dsimp only at *
  cases a <;> cases b <;> cases c <;> simp_all <;> omega
theorem bodyLt_irr : ∀ a : List SymD, bodyLt a a = false
  | [] => rfl
  | s :: a => by unfold bodyLt; rw [if_pos rfl]; exact bodyLt_irr a
theorem bodyLt_tri : ∀ {a b : List SymD}, a.length = b.length → a ≠ b → bodyLt a b = !bodyLt b a
  | [], [], _, h => absurd rfl h
  | [], _ :: _, h, _ => by simp at h
  | _ :: _, [], h, _ => by simp at h
  | s :: a, t :: b, hl, h => by
    unfold bodyLt
    by_cases e : s = t
    · subst e
      rw [if_pos rfl, if_pos rfl]
      exact bodyLt_tri (by simpa using hl) (fun e => h (by rw [e]))
    · rw [if_neg e, if_neg (Ne.symm e)]; exact symLt_tri e
theorem bodyLt_trans : ∀ {a b c : List SymD}, bodyLt a b = true → bodyLt b c = true → bodyLt a c = true
  | [], _, _, h, _ => by unfold bodyLt at h; cases h
  | _ :: _, [], _, h, _ => by unfold bodyLt at h; cases h
  | _ :: _, _ :: _, [], _, h => by unfold bodyLt at h; cases h
  | s :: a, t :: b, u :: c, h, k => by
    unfold bodyLt at *
    by_cases e1 : s = t
    · subst e1
      rw [if_pos rfl] at h
      by_cases e2 : s = u
      · subst e2
        rw [if_pos rfl] at k ⊢
        exact bodyLt_trans h k
      · rw [if_neg e2] at k ⊢; exact k
    · rw [if_neg e1] at h
      by_cases e2 : t = u
      · subst e2
        rw [if_neg e1]; exact h
      · rw [if_neg e2] at k
        by_cases e3 : s = u
        · subst e3
          have := symLt_tri e1
          rw [h, k] at this; cases this
        · rw [if_neg e3]; exact symLt_trans h k
theorem prodLt_irr (p : ProdD) : prodLt p p = false := by unfold prodLt; rw [if_pos rfl, if_pos rfl]; exact bodyLt_irr _
theorem prodLt_tri {p q : ProdD} (h : p ≠ q) : prodLt p q = !prodLt q p := by
  obtain ⟨a, x⟩ := p
  obtain ⟨b, y⟩ := q
  unfold prodLt
  dsimp only
  by_cases e : a = b
  · subst e
    rw [if_pos rfl, if_pos rfl]
    by_cases e2 : x.length = y.length
    · rw [if_pos e2, if_pos e2.symm]
      exact bodyLt_tri e2 (fun e => h (by rw [e]))
    · rw [if_neg e2, if_neg (Ne.symm e2)]
      by_cases h1 : x.length < y.length
      · rw [decide_eq_true h1, decide_eq_false (by omega)]; rfl
      · rw [decide_eq_false h1, decide_eq_true (by omega)]; rfl
  · rw [if_neg e, if_neg (Ne.symm e)]
    by_cases h1 : a < b
    · rw [decide_eq_true h1, decide_eq_false (by omega)]; rfl
    · rw [decide_eq_false h1, decide_eq_true (by omega)]; rfl
theorem prodLt_trans {p q r : ProdD} (h : prodLt p q = true) (k : prodLt q r = true) : prodLt p r = true := by
  obtain ⟨a, x⟩ := p
  obtain ⟨b, y⟩ := q
  obtain ⟨c, z⟩ := r
  unfold prodLt at *
  dsimp only at *
  by_cases e1 : a = b
  · subst e1
    rw [if_pos rfl] at h
    by_cases e2 : a = c
    · subst e2
      rw [if_pos rfl] at k ⊢
      by_cases l1 : x.length = y.length
      · rw [if_pos l1] at h
        by_cases l2 : y.length = z.length
        · rw [if_pos l2] at k
          rw [if_pos (l1.trans l2)]; exact bodyLt_trans h k
        · rw [if_neg l2] at k
          rw [if_neg (by omega)]
          have := of_decide_eq_true k
          exact decide_eq_true (by omega)
      · rw [if_neg l1] at h
        have h := of_decide_eq_true h
        by_cases l2 : y.length = z.length
        · rw [if_neg (by omega)]; exact decide_eq_true (by omega)
        · rw [if_neg l2] at k
          have := of_decide_eq_true k
          rw [if_neg (by omega)]; exact decide_eq_true (by omega)
    · rw [if_neg e2] at k ⊢; exact k
  · rw [if_neg e1] at h
    have h := of_decide_eq_true h
    by_cases e2 : b = c
    · subst e2
      rw [if_neg e1]; exact decide_eq_true h
    · rw [if_neg e2] at k
      have := of_decide_eq_true k
      rw [if_neg (by omega)]; exact decide_eq_true (by omega)
/-- Productions that rise. -/
def Ups (l : List ProdD) : Prop := l.Pairwise fun p q => prodLt p q = true
theorem Ups.eq : ∀ {l m : List ProdD}, Ups l → Ups m → (∀ p, p ∈ l ↔ p ∈ m) → l = m
  | [], [], _, _, _ => rfl
  | [], q :: m, _, _, h => by have := (h q).2 (List.mem_cons_self ..); cases this
  | p :: l, [], _, _, h => by have := (h p).1 (List.mem_cons_self ..); cases this
  | p :: l, q :: m, hl, hm, h => by
    have hl' := List.pairwise_cons.1 hl
    have hm' := List.pairwise_cons.1 hm
    have e : p = q := Decidable.byContradiction fun hne => by
      have h1 := (List.mem_cons.1 ((h p).1 (List.mem_cons_self ..))).resolve_left hne
      have h2 := (List.mem_cons.1 ((h q).2 (List.mem_cons_self ..))).resolve_left (Ne.symm hne)
      have a1 := hm'.1 p h1
      have a2 := hl'.1 q h2
      have := prodLt_tri hne
      rw [a1, a2] at this; cases this
    subst e
    rw [Ups.eq hl'.2 hm'.2 fun x => ?_]
    constructor
    · intro hx
      rcases List.mem_cons.1 ((h x).1 (List.mem_cons_of_mem _ hx)) with e | hx'
      · subst e
        have := hl'.1 _ hx
        rw [prodLt_irr] at this; cases this
      · exact hx'
    · intro hx
      rcases List.mem_cons.1 ((h x).2 (List.mem_cons_of_mem _ hx)) with e | hx'
      · subst e
        have := hm'.1 _ hx
        rw [prodLt_irr] at this; cases this
      · exact hx'
/-- The productions that come of others. -/
def WithP (E : Int → Bool) (ps : List ProdD) (p : ProdD) : Prop := ∃ b, (p.1, b) ∈ ps ∧ p.2 ∈ subs E b ∧ p.2 ≠ []
end Go.Proofs.Ytcemehocbemfmaa
namespace Go.Proofs.Ytcemehocbemfmaa
open Go
/-- The piece q' has all that q has. -/
def Ext (q q' : HP) : Prop := ∀ l w, sat (q' :: l) w → sat (q :: l) w
theorem Ext.refl (q : HP) : Ext q q := fun _ _ h => h
theorem Ext.trans {a b c : HP} (h : Ext a b) (k : Ext b c) : Ext a c := fun l w s => h l w (k l w s)
theorem Ext.right (x y : HP) : Ext y (star [x, y]) := fun l w s => by
  have := sat_flat.1 s
  exact sat_right (l := [x]) this
theorem Ext.left (x y : HP) : Ext x (star [x, y]) := fun l w s => by
  have := sat_flat.1 s
  have := sat_perm (List.Perm.swap y x l) this
  exact sat_right (l := [y]) this
theorem Ext.sup {q q' : HP} (h : Ext q q') : Sup q q' := fun a v r l w s => r l w (h l w s)
theorem ImpS.ext {q q' : HP} {H M : List HP} (h : Ext q q') (k : ImpS (q :: H) M) : ImpS (q' :: H) M := fun l w s => k l w (h _ w s)
section
variable {P : Program} {c : Cx} {A : Array Oper} {os : List Oper} {K : Kont} {L : Env} {H F : List HP} {q q' : HP}
theorem GO.ext (h : Ext q q') (tk : Tk q' H F) (k : GO P c A os K L (q :: F)) : GO P c A os K L H := by
  rintro a w ⟨h1, h2, ds, h3, h4, h5⟩
  refine k a w ⟨h1, h2, ds, h3, h4, ?_⟩
  have := h _ w (sat_perm (List.Perm.append_right _ tk) h5)
  exact this
theorem G.ext {C : Code} (h : Ext q q') (tk : Tk q' H F) (k : G P c C K L (q :: F)) : G P c C K L H := by
  rintro a w ⟨h1, h2, ds, h3, h4, h5⟩
  refine k a w ⟨h1, h2, ds, h3, h4, ?_⟩
  have := h _ w (sat_perm (List.Perm.append_right _ tk) h5)
  exact this
end
/-- A production put in its place among others that rise. -/
def insF : List ProdD → ProdD → List ProdD
  | [], p => [p]
  | a :: l, p => if prodLt a p then a :: insF l p else if prodLt p a then p :: a :: l else a :: l
theorem ins_mem (p x : ProdD) : ∀ l, x ∈ insF l p ↔ x = p ∨ x ∈ l
  | [] => by simp [insF]
  | a :: l => by
    have ih := ins_mem p x l
    unfold insF
    by_cases h1 : prodLt a p = true
    · rw [if_pos h1, List.mem_cons, ih, List.mem_cons]
      constructor
      · rintro (h | h | h)
        · exact .inr (.inl h)
        · exact .inl h
        · exact .inr (.inr h)
      · rintro (h | h | h)
        · exact .inr (.inl h)
        · exact .inl h
        · exact .inr (.inr h)
    · rw [if_neg h1]
      by_cases h2 : prodLt p a = true
      · rw [if_pos h2, List.mem_cons]
      · rw [if_neg h2]
        have e : a = p := Decidable.byContradiction fun hne => by
          have := prodLt_tri hne
          simp_all
        subst e
        simp
theorem ins_ups (p : ProdD) : ∀ {l}, Ups l → Ups (insF l p)
  | [], _ => by unfold insF Ups; simp
  | a :: l, h => by
    have h' := List.pairwise_cons.1 h
    unfold insF
    by_cases h1 : prodLt a p = true
    · rw [if_pos h1]
      refine List.pairwise_cons.2 ⟨fun x hx => ?_, ins_ups p h'.2⟩
      rcases (ins_mem p x l).1 hx with rfl | hx
      · exact h1
      · exact h'.1 x hx
    · rw [if_neg h1]
      by_cases h2 : prodLt p a = true
      · rw [if_pos h2]
        refine List.pairwise_cons.2 ⟨fun x hx => ?_, h⟩
        rcases List.mem_cons.1 hx with rfl | hx
        · exact h2
        · exact prodLt_trans h2 (h'.1 x hx)
      · rw [if_neg h2]; exact h
theorem ins_len (p : ProdD) : ∀ l, (insF l p).length ≤ l.length + 1
  | [] => by simp [insF]
  | a :: l => by
    have := ins_len p l
    unfold insF
    split
    · simp; omega
    · split <;> simp
/-- All that comes of a body, put to productions; what stands ahead is kept. -/
def leftF (E : Int → Bool) (h : Int) : List ProdD → List SymD → List SymD → List ProdD
  | l, kept, [] => if kept = [] then l else insF l (h, kept)
  | l, kept, s :: r => leftF E h (if nulS E s then leftF E h l kept r else l) (kept ++ [s]) r
theorem left_mem (E : Int → Bool) (h : Int) (x : ProdD) : ∀ (r kept : List SymD) (l : List ProdD), x ∈ leftF E h l kept r ↔ x ∈ l ∨ ∃ y ∈ subs E r, x = (h, kept ++ y) ∧ kept ++ y ≠ []
  | [], kept, l => by
    unfold leftF subs
    by_cases e : kept = []
    · rw [if_pos e]; simp [e]
    · rw [if_neg e, ins_mem]
      simp [e, or_comm]
  | s :: r, kept, l => by
    unfold leftF
    rw [left_mem E h x r]
    conv => rhs; unfold subs
    have key : (∃ y ∈ subs E r, x = (h, kept ++ [s] ++ y) ∧ kept ++ [s] ++ y ≠ []) ↔ ∃ y ∈ (subs E r).map (s :: ·), x = (h, kept ++ y) ∧ kept ++ y ≠ [] := by
      constructor
      · rintro ⟨y, h1, h2, h3⟩
        exact ⟨s :: y, List.mem_map_of_mem h1, by simpa using h2, by simp⟩
      · rintro ⟨y, h1, h2, h3⟩
        obtain ⟨z, hz, rfl⟩ := List.mem_map.1 h1
        exact ⟨z, hz, by simpa using h2, by simp⟩
    rw [key]
    by_cases hn : nulS E s = true
    · rw [if_pos hn, if_pos hn, left_mem E h x r]
      constructor
      · rintro ((h1 | ⟨y, h1, h2⟩) | ⟨y, h1, h2⟩)
        · exact .inl h1
        · exact .inr ⟨y, List.mem_append_left _ h1, h2⟩
        · exact .inr ⟨y, List.mem_append_right _ h1, h2⟩
      · rintro (h1 | ⟨y, h1, h2⟩)
        · exact .inl (.inl h1)
        · rcases List.mem_append.1 h1 with h1 | h1
          · exact .inl (.inr ⟨y, h1, h2⟩)
          · exact .inr ⟨y, h1, h2⟩
    · rw [if_neg hn, if_neg hn, List.nil_append]
theorem left_ups (E : Int → Bool) (h : Int) : ∀ (r kept : List SymD) (l : List ProdD), Ups l → Ups (leftF E h l kept r)
  | [], kept, l, hl => by
    unfold leftF
    split
    · exact hl
    · exact ins_ups _ hl
  | s :: r, kept, l, hl => by
    unfold leftF
    refine left_ups E h r _ _ ?_
    split
    · exact left_ups E h r _ _ hl
    · exact hl
theorem left_len (E : Int → Bool) (h : Int) : ∀ (r kept : List SymD) (l : List ProdD), (leftF E h l kept r).length ≤ l.length + 2 ^ cntE E r
  | [], kept, l => by
    unfold leftF cntE
    split
    · omega
    · have := ins_len (h, kept) l
      simpa using this
  | s :: r, kept, l => by
    unfold leftF cntE
    have h1 := left_len E h r (kept ++ [s]) (if nulS E s then leftF E h l kept r else l)
    by_cases hn : nulS E s = true
    · rw [if_pos hn] at h1 ⊢
      have h2 := left_len E h r kept l
      rw [if_pos hn, Nat.pow_add]
      omega
    · rw [if_neg hn] at h1 ⊢
      rw [if_neg hn, Nat.zero_add]
      exact h1
/-- All of them. -/
def withF (E : Int → Bool) (ps : List ProdD) : List ProdD := ps.foldl (fun l p => leftF E p.1 l [] p.2) []
theorem withF_mem (E : Int → Bool) (x : ProdD) : ∀ (ps l : List ProdD), x ∈ ps.foldl (fun l p => leftF E p.1 l [] p.2) l ↔ x ∈ l ∨ WithP E ps x
  | [], l => by simp [WithP]
  | p :: ps, l => by
    rw [List.foldl_cons, withF_mem E x ps, left_mem]
    unfold WithP
    constructor
    · rintro ((h | ⟨y, h1, rfl, h3⟩) | ⟨b, h1, h2⟩)
      · exact .inl h
      · exact .inr ⟨p.2, List.mem_cons_self .., by simpa using h1, by simpa using h3⟩
      · exact .inr ⟨b, List.mem_cons_of_mem _ h1, h2⟩
    · rintro (h | ⟨b, h1, h2, h3⟩)
      · exact .inl (.inl h)
      · rcases List.mem_cons.1 h1 with h1 | h1
        · subst h1
          exact .inl (.inr ⟨x.2, h2, by simp, by simpa using h3⟩)
        · exact .inr ⟨b, h1, h2, h3⟩
theorem withF_ups (E : Int → Bool) : ∀ (ps l : List ProdD), Ups l → Ups (ps.foldl (fun l p => leftF E p.1 l [] p.2) l)
  | [], _, h => h
  | p :: ps, l, h => by rw [List.foldl_cons]; exact withF_ups E ps _ (left_ups E p.1 p.2 [] l h)
end Go.Proofs.Ytcemehocbemfmaa
namespace Go.Proofs.Ytcemehocbemfmaa
open Go
attribute [local irreducible] G GO GR GT Fn FnV pt init exs pur sat own ImpS
def symV (s : SymD) : Value := .agg [.bool s.1, i64 s.2].toArray
set_option maxHeartbeats 2000000 in
theorem indexSym_spec (q : HP) (v f : Value) (ss : List SymD) (pred : SymD → Bool) (M : List HP) (hv : SymsR q v ss) (hf : ∀ s ∈ ss, FnV Try.prog f [symV s] (q :: M) (fun r Q => r = .bool (pred s) ∧ Q = q :: M)) (hn : ss.length ≤ 9223372036854775807) :
    Fn Try.prog 56 #[v, f] (q :: M) (fun r Q => ((∃ k : Nat, r = i64 k ∧ ss.any pred = true) ∨ (r = i64 (-1) ∧ ss.any pred = false)) ∧ Q = q :: M) := by
  obtain ⟨a, cap, rfl⟩ := hv.form
  refine Fn.mk Try.func56 rfl rfl fun w0 F => ?_
  (refine G.seq ?_; refine G.region ?_; refine GO.assign rfl rfl ?_; refine GO.nil ?_; refine kthen_n ?_; refine G.seq ?_; refine G.seq ?_; refine G.region ?_; refine GO.move rfl rfl ?_; refine GO.lenS rfl rfl ?_; refine GO.move rfl rfl ?_; refine GO.nil ?_; refine kthen_n ?_; refine G.block ?_)
  refine G.loop (fun k : Nat => [(0, .slice a ss.length cap), (1, f), (7, i64 ss.length), (8, i64 k)]) (fun _ => q :: (M ++ F)) (fun k => k ≤ ss.length ∧ (ss.take k).any pred = false) (fun k => ss.length - k) 0 ⟨by omega, rfl⟩ ?_ ?_ ?_
  · (refine SubE.c rfl rfl ?_; refine SubE.c rfl rfl ?_; refine SubE.c rfl rfl ?_; refine SubE.c rfl rfl ?_; exact SubE.n)
  · exact Sb.r
  rintro k ⟨hk, hany⟩
  (refine G.seq ?_; refine G.region ?_; refine GO.lti rfl rfl rfl ?_; refine GO.nil ?_; refine kthen_n ?_; refine G.seq ?_)
  refine G.condD rfl (fun hlt => ?_) (fun hge => ?_)
  · have hlt' : k < ss.length := by omega
    obtain ⟨s, hs⟩ : ∃ s : SymD, ss[k]? = some s := ⟨ss[k], by simp [hlt']⟩
    obtain ⟨b, o, rfl, _, r1, r2⟩ := hv.at hs
    (refine G.skip ?_; refine kthen_n ?_; refine G.seq ?_; refine G.block ?_; refine G.seq ?_; refine G.region ?_; refine GO.move rfl rfl ?_; refine GO.assign rfl rfl ?_; refine GO.nil ?_; refine kthen_n ?_; refine G.seq ?_; refine G.region ?_; refine GO.move rfl rfl ?_; refine GO.move rfl rfl ?_; refine GO.move rfl rfl ?_; refine GO.idxS rfl rfl rfl ⟨rfl, by omega⟩ ?_)
    refine GO.load2 (q := q) rfl rfl rfl Tk.h r1 r2 ?_
    refine GO.callV1 rfl rfl rfl (hf s (List.mem_of_getElem? hs)) (show Tks (q :: M) (q :: (M ++ F)) F from List.Perm.refl _) ?_
    rintro _ _ ⟨rfl, rfl⟩
    (refine GO.nil ?_; refine kthen_n ?_)
    refine G.cond rfl (fun hb => ?_) (fun hb => ?_)
    · (refine G.seq ?_; refine G.region ?_; refine GO.move rfl rfl ?_; refine GO.assign rfl rfl ?_; refine GO.nil ?_; refine kthen_n ?_; refine G.ret ?_; refine kblock_r ?_; refine kthen_r ?_; refine kthen_r ?_; refine kblock_r ?_; refine kthen_r ?_)
      refine KF.r1 rfl (RV.t rfl) ⟨.inl ⟨k, rfl, ?_⟩, rfl⟩ ?_
      · rw [List.any_eq_true]; exact ⟨s, List.mem_of_getElem? hs, hb⟩
      · exact Sb.r
    · (refine G.skip ?_; refine kblock_n ?_; refine kthen_n ?_; refine G.region ?_; refine GO.addi rfl rfl rfl (by omega) ?_; refine GO.move rfl rfl ?_; refine GO.nil ?_; refine kthen_n ?_)
      refine ⟨k + 1, ⟨by omega, ?_⟩, by omega, ?_, ?_⟩
      · rw [List.take_add_one, hs, List.any_append, hany]; simp [hb]
      · (refine SubE.c rfl rfl ?_; refine SubE.c rfl rfl ?_; refine SubE.c rfl rfl ?_; refine SubE.c rfl rfl ?_; exact SubE.n)
      · exact Sb.r
  · have : k = ss.length := by omega
    subst this
    rw [List.take_length] at hany
    (refine G.exit ?_; refine G.seq ?_; refine G.region ?_; refine GO.assign rfl rfl ?_; refine GO.nil ?_; refine kthen_n ?_; refine G.ret ?_)
    refine KF.r1 rfl (RV.t rfl) ⟨.inr ⟨rfl, hany⟩, rfl⟩ ?_
    exact Sb.r
theorem containsSym_spec (q : HP) (v f : Value) (ss : List SymD) (pred : SymD → Bool) (M : List HP) (hv : SymsR q v ss) (hf : ∀ s ∈ ss, FnV Try.prog f [symV s] (q :: M) (fun r Q => r = .bool (pred s) ∧ Q = q :: M)) (hn : ss.length ≤ 9223372036854775807) :
    Fn Try.prog 46 #[v, f] (q :: M) (fun r Q => r = .bool (ss.any pred) ∧ Q = q :: M) := by
  refine Fn.mk Try.func46 rfl rfl fun w0 F => ?_
  (refine G.seq ?_; refine G.region ?_; refine GO.assign rfl rfl ?_; refine GO.nil ?_; refine kthen_n ?_; refine G.seq ?_; refine G.region ?_; refine GO.move rfl rfl ?_; refine GO.move rfl rfl ?_)
  refine GO.call2 rfl rfl rfl (indexSym_spec q v f ss pred M hv hf hn) (show Tks (q :: M) (q :: M ++ F) F from List.Perm.refl _) ?_
  rintro _ _ ⟨h, rfl⟩
  rcases h with ⟨k, rfl, h⟩ | ⟨rfl, h⟩
  · (refine GO.gei rfl rfl rfl ?_; refine GO.assign rfl rfl ?_; refine GO.nil ?_; refine kthen_n ?_; refine G.ret ?_)
    refine KF.r1 rfl (RV.t rfl) ⟨?_, rfl⟩ Sb.r
    rw [h]; simp
  · (refine GO.gei rfl rfl rfl ?_; refine GO.assign rfl rfl ?_; refine GO.nil ?_; refine kthen_n ?_; refine G.ret ?_)
    refine KF.r1 rfl (RV.t rfl) ⟨?_, rfl⟩ Sb.r
    rw [h]; rfl
theorem nt_spec (n m : Int) (b1 : Nat) (u : Value) : Fn Try.prog 45 #[i64 m, .pointer (some ⟨b1, 0, none⟩)] [pt b1 (row [i64 n, u] 24)] (fun r Q => r = .bool (decide (0 ≤ m) && decide (m < n)) ∧ Q = [pt b1 (row [i64 n, u] 24)]) := by
  refine Fn.mk Try.func45 rfl rfl fun w0 F => ?_
  (refine G.seq ?_; refine G.region ?_; refine GO.assign rfl rfl ?_; refine GO.nil ?_; refine kthen_n ?_; refine G.seq ?_; refine G.region ?_; refine GO.move rfl rfl ?_; refine GO.gei rfl rfl rfl ?_; refine GO.move rfl rfl ?_)
  refine GO.splitD 6 rfl (fun h => ?_) (fun h => ?_)
  · (refine GO.gT rfl rfl rfl ?_; refine GO.move rfl rfl ?_; refine GO.gT rfl rfl rfl ?_; refine GO.fieldAddr rfl rfl ?_; refine GO.gT rfl rfl rfl ?_; refine GO.load1 rfl rfl rfl Tk.h rfl ?_; refine GO.gT rfl rfl rfl ?_; refine GO.lti rfl rfl rfl ?_; refine GO.pickT rfl rfl rfl ?_; refine GO.assign rfl rfl ?_; refine GO.nil ?_; refine kthen_n ?_; refine G.ret ?_)
    refine KF.r1 rfl (RV.t rfl) ⟨by simp [h], rfl⟩ ?_
    ((refine Sb.c Tk.h ?_); (exact Sb.r))
  · (refine GO.gF rfl rfl rfl rfl ?_; refine GO.gF rfl rfl rfl rfl ?_; refine GO.gF rfl rfl rfl rfl ?_; refine GO.gF rfl rfl rfl rfl ?_; refine GO.pickF rfl rfl rfl ?_; refine GO.assign rfl rfl ?_; refine GO.nil ?_; refine kthen_n ?_; refine G.ret ?_)
    refine KF.r1 rfl (RV.t rfl) ⟨by simp [h], rfl⟩ ?_
    ((refine Sb.c Tk.h ?_); (exact Sb.r))
/-- The two variables that the engine's Check shares with its closures. -/
abbrev ntM (n : Int) (u : Value) (b1 b3 : Nat) : List HP := [pt b3 (row [.func (.func 45) #[] #[.pointer (some ⟨b1, 0, none⟩)]] 75), pt b1 (row [i64 n, u] 24)]
set_option maxHeartbeats 2000000 in
theorem bad_spec (n : Int) (s : SymD) (b1 b3 : Nat) (u : Value) : Fn Try.prog 47 #[symV s, .pointer (some ⟨b3, 0, none⟩)] (ntM n u b1 b3) (fun r Q => r = .bool (!symOK n s) ∧ Q = ntM n u b1 b3) := by
  obtain ⟨lb, m⟩ := s
  refine Fn.mk Try.func47 rfl rfl fun w0 F => ?_
  (refine G.seq ?_; refine G.region ?_)
  refine GO.box rfl rfl rfl fun b2 => ?_
  (refine GO.assign rfl rfl ?_; refine GO.nil ?_; refine kthen_n ?_; refine G.seq ?_; refine G.region ?_; refine GO.fieldAddr rfl rfl ?_; refine GO.load1 rfl rfl rfl Tk.h rfl ?_; refine GO.move rfl rfl ?_)
  cases lb with
  | true =>
    (refine GO.gT rfl rfl rfl ?_; refine GO.fieldAddr rfl rfl ?_; refine GO.gT rfl rfl rfl ?_; refine GO.load1 rfl rfl rfl Tk.h rfl ?_; refine GO.gT rfl rfl rfl ?_; refine GO.lti rfl rfl rfl ?_; refine GO.gT rfl rfl rfl ?_; refine GO.move rfl rfl ?_)
    refine GO.splitD 10 rfl (fun h => ?_) (fun h => ?_)
    · (refine GO.gF rfl rfl rfl rfl ?_; refine GO.gF rfl rfl rfl rfl ?_; refine GO.gF rfl rfl rfl rfl ?_; refine GO.gT rfl rfl rfl ?_; refine GO.pickT rfl rfl rfl ?_; refine GO.pickT rfl rfl rfl ?_; refine GO.move rfl rfl ?_; refine GO.gF rfl rfl rfl rfl ?_; refine GO.gF rfl rfl rfl rfl ?_; refine GO.gF rfl rfl rfl rfl ?_; refine GO.gF rfl rfl rfl rfl ?_; refine GO.gU rfl rfl rfl ?_; refine GO.gU rfl rfl rfl ?_; refine GO.gU rfl rfl rfl ?_; refine GO.gU rfl rfl rfl ?_; refine GO.gU rfl rfl rfl ?_; refine GO.gF rfl rfl rfl rfl ?_; refine GO.pickT rfl rfl rfl ?_; refine GO.assign rfl rfl ?_; refine GO.nil ?_; refine kthen_n ?_; refine G.ret ?_)
      refine KF.r1 rfl (RV.t rfl) ⟨by unfold symOK; simp [h], rfl⟩ ?_
      ((refine Sb.c (Tk.t Tk.h) ?_; refine Sb.c (Tk.t Tk.h) ?_); (refine Sb.s ?_; exact Sb.r))
    · (refine GO.gT rfl rfl rfl ?_; refine GO.fieldAddr rfl rfl ?_; refine GO.gT rfl rfl rfl ?_; refine GO.load1 rfl rfl rfl Tk.h rfl ?_; refine GO.gT rfl rfl rfl ?_; refine GO.gei rfl rfl rfl ?_; refine GO.gT rfl rfl rfl ?_; refine GO.pickF rfl rfl rfl ?_; refine GO.pickT rfl rfl rfl ?_; refine GO.move rfl rfl ?_)
      refine GO.splitD 16 rfl (fun h2 => ?_) (fun h2 => ?_)
      · (refine GO.gF rfl rfl rfl rfl ?_; refine GO.gF rfl rfl rfl rfl ?_; refine GO.gF rfl rfl rfl rfl ?_; refine GO.gF rfl rfl rfl rfl ?_; refine GO.gU rfl rfl rfl ?_; refine GO.gU rfl rfl rfl ?_; refine GO.gU rfl rfl rfl ?_; refine GO.gU rfl rfl rfl ?_; refine GO.gU rfl rfl rfl ?_; refine GO.gF rfl rfl rfl rfl ?_; refine GO.pickT rfl rfl rfl ?_; refine GO.assign rfl rfl ?_; refine GO.nil ?_; refine kthen_n ?_; refine G.ret ?_)
        refine KF.r1 rfl (RV.t rfl) ⟨by unfold symOK; simp [h2], rfl⟩ ?_
        ((refine Sb.c (Tk.t Tk.h) ?_; refine Sb.c (Tk.t Tk.h) ?_); (refine Sb.s ?_; exact Sb.r))
      · (refine GO.gT rfl rfl rfl ?_; refine GO.fieldAddr rfl rfl ?_; refine GO.gT rfl rfl rfl ?_; refine GO.load1 rfl rfl rfl Tk.h rfl ?_; refine GO.gT rfl rfl rfl ?_; refine GO.not rfl rfl ?_; refine GO.gT rfl rfl rfl ?_; refine GO.move rfl rfl ?_; refine GO.gF rfl rfl rfl rfl ?_; refine GO.gF rfl rfl rfl rfl ?_; refine GO.gF rfl rfl rfl rfl ?_; refine GO.gF rfl rfl rfl rfl ?_; refine GO.gF rfl rfl rfl rfl ?_; refine GO.gT rfl rfl rfl ?_; refine GO.pickF rfl rfl rfl ?_; refine GO.pickF rfl rfl rfl ?_; refine GO.assign rfl rfl ?_; refine GO.nil ?_; refine kthen_n ?_; refine G.ret ?_)
        refine KF.r1 rfl (RV.t rfl) ⟨by unfold symOK; simp [h, h2], rfl⟩ ?_
        ((refine Sb.c (Tk.t Tk.h) ?_; refine Sb.c (Tk.t Tk.h) ?_); (refine Sb.s ?_; exact Sb.r))
  | false =>
    (refine GO.gF rfl rfl rfl rfl ?_; refine GO.gF rfl rfl rfl rfl ?_; refine GO.gF rfl rfl rfl rfl ?_; refine GO.gF rfl rfl rfl rfl ?_; refine GO.gU rfl rfl rfl ?_; refine GO.gU rfl rfl rfl ?_; refine GO.gU rfl rfl rfl ?_; refine GO.gF rfl rfl rfl rfl ?_; refine GO.pickF rfl rfl rfl ?_; refine GO.move rfl rfl ?_; refine GO.gT rfl rfl rfl ?_; refine GO.fieldAddr rfl rfl ?_; refine GO.gT rfl rfl rfl ?_; refine GO.load1 rfl rfl rfl Tk.h rfl ?_; refine GO.gT rfl rfl rfl ?_; refine GO.not rfl rfl ?_; refine GO.gT rfl rfl rfl ?_; refine GO.move rfl rfl ?_; refine GO.gT rfl rfl rfl ?_; refine GO.load1 rfl rfl rfl (Tk.t Tk.h) rfl ?_; refine GO.gT rfl rfl rfl ?_; refine GO.fieldAddr rfl rfl ?_; refine GO.gT rfl rfl rfl ?_; refine GO.load1 rfl rfl rfl Tk.h rfl ?_; refine GO.gT rfl rfl rfl ?_)
    refine (GO.callV1 rfl rfl rfl (FnV.of (caps := [.pointer (some ⟨b1, 0, none⟩)]) (nt_spec n m b1 u)) (Tks.c (Tk.t (Tk.t Tk.h)) Tks.n) ?_)
    rintro _ _ ⟨rfl, rfl⟩
    (refine GO.gT rfl rfl rfl ?_; refine GO.not rfl rfl ?_; refine GO.gT rfl rfl rfl ?_; refine GO.pickT rfl rfl rfl ?_; refine GO.pickF rfl rfl rfl ?_; refine GO.assign rfl rfl ?_; refine GO.nil ?_; refine kthen_n ?_; refine G.ret ?_)
    refine KF.r1 rfl (RV.t rfl) ⟨?_, rfl⟩ ?_
    · unfold symOK
      simp
      by_cases h1 : m < 0 <;> by_cases h2 : n ≤ m <;> simp [h1, h2] <;> omega
    · ((refine Sb.c (Tk.t (Tk.t Tk.h)) ?_; refine Sb.c Tk.h ?_); (refine Sb.s ?_; exact Sb.r))
end Go.Proofs.Ytcemehocbemfmaa
namespace Go.Proofs.Ytcemehocbemfmaa
open Go
theorem Fn.framed {P : Program} {f : FuncId} {args : Array Value} {Pre : List HP} {Rv : Value → Prop} (h : Fn P f args Pre (fun v Q => Rv v ∧ Q = Pre)) (X : List HP) : Fn P f args (X ++ Pre) (fun v Q => Rv v ∧ Q = X ++ Pre) := by
  intro F w s
  have s1 : sat (Pre ++ (X ++ F)) w := by
    refine sat_perm ?_ s
    rw [List.append_assoc]
    exact List.perm_append_comm_assoc X Pre F
  refine (h (X ++ F) w s1).mono ?_
  rintro e w' ⟨v, Q, a, b, ⟨x, rfl⟩, d⟩
  refine ⟨v, X ++ Q, a, b, ⟨x, rfl⟩, ?_⟩
  refine sat_perm ?_ d
  rw [List.append_assoc]
  exact List.perm_append_comm_assoc Q X F
attribute [local irreducible] G GO GR GT Fn FnV pt init exs pur sat own ImpS
theorem okC_take {C : CnfD} {k : Nat} {p : ProdD} (h : C.prods[k]? = some p) : (C.prods.take (k + 1)).all (prodOK C.nts) = ((C.prods.take k).all (prodOK C.nts) && prodOK C.nts p) := by
  rw [List.take_add_one, h, List.all_append]; simp
theorem prodOK_split (n : Int) (p : ProdD) : prodOK n p = ((decide (0 ≤ p.1) && decide (p.1 < n)) && p.2.all (symOK n)) := by
  unfold prodOK
  by_cases h1 : p.1 < 0 <;> by_cases h2 : n ≤ p.1 <;> simp [h1, h2] <;> omega
theorem any_bad (n : Int) (ss : List SymD) : (!ss.any fun s => !symOK n s) = ss.all (symOK n) := by
  induction ss with
  | nil => rfl
  | cons s ss ih => simp only [List.any_cons, List.all_cons, ← ih]; cases symOK n s <;> simp
set_option maxHeartbeats 4000000 in
set_option maxRecDepth 20000 in
theorem check_spec (q : HP) (v : Value) (C : CnfD) (hv : CnfR q v C) (hz : Fits C) : Fn Try.prog 29 #[v] [q] (fun r Q => r = i64 (if okC C then 0 else 220) ∧ Q = [q]) := by
  obtain ⟨pv, rfl, hp⟩ := hv
  obtain ⟨a0, cap0, rfl⟩ := hp.form
  have hz1 := hz.1
  refine Fn.mk Try.func29 rfl rfl fun w0 F => ?_
  (refine G.seq ?_; refine G.region ?_)
  refine GO.box rfl rfl rfl fun b1 => ?_
  (refine GO.assign rfl rfl ?_; refine GO.nil ?_; refine kthen_n ?_; refine G.seq ?_; refine G.region ?_)
  refine GO.makeFunc1 rfl rfl ?_
  refine GO.alloc rfl fun b3 => ?_
  refine GO.store1 rfl rfl rfl Tk.h (by decide) ?_
  (refine GO.nil ?_; refine kthen_n ?_; refine G.seq ?_; refine G.region ?_; refine GO.fieldAddr rfl rfl ?_; refine GO.load1 rfl rfl rfl (Tk.t Tk.h) rfl ?_; refine GO.gei rfl rfl rfl ?_; refine GO.move rfl rfl ?_)
  refine GO.cut1 4 (.bool (decide (1 ≤ C.nts) && decide (C.nts ≤ 1024))) ?_ ?_
  · refine GO.splitD 11 rfl (fun h => ?_) (fun h => ?_)
    · (refine GO.gT rfl rfl rfl ?_; refine GO.fieldAddr rfl rfl ?_; refine GO.gT rfl rfl rfl ?_; refine GO.load1 rfl rfl rfl (Tk.t Tk.h) rfl ?_; refine GO.gT rfl rfl rfl ?_; refine GO.lei rfl rfl rfl ?_; refine GO.pickT rfl rfl rfl ?_; refine GO.assign rfl rfl ?_; refine GO.nil ?_; refine kthen_n ?_)
      refine ⟨?_, ImpS.sb ?_⟩
      · ((refine SubE.c rfl ?_ ?_; focus (simp; omega)); (refine SubE.c rfl ?_ ?_; focus (simp; omega)); refine SubE.c rfl rfl ?_; refine SubE.c rfl rfl ?_; refine SubE.c rfl rfl ?_; refine SubE.c rfl rfl ?_; refine SubE.c rfl rfl ?_; refine SubE.c rfl rfl ?_; refine SubE.c rfl rfl ?_; refine SubE.c rfl rfl ?_; exact SubE.n)
      · ((refine Sb.c Tk.h ?_; refine Sb.c Tk.h ?_; refine Sb.c Tk.h ?_); (exact Sb.r))
    · (refine GO.gF rfl rfl rfl rfl ?_; refine GO.gF rfl rfl rfl rfl ?_; refine GO.gF rfl rfl rfl rfl ?_; refine GO.pickF rfl rfl rfl ?_; refine GO.assign rfl rfl ?_; refine GO.nil ?_; refine kthen_n ?_)
      refine ⟨?_, ImpS.sb ?_⟩
      · ((refine SubE.c rfl ?_ ?_; focus (simp; omega)); (refine SubE.c rfl ?_ ?_; focus (simp; omega)); refine SubE.c rfl rfl ?_; refine SubE.c rfl rfl ?_; refine SubE.c rfl rfl ?_; refine SubE.c rfl rfl ?_; refine SubE.c rfl rfl ?_; refine SubE.c rfl rfl ?_; refine SubE.c rfl rfl ?_; refine SubE.c rfl rfl ?_; exact SubE.n)
      · ((refine Sb.c Tk.h ?_; refine Sb.c Tk.h ?_; refine Sb.c Tk.h ?_); (exact Sb.r))
  have hb0 : (decide (1 ≤ C.nts) && decide (C.nts ≤ 1024)) = !(decide (C.nts < 1) || decide (1024 < C.nts)) := by
    by_cases h1 : C.nts < 1 <;> by_cases h2 : 1024 < C.nts <;> simp [h1, h2] <;> omega
  rw [hb0]
  generalize hbase : (!(decide (C.nts < 1) || decide (1024 < C.nts))) = base
  (refine G.seq ?_; refine G.seq ?_; refine G.region ?_; refine GO.fieldAddr rfl rfl ?_; refine GO.load1 rfl rfl rfl (Tk.t Tk.h) rfl ?_; refine GO.lenS rfl rfl ?_; refine GO.move rfl rfl ?_; refine GO.nil ?_; refine kthen_n ?_; refine G.block ?_)
  refine G.loop2 (fun (k : Nat) (ok : Bool) => [(1, .pointer (some ⟨b1, 0, none⟩)), (3, .pointer (some ⟨b3, 0, none⟩)), (4, .bool ok), (17, .slice a0 C.prods.length cap0), (18, i64 C.prods.length), (19, i64 k)])
    (fun _ _ => q :: (ntM C.nts (.slice a0 C.prods.length cap0) b1 b3 ++ F)) (fun k ok => k ≤ C.prods.length ∧ ok = (base && (C.prods.take k).all (prodOK C.nts))) (fun k _ => C.prods.length - k) 0 base ⟨by omega, by simp⟩ ?_ ?_ ?_
  · (refine SubE.c rfl rfl ?_; refine SubE.c rfl rfl ?_; refine SubE.c rfl rfl ?_; refine SubE.c rfl rfl ?_; refine SubE.c rfl rfl ?_; refine SubE.c rfl rfl ?_; exact SubE.n)
  · ((refine Sb.c (Tk.t (Tk.t Tk.h)) ?_; refine Sb.c Tk.h ?_; refine Sb.c Tk.h ?_); (exact Sb.r))
  rintro k ok ⟨hk, hok⟩
  (refine G.seq ?_; refine G.region ?_; refine GO.lti rfl rfl rfl ?_; refine GO.nil ?_; refine kthen_n ?_; refine G.seq ?_)
  refine G.condD rfl (fun hlt => ?_) (fun hge => ?_)
  · have hlt' : k < C.prods.length := by omega
    obtain ⟨p, hpk⟩ : ∃ p, C.prods[k]? = some p := ⟨C.prods[k], by simp [hlt']⟩
    obtain ⟨b, o, bv, rfl, _, r1, r2, hs⟩ := hp.at hpk
    obtain ⟨ab, capb, rfl⟩ := hs.form
    have hpl := hz.2 p (List.mem_of_getElem? hpk)
    (refine G.skip ?_; refine kthen_n ?_; refine G.seq ?_; refine G.block ?_; refine G.seq ?_; refine G.region ?_; refine GO.idxS rfl rfl rfl ⟨rfl, by omega⟩ ?_)
    refine GO.load2 (q := q) rfl rfl rfl (by (exact Tk.h)) r1 r2 ?_
    refine GO.alloc rfl fun b6 => ?_
    refine GO.storeW rfl rfl Tk.h ⟨rfl, rfl⟩ (by simp [Value.oneCell']) ?_
    (refine GO.nil ?_; refine kthen_n ?_; refine G.region ?_; refine GO.move rfl rfl ?_; refine GO.move rfl rfl ?_)
    refine GO.cutN 4 (.bool (ok && prodOK C.nts p)) ?_ (fun L' H' h1 h2 => G.subI h1 h2 ?_)
    · cases ok with
      | false =>
        (refine GO.gF rfl rfl rfl rfl ?_; refine GO.gF rfl rfl rfl rfl ?_; refine GO.gF rfl rfl rfl rfl ?_; refine GO.gF rfl rfl rfl rfl ?_; refine GO.pickF rfl rfl rfl ?_; refine GO.move rfl rfl ?_; refine GO.gF rfl rfl rfl rfl ?_; refine GO.gF rfl rfl rfl rfl ?_; refine GO.gF rfl rfl rfl rfl ?_; refine GO.gF rfl rfl rfl rfl ?_; refine GO.gF rfl rfl rfl rfl ?_; refine GO.pickF rfl rfl rfl ?_; refine GO.assign rfl rfl ?_; refine GO.nil ?_; refine kthen_n ?_)
        refine ⟨?_, ImpS.sb ?_⟩
        · (refine SubE.c rfl rfl ?_; refine SubE.c rfl rfl ?_; refine SubE.c rfl rfl ?_; refine SubE.c rfl rfl ?_; refine SubE.c rfl rfl ?_; refine SubE.c rfl rfl ?_; refine SubE.c rfl rfl ?_; refine SubE.c rfl rfl ?_; refine SubE.c rfl rfl ?_; refine SubE.c rfl rfl ?_; refine SubE.c rfl rfl ?_; refine SubE.c rfl rfl ?_; exact SubE.n)
        · ((refine Sb.c Tk.h ?_; refine Sb.c Tk.h ?_; refine Sb.c Tk.h ?_; refine Sb.c Tk.h ?_); (exact Sb.r))
      | true =>
        (refine GO.gT rfl rfl rfl ?_; refine GO.load1 rfl rfl rfl (Tk.t (Tk.t Tk.h)) rfl ?_; refine GO.gT rfl rfl rfl ?_; refine GO.fieldAddr rfl rfl ?_; refine GO.gT rfl rfl rfl ?_; refine GO.load1 rfl rfl rfl Tk.h rfl ?_; refine GO.gT rfl rfl rfl ?_)
        refine GO.callV1 rfl rfl rfl (FnV.of (caps := [.pointer (some ⟨b1, 0, none⟩)]) (nt_spec C.nts p.1 b1 _)) (Tks.c (Tk.t (Tk.t (Tk.t Tk.h))) Tks.n) ?_
        rintro _ _ ⟨rfl, rfl⟩
        (refine GO.pickT rfl rfl rfl ?_; refine GO.move rfl rfl ?_)
        refine GO.split 30 rfl (fun h => ?_) (fun h => ?_)
        · (refine GO.gT rfl rfl rfl ?_; refine GO.fieldAddr rfl rfl ?_; refine GO.gT rfl rfl rfl ?_; refine GO.load1 rfl rfl rfl (Tk.t Tk.h) rfl ?_; refine GO.gT rfl rfl rfl ?_)
          refine GO.makeFunc1 rfl rfl ?_
          (refine GO.gT rfl rfl rfl ?_)
          refine GO.call2 rfl rfl rfl (containsSym_spec q _ _ p.2 (fun s => !symOK C.nts s) (ntM C.nts (.slice (some ⟨b, o, none⟩) C.prods.length cap0) b1 b3) hs (fun s _ => FnV.of (caps := [.pointer (some ⟨b3, 0, none⟩)]) (Fn.framed (Rv := fun r => r = .bool (!symOK C.nts s)) (bad_spec C.nts s b1 b3 _) [q])) (by omega)) (Tks.c (Tk.t (Tk.t Tk.h)) (Tks.c (Tk.t (Tk.t Tk.h)) (Tks.c Tk.h Tks.n))) ?_
          rintro _ _ ⟨rfl, rfl⟩
          have hpt : prodOK C.nts p = !(p.2.any fun s => !symOK C.nts s) := by rw [prodOK_split, h, any_bad]; rfl
          rw [hpt]
          (refine GO.gT rfl rfl rfl ?_; refine GO.not rfl rfl ?_; refine GO.pickT rfl rfl rfl ?_; refine GO.assign rfl rfl ?_; refine GO.nil ?_; refine kthen_n ?_)
          refine ⟨?_, ImpS.sb ?_⟩
          · (refine SubE.c rfl rfl ?_; refine SubE.c rfl rfl ?_; refine SubE.c rfl rfl ?_; refine SubE.c rfl rfl ?_; refine SubE.c rfl rfl ?_; refine SubE.c rfl rfl ?_; refine SubE.c rfl rfl ?_; refine SubE.c rfl rfl ?_; refine SubE.c rfl rfl ?_; refine SubE.c rfl rfl ?_; refine SubE.c rfl rfl ?_; refine SubE.c rfl rfl ?_; exact SubE.n)
          · ((refine Sb.c (Tk.t (Tk.t (Tk.t Tk.h))) ?_; refine Sb.c Tk.h ?_; refine Sb.c Tk.h ?_; refine Sb.c Tk.h ?_); (exact Sb.r))
        · have hpf : prodOK C.nts p = false := by rw [prodOK_split, h]; rfl
          rw [hpf]
          (refine GO.gF rfl rfl rfl rfl ?_; refine GO.gF rfl rfl rfl rfl ?_; refine GO.gF rfl rfl rfl rfl ?_; refine GO.gF rfl rfl rfl rfl ?_; refine GO.gF rfl rfl rfl rfl ?_; refine GO.pickF rfl rfl rfl ?_; refine GO.assign rfl rfl ?_; refine GO.nil ?_; refine kthen_n ?_)
          refine ⟨?_, ImpS.sb ?_⟩
          · (refine SubE.c rfl rfl ?_; refine SubE.c rfl rfl ?_; refine SubE.c rfl rfl ?_; refine SubE.c rfl rfl ?_; refine SubE.c rfl rfl ?_; refine SubE.c rfl rfl ?_; refine SubE.c rfl rfl ?_; refine SubE.c rfl rfl ?_; refine SubE.c rfl rfl ?_; refine SubE.c rfl rfl ?_; refine SubE.c rfl rfl ?_; refine SubE.c rfl rfl ?_; exact SubE.n)
          · ((refine Sb.c (Tk.t Tk.h) ?_; refine Sb.c (Tk.t Tk.h) ?_; refine Sb.c (Tk.t Tk.h) ?_; refine Sb.c Tk.h ?_); (exact Sb.r))
    (refine G.region ?_; refine GO.addi rfl rfl rfl (by omega) ?_; refine GO.move rfl rfl ?_; refine GO.nil ?_; refine kthen_n ?_)
    refine ⟨k + 1, ok && prodOK C.nts p, ⟨by omega, by rw [hok, okC_take hpk, Bool.and_assoc]⟩, by omega, ?_, ?_⟩
    · (refine SubE.c rfl rfl ?_; refine SubE.c rfl rfl ?_; refine SubE.c rfl rfl ?_; refine SubE.c rfl rfl ?_; refine SubE.c rfl rfl ?_; refine SubE.c rfl rfl ?_; exact SubE.n)
    · ((refine Sb.c (Tk.t Tk.h) ?_; refine Sb.c (Tk.t Tk.h) ?_; refine Sb.c (Tk.t Tk.h) ?_); (refine Sb.s ?_; exact Sb.r))
  · have : k = C.prods.length := by omega
    subst this
    rw [List.take_length, ← hbase] at hok
    have hok' : ok = okC C := hok
    (refine G.exit ?_; refine G.seq ?_; refine G.seq ?_; refine G.region ?_; refine GO.move rfl rfl ?_; refine GO.not rfl rfl ?_; refine GO.nil ?_; refine kthen_n ?_)
    refine G.cond rfl (fun hb => ?_) (fun hb => ?_)
    · have hf : okC C = false := by rw [← hok']; simpa using hb
      (refine G.seq ?_; refine G.region ?_; refine GO.assign rfl rfl ?_; refine GO.nil ?_; refine kthen_n ?_; refine G.ret ?_; refine kthen_r ?_)
      refine KF.r1 rfl (RV.t rfl) ⟨by rw [hf]; rfl, rfl⟩ ?_
      ((refine Sb.c Tk.h ?_); (refine Sb.s ?_; refine Sb.s ?_; exact Sb.r))
    · have hf : okC C = true := by rw [← hok']; simpa using hb
      (refine G.skip ?_; refine kthen_n ?_; refine G.seq ?_; refine G.region ?_; refine GO.assign rfl rfl ?_; refine GO.nil ?_; refine kthen_n ?_; refine G.ret ?_)
      refine KF.r1 rfl (RV.t rfl) ⟨by rw [hf]; rfl, rfl⟩ ?_
      ((refine Sb.c Tk.h ?_); (refine Sb.s ?_; refine Sb.s ?_; exact Sb.r))
end Go.Proofs.Ytcemehocbemfmaa
namespace Go.Proofs.Ytcemehocbemfmaa
open Go
attribute [local irreducible] G GO GR GT Fn FnV pt init exs pur sat own ImpS
theorem Sb.mid {Y F : List HP} {x : HP} : Sb (Y ++ F) (Y ++ (x :: F)) := ⟨[x], by
  rw [List.append_assoc]
  exact List.Perm.append_left Y (List.perm_append_singleton x F).symm⟩
theorem tk_mid {Y F : List HP} {x : HP} : Tks Y (x :: (Y ++ F)) (x :: F) := List.perm_middle.symm
theorem tk_mid2 {Y F : List HP} {x y : HP} : Tks Y (x :: y :: (Y ++ F)) (x :: y :: F) := by
  have h1 : (x :: y :: (Y ++ F)).Perm (x :: (Y ++ (y :: F))) := List.Perm.cons _ List.perm_middle.symm
  exact h1.trans List.perm_middle.symm
theorem Sb.mid2 {Y F : List HP} {x y : HP} : Sb (y :: (Y ++ F)) (Y ++ (x :: y :: F)) := ⟨[x], by
  have h1 : (Y ++ (x :: y :: F)).Perm (x :: (Y ++ (y :: F))) := List.perm_middle
  have h2 : (x :: (Y ++ (y :: F))).Perm (x :: y :: (Y ++ F)) := List.Perm.cons _ List.perm_middle
  exact (h1.trans h2).trans (List.perm_append_singleton x (y :: (Y ++ F))).symm⟩
def prodV (p : ProdD) (bv : Value) : Value := .agg [i64 p.1, bv].toArray
inductive Reach {σ : Type} (step : σ → ProdD → σ × Bool) (ps : List ProdD) : σ → σ → Prop
  | refl (s : σ) : Reach step ps s s
  | more {s t : σ} {p : ProdD} : Reach step ps s t → p ∈ ps → Reach step ps s (step t p).1
theorem Reach.inv {σ : Type} {step : σ → ProdD → σ × Bool} {ps : List ProdD} {J : σ → Prop} (h : ∀ s p, J s → p ∈ ps → J (step s p).1) {s t : σ} (r : Reach step ps s t) (hs : J s) : J t := by
  induction r with
  | refl => exact hs
  | more _ hp ih => exact h _ _ ih hp
set_option maxHeartbeats 4000000 in
set_option maxRecDepth 20000 in
theorem grow_spec {σ : Type} (q : HP) (v f : Value) (C : CnfD) (hv : CnfR q v C) (hz : Fits C) (M : σ → List HP) (I : σ → Prop) (step : σ → ProdD → σ × Bool) (μ : σ → Nat)
    (hf : ∀ s p, I s → p ∈ C.prods → ∀ bv, SymsR q bv p.2 → FnV Try.prog f [prodV p bv] (q :: M s) (fun r Q => r = .bool (step s p).2 ∧ Q = q :: M (step s p).1))
    (hI : ∀ s p, I s → p ∈ C.prods → I (step s p).1) (hdn : ∀ s p, I s → p ∈ C.prods → (step s p).2 = true → μ (step s p).1 < μ s) (hst : ∀ s p, (step s p).2 = false → (step s p).1 = s) (s0 : σ) (h0 : I s0) :
    Fn Try.prog 31 #[v, f] (q :: M s0) (fun _ Q => ∃ s', I s' ∧ Reach step C.prods s0 s' ∧ (∀ p ∈ C.prods, (step s' p).2 = false) ∧ Q = q :: M s') := by
  obtain ⟨pv, rfl, hp⟩ := hv
  obtain ⟨a0, cap0, rfl⟩ := hp.form
  have hz1 := hz.1
  refine Fn.mk Try.func31 rfl rfl fun w0 F => ?_
  (refine G.seq ?_; refine G.region ?_)
  refine GO.box rfl rfl rfl fun b2 => ?_
  (refine GO.nil ?_; refine kthen_n ?_; refine G.seq ?_; refine G.region ?_; refine GO.assign rfl rfl ?_; refine GO.nil ?_; refine kthen_n ?_; refine G.block ?_)
  refine G.loop2 (fun (_ : σ) (again : Bool) => [(1, f), (2, .pointer (some ⟨b2, 0, none⟩)), (4, .bool again)])
    (fun s _ => pt b2 (row [i64 C.nts, .slice a0 C.prods.length cap0] 24) :: ((q :: M s) ++ F))
    (fun s again => I s ∧ Reach step C.prods s0 s ∧ (again = false → ∀ p ∈ C.prods, (step s p).2 = false)) (fun s again => 2 * μ s + (if again then 1 else 0)) s0 true ⟨h0, .refl s0, fun h => by cases h⟩ ?_ ?_ ?_
  · (refine SubE.c rfl rfl ?_; refine SubE.c rfl rfl ?_; refine SubE.c rfl rfl ?_; exact SubE.n)
  · exact Sb.r
  rintro s again ⟨hIs, hR, hA⟩
  (refine G.seq ?_; refine G.seq ?_; refine G.region ?_; refine GO.move rfl rfl ?_; refine GO.nil ?_; refine kthen_n ?_)
  cases again with
  | false =>
    (refine G.condF rfl rfl ?_; refine G.exit ?_; refine kthen_x ?_; refine kthen_x ?_; refine kblock_x ?_)
    refine KF.n0 rfl (Q := q :: M s) ⟨s, hIs, hR, hA rfl, rfl⟩ (Sb.s Sb.r)
  | true =>
    (refine G.condT rfl rfl ?_; refine G.skip ?_; refine kthen_n ?_; refine G.block ?_; refine G.seq ?_; refine G.region ?_; refine GO.assign rfl rfl ?_; refine GO.nil ?_; refine kthen_n ?_; refine G.seq ?_; refine G.region ?_; refine GO.fieldAddr rfl rfl ?_; refine GO.load1 rfl rfl rfl Tk.h rfl ?_; refine GO.lenS rfl rfl ?_; refine GO.move rfl rfl ?_; refine GO.nil ?_; refine kthen_n ?_; refine G.block ?_)
    refine G.loop3 (fun (k : Nat) (_ : σ) (ag : Bool) => [(1, f), (2, .pointer (some ⟨b2, 0, none⟩)), (4, .bool ag), (9, .slice a0 C.prods.length cap0), (10, i64 C.prods.length), (11, i64 k)])
      (fun _ t _ => pt b2 (row [i64 C.nts, .slice a0 C.prods.length cap0] 24) :: ((q :: M t) ++ F))
      (fun k t ag => k ≤ C.prods.length ∧ I t ∧ Reach step C.prods s0 t ∧ (ag = true → μ t < μ s) ∧ (ag = false → t = s ∧ ∀ j p, j < k → C.prods[j]? = some p → (step s p).2 = false)) (fun k _ _ => C.prods.length - k) 0 s false
      ⟨by omega, hIs, hR, (fun h => by cases h), fun _ => ⟨rfl, fun j p hj => by omega⟩⟩ ?_ ?_ ?_
    · (refine SubE.c rfl rfl ?_; refine SubE.c rfl rfl ?_; refine SubE.c rfl rfl ?_; refine SubE.c rfl rfl ?_; refine SubE.c rfl rfl ?_; refine SubE.c rfl rfl ?_; exact SubE.n)
    · exact Sb.r
    rintro k t ag ⟨hk, hIt, hRt, hg1, hg2⟩
    (refine G.seq ?_; refine G.region ?_; refine GO.lti rfl rfl rfl ?_; refine GO.nil ?_; refine kthen_n ?_; refine G.seq ?_)
    refine G.condD rfl (fun hlt => ?_) (fun hge => ?_)
    · have hlt' : k < C.prods.length := by omega
      obtain ⟨p, hpk⟩ : ∃ p, C.prods[k]? = some p := ⟨C.prods[k], by simp [hlt']⟩
      have hpm := List.mem_of_getElem? hpk
      obtain ⟨b, o, bv, rfl, _, r1, r2, hs⟩ := hp.at hpk
      obtain ⟨ab, capb, rfl⟩ := hs.form
      (refine G.skip ?_; refine kthen_n ?_; refine G.seq ?_; refine G.block ?_; refine G.seq ?_; refine G.region ?_; refine GO.idxS rfl rfl rfl ⟨rfl, by omega⟩ ?_)
      refine GO.load2 (q := q) rfl rfl rfl (Tk.t Tk.h) r1 r2 ?_
      refine GO.alloc rfl fun b6 => ?_
      refine GO.storeW rfl rfl Tk.h ⟨rfl, rfl⟩ (by simp [Value.oneCell']) ?_
      (refine GO.nil ?_; refine kthen_n ?_; refine G.region ?_; refine GO.move rfl rfl ?_)
      refine GO.loadW rfl rfl rfl Tk.h rfl ?_
      refine GO.callV1 rfl rfl rfl (hf t p hIt hpm _ hs) tk_mid2 ?_
      rintro _ _ ⟨rfl, rfl⟩
      have hIt' := hI t p hIt hpm
      have hRt' := Reach.more hRt hpm
      cases hb : (step t p).2 with
      | true =>
        have hm := hdn t p hIt hpm hb
        (refine GO.move rfl rfl ?_; refine GO.gF rfl rfl rfl rfl ?_; refine GO.pickT rfl rfl rfl ?_; refine GO.assign rfl rfl ?_; refine GO.nil ?_; refine kblock_n ?_; refine kthen_n ?_; refine G.region ?_; refine GO.addi rfl rfl rfl (by omega) ?_; refine GO.move rfl rfl ?_; refine GO.nil ?_; refine kthen_n ?_)
        refine ⟨k + 1, (step t p).1, true, ⟨by omega, hIt', hRt', (fun _ => ?_), fun h => by cases h⟩, by omega, ?_, Sb.mid2⟩
        · cases ag with
          | true => have := hg1 rfl; omega
          | false => obtain ⟨e, _⟩ := hg2 rfl; subst e; exact hm
        · (refine SubE.c rfl rfl ?_; refine SubE.c rfl rfl ?_; refine SubE.c rfl rfl ?_; refine SubE.c rfl rfl ?_; refine SubE.c rfl rfl ?_; refine SubE.c rfl rfl ?_; exact SubE.n)
      | false =>
        have he := hst t p hb
        rw [he] at hIt' hRt' ⊢
        (refine GO.move rfl rfl ?_; refine GO.gT rfl rfl rfl ?_; refine GO.move rfl rfl ?_; refine GO.pickF rfl rfl rfl ?_; refine GO.assign rfl rfl ?_; refine GO.nil ?_; refine kblock_n ?_; refine kthen_n ?_; refine G.region ?_; refine GO.addi rfl rfl rfl (by omega) ?_; refine GO.move rfl rfl ?_; refine GO.nil ?_; refine kthen_n ?_)
        refine ⟨k + 1, t, ag, ⟨by omega, hIt, hRt, hg1, fun h => ?_⟩, by omega, ?_, Sb.mid2⟩
        · obtain ⟨e, hj⟩ := hg2 h
          subst e
          refine ⟨rfl, fun j p' hjk hp' => ?_⟩
          by_cases ej : j = k
          · subst ej; rw [hpk] at hp'; simp only [Option.some.injEq] at hp'; subst hp'; exact hb
          · exact hj j p' (by omega) hp'
        · (refine SubE.c rfl rfl ?_; refine SubE.c rfl rfl ?_; refine SubE.c rfl rfl ?_; refine SubE.c rfl rfl ?_; refine SubE.c rfl rfl ?_; refine SubE.c rfl rfl ?_; exact SubE.n)
    · have : k = C.prods.length := by omega
      subst this
      (refine G.exit ?_; refine kthen_x ?_; refine kthen_x ?_; refine kblock_x ?_; refine kblock_n ?_; refine kthen_n ?_)
      refine ⟨t, ag, ⟨hIt, hRt, fun h p hpm => ?_⟩, ?_, ?_, Sb.r⟩
      · obtain ⟨e, hj⟩ := hg2 h
        subst e
        obtain ⟨j, hjl, hj'⟩ := List.getElem_of_mem hpm
        exact hj j p hjl (by rw [List.getElem?_eq_getElem hjl, hj'])
      · cases ag with
        | true => have := hg1 rfl; simp; omega
        | false => obtain ⟨e, _⟩ := hg2 rfl; subst e; simp
      · (refine SubE.c rfl rfl ?_; refine SubE.c rfl rfl ?_; refine SubE.c rfl rfl ?_; exact SubE.n)
end Go.Proofs.Ytcemehocbemfmaa
namespace Go.Proofs.Ytcemehocbemfmaa
open Go
attribute [local irreducible] G GO GR GT Fn FnV pt init exs pur sat own ImpS
/-- Cells of productions: each a head, and a slice for its body. -/
abbrev pvs (xs : List (Int × Value)) : List Value := duo i64 id xs
abbrev pvV (x : Int × Value) : Value := .agg [i64 x.1, x.2].toArray
/-- Such cells say these productions, their bodies being readable in z. -/
def Cp (z : HP) : List ProdD → List (Int × Value) → Prop
  | [], [] => True
  | p :: ps, x :: xs => (x.1 = p.1 ∧ SymsR z x.2 p.2) ∧ Cp z ps xs
  | _, _ => False
theorem Cp.len {z : HP} : ∀ {ps : List ProdD} {xs : List (Int × Value)}, Cp z ps xs → xs.length = ps.length
  | [], [], _ => rfl
  | _ :: _, _ :: _, h => by simp [Cp.len h.2]
  | [], _ :: _, h => h.elim
  | _ :: _, [], h => h.elim
theorem Cp.sup {z z' : HP} (hs : Sup z z') : ∀ {ps : List ProdD} {xs : List (Int × Value)}, Cp z ps xs → Cp z' ps xs
  | [], [], _ => trivial
  | _ :: _, _ :: _, h => ⟨⟨h.1.1, h.1.2.sup hs⟩, Cp.sup hs h.2⟩
  | [], _ :: _, h => h.elim
  | _ :: _, [], h => h.elim
theorem Cp.snoc {z : HP} {p : ProdD} {x : Int × Value} (h1 : x.1 = p.1) (h2 : SymsR z x.2 p.2) : ∀ {ps : List ProdD} {xs : List (Int × Value)}, Cp z ps xs → Cp z (ps ++ [p]) (xs ++ [x])
  | [], [], _ => ⟨⟨h1, h2⟩, trivial⟩
  | _ :: _, _ :: _, h => ⟨h.1, Cp.snoc h1 h2 h.2⟩
  | [], _ :: _, h => h.elim
  | _ :: _, [], h => h.elim
theorem Cp.get {z : HP} : ∀ {ps : List ProdD} {xs : List (Int × Value)} {k : Nat} {p : ProdD}, Cp z ps xs → ps[k]? = some p → ∃ x, xs[k]? = some x ∧ x.1 = p.1 ∧ SymsR z x.2 p.2
  | [], [], _, _, _, h => by simp at h
  | _ :: _, x :: _, 0, _, h, hk => by simp at hk; subst hk; exact ⟨x, rfl, h.1.1, h.1.2⟩
  | _ :: _, _ :: _, k + 1, _, h, hk => by
    obtain ⟨x, h1, h2⟩ := Cp.get h.2 (by simpa using hk)
    exact ⟨x, by simpa using h1, h2⟩
  | [], _ :: _, _, _, h, _ => h.elim
  | _ :: _, [], _, _, h, _ => h.elim
theorem Cp.mem {z : HP} : ∀ {ps : List ProdD} {xs : List (Int × Value)} {x : Int × Value}, Cp z ps xs → x ∈ xs → ∃ p ∈ ps, x.1 = p.1 ∧ SymsR z x.2 p.2
  | [], [], _, _, h => by simp at h
  | p :: _, _ :: _, x, h, hm => by
    rcases List.mem_cons.1 hm with rfl | hm
    · exact ⟨p, by simp, h.1⟩
    · obtain ⟨p', h1, h2⟩ := Cp.mem h.2 hm
      exact ⟨p', by simp [h1], h2⟩
  | [], _ :: _, _, h, _ => h.elim
  | _ :: _, [], _, h, _ => h.elim
theorem Cp.one {z : HP} {ps : List ProdD} {xs : List (Int × Value)} (h : Cp z ps xs) : ∀ x ∈ xs, Value.oneCell' x.2 = true := fun x hx => by
  obtain ⟨p, _, _, hs⟩ := h.mem hx
  obtain ⟨a, cap, e⟩ := hs.form
  rw [e]; rfl
theorem Cp.filter {z : HP} (f : Int → Bool) : ∀ {ps : List ProdD} {xs : List (Int × Value)}, Cp z ps xs → Cp z (ps.filter fun p => f p.1) (xs.filter fun x => f x.1)
  | [], [], _ => trivial
  | p :: ps, x :: xs, h => by
    have ih := Cp.filter f h.2
    have e : f x.1 = f p.1 := by rw [h.1.1]
    cases hf : f p.1 with
    | true => rw [List.filter_cons_of_pos (by simpa using hf), List.filter_cons_of_pos (by rw [← hf, ← e])]; exact ⟨h.1, ih⟩
    | false => rw [List.filter_cons_of_neg (by simp [hf]), List.filter_cons_of_neg (by rw [e, hf]; simp)]; exact ih
  | [], _ :: _, h => h.elim
  | _ :: _, [], h => h.elim
theorem Cp.prs {z q : HP} {v : Value} {ps : List ProdD} {xs : List (Int × Value)} (h : Cp z ps xs) (hs : Sup z q) (hv : Sl q v xs.length 2 (pvs xs)) : PrsR q v ps :=
  ⟨pvs xs, by rw [← h.len]; exact hv, fun k p hk => by
    obtain ⟨x, h1, h2, h3⟩ := h.get hk
    obtain ⟨g1, g2⟩ := duo_get (f := i64) (g := id) h1
    exact ⟨x.2, by rw [g1, h2], g2, h3.sup hs⟩⟩
theorem Sl.at2 {q : HP} {a : Option Addr} {n cap k : Nat} {xs : List (Int × Value)} {x : Int × Value} (h : Sl q (.slice a n cap) xs.length 2 (pvs xs)) (hk : xs[k]? = some x) :
    ∃ b o, a = some ⟨b, o, none⟩ ∧ n = xs.length ∧ Rd q ⟨b, o + k * 2, none⟩ (i64 x.1) ∧ Rd q ⟨b, o + k * 2 + 1, none⟩ x.2 := by
  obtain ⟨a', cap', e, hl, hr⟩ := h
  injection e with e1 e2 e3
  subst e1 e2
  have hlt := (List.getElem?_eq_some_iff.1 hk).1
  obtain ⟨b, o, rfl, hr'⟩ := hr (by omega)
  obtain ⟨h1, h2⟩ := duo_get (f := i64) (g := id) hk
  exact ⟨b, o, rfl, rfl, hr' _ _ h1, hr' _ _ h2⟩
set_option maxHeartbeats 2000000 in
theorem indexP_spec (q : HP) (v f : Value) (xs : List (Int × Value)) (pred : Int × Value → Bool) (M : List HP) (hv : Sl q v xs.length 2 (pvs xs)) (hf : ∀ x ∈ xs, FnV Try.prog f [pvV x] (q :: M) (fun r Q => r = .bool (pred x) ∧ Q = q :: M)) (hn : xs.length ≤ 9223372036854775807) :
    Fn Try.prog 51 #[v, f] (q :: M) (fun r Q => ((∃ (k : Nat) (x : Int × Value), r = i64 k ∧ xs[k]? = some x ∧ pred x = true ∧ ∀ y ∈ xs.take k, pred y = false) ∨ (r = i64 (-1) ∧ ∀ y ∈ xs, pred y = false)) ∧ Q = q :: M) := by
  obtain ⟨a, cap, rfl⟩ : ∃ a cap, v = .slice a xs.length cap := let ⟨a, cap, e, _⟩ := hv; ⟨a, cap, e⟩
  refine Fn.mk Try.func51 rfl rfl fun w0 F => ?_
  (refine G.seq ?_; refine G.region ?_; refine GO.assign rfl rfl ?_; refine GO.nil ?_; refine kthen_n ?_; refine G.seq ?_; refine G.seq ?_; refine G.region ?_; refine GO.move rfl rfl ?_; refine GO.lenS rfl rfl ?_; refine GO.move rfl rfl ?_; refine GO.nil ?_; refine kthen_n ?_; refine G.block ?_)
  refine G.loop (fun k : Nat => [(0, .slice a xs.length cap), (1, f), (7, i64 xs.length), (8, i64 k)]) (fun _ => q :: (M ++ F)) (fun k => k ≤ xs.length ∧ ∀ y ∈ xs.take k, pred y = false) (fun k => xs.length - k) 0 ⟨by omega, fun y hy => by simp at hy⟩ ?_ ?_ ?_
  · (refine SubE.c rfl rfl ?_; refine SubE.c rfl rfl ?_; refine SubE.c rfl rfl ?_; refine SubE.c rfl rfl ?_; exact SubE.n)
  · exact Sb.r
  rintro k ⟨hk, hany⟩
  (refine G.seq ?_; refine G.region ?_; refine GO.lti rfl rfl rfl ?_; refine GO.nil ?_; refine kthen_n ?_; refine G.seq ?_)
  refine G.condD rfl (fun hlt => ?_) (fun hge => ?_)
  · have hlt' : k < xs.length := by omega
    obtain ⟨x, hx⟩ : ∃ x, xs[k]? = some x := ⟨xs[k], by simp [hlt']⟩
    obtain ⟨b, o, rfl, _, r1, r2⟩ := hv.at2 hx
    (refine G.skip ?_; refine kthen_n ?_; refine G.seq ?_; refine G.block ?_; refine G.seq ?_; refine G.region ?_; refine GO.move rfl rfl ?_; refine GO.assign rfl rfl ?_; refine GO.nil ?_; refine kthen_n ?_; refine G.seq ?_; refine G.region ?_; refine GO.move rfl rfl ?_; refine GO.move rfl rfl ?_; refine GO.move rfl rfl ?_; refine GO.idxS rfl rfl rfl ⟨rfl, by omega⟩ ?_; refine GO.load2 rfl rfl rfl Tk.h (by assumption) (by assumption) ?_)
    refine GO.callV1 rfl rfl rfl (hf x (List.mem_of_getElem? hx)) (show Tks (q :: M) (q :: (M ++ F)) F from List.Perm.refl _) ?_
    rintro _ _ ⟨rfl, rfl⟩
    (refine GO.nil ?_; refine kthen_n ?_)
    refine G.cond rfl (fun hb => ?_) (fun hb => ?_)
    · (refine G.seq ?_; refine G.region ?_; refine GO.move rfl rfl ?_; refine GO.assign rfl rfl ?_; refine GO.nil ?_; refine kthen_n ?_; refine G.ret ?_; refine kblock_r ?_; refine kthen_r ?_; refine kthen_r ?_; refine kblock_r ?_; refine kthen_r ?_)
      refine KF.r1 rfl (RV.t rfl) ⟨.inl ⟨k, x, rfl, hx, hb, hany⟩, rfl⟩ ?_
      exact Sb.r
    · (refine G.skip ?_; refine kblock_n ?_; refine kthen_n ?_; refine G.region ?_; refine GO.addi rfl rfl rfl (by omega) ?_; refine GO.move rfl rfl ?_; refine GO.nil ?_; refine kthen_n ?_)
      refine ⟨k + 1, ⟨by omega, fun y hy => ?_⟩, by omega, ?_, ?_⟩
      · rw [List.take_add_one, hx] at hy
        rcases List.mem_append.1 hy with h | h
        · exact hany y h
        · simp at h; subst h; exact hb
      · (refine SubE.c rfl rfl ?_; refine SubE.c rfl rfl ?_; refine SubE.c rfl rfl ?_; refine SubE.c rfl rfl ?_; exact SubE.n)
      · exact Sb.r
  · have : k = xs.length := by omega
    subst this
    rw [List.take_length] at hany
    (refine G.exit ?_; refine kthen_x ?_; refine kthen_x ?_; refine kblock_x ?_; refine kthen_n ?_; refine G.seq ?_; refine G.region ?_; refine GO.assign rfl rfl ?_; refine GO.nil ?_; refine kthen_n ?_; refine G.ret ?_)
    refine KF.r1 rfl (RV.t rfl) ⟨.inr ⟨rfl, hany⟩, rfl⟩ ?_
    exact Sb.r
set_option maxHeartbeats 4000000 in
set_option maxRecDepth 20000 in
theorem deleteP_spec (v f : Value) (xs : List (Int × Value)) (pred : Int × Value → Bool) (M : List HP) (hf : ∀ q, ∀ x ∈ xs, FnV Try.prog f [pvV x] (q :: M) (fun r Q => r = .bool (pred x) ∧ Q = q :: M)) (hn : xs.length ≤ 1152921504606846976) (h1 : ∀ x ∈ xs, x.2.oneCell' = true) :
    Fn Try.prog 38 #[v, f] (own 42 2 xs.length v (pvs xs) :: M)
      (fun r Q => Q = own 42 2 (xs.filter fun x => !pred x).length r (pvs (xs.filter fun x => !pred x)) :: M) := by
  refine Fn.mk Try.func38 rfl rfl fun w0 F => ?_
  (refine G.seq ?_; refine G.region ?_; refine GO.assign rfl rfl ?_; refine GO.nil ?_; refine kthen_n ?_; refine G.seq ?_; refine G.region ?_; refine GO.move rfl rfl ?_; refine GO.move rfl rfl ?_)
  refine GO.ownSl (F := M ++ F) Tk.h fun hsl => ?_
  refine GO.call2 rfl rfl rfl (indexP_spec _ v f xs pred M hsl (hf _) (by omega)) (show Tks (_ :: M) (_ :: (M ++ F)) F from List.Perm.refl _) ?_
  rintro _ _ ⟨⟨k, x, rfl, hx, hpx, hall⟩ | ⟨rfl, hall⟩, rfl⟩
  · have hkl := (List.getElem?_eq_some_iff.1 hx).1
    (refine GO.assign rfl rfl ?_; refine GO.nil ?_; refine kthen_n ?_; refine G.seq ?_; refine G.seq ?_; refine G.region ?_; refine GO.move rfl rfl ?_; refine GO.eqi rfl rfl rfl ?_; refine GO.nil ?_; refine kthen_n ?_; refine G.condF rfl rfl ?_; refine G.skip ?_; refine kthen_n ?_; refine G.seq ?_; refine G.seq ?_; refine G.region ?_; refine GO.move rfl rfl ?_; refine GO.addi rfl rfl rfl (by omega) ?_; refine GO.assign rfl rfl ?_; refine GO.nil ?_; refine kthen_n ?_; refine G.block ?_)
    refine G.own_open (F := M ++ F) Tk.h (fun _ h _ => ?_) (fun b cap rst hv g1 g2 g3 g4 => ?_)
    · exfalso; omega
    subst hv
    unfold maxLen at g3
    have hk0 : (xs.take (k + 1)).filter (fun x => !pred x) = xs.take k := by
      rw [List.take_add_one, hx, List.filter_append]
      rw [List.filter_eq_self.2 fun y hy => by rw [hall y hy]; rfl]
      simp [hpx]
    refine G.loop3 (fun (i j : Nat) (_ : List (Int × Value)) => [(0, .slice (some ⟨b, 0, none⟩) xs.length cap), (1, f), (5, i64 i), (6, i64 j)])
      (fun _ _ ys => pt b (row (pvs ys ++ rst) 42) :: (M ++ F))
      (fun i j ys => i < j ∧ j ≤ xs.length ∧ ys.length = xs.length ∧ ys.take i = (xs.take j).filter (fun x => !pred x) ∧ ys.drop j = xs.drop j ∧ i = ((xs.take j).filter (fun x => !pred x)).length) (fun _ j _ => xs.length - j) k (k + 1) xs
      ⟨by omega, by omega, rfl, hk0.symm, rfl, by rw [hk0, List.length_take]; omega⟩ ?_ ?_ ?_
    · (refine SubE.c rfl rfl ?_; refine SubE.c rfl rfl ?_; refine SubE.c rfl rfl ?_; refine SubE.c rfl rfl ?_; exact SubE.n)
    · exact Sb.r
    rintro i j ys ⟨hij, hj, hl, ht, hd, hi⟩
    (refine G.seq ?_; refine G.seq ?_; refine G.region ?_; refine GO.move rfl rfl ?_; refine GO.move rfl rfl ?_; refine GO.lenS rfl rfl ?_; refine GO.lti rfl rfl rfl ?_; refine GO.nil ?_; refine kthen_n ?_)
    refine G.condD rfl (fun hlt => ?_) (fun hge => ?_)
    · have hjl : j < xs.length := by omega
      obtain ⟨y, hy⟩ : ∃ y, xs[j]? = some y := ⟨xs[j], by simp [hjl]⟩
      have hy2 : ys[j]? = some y := by
        have := congrArg (fun l => l[0]?) hd
        simp only [List.getElem?_drop, Nat.add_zero] at this
        rw [this, hy]
      have hym := List.mem_of_getElem? hy
      obtain ⟨c1, c2⟩ := duo_get (f := i64) (g := id) hy2
      have hlen : (pvs ys).length = ys.length * 2 := duo_len ys
      have e1 : Rd (pt b (row (pvs ys ++ rst) 42)) ⟨b, 0 + j * 2, none⟩ (i64 y.1) := Rd.row (by rw [Nat.zero_add, List.getElem?_append_left (by omega)]; exact c1)
      have e2 : Rd (pt b (row (pvs ys ++ rst) 42)) ⟨b, 0 + j * 2 + 1, none⟩ y.2 := Rd.row (by rw [Nat.zero_add, List.getElem?_append_left (by omega)]; exact c2)
      have h1y : Value.oneCell' y.2 = true := h1 y hym
      have hj1 : xs.take (j + 1) = xs.take j ++ [y] := by rw [List.take_add_one, hy]; rfl
      (refine G.skip ?_; refine kthen_n ?_; refine G.seq ?_; refine G.block ?_; refine G.seq ?_; refine G.region ?_; refine GO.move rfl rfl ?_; refine GO.move rfl rfl ?_; refine GO.idxS rfl rfl rfl ⟨rfl, by omega⟩ ?_; refine GO.load2 rfl rfl rfl Tk.h (by assumption) (by assumption) ?_; refine GO.alloc rfl fun b7 => ?_; refine GO.storeW rfl rfl Tk.h ⟨rfl, rfl⟩ (by simp [Value.oneCell']; assumption) ?_; refine GO.nil ?_; refine kthen_n ?_; refine G.seq ?_; refine G.region ?_; refine GO.move rfl rfl ?_; refine GO.loadW rfl rfl rfl Tk.h rfl ?_)
      refine GO.callV1 rfl rfl rfl (hf (pt b (row (pvs ys ++ rst) 42)) y hym) tk_mid ?_
      rintro _ _ ⟨rfl, rfl⟩
      refine GO.mem (H' := pt b7 (row [i64 y.1, y.2] 42) :: pt b (row (pvs ys ++ rst) 42) :: (M ++ F)) Sb.midR ?_
      cases hp : pred y with
      | true =>
        (refine GO.not rfl rfl ?_; refine GO.nil ?_; refine kthen_n ?_; refine G.condF rfl rfl ?_; refine G.skip ?_; refine kblock_n ?_; refine kthen_n ?_; refine G.region ?_; refine GO.move rfl rfl ?_; refine GO.addi rfl rfl rfl (by omega) ?_; refine GO.assign rfl rfl ?_; refine GO.nil ?_; refine kthen_n ?_)
        refine ⟨i, j + 1, ys, ⟨by omega, by omega, hl, ?_, ?_, ?_⟩, by omega, ?_, ?_⟩
        · rw [hj1, List.filter_append]; simp [hp, ht]
        · have := congrArg (fun l => l.drop 1) hd
          simpa [List.drop_drop] using this
        · rw [hj1, List.filter_append]; simp [hp]; exact hi
        · (refine SubE.c rfl rfl ?_; refine SubE.c rfl rfl ?_; refine SubE.c rfl rfl ?_; refine SubE.c rfl rfl ?_; exact SubE.n)
        · exact Sb.s Sb.r
      | false =>
        have hil : i < ys.length := by omega
        have hset : (pvs ys ++ rst).take (0 + i * 2) ++ [i64 y.1, y.2] ++ (pvs ys ++ rst).drop (0 + i * 2 + 2) = pvs (ys.set i y) ++ rst := duo_setR (s := y) hil
        (refine GO.not rfl rfl ?_; refine GO.nil ?_; refine kthen_n ?_; refine G.condT rfl rfl ?_; refine G.seq ?_; refine G.region ?_; refine GO.move rfl rfl ?_; refine GO.move rfl rfl ?_; refine GO.loadW rfl rfl rfl Tk.h rfl ?_; refine GO.idxS rfl rfl rfl ⟨rfl, by omega⟩ ?_)
        refine GO.storeG (vs := [i64 y.1, y.2]) rfl rfl rfl rfl (Tk.t Tk.h) (by rw [List.length_append]; simp only [List.length_cons, List.length_nil]; omega) (by simp [Value.oneCell']; exact h1y) ?_
        simp only [List.length_cons, List.length_nil, Nat.zero_add 1, Nat.reduceAdd]
        rw [hset]
        (refine GO.nil ?_; refine kthen_n ?_; refine G.region ?_; refine GO.move rfl rfl ?_; refine GO.addi rfl rfl rfl (by omega) ?_; refine GO.assign rfl rfl ?_; refine GO.nil ?_; refine kblock_n ?_; refine kthen_n ?_; refine G.region ?_; refine GO.move rfl rfl ?_; refine GO.addi rfl rfl rfl (by omega) ?_; refine GO.assign rfl rfl ?_; refine GO.nil ?_; refine kthen_n ?_)
        have hys : (ys.set i y).length = ys.length := List.length_set
        refine ⟨i + 1, j + 1, ys.set i y, ⟨by omega, by omega, by omega, ?_, ?_, ?_⟩, by omega, ?_, ?_⟩
        · rw [hj1, List.filter_append, ← ht, List.take_add_one]
          simp [hp, hil]
          rw [List.take_set_of_le (Nat.le_refl _)]
        · have h1 := congrArg (fun l => l.drop 1) hd
          simp only [List.drop_drop] at h1
          rw [List.drop_set_of_lt (by omega)]; exact h1
        · rw [hj1, List.filter_append, List.length_append, ← hi]; simp [hp]
        · (refine SubE.c rfl rfl ?_; refine SubE.c rfl rfl ?_; refine SubE.c rfl rfl ?_; refine SubE.c rfl rfl ?_; exact SubE.n)
        · exact ⟨[pt b7 (row [i64 y.1, y.2] 42)], List.Perm.cons _ (List.perm_append_singleton _ _).symm⟩
    · have : j = xs.length := by omega
      subst this
      rw [List.take_length] at ht hi
      have hlen : (pvs ys).length = ys.length * 2 := duo_len ys
      have hik : i < xs.length := by omega
      rw [List.length_append] at g4
      (refine G.exit ?_; refine kthen_x ?_; refine kthen_x ?_; refine kblock_x ?_; refine kthen_n ?_; refine G.seq ?_; refine G.region ?_; refine GO.move rfl rfl ?_; refine GO.move rfl rfl ?_)
      refine GO.sliceLo (l := i) rfl rfl rfl ⟨rfl, by omega, by omega⟩ ?_
      refine GO.clear rfl Tk.h (by omega) (by rw [List.length_append]; simp only [List.length_cons, List.length_nil]; omega) (by simp [Value.oneCell']) fun vs hvs => ?_
      simp only [List.length_cons, List.length_nil] at hvs
      have e1 : (pvs ys ++ rst).take (0 + i * 2) = pvs (xs.filter fun x => !pred x) := by
        rw [Nat.zero_add, List.take_append_of_le_length (by omega), ← duo_take, ht]
      have e2 : (pvs (xs.filter fun x => !pred x)).length = (xs.filter fun x => !pred x).length * 2 := duo_len _
      rw [e1, List.append_assoc]
      (refine GO.nil ?_; refine kthen_n ?_; refine G.seq ?_; refine G.region ?_; refine GO.move rfl rfl ?_; refine GO.move rfl rfl ?_)
      refine GO.sliceHi (l := i) rfl rfl rfl ⟨rfl, by omega⟩ ?_
      refine GO.ownShut (sz := 2) (n := i) (cap := cap) rfl (by rw [e2, ← hi]) (by omega) (by unfold maxLen; omega) (by rw [List.length_append, List.length_append, List.length_drop, List.length_append, e2]; omega) ?_
      rw [hi]
      (refine GO.assign rfl rfl ?_; refine GO.nil ?_; refine kthen_n ?_; refine G.ret ?_)
      refine KF.r1 rfl (RV.t rfl) rfl ?_
      exact Sb.r
  · have e : xs.filter (fun x => !pred x) = xs := List.filter_eq_self.2 fun y hy => by rw [hall y hy]; rfl
    rw [e]
    (refine GO.assign rfl rfl ?_; refine GO.nil ?_; refine kthen_n ?_; refine G.seq ?_; refine G.seq ?_; refine G.region ?_; refine GO.move rfl rfl ?_; refine GO.eqT rfl rfl rfl rfl ?_; refine GO.nil ?_; refine kthen_n ?_; refine G.condT rfl rfl ?_; refine G.seq ?_; refine G.region ?_; refine GO.move rfl rfl ?_; refine GO.assign rfl rfl ?_; refine GO.nil ?_; refine kthen_n ?_; refine G.ret ?_; refine kthen_r ?_)
    refine KF.r1 rfl (RV.t rfl) rfl ?_
    exact Sb.r
end Go.Proofs.Ytcemehocbemfmaa
namespace Go.Proofs.Ytcemehocbemfmaa
open Go
attribute [local irreducible] G GO GR GT Fn FnV pt init exs pur sat own ImpS
/-- Has a symbol something? (Labels have it or not.) -/
def symHas (o : Nat → Bool) (lb : Bool) (s : SymD) : Bool := if s.1 then lb else o s.2.toNat
/-- The symbols' numbers are nonterminals'. -/
def symIn (n : Int) (s : SymD) : Prop := s.1 = false → 0 ≤ s.2 ∧ s.2 < n
abbrev allM (o : Nat → Bool) (lb : Bool) (n : Nat) (bo b4 b5 : Nat) : List HP :=
  [pt b5 (row [.bool lb] 4), pt b4 (row [.slice (some ⟨bo, 0, none⟩) n n] 25), pt bo (row (boolsV o n) 4)]
set_option maxHeartbeats 2000000 in
theorem allp_spec (o : Nat → Bool) (lb : Bool) (n bo b4 b5 : Nat) (s : SymD) (hs : symIn n s) :
    Fn Try.prog 50 #[symV s, .pointer (some ⟨b5, 0, none⟩), .pointer (some ⟨b4, 0, none⟩)] (allM o lb n bo b4 b5) (fun r Q => r = .bool (!symHas o lb s) ∧ Q = allM o lb n bo b4 b5) := by
  obtain ⟨sl, m⟩ := s
  refine Fn.mk Try.func50 rfl rfl fun w0 F => ?_
  (refine G.seq ?_; refine G.region ?_)
  refine GO.box rfl rfl rfl fun b3 => ?_
  (refine GO.assign rfl rfl ?_; refine GO.nil ?_; refine kthen_n ?_; refine G.seq ?_; refine G.region ?_; refine GO.fieldAddr rfl rfl ?_; refine GO.load1 rfl rfl rfl Tk.h rfl ?_; refine GO.move rfl rfl ?_)
  cases sl with
  | true =>
    (refine GO.gT rfl rfl rfl ?_; refine GO.load1 rfl rfl rfl (Tk.t Tk.h) rfl ?_; refine GO.gT rfl rfl rfl ?_; refine GO.not rfl rfl ?_; refine GO.pickT rfl rfl rfl ?_; refine GO.move rfl rfl ?_)
    cases lb with
    | true =>
      (refine GO.gT rfl rfl rfl ?_; refine GO.fieldAddr rfl rfl ?_; refine GO.gT rfl rfl rfl ?_; refine GO.load1 rfl rfl rfl Tk.h rfl ?_; refine GO.gT rfl rfl rfl ?_; refine GO.not rfl rfl ?_; refine GO.gT rfl rfl rfl ?_; refine GO.move rfl rfl ?_; refine GO.gF rfl rfl rfl rfl ?_; refine GO.gF rfl rfl rfl rfl ?_; refine GO.gF rfl rfl rfl rfl ?_; refine GO.gF rfl rfl rfl rfl ?_; refine GO.gF rfl rfl rfl rfl ?_; refine GO.gF rfl rfl rfl rfl ?_; refine GO.gT rfl rfl rfl ?_; refine GO.pickF rfl rfl rfl ?_; refine GO.pickF rfl rfl rfl ?_; refine GO.assign rfl rfl ?_; refine GO.nil ?_; refine kthen_n ?_; refine G.ret ?_)
      refine KF.r1 rfl (RV.t rfl) ⟨rfl, rfl⟩ ?_
      ((refine Sb.c (Tk.t Tk.h) ?_; refine Sb.c (Tk.t Tk.h) ?_; refine Sb.c (Tk.t Tk.h) ?_); (refine Sb.s ?_; exact Sb.r))
    | false =>
      (refine GO.gF rfl rfl rfl rfl ?_; refine GO.gF rfl rfl rfl rfl ?_; refine GO.gF rfl rfl rfl rfl ?_; refine GO.gF rfl rfl rfl rfl ?_; refine GO.gU rfl rfl rfl ?_; refine GO.gU rfl rfl rfl ?_; refine GO.gU rfl rfl rfl ?_; refine GO.gU rfl rfl rfl ?_; refine GO.gU rfl rfl rfl ?_; refine GO.gU rfl rfl rfl ?_; refine GO.gF rfl rfl rfl rfl ?_; refine GO.pickT rfl rfl rfl ?_; refine GO.assign rfl rfl ?_; refine GO.nil ?_; refine kthen_n ?_; refine G.ret ?_)
      refine KF.r1 rfl (RV.t rfl) ⟨rfl, rfl⟩ ?_
      ((refine Sb.c (Tk.t Tk.h) ?_; refine Sb.c (Tk.t Tk.h) ?_; refine Sb.c (Tk.t Tk.h) ?_); (refine Sb.s ?_; exact Sb.r))
  | false =>
    obtain ⟨h1, h2⟩ := hs rfl
    obtain ⟨k, hk⟩ := Int.eq_ofNat_of_zero_le h1
    dsimp only at h1 h2 hk
    subst hk
    have hkn : k < n := by omega
    (refine GO.gF rfl rfl rfl rfl ?_; refine GO.gF rfl rfl rfl rfl ?_; refine GO.pickF rfl rfl rfl ?_; refine GO.move rfl rfl ?_; refine GO.gT rfl rfl rfl ?_; refine GO.fieldAddr rfl rfl ?_; refine GO.gT rfl rfl rfl ?_; refine GO.load1 rfl rfl rfl Tk.h rfl ?_; refine GO.gT rfl rfl rfl ?_; refine GO.not rfl rfl ?_; refine GO.gT rfl rfl rfl ?_; refine GO.move rfl rfl ?_; refine GO.gT rfl rfl rfl ?_; refine GO.load1 rfl rfl rfl (Tk.t (Tk.t Tk.h)) rfl ?_; refine GO.gT rfl rfl rfl ?_; refine GO.fieldAddr rfl rfl ?_; refine GO.gT rfl rfl rfl ?_; refine GO.load1 rfl rfl rfl Tk.h rfl ?_; refine GO.gT rfl rfl rfl ?_; refine GO.idxS rfl rfl rfl ⟨rfl, by omega⟩ ?_; refine GO.gT rfl rfl rfl ?_)
    skip
    refine GO.load1 rfl rfl rfl (by (exact (Tk.t (Tk.t (Tk.t Tk.h))))) (rowV_get1 hkn) ?_
    (refine GO.gT rfl rfl rfl ?_; refine GO.not rfl rfl ?_; refine GO.gT rfl rfl rfl ?_; refine GO.pickT rfl rfl rfl ?_; refine GO.pickF rfl rfl rfl ?_; refine GO.assign rfl rfl ?_; refine GO.nil ?_; refine kthen_n ?_; refine G.ret ?_)
    refine KF.r1 rfl (RV.t rfl) ⟨rfl, rfl⟩ ?_
    ((refine Sb.c (Tk.t Tk.h) ?_; refine Sb.c (Tk.t Tk.h) ?_; refine Sb.c (Tk.t Tk.h) ?_); (refine Sb.s ?_; exact Sb.r))
theorem any_all (o : Nat → Bool) (lb : Bool) (ss : List SymD) : (!ss.any fun s => !symHas o lb s) = ss.all (symHas o lb) := by
  induction ss with
  | nil => rfl
  | cons s ss ih => simp only [List.any_cons, List.all_cons, ← ih]; cases symHas o lb s <;> simp
set_option maxHeartbeats 2000000 in
theorem all_spec (q : HP) (v : Value) (o : Nat → Bool) (lb : Bool) (n bo : Nat) (ss : List SymD) (hv : SymsR q v ss) (hs : ∀ s ∈ ss, symIn n s) (hn : ss.length ≤ 9223372036854775807) :
    Fn Try.prog 36 #[v, .slice (some ⟨bo, 0, none⟩) n n, .bool lb] [q, pt bo (row (boolsV o n) 4)] (fun r Q => r = .bool (ss.all (symHas o lb)) ∧ Q = [q, pt bo (row (boolsV o n) 4)]) := by
  refine Fn.mk Try.func36 rfl rfl fun w0 F => ?_
  (refine G.seq ?_; refine G.region ?_)
  refine GO.box rfl rfl rfl fun b4 => ?_
  refine GO.box rfl rfl rfl fun b5 => ?_
  (refine GO.assign rfl rfl ?_; refine GO.nil ?_; refine kthen_n ?_; refine G.seq ?_; refine G.region ?_; refine GO.move rfl rfl ?_)
  refine GO.makeFunc2 rfl rfl rfl ?_
  refine GO.call2 rfl rfl rfl (containsSym_spec q v _ ss (fun s => !symHas o lb s) (allM o lb n bo b4 b5) hv (fun s hm => FnV.of (caps := [.pointer (some ⟨b5, 0, none⟩), .pointer (some ⟨b4, 0, none⟩)]) (Fn.framed (Rv := fun r => r = .bool (!symHas o lb s)) (allp_spec o lb n bo b4 b5 s (hs s hm)) [q])) hn)
    (Tks.c (Tk.t (Tk.t Tk.h)) (Tks.c Tk.h (Tks.c Tk.h (Tks.c Tk.h Tks.n)))) ?_
  rintro _ _ ⟨rfl, rfl⟩
  (refine GO.not rfl rfl ?_; refine GO.assign rfl rfl ?_; refine GO.nil ?_; refine kthen_n ?_; refine G.ret ?_)
  refine KF.r1 rfl (RV.t rfl) ⟨by rw [any_all], rfl⟩ ?_
  ((refine Sb.c Tk.h ?_; refine Sb.c (Tk.t (Tk.t Tk.h)) ?_); (refine Sb.s ?_; refine Sb.s ?_; exact Sb.r))
/-- One production lets a nonterminal have something. -/
def cloStep (lb : Bool) (o : Nat → Bool) (p : ProdD) : (Nat → Bool) × Bool :=
  if o p.1.toNat || !p.2.all (symHas o lb) then (o, false) else (upd o p.1.toNat true, true)
abbrev cloM (lb : Bool) (n bo b3 b7 : Nat) (o : Nat → Bool) : List HP :=
  [pt b7 (row [.slice (some ⟨bo, 0, none⟩) n n] 25), pt b3 (row [.bool lb] 4), pt bo (row (boolsV o n) 4)]
def prodIn (n : Int) (p : ProdD) : Prop := (0 ≤ p.1 ∧ p.1 < n) ∧ ∀ s ∈ p.2, symIn n s
set_option maxHeartbeats 2000000 in
theorem clop_spec (q : HP) (lb : Bool) (o : Nat → Bool) (n bo b3 b7 : Nat) (p : ProdD) (bv : Value) (hb : SymsR q bv p.2) (hp : prodIn n p) (hn : p.2.length ≤ 9223372036854775807) :
    Fn Try.prog 44 #[prodV p bv, .pointer (some ⟨b7, 0, none⟩), .pointer (some ⟨b3, 0, none⟩)] (q :: cloM lb n bo b3 b7 o) (fun r Q => r = .bool (cloStep lb o p).2 ∧ Q = q :: cloM lb n bo b3 b7 (cloStep lb o p).1) := by
  obtain ⟨h, ss⟩ := p
  obtain ⟨⟨h1, h2⟩, hss⟩ := hp
  dsimp only at h1 h2
  obtain ⟨k, rfl⟩ := Int.eq_ofNat_of_zero_le h1
  have hkn : k < n := by omega
  obtain ⟨ab, capb, rfl⟩ := hb.form
  refine Fn.mk Try.func44 rfl rfl fun w0 F => ?_
  (refine G.seq ?_; refine G.region ?_)
  refine GO.box rfl rfl rfl fun b3' => ?_
  (refine GO.assign rfl rfl ?_; refine GO.nil ?_; refine kthen_n ?_; refine G.seq ?_; refine G.seq ?_; refine G.region ?_; refine GO.load1 rfl rfl rfl (Tk.t (Tk.t Tk.h)) rfl ?_; refine GO.fieldAddr rfl rfl ?_; refine GO.load1 rfl rfl rfl Tk.h rfl ?_; refine GO.idxS rfl rfl rfl ⟨rfl, by omega⟩ ?_)
  refine GO.load1 rfl rfl rfl (by (exact (Tk.t (Tk.t (Tk.t (Tk.t Tk.h)))))) (rowV_get1 hkn) ?_
  (refine GO.move rfl rfl ?_)
  cases ho : o k with
  | true =>
    have e : cloStep lb o ((k : Int), ss) = (o, false) := by unfold cloStep; simp [ho]
    rw [e]
    (refine GO.gF rfl rfl rfl rfl ?_; refine GO.gF rfl rfl rfl rfl ?_; refine GO.gF rfl rfl rfl rfl ?_; refine GO.gF rfl rfl rfl rfl ?_; refine GO.gF rfl rfl rfl rfl ?_; refine GO.gF rfl rfl rfl rfl ?_; refine GO.pickT rfl rfl rfl ?_; refine GO.nil ?_; refine kthen_n ?_; refine G.condT rfl rfl ?_; refine G.seq ?_; refine G.region ?_; refine GO.assign rfl rfl ?_; refine GO.nil ?_; refine kthen_n ?_; refine G.ret ?_; refine kthen_r ?_)
    refine KF.r1 rfl (RV.t rfl) ⟨rfl, rfl⟩ ?_
    ((refine Sb.c (Tk.t Tk.h) ?_; refine Sb.c (Tk.t Tk.h) ?_; refine Sb.c (Tk.t Tk.h) ?_; refine Sb.c (Tk.t Tk.h) ?_); (refine Sb.s ?_; exact Sb.r))
  | false =>
    (refine GO.gT rfl rfl rfl ?_; refine GO.fieldAddr rfl rfl ?_; refine GO.gT rfl rfl rfl ?_; refine GO.load1 rfl rfl rfl Tk.h rfl ?_; refine GO.gT rfl rfl rfl ?_; refine GO.load1 rfl rfl rfl (Tk.t (Tk.t Tk.h)) rfl ?_; refine GO.gT rfl rfl rfl ?_; refine GO.load1 rfl rfl rfl (Tk.t (Tk.t (Tk.t Tk.h))) rfl ?_; refine GO.gT rfl rfl rfl ?_)
    refine GO.call3 rfl rfl rfl rfl (all_spec q _ o lb n bo ss hb hss hn) (Tks.c (Tk.t Tk.h) (Tks.c (Tk.t (Tk.t (Tk.t Tk.h))) Tks.n)) ?_
    rintro _ _ ⟨rfl, rfl⟩
    cases ha : ss.all (symHas o lb) with
    | false =>
      have e : cloStep lb o ((k : Int), ss) = (o, false) := by unfold cloStep; simp [ho, ha]
      rw [e]
      (refine GO.gT rfl rfl rfl ?_; refine GO.not rfl rfl ?_; refine GO.pickF rfl rfl rfl ?_; refine GO.nil ?_; refine kthen_n ?_; refine G.condT rfl rfl ?_; refine G.seq ?_; refine G.region ?_; refine GO.assign rfl rfl ?_; refine GO.nil ?_; refine kthen_n ?_; refine G.ret ?_; refine kthen_r ?_)
      refine KF.r1 rfl (RV.t rfl) ⟨rfl, rfl⟩ ?_
      ((refine Sb.c Tk.h ?_; refine Sb.c (Tk.t (Tk.t Tk.h)) ?_; refine Sb.c (Tk.t (Tk.t Tk.h)) ?_; refine Sb.c Tk.h ?_); (refine Sb.s ?_; exact Sb.r))
    | true =>
      have e : cloStep lb o ((k : Int), ss) = (upd o k true, true) := by unfold cloStep; simp [ho, ha]
      rw [e]
      (refine GO.gT rfl rfl rfl ?_; refine GO.not rfl rfl ?_; refine GO.pickF rfl rfl rfl ?_; refine GO.nil ?_; refine kthen_n ?_; refine G.condF rfl rfl ?_; refine G.skip ?_; refine kthen_n ?_; refine G.seq ?_; refine G.region ?_; refine GO.load1 rfl rfl rfl (Tk.t (Tk.t (Tk.t Tk.h))) rfl ?_; refine GO.fieldAddr rfl rfl ?_; refine GO.load1 rfl rfl rfl (Tk.t (Tk.t Tk.h)) rfl ?_; refine GO.idxS rfl rfl rfl ⟨rfl, by omega⟩ ?_)
      refine GO.store1 rfl rfl rfl (by (exact (Tk.t Tk.h))) (by rw [rowV_len]; omega) ?_
      rw [rowV_set]
      (refine GO.nil ?_; refine kthen_n ?_; refine G.seq ?_; refine G.region ?_; refine GO.assign rfl rfl ?_; refine GO.nil ?_; refine kthen_n ?_; refine G.ret ?_)
      refine KF.r1 rfl (RV.t rfl) ⟨rfl, rfl⟩ ?_
      ((refine Sb.c (Tk.t Tk.h) ?_; refine Sb.c (Tk.t (Tk.t Tk.h)) ?_; refine Sb.c (Tk.t (Tk.t Tk.h)) ?_; refine Sb.c Tk.h ?_); (refine Sb.s ?_; exact Sb.r))
end Go.Proofs.Ytcemehocbemfmaa
namespace Go.Proofs.Ytcemehocbemfmaa
open Go
attribute [local irreducible] G GO GR GT Fn FnV pt init exs pur sat own ImpS
theorem okC_in {C : CnfD} (h : okC C = true) : (1 ≤ C.nts ∧ C.nts ≤ 1024) ∧ ∀ p ∈ C.prods, prodIn C.nts p := by
  unfold okC at h
  simp only [Bool.and_eq_true, List.all_eq_true, Bool.not_eq_true', Bool.or_eq_false_iff, decide_eq_false_iff_not] at h
  obtain ⟨⟨h1, h2⟩, h3⟩ := h
  refine ⟨⟨by omega, by omega⟩, fun p hp => ?_⟩
  have := h3 p hp
  rw [prodOK_split] at this
  simp only [Bool.and_eq_true, decide_eq_true_eq, List.all_eq_true] at this
  refine ⟨this.1, fun s hs hl => ?_⟩
  have := this.2 s hs
  unfold symOK at this
  rw [hl] at this
  simp at this
  omega
def falses (o : Nat → Bool) (n : Nat) : Nat := (List.range n).countP fun i => !o i
theorem falses_lt {o : Nat → Bool} {n k : Nat} (hk : k < n) (ho : o k = false) : falses (upd o k true) n < falses o n := by
  have := countP_upd (f := fun i => !o i) (g := fun i => !(upd o k true) i) (i := k) (by simp [ho]) (by simp [upd]) (fun j hj => by simp [upd, hj]) (List.range n) List.nodup_range (by simpa using hk)
  unfold falses; omega
/-- What closed answers. -/
def CloR (C : CnfD) (lb : Bool) (q : HP) (r : Value) (Q : List HP) : Prop :=
  (okC C = true ∧ ∃ b o, r = .tuple [.slice (some ⟨b, 0, none⟩) C.nts.toNat C.nts.toNat, i64 0].toArray ∧ Reach (cloStep lb) C.prods (fun _ => false) o ∧ (∀ p ∈ C.prods, (cloStep lb o p).2 = false) ∧ Q = [pt b (row (boolsV o C.nts.toNat) 4), q]) ∨
  (okC C = false ∧ r = .tuple [.slice none 0 0, i64 220].toArray ∧ Q = [q])
set_option maxHeartbeats 4000000 in
set_option maxRecDepth 20000 in
theorem closed_spec (q : HP) (v : Value) (C : CnfD) (lb : Bool) (hv : CnfR q v C) (hz : Fits C) : Fn Try.prog 28 #[v, .bool lb] [q] (CloR C lb q) := by
  have hv0 := hv
  obtain ⟨pv, rfl, hp⟩ := hv
  obtain ⟨a0, cap0, rfl⟩ := hp.form
  refine Fn.mk Try.func28 rfl rfl fun w0 F => ?_
  (refine G.seq ?_; refine G.region ?_)
  refine GO.box rfl rfl rfl fun b2 => ?_
  refine GO.box rfl rfl rfl fun b3 => ?_
  (refine GO.assign rfl rfl ?_; refine GO.assign rfl rfl ?_; refine GO.nil ?_; refine kthen_n ?_; refine G.seq ?_; refine G.seq ?_; refine G.region ?_)
  refine GO.loadW rfl rfl rfl (Tk.t Tk.h) rfl ?_
  refine GO.call1 rfl rfl (check_spec q _ C hv0 hz) (Tks.c (Tk.t (Tk.t Tk.h)) Tks.n) ?_
  rintro _ _ ⟨rfl, rfl⟩
  cases hok : okC C with
  | false =>
    have hcv : (if false = true then (0 : Int) else 220) = 220 := rfl
    rw [hcv]
    (refine GO.assign rfl rfl ?_; refine GO.nil ?_; refine kthen_n ?_; refine G.seq ?_; refine G.region ?_; refine GO.move rfl rfl ?_; refine GO.nei rfl rfl rfl ?_; refine GO.nil ?_; refine kthen_n ?_; refine G.condT rfl rfl ?_; refine G.seq ?_; refine G.region ?_; refine GO.move rfl rfl ?_; refine GO.assign rfl rfl ?_; refine GO.assign rfl rfl ?_; refine GO.nil ?_; refine kthen_n ?_; refine G.ret ?_; refine kthen_r ?_)
    refine KF.r2 rfl (RV.t rfl) (RV.t rfl) (.inr ⟨hok, rfl, rfl⟩) ?_
    ((refine Sb.c Tk.h ?_); (refine Sb.s ?_; refine Sb.s ?_; exact Sb.r))
  | true =>
    have hcv : (if true = true then (0 : Int) else 220) = 0 := rfl
    rw [hcv]
    obtain ⟨⟨hn1, hn2⟩, hin⟩ := okC_in hok
    (refine GO.assign rfl rfl ?_; refine GO.nil ?_; refine kthen_n ?_; refine G.seq ?_; refine G.region ?_; refine GO.move rfl rfl ?_; refine GO.neF rfl rfl rfl rfl ?_; refine GO.nil ?_; refine kthen_n ?_; refine G.condF rfl rfl ?_; refine G.skip ?_; refine kthen_n ?_; refine G.seq ?_; refine G.region ?_; refine GO.fieldAddr rfl rfl ?_; refine GO.load1 rfl rfl rfl (Tk.t (Tk.t Tk.h)) rfl ?_)
    refine GO.make1 (n := C.nts.toNat) rfl rfl rfl ⟨by omega, by omega⟩ ⟨by omega, by omega⟩ fun bo => ?_
    rw [rowV_const (f := Value.bool)]
    refine GO.alloc rfl fun b7 => ?_
    refine GO.store1 rfl rfl rfl Tk.h (by decide) ?_
    (refine GO.nil ?_; refine kthen_n ?_; refine G.seq ?_; refine G.region ?_)
    refine GO.loadW rfl rfl rfl (Tk.t (Tk.t (Tk.t (Tk.t Tk.h)))) rfl ?_
    refine GO.makeFunc2 rfl rfl rfl ?_
    refine GO.call2 rfl rfl rfl (grow_spec q _ _ C hv0 hz (cloM lb C.nts.toNat bo b3 b7) (fun _ => True) (cloStep lb) (fun o => falses o C.nts.toNat)
      (fun o p _ hpm bv hb => FnV.of (caps := [.pointer (some ⟨b7, 0, none⟩), .pointer (some ⟨b3, 0, none⟩)]) (clop_spec q lb o C.nts.toNat bo b3 b7 p bv hb (by have := hin p hpm; rw [Int.toNat_of_nonneg (by omega)]; exact this) (by have := hz.2 p hpm; omega)))
      (fun _ _ _ _ => trivial)
      (fun o p _ hpm h => by
        unfold cloStep at h ⊢
        obtain ⟨⟨h1, h2⟩, _⟩ := hin p hpm
        split at h
        · cases h
        · rename_i hc
          rw [if_neg hc]
          simp at hc
          exact falses_lt (by omega) hc.1)
      (fun o p h => by unfold cloStep at h ⊢; split at h <;> simp_all) (fun _ => false) trivial) (Tks.c (Tk.t (Tk.t Tk.h)) (Tks.c Tk.h (Tks.c (Tk.t Tk.h) (Tks.c Tk.h Tks.n)))) ?_
    rintro _ _ ⟨o, _, hR, hst, rfl⟩
    (refine GO.nil ?_; refine kthen_n ?_; refine G.seq ?_; refine G.region ?_; refine GO.load1 rfl rfl rfl (Tk.t Tk.h) rfl ?_; refine GO.assign rfl rfl ?_; refine GO.assign rfl rfl ?_; refine GO.nil ?_; refine kthen_n ?_; refine G.ret ?_)
    refine KF.r2 rfl (RV.t rfl) (RV.t rfl) (.inl ⟨hok, bo, o, rfl, hR, hst, rfl⟩) ?_
    ((refine Sb.c (Tk.t (Tk.t (Tk.t Tk.h))) ?_; refine Sb.c Tk.h ?_); (refine Sb.s ?_; refine Sb.s ?_; refine Sb.s ?_; exact Sb.r))
theorem empty_spec (q : HP) (v : Value) (C : CnfD) (hv : CnfR q v C) (hz : Fits C) : Fn Try.prog 9 #[v] [q] (CloR C false q) := by
  have hv0 := hv
  obtain ⟨pv, rfl, hp⟩ := hv
  obtain ⟨a0, cap0, rfl⟩ := hp.form
  refine Fn.mk Try.func9 rfl rfl fun w0 F => ?_
  (refine G.seq ?_; refine G.region ?_)
  refine GO.box rfl rfl rfl fun b1 => ?_
  (refine GO.assign rfl rfl ?_; refine GO.assign rfl rfl ?_; refine GO.nil ?_; refine kthen_n ?_; refine G.seq ?_; refine G.region ?_)
  refine GO.loadW rfl rfl rfl Tk.h rfl ?_
  refine GO.call2 rfl rfl rfl (closed_spec q _ C false hv0 hz) (Tks.c (Tk.t Tk.h) Tks.n) ?_
  rintro _ _ (⟨hok, b, o, rfl, hR, hst, rfl⟩ | ⟨hok, rfl, rfl⟩)
  · (refine GO.extract rfl rfl rfl ?_; refine GO.extract rfl rfl rfl ?_; refine GO.assign rfl rfl ?_; refine GO.assign rfl rfl ?_; refine GO.nil ?_; refine kthen_n ?_; refine G.ret ?_)
    refine KF.r2 rfl (RV.t rfl) (RV.t rfl) (.inl ⟨hok, b, o, rfl, hR, hst, rfl⟩) ?_
    ((refine Sb.c Tk.h ?_; refine Sb.c Tk.h ?_); (refine Sb.s ?_; exact Sb.r))
  · (refine GO.extract rfl rfl rfl ?_; refine GO.extract rfl rfl rfl ?_; refine GO.assign rfl rfl ?_; refine GO.assign rfl rfl ?_; refine GO.nil ?_; refine kthen_n ?_; refine G.ret ?_)
    refine KF.r2 rfl (RV.t rfl) (RV.t rfl) (.inr ⟨hok, rfl, rfl⟩) ?_
    ((refine Sb.c Tk.h ?_); (refine Sb.s ?_; exact Sb.r))
theorem fruitful_spec (q : HP) (v : Value) (C : CnfD) (hv : CnfR q v C) (hz : Fits C) : Fn Try.prog 11 #[v] [q] (CloR C true q) := by
  have hv0 := hv
  obtain ⟨pv, rfl, hp⟩ := hv
  obtain ⟨a0, cap0, rfl⟩ := hp.form
  refine Fn.mk Try.func11 rfl rfl fun w0 F => ?_
  (refine G.seq ?_; refine G.region ?_)
  refine GO.box rfl rfl rfl fun b1 => ?_
  (refine GO.assign rfl rfl ?_; refine GO.assign rfl rfl ?_; refine GO.nil ?_; refine kthen_n ?_; refine G.seq ?_; refine G.region ?_)
  refine GO.loadW rfl rfl rfl Tk.h rfl ?_
  refine GO.call2 rfl rfl rfl (closed_spec q _ C true hv0 hz) (Tks.c (Tk.t Tk.h) Tks.n) ?_
  rintro _ _ (⟨hok, b, o, rfl, hR, hst, rfl⟩ | ⟨hok, rfl, rfl⟩)
  · (refine GO.extract rfl rfl rfl ?_; refine GO.extract rfl rfl rfl ?_; refine GO.assign rfl rfl ?_; refine GO.assign rfl rfl ?_; refine GO.nil ?_; refine kthen_n ?_; refine G.ret ?_)
    refine KF.r2 rfl (RV.t rfl) (RV.t rfl) (.inl ⟨hok, b, o, rfl, hR, hst, rfl⟩) ?_
    ((refine Sb.c Tk.h ?_; refine Sb.c Tk.h ?_); (refine Sb.s ?_; exact Sb.r))
  · (refine GO.extract rfl rfl rfl ?_; refine GO.extract rfl rfl rfl ?_; refine GO.assign rfl rfl ?_; refine GO.assign rfl rfl ?_; refine GO.nil ?_; refine kthen_n ?_; refine G.ret ?_)
    refine KF.r2 rfl (RV.t rfl) (RV.t rfl) (.inr ⟨hok, rfl, rfl⟩) ?_
    ((refine Sb.c Tk.h ?_); (refine Sb.s ?_; exact Sb.r))
end Go.Proofs.Ytcemehocbemfmaa
namespace Go.Proofs.Ytcemehocbemfmaa
open Go
attribute [local irreducible] G GO GR GT Fn FnV pt init exs pur sat own ImpS
/-- The least length of a body's words behind n; none: it has none. -/
def lenF (s : Nat → Int) : List SymD → Int → Option Int
  | [], n => some n
  | (true, _) :: r, n => lenF s r (min 65 (n + 1))
  | (false, k) :: r, n => if s k.toNat = -1 then none else lenF s r (min 65 (n + s k.toNat))
def Shorts (s : Nat → Int) (n : Nat) : Prop := ∀ i, i < n → -1 ≤ s i ∧ s i ≤ 65
def lenV : Option Int → Value
  | some m => .tuple [i64 m, .bool true].toArray
  | none => .tuple [i64 0, .bool false].toArray
theorem drop_at {α : Type} {l : List α} {k : Nat} {a : α} (h : l[k]? = some a) : l.drop k = a :: l.drop (k + 1) := by
  obtain ⟨hk, e⟩ := List.getElem?_eq_some_iff.1 h
  rw [List.drop_eq_getElem_cons hk, e]
set_option maxHeartbeats 4000000 in
set_option maxRecDepth 20000 in
theorem length_spec (q : HP) (v : Value) (ss : List SymD) (s : Nat → Int) (n bs : Nat) (hv : SymsR q v ss) (hs : ∀ x ∈ ss, symIn n x) (hn : ss.length ≤ 9223372036854775807) (hsh : Shorts s n) :
    Fn Try.prog 33 #[v, .slice (some ⟨bs, 0, none⟩) n n] [q, pt bs (row (numsV s n) 3)] (fun r Q => r = lenV (lenF s ss 0) ∧ Q = [q, pt bs (row (numsV s n) 3)]) := by
  obtain ⟨a, cap, rfl⟩ := hv.form
  refine Fn.mk Try.func33 rfl rfl fun w0 F => ?_
  (refine G.seq ?_; refine G.region ?_; refine GO.assign rfl rfl ?_; refine GO.assign rfl rfl ?_; refine GO.nil ?_; refine kthen_n ?_; refine G.seq ?_; refine G.region ?_; refine GO.assign rfl rfl ?_; refine GO.nil ?_; refine kthen_n ?_; refine G.seq ?_; refine G.seq ?_; refine G.region ?_; refine GO.move rfl rfl ?_; refine GO.lenS rfl rfl ?_; refine GO.move rfl rfl ?_; refine GO.nil ?_; refine kthen_n ?_; refine G.block ?_)
  refine G.loop2 (fun (k : Nat) (m : Int) => [(1, .slice (some ⟨bs, 0, none⟩) n n), (6, i64 m), (9, .slice a ss.length cap), (10, i64 ss.length), (11, i64 k)]) (fun _ _ => q :: pt bs (row (numsV s n) 3) :: F)
    (fun k m => k ≤ ss.length ∧ (0 ≤ m ∧ m ≤ 65) ∧ lenF s (ss.drop k) m = lenF s ss 0) (fun k _ => ss.length - k) 0 0 ⟨by omega, by omega, rfl⟩ ?_ ?_ ?_
  · (refine SubE.c rfl rfl ?_; refine SubE.c rfl rfl ?_; refine SubE.c rfl rfl ?_; refine SubE.c rfl rfl ?_; refine SubE.c rfl rfl ?_; exact SubE.n)
  · ((refine Sb.c Tk.h ?_; refine Sb.c Tk.h ?_); (exact Sb.r))
  rintro k m ⟨hk, hm, hF⟩
  (refine G.seq ?_; refine G.region ?_; refine GO.lti rfl rfl rfl ?_; refine GO.nil ?_; refine kthen_n ?_; refine G.seq ?_)
  refine G.condD rfl (fun hlt => ?_) (fun hge => ?_)
  · have hlt' : k < ss.length := by omega
    obtain ⟨⟨lb, i⟩, hx⟩ : ∃ x : SymD, ss[k]? = some x := ⟨ss[k], by simp [hlt']⟩
    have hin := hs _ (List.mem_of_getElem? hx)
    obtain ⟨b, o, rfl, _, r1, r2⟩ := hv.at hx
    dsimp only at r1 r2
    rw [drop_at hx] at hF
    (refine G.skip ?_; refine kthen_n ?_; refine G.seq ?_; refine G.block ?_; refine G.seq ?_; refine G.region ?_; refine GO.idxS rfl rfl rfl ⟨rfl, by omega⟩ ?_)
    refine GO.load2 (q := q) rfl rfl rfl Tk.h r1 r2 ?_
    refine GO.alloc rfl fun b8 => ?_
    refine GO.storeW rfl rfl Tk.h ⟨rfl, rfl⟩ (by simp [Value.oneCell']) ?_
    (refine GO.nil ?_; refine kthen_n ?_; refine G.seq ?_; refine G.block ?_; refine G.seq ?_; refine G.region ?_; refine GO.fieldAddr rfl rfl ?_; refine GO.load1 rfl rfl rfl Tk.h rfl ?_; refine GO.assign rfl rfl ?_; refine GO.nil ?_; refine kthen_n ?_)
    cases lb with
    | true =>
      have e1 : lenF s ((true, i) :: ss.drop (k + 1)) m = lenF s (ss.drop (k + 1)) (min 65 (m + 1)) := rfl
      rw [e1] at hF
      have hm2 : 0 ≤ min 65 (m + 1) ∧ min 65 (m + 1) ≤ 65 := by omega
      (refine G.condT rfl rfl ?_; refine G.region ?_; refine GO.move rfl rfl ?_; refine GO.addi rfl rfl rfl (by omega) ?_; refine GO.assign rfl rfl ?_; refine GO.nil ?_; refine kblock_n ?_; refine kthen_n ?_; refine G.region ?_; refine GO.move rfl rfl ?_)
      refine GO.min2 rfl rfl rfl ?_
      (refine GO.assign rfl rfl ?_; refine GO.nil ?_; refine kblock_n ?_; refine kthen_n ?_; refine G.region ?_; refine GO.addi rfl rfl rfl (by omega) ?_; refine GO.move rfl rfl ?_; refine GO.nil ?_; refine kthen_n ?_)
      refine ⟨k + 1, min 65 (m + 1), ⟨by omega, hm2, hF⟩, by omega, ?_, ?_⟩
      · (refine SubE.c rfl rfl ?_; refine SubE.c rfl rfl ?_; refine SubE.c rfl rfl ?_; refine SubE.c rfl rfl ?_; refine SubE.c rfl rfl ?_; exact SubE.n)
      · ((refine Sb.c (Tk.t Tk.h) ?_; refine Sb.c (Tk.t Tk.h) ?_); (refine Sb.s ?_; exact Sb.r))
    | false =>
      obtain ⟨h1, h2⟩ := hin rfl
      dsimp only at h1 h2
      obtain ⟨j, rfl⟩ := Int.eq_ofNat_of_zero_le h1
      have hjn : j < n := by omega
      have hsj := hsh j hjn
      have e1 : lenF s ((false, (j : Int)) :: ss.drop (k + 1)) m = if s j = -1 then none else lenF s (ss.drop (k + 1)) (min 65 (m + s j)) := rfl
      rw [e1] at hF
      (refine G.condF rfl rfl ?_; refine G.seq ?_; refine G.region ?_; refine GO.move rfl rfl ?_; refine GO.fieldAddr rfl rfl ?_; refine GO.load1 rfl rfl rfl Tk.h rfl ?_; refine GO.idxS rfl rfl rfl ⟨rfl, by omega⟩ ?_)
      refine GO.load1 rfl rfl rfl (by (exact (Tk.t (Tk.t Tk.h)))) (rowV_get1 hjn) ?_
      (refine GO.eqi rfl rfl rfl ?_; refine GO.assign rfl rfl ?_; refine GO.nil ?_; refine kthen_n ?_)
      refine G.condD rfl (fun he => ?_) (fun he => ?_)
      · rw [if_pos he] at hF
        (refine G.seq ?_; refine G.region ?_; refine GO.assign rfl rfl ?_; refine GO.assign rfl rfl ?_; refine GO.nil ?_; refine kthen_n ?_; refine G.ret ?_; refine kblock_r ?_; refine kthen_r ?_; refine kblock_r ?_; refine kthen_r ?_; refine kthen_r ?_; refine kblock_r ?_; refine kthen_r ?_)
        refine KF.r2 rfl (RV.t rfl) (RV.t rfl) ⟨by rw [← hF]; rfl, rfl⟩ ?_
        ((refine Sb.c (Tk.t Tk.h) ?_; refine Sb.c (Tk.t Tk.h) ?_); (refine Sb.s ?_; exact Sb.r))
      · rw [if_neg he] at hF
        have hm2 : 0 ≤ min 65 (m + s j) ∧ min 65 (m + s j) ≤ 65 := by omega
        (refine G.region ?_; refine GO.move rfl rfl ?_; refine GO.move rfl rfl ?_; refine GO.fieldAddr rfl rfl ?_; refine GO.load1 rfl rfl rfl Tk.h rfl ?_; refine GO.idxS rfl rfl rfl ⟨rfl, by omega⟩ ?_)
        refine GO.load1 rfl rfl rfl (by (exact (Tk.t (Tk.t Tk.h)))) (rowV_get1 hjn) ?_
        (refine GO.addi rfl rfl rfl (by omega) ?_; refine GO.assign rfl rfl ?_; refine GO.nil ?_; refine kblock_n ?_; refine kthen_n ?_; refine G.region ?_; refine GO.move rfl rfl ?_)
        refine GO.min2 rfl rfl rfl ?_
        (refine GO.assign rfl rfl ?_; refine GO.nil ?_; refine kblock_n ?_; refine kthen_n ?_; refine G.region ?_; refine GO.addi rfl rfl rfl (by omega) ?_; refine GO.move rfl rfl ?_; refine GO.nil ?_; refine kthen_n ?_)
        refine ⟨k + 1, min 65 (m + s j), ⟨by omega, hm2, hF⟩, by omega, ?_, ?_⟩
        · (refine SubE.c rfl rfl ?_; refine SubE.c rfl rfl ?_; refine SubE.c rfl rfl ?_; refine SubE.c rfl rfl ?_; refine SubE.c rfl rfl ?_; exact SubE.n)
        · ((refine Sb.c (Tk.t Tk.h) ?_; refine Sb.c (Tk.t Tk.h) ?_); (refine Sb.s ?_; exact Sb.r))
  · have : k = ss.length := by omega
    subst this
    rw [List.drop_length] at hF
    (refine G.exit ?_; refine G.seq ?_; refine G.region ?_; refine GO.move rfl rfl ?_; refine GO.assign rfl rfl ?_; refine GO.assign rfl rfl ?_; refine GO.nil ?_; refine kthen_n ?_; refine G.ret ?_)
    refine KF.r2 rfl (RV.t rfl) (RV.t rfl) ⟨by rw [← hF]; rfl, rfl⟩ ?_
    ((refine Sb.c Tk.h ?_; refine Sb.c Tk.h ?_); (exact Sb.r))
end Go.Proofs.Ytcemehocbemfmaa
namespace Go.Proofs.Ytcemehocbemfmaa
open Go
attribute [local irreducible] G GO GR GT Fn FnV pt init exs pur sat own ImpS
def shoStep (s : Nat → Int) (p : ProdD) : (Nat → Int) × Bool :=
  match lenF s p.2 0 with
  | none => (s, false)
  | some m => if s p.1.toNat ≠ -1 ∧ s p.1.toNat ≤ m then (s, false) else (upd s p.1.toNat m, true)
abbrev shoM (n bs b5 : Nat) (s : Nat → Int) : List HP := [pt b5 (row [.slice (some ⟨bs, 0, none⟩) n n] 30), pt bs (row (numsV s n) 3)]
theorem lenF_in {s : Nat → Int} {n : Nat} (hsh : Shorts s n) : ∀ {ss : List SymD} {m k : Int}, (∀ x ∈ ss, symIn n x) → 0 ≤ m ∧ m ≤ 65 → lenF s ss m = some k → 0 ≤ k ∧ k ≤ 65
  | [], m, k, _, hm, h => by simp [lenF] at h; omega
  | (true, i) :: r, m, k, hi, hm, h => lenF_in (m := min 65 (m + 1)) hsh (fun x hx => hi x (List.mem_cons_of_mem _ hx)) (by omega) h
  | (false, i) :: r, m, k, hi, hm, h => by
    simp only [lenF] at h
    split at h
    · cases h
    · rename_i hne
      have h1 := hi (false, i) (by simp) rfl
      dsimp only at h1
      have h2 := hsh i.toNat (by omega)
      exact lenF_in hsh (fun x hx => hi x (List.mem_cons_of_mem _ hx)) (by omega) h
theorem shoStep_in {s : Nat → Int} {n : Nat} {p : ProdD} (hsh : Shorts s n) (hp : prodIn n p) : Shorts (shoStep s p).1 n := by
  unfold shoStep
  cases h : lenF s p.2 0 with
  | none => exact hsh
  | some m =>
    simp only
    split
    · exact hsh
    · intro i hi
      have := lenF_in hsh hp.2 (by omega) h
      simp only [upd]
      split
      · omega
      · exact hsh i hi
set_option maxHeartbeats 4000000 in
set_option maxRecDepth 20000 in
theorem shop_spec (q : HP) (s : Nat → Int) (n bs b5 : Nat) (p : ProdD) (bv : Value) (hb : SymsR q bv p.2) (hp : prodIn n p) (hn : p.2.length ≤ 9223372036854775807) (hsh : Shorts s n) :
    Fn Try.prog 32 #[prodV p bv, .pointer (some ⟨b5, 0, none⟩)] (q :: shoM n bs b5 s) (fun r Q => r = .bool (shoStep s p).2 ∧ Q = q :: shoM n bs b5 (shoStep s p).1) := by
  obtain ⟨h, ss⟩ := p
  obtain ⟨⟨h1, h2⟩, hss⟩ := hp
  dsimp only at h1 h2
  obtain ⟨k, rfl⟩ := Int.eq_ofNat_of_zero_le h1
  have hkn : k < n := by omega
  obtain ⟨ab, capb, rfl⟩ := hb.form
  refine Fn.mk Try.func32 rfl rfl fun w0 F => ?_
  (refine G.seq ?_; refine G.region ?_)
  refine GO.box rfl rfl rfl fun b2 => ?_
  (refine GO.assign rfl rfl ?_; refine GO.nil ?_; refine kthen_n ?_; refine G.seq ?_; refine G.region ?_; refine GO.fieldAddr rfl rfl ?_; refine GO.load1 rfl rfl rfl Tk.h rfl ?_; refine GO.load1 rfl rfl rfl (Tk.t (Tk.t Tk.h)) rfl ?_)
  refine GO.call2 rfl rfl rfl (length_spec q _ ss s n bs hb hss hn hsh) (Tks.c (Tk.t Tk.h) (Tks.c (Tk.t (Tk.t Tk.h)) Tks.n)) ?_
  rintro _ _ ⟨rfl, rfl⟩
  cases hl : lenF s ss 0 with
  | none =>
    have e : shoStep s ((k : Int), ss) = (s, false) := by unfold shoStep; simp only [hl]
    rw [e]
    unfold lenV
    (refine GO.move rfl rfl ?_; refine GO.extract rfl rfl rfl ?_; refine GO.extract rfl rfl rfl ?_; refine GO.assign rfl rfl ?_; refine GO.assign rfl rfl ?_; refine GO.nil ?_; refine kthen_n ?_; refine G.seq ?_; refine G.seq ?_; refine G.region ?_; refine GO.move rfl rfl ?_; refine GO.not rfl rfl ?_; refine GO.move rfl rfl ?_; refine GO.gF rfl rfl rfl rfl ?_; refine GO.gF rfl rfl rfl rfl ?_; refine GO.gF rfl rfl rfl rfl ?_; refine GO.gF rfl rfl rfl rfl ?_; refine GO.gF rfl rfl rfl rfl ?_; refine GO.gF rfl rfl rfl rfl ?_; refine GO.gF rfl rfl rfl rfl ?_; refine GO.gU rfl rfl rfl ?_; refine GO.gU rfl rfl rfl ?_; refine GO.gU rfl rfl rfl ?_; refine GO.gU rfl rfl rfl ?_; refine GO.gU rfl rfl rfl ?_; refine GO.gU rfl rfl rfl ?_; refine GO.gU rfl rfl rfl ?_; refine GO.gF rfl rfl rfl rfl ?_; refine GO.pickT rfl rfl rfl ?_; refine GO.nil ?_; refine kthen_n ?_; refine G.condT rfl rfl ?_; refine G.seq ?_; refine G.region ?_; refine GO.assign rfl rfl ?_; refine GO.nil ?_; refine kthen_n ?_; refine G.ret ?_; refine kthen_r ?_)
    refine KF.r1 rfl (RV.t rfl) ⟨rfl, rfl⟩ ?_
    ((refine Sb.c Tk.h ?_; refine Sb.c (Tk.t (Tk.t Tk.h)) ?_; refine Sb.c Tk.h ?_); (refine Sb.s ?_; exact Sb.r))
  | some m =>
    have hm := lenF_in hsh hss (by omega) hl
    unfold lenV
    (refine GO.move rfl rfl ?_; refine GO.extract rfl rfl rfl ?_; refine GO.extract rfl rfl rfl ?_; refine GO.assign rfl rfl ?_; refine GO.assign rfl rfl ?_; refine GO.nil ?_; refine kthen_n ?_; refine G.seq ?_; refine G.seq ?_; refine G.region ?_; refine GO.move rfl rfl ?_; refine GO.not rfl rfl ?_; refine GO.move rfl rfl ?_; refine GO.gT rfl rfl rfl ?_; refine GO.load1 rfl rfl rfl (Tk.t (Tk.t (Tk.t Tk.h))) rfl ?_; refine GO.gT rfl rfl rfl ?_; refine GO.fieldAddr rfl rfl ?_; refine GO.gT rfl rfl rfl ?_; refine GO.load1 rfl rfl rfl (Tk.t (Tk.t Tk.h)) rfl ?_; refine GO.gT rfl rfl rfl ?_; refine GO.idxS rfl rfl rfl ⟨rfl, by omega⟩ ?_; refine GO.gT rfl rfl rfl ?_)
    refine GO.load1 rfl rfl rfl (by (exact (Tk.t Tk.h))) (rowV_get1 hkn) ?_
    (refine GO.gT rfl rfl rfl ?_; refine GO.nei rfl rfl rfl ?_; refine GO.gT rfl rfl rfl ?_; refine GO.move rfl rfl ?_)
    by_cases hs1 : s k = -1
    · have e : shoStep s ((k : Int), ss) = (upd s k m, true) := by unfold shoStep; simp [hl, hs1]
      have ed : decide (s k ≠ -1) = false := by simp [hs1]
      rw [e, ed]
      (refine GO.gF rfl rfl rfl rfl ?_; refine GO.gF rfl rfl rfl rfl ?_; refine GO.gF rfl rfl rfl rfl ?_; refine GO.gF rfl rfl rfl rfl ?_; refine GO.gF rfl rfl rfl rfl ?_; refine GO.gF rfl rfl rfl rfl ?_; refine GO.gF rfl rfl rfl rfl ?_; refine GO.gT rfl rfl rfl ?_; refine GO.pickF rfl rfl rfl ?_; refine GO.pickF rfl rfl rfl ?_; refine GO.nil ?_; refine kthen_n ?_; refine G.condF rfl rfl ?_; refine G.skip ?_; refine kthen_n ?_; refine G.seq ?_; refine G.region ?_; refine GO.load1 rfl rfl rfl (Tk.t (Tk.t (Tk.t Tk.h))) rfl ?_; refine GO.fieldAddr rfl rfl ?_; refine GO.load1 rfl rfl rfl (Tk.t (Tk.t Tk.h)) rfl ?_; refine GO.move rfl rfl ?_; refine GO.idxS rfl rfl rfl ⟨rfl, by omega⟩ ?_)
      refine GO.store1 rfl rfl rfl (by (exact (Tk.t Tk.h))) (by rw [rowV_len]; omega) ?_
      rw [rowV_set]
      (refine GO.nil ?_; refine kthen_n ?_; refine G.seq ?_; refine G.region ?_; refine GO.assign rfl rfl ?_; refine GO.nil ?_; refine kthen_n ?_; refine G.ret ?_)
      refine KF.r1 rfl (RV.t rfl) ⟨rfl, rfl⟩ ?_
      ((refine Sb.c (Tk.t Tk.h) ?_; refine Sb.c (Tk.t (Tk.t Tk.h)) ?_; refine Sb.c Tk.h ?_); (refine Sb.s ?_; exact Sb.r))
    · have ed : decide (s k ≠ -1) = true := by simp [hs1]
      rw [ed]
      (refine GO.gT rfl rfl rfl ?_; refine GO.load1 rfl rfl rfl (Tk.t (Tk.t (Tk.t Tk.h))) rfl ?_; refine GO.gT rfl rfl rfl ?_; refine GO.fieldAddr rfl rfl ?_; refine GO.gT rfl rfl rfl ?_; refine GO.load1 rfl rfl rfl (Tk.t (Tk.t Tk.h)) rfl ?_; refine GO.gT rfl rfl rfl ?_; refine GO.idxS rfl rfl rfl ⟨rfl, by omega⟩ ?_; refine GO.gT rfl rfl rfl ?_)
      refine GO.load1 rfl rfl rfl (by (exact (Tk.t Tk.h))) (rowV_get1 hkn) ?_
      (refine GO.gT rfl rfl rfl ?_; refine GO.move rfl rfl ?_; refine GO.gT rfl rfl rfl ?_; refine GO.lei rfl rfl rfl ?_; refine GO.gT rfl rfl rfl ?_; refine GO.pickT rfl rfl rfl ?_; refine GO.pickF rfl rfl rfl ?_; refine GO.nil ?_; refine kthen_n ?_)
      refine G.condD rfl (fun hle => ?_) (fun hle => ?_)
      · have e : shoStep s ((k : Int), ss) = (s, false) := by unfold shoStep; simp [hl, hs1, hle]
        rw [e]
        (refine G.seq ?_; refine G.region ?_; refine GO.assign rfl rfl ?_; refine GO.nil ?_; refine kthen_n ?_; refine G.ret ?_; refine kthen_r ?_)
        refine KF.r1 rfl (RV.t rfl) ⟨rfl, rfl⟩ ?_
        ((refine Sb.c Tk.h ?_; refine Sb.c (Tk.t (Tk.t Tk.h)) ?_; refine Sb.c Tk.h ?_); (refine Sb.s ?_; exact Sb.r))
      · have e : shoStep s ((k : Int), ss) = (upd s k m, true) := by unfold shoStep; simp [hl, hle]
        rw [e]
        (refine G.skip ?_; refine kthen_n ?_; refine G.seq ?_; refine G.region ?_; refine GO.load1 rfl rfl rfl (Tk.t (Tk.t (Tk.t Tk.h))) rfl ?_; refine GO.fieldAddr rfl rfl ?_; refine GO.load1 rfl rfl rfl (Tk.t (Tk.t Tk.h)) rfl ?_; refine GO.move rfl rfl ?_; refine GO.idxS rfl rfl rfl ⟨rfl, by omega⟩ ?_)
        refine GO.store1 rfl rfl rfl (by (exact (Tk.t Tk.h))) (by rw [rowV_len]; omega) ?_
        rw [rowV_set]
        (refine GO.nil ?_; refine kthen_n ?_; refine G.seq ?_; refine G.region ?_; refine GO.assign rfl rfl ?_; refine GO.nil ?_; refine kthen_n ?_; refine G.ret ?_)
        refine KF.r1 rfl (RV.t rfl) ⟨rfl, rfl⟩ ?_
        ((refine Sb.c (Tk.t Tk.h) ?_; refine Sb.c (Tk.t (Tk.t Tk.h)) ?_; refine Sb.c Tk.h ?_); (refine Sb.s ?_; exact Sb.r))
end Go.Proofs.Ytcemehocbemfmaa
namespace Go.Proofs.Ytcemehocbemfmaa
open Go
attribute [local irreducible] G GO GR GT Fn FnV pt init exs pur sat own ImpS
instance : OfU 4294967295 4294967295#64 := ⟨rfl⟩
theorem small_mask {y : BitVec 64} (h : y.toNat < 4294967296) : y &&& 4294967295#64 = y := by
  apply BitVec.eq_of_toNat_eq
  rw [BitVec.toNat_and]
  show y.toNat &&& (2 ^ 32 - 1) = _
  rw [Nat.and_two_pow_sub_one_eq_mod, Nat.mod_eq_of_lt (by omega)]
theorem small_shr {y : BitVec 64} (h : y.toNat < 4294967296) : y >>> 32 = 0#64 := by
  apply BitVec.eq_of_toNat_eq
  rw [BitVec.toNat_ushiftRight, Nat.shiftRight_eq_div_pow]
  show y.toNat / 4294967296 = 0
  exact Nat.div_eq_of_lt h
theorem mul64_one (y : BitVec 64) (h : y.toNat < 4294967296) : Fn Try.prog 58 #[u64 1#64, u64 y] [] (fun r Q => r = .tuple [u64 0#64, u64 y].toArray ∧ Q = []) := by
  refine Fn.mk Try.func58 rfl rfl fun w0 F => ?_
  have hm := small_mask h
  have hs := small_shr h
  have m1 : 1#64 &&& 4294967295#64 = 1#64 := rfl
  have m0 : 0#64 &&& 4294967295#64 = 0#64 := rfl
  have s1 : 1#64 >>> 32 = 0#64 := rfl
  have s0 : 0#64 >>> 32 = 0#64 := rfl
  (refine G.seq ?_; refine G.region ?_; refine GO.assign rfl rfl ?_; refine GO.assign rfl rfl ?_; refine GO.nil ?_; refine kthen_n ?_; refine G.seq ?_; refine G.region ?_; refine GO.move rfl rfl ?_; refine GO.andu rfl rfl rfl ?_; refine GO.assign rfl rfl ?_; refine GO.nil ?_; refine kthen_n ?_; refine G.seq ?_; refine G.region ?_; refine GO.move rfl rfl ?_; refine GO.shru rfl rfl rfl ?_; refine GO.assign rfl rfl ?_; refine GO.nil ?_; refine kthen_n ?_; refine G.seq ?_; refine G.region ?_; refine GO.move rfl rfl ?_; refine GO.andu rfl rfl rfl ?_; refine GO.assign rfl rfl ?_; refine GO.nil ?_; refine kthen_n ?_; refine G.seq ?_; refine G.region ?_; refine GO.move rfl rfl ?_; refine GO.shru rfl rfl rfl ?_; refine GO.assign rfl rfl ?_; refine GO.nil ?_; refine kthen_n ?_; refine G.seq ?_; refine G.region ?_; refine GO.move rfl rfl ?_; refine GO.move rfl rfl ?_; refine GO.mulu rfl rfl rfl ?_; refine GO.assign rfl rfl ?_; refine GO.nil ?_; refine kthen_n ?_; refine G.seq ?_; refine G.region ?_; refine GO.move rfl rfl ?_; refine GO.move rfl rfl ?_; refine GO.mulu rfl rfl rfl ?_; refine GO.move rfl rfl ?_; refine GO.shru rfl rfl rfl ?_; refine GO.addu rfl rfl rfl ?_; refine GO.assign rfl rfl ?_; refine GO.nil ?_; refine kthen_n ?_; refine G.seq ?_; refine G.region ?_; refine GO.move rfl rfl ?_; refine GO.andu rfl rfl rfl ?_; refine GO.assign rfl rfl ?_; refine GO.nil ?_; refine kthen_n ?_; refine G.seq ?_; refine G.region ?_; refine GO.move rfl rfl ?_; refine GO.shru rfl rfl rfl ?_; refine GO.assign rfl rfl ?_; refine GO.nil ?_; refine kthen_n ?_; refine G.seq ?_; refine G.region ?_; refine GO.move rfl rfl ?_; refine GO.move rfl rfl ?_; refine GO.move rfl rfl ?_; refine GO.mulu rfl rfl rfl ?_; refine GO.addu rfl rfl rfl ?_; refine GO.assign rfl rfl ?_; refine GO.nil ?_; refine kthen_n ?_; refine G.seq ?_; refine G.region ?_; refine GO.move rfl rfl ?_; refine GO.move rfl rfl ?_; refine GO.mulu rfl rfl rfl ?_; refine GO.move rfl rfl ?_; refine GO.addu rfl rfl rfl ?_; refine GO.move rfl rfl ?_; refine GO.shru rfl rfl rfl ?_; refine GO.addu rfl rfl rfl ?_; refine GO.assign rfl rfl ?_; refine GO.nil ?_; refine kthen_n ?_; refine G.seq ?_; refine G.region ?_; refine GO.move rfl rfl ?_; refine GO.move rfl rfl ?_; refine GO.mulu rfl rfl rfl ?_; refine GO.assign rfl rfl ?_; refine GO.nil ?_; refine kthen_n ?_; refine G.ret ?_)
  refine KF.r2 rfl (RV.t rfl) (RV.t rfl) ⟨?_, rfl⟩ ?_
  · have e1 : (1#64 * y) = y := BitVec.one_mul y
    simp only [hm, hs, m1, s1, e1, BitVec.zero_mul, BitVec.mul_zero, BitVec.zero_add, BitVec.add_zero, m0, s0]
  · (skip; (exact Sb.r))
theorem nat_u64 {n : Nat} (h : n < 4294967296) : u64 (BitVec.ofNat 64 n) = .int .u64 (n : Int) := by
  have : (BitVec.ofNat 64 n).toNat = n := by rw [BitVec.toNat_ofNat]; exact Nat.mod_eq_of_lt (by omega)
  show Value.int .u64 ((BitVec.ofNat 64 n).toNat : Int) = _
  rw [this]
theorem mul_one_spec (n : Nat) (h : n < 4294967296) : Fn Try.prog 48 #[.int .u64 1, .int .u64 (n : Int)] [] (fun r Q => r = .tuple [.int .u64 0, .int .u64 (n : Int)].toArray ∧ Q = []) := by
  have hsp := mul64_one (BitVec.ofNat 64 n) (by rw [BitVec.toNat_ofNat]; rw [Nat.mod_eq_of_lt (by omega)]; exact h)
  rw [nat_u64 h] at hsp
  refine Fn.mk Try.func48 rfl rfl fun w0 F => ?_
  (refine G.seq ?_; refine G.region ?_; refine GO.assign rfl rfl ?_; refine GO.assign rfl rfl ?_; refine GO.nil ?_; refine kthen_n ?_; refine G.seq ?_; refine G.condF rfl rfl ?_; refine G.skip ?_; refine kthen_n ?_; refine G.seq ?_; refine G.region ?_; refine GO.move rfl rfl ?_; refine GO.move rfl rfl ?_)
  refine GO.call2 rfl rfl rfl hsp Tks.n ?_
  rintro _ _ ⟨rfl, rfl⟩
  (refine GO.move rfl rfl ?_; refine GO.extract rfl rfl rfl ?_; refine GO.extract rfl rfl rfl ?_; refine GO.assign rfl rfl ?_; refine GO.assign rfl rfl ?_; refine GO.nil ?_; refine kthen_n ?_; refine G.seq ?_; refine G.region ?_; refine GO.move rfl rfl ?_; refine GO.move rfl rfl ?_; refine GO.assign rfl rfl ?_; refine GO.assign rfl rfl ?_; refine GO.nil ?_; refine kthen_n ?_; refine G.ret ?_)
  refine KF.r2 rfl (RV.t rfl) (RV.t rfl) ⟨rfl, rfl⟩ ?_
  (skip; (exact Sb.r))
def repV (x : Int) (n m : Nat) : List Value := List.replicate m (i64 x) ++ List.replicate (n - m) (i64 0)
theorem repV_len {x : Int} {n m : Nat} (h : m ≤ n) : (repV x n m).length = n := by simp [repV]; omega
theorem repV_copy {x : Int} {n m k : Nat} (h : m + k ≤ n) (hk : k ≤ m) : (repV x n m).take m ++ List.replicate k (i64 x) ++ (repV x n m).drop (m + k) = repV x n (m + k) := by
  unfold repV
  rw [List.take_left' (by simp), List.drop_append, List.drop_of_length_le (by simp)]
  simp only [List.length_replicate, List.nil_append, List.drop_replicate, List.append_assoc]
  rw [← List.append_assoc, List.replicate_append_replicate]
  congr 2; omega
theorem repV_get {x : Int} {n m j : Nat} (h : j < m) : (repV x n m)[j]? = some (i64 x) := by
  unfold repV; rw [List.getElem?_append_left (by simpa using h), List.getElem?_replicate]; simp [h]
set_option maxHeartbeats 4000000 in
set_option maxRecDepth 20000 in
theorem repeat_spec (x : Int) (n bx : Nat) (h : 1 ≤ n ∧ n ≤ 1048576) : Fn Try.prog 30 #[.slice (some ⟨bx, 0, none⟩) 1 1, i64 n] [pt bx (row [i64 x] 3)]
    (fun r Q => ∃ b, r = .slice (some ⟨b, 0, none⟩) n n ∧ Q = [pt b (row (List.replicate n (i64 x)) 3)]) := by
  refine Fn.mk Try.func30 rfl rfl fun w0 F => ?_
  (refine G.seq ?_; refine G.region ?_; refine GO.assign rfl rfl ?_; refine GO.nil ?_; refine kthen_n ?_; refine G.seq ?_; refine G.seq ?_; refine G.region ?_; refine GO.move rfl rfl ?_; refine GO.lti rfl rfl rfl ?_; refine GO.nil ?_; refine kthen_n ?_; refine G.condF rfl rfl ?_; refine G.skip ?_; refine kthen_n ?_; refine G.seq ?_; refine G.region ?_; refine GO.move rfl rfl ?_; refine GO.lenS rfl rfl ?_)
  refine GO.conv rfl rfl (by rw [wrap_u64]; rfl) ?_
  (refine GO.move rfl rfl ?_)
  refine GO.conv rfl rfl (by rw [wrap_u64]; omega) ?_
  refine GO.call2 rfl rfl rfl (mul_one_spec n (by omega)) Tks.n ?_
  rintro _ _ ⟨rfl, rfl⟩
  (refine GO.move rfl rfl ?_; refine GO.extract rfl rfl rfl ?_; refine GO.extract rfl rfl rfl ?_; refine GO.assign rfl rfl ?_; refine GO.assign rfl rfl ?_; refine GO.nil ?_; refine kthen_n ?_; refine G.seq ?_; refine G.seq ?_; refine G.region ?_; refine GO.move rfl rfl ?_; refine GO.gti rfl rfl rfl ?_; refine GO.move rfl rfl ?_; refine GO.gT rfl rfl rfl ?_; refine GO.move rfl rfl ?_; refine GO.gT rfl rfl rfl ?_; refine GO.gti rfl rfl rfl ?_; refine GO.pickF rfl rfl rfl ?_; refine GO.nil ?_; refine kthen_n ?_)
  refine G.condD rfl (fun hlt => ?_) (fun _ => ?_)
  · exfalso; omega
  (refine G.skip ?_; refine kthen_n ?_; refine G.seq ?_; refine G.region ?_; refine GO.move rfl rfl ?_)
  refine GO.conv rfl rfl (IntWalk.i64_in _ (by omega)) ?_
  refine GO.make1 (n := n) rfl rfl rfl ⟨rfl, rfl⟩ ⟨by omega, by omega⟩ fun b => ?_
  (refine GO.assign rfl rfl ?_; refine GO.nil ?_; refine kthen_n ?_; refine G.seq ?_; refine G.region ?_; refine GO.move rfl rfl ?_; refine GO.move rfl rfl ?_)
  refine GO.copy1 (cs := [i64 x]) (q := pt bx (row [i64 x] 3)) rfl rfl rfl Tk.h (Tk.t Tk.h) (by simp; omega) (fun j u hj => by rw [Nat.zero_add]; exact Rd.row hj) (by simp; omega) (by simp [Value.oneCell']) ?_
  have e0 : (List.replicate n (i64 0)).take 0 ++ [i64 x] ++ (List.replicate n (i64 0)).drop (0 + [i64 x].length) = repV x n 1 := by
    simp [repV]
  rw [e0]
  (refine GO.assign rfl rfl ?_; refine GO.nil ?_; refine kthen_n ?_; refine G.seq ?_; refine G.block ?_)
  refine G.loop (fun m : Nat => [(7, .slice (some ⟨b, 0, none⟩) n n), (8, i64 m)]) (fun m => pt b (row (repV x n m) 3) :: F) (fun m => 1 ≤ m ∧ m ≤ n) (fun m => n - m) 1 ⟨by omega, h.1⟩ ?_ ?_ ?_
  · (refine SubE.c rfl rfl ?_; refine SubE.c rfl rfl ?_; exact SubE.n)
  · ((refine Sb.c Tk.h ?_); (refine Sb.s ?_; exact Sb.r))
  rintro m ⟨hm1, hm2⟩
  (refine G.seq ?_; refine G.seq ?_; refine G.region ?_; refine GO.move rfl rfl ?_; refine GO.move rfl rfl ?_; refine GO.lenS rfl rfl ?_; refine GO.lti rfl rfl rfl ?_; refine GO.nil ?_; refine kthen_n ?_)
  refine G.condD rfl (fun hlt => ?_) (fun hge => ?_)
  · have hmn : m < n := by omega
    (refine G.skip ?_; refine kthen_n ?_; refine G.block ?_)
    refine G.drawT 9 384 [] (pt b (row (repV x n m) 3) :: F) (by kernel_rfl) (keys_of rfl) (ImpS.sb (by ((refine Sb.c Tk.h ?_); (exact Sb.r)))) ?_
    ((apply GR.step rfl; focus (intro Z; refine GO.move rfl rfl ?_; exact KQ.z)); (apply GR.step rfl; focus (intro Z; refine GO.move rfl rfl ?_; exact KQ.z)); (apply GR.step rfl; focus (intro Z; refine GO.move rfl rfl ?_; exact KQ.z)))
    apply GR.step rfl; focus (intro Z; refine GO.sliceLo (l := m) rfl rfl rfl ⟨rfl, by omega, by omega⟩ ?_; exact KQ.z)
    ((apply GR.step rfl; focus (intro Z; refine GO.move rfl rfl ?_; exact KQ.z)); (apply GR.step rfl; focus (intro Z; refine GO.move rfl rfl ?_; exact KQ.z)))
    apply GR.step rfl; focus (intro Z; refine GO.sliceHi (l := m) rfl rfl rfl ⟨rfl, by omega⟩ ?_; exact KQ.z)
    skip
    (repeat refine GR.skip rfl ?_)
    refine GR.nil ?_
    (repeat refine GT.skip rfl ?_)
    refine GT.step rfl ?_
    refine GO.copy1 (cs := List.replicate (min m (n - m)) (i64 x)) (q := pt b (row (repV x n m) 3)) rfl rfl rfl Tk.h Tk.h (by simp) (fun j u hj => ?_) (by simp [repV]; omega) (by intro u hu; rw [List.eq_of_mem_replicate hu]; rfl) ?_
    · rw [List.getElem?_replicate] at hj
      split at hj
      · rename_i hjm
        simp only [Option.some.injEq] at hj
        subst hj
        rw [Nat.zero_add]
        exact Rd.row (repV_get (by omega))
      · cases hj
    simp only [List.length_replicate, Nat.zero_add, Nat.mul_one]
    rw [repV_copy (by omega) (by omega)]
    refine GO.nil ⟨rfl, _, pt b (row (repV x n (m + min m (n - m))) 3) :: F, rfl, ImpS.sb (by ((refine Sb.c Tk.h ?_); (exact Sb.r))), ?_⟩
    refine GT.step rfl ?_
    refine GO.addi rfl rfl rfl (by omega) ?_
    refine GO.nil ⟨rfl, _, pt b (row (repV x n (m + min m (n - m))) 3) :: F, rfl, ImpS.sb (by ((refine Sb.c Tk.h ?_); (exact Sb.r))), ?_⟩
    refine GT.nil ?_
    (refine GO.assign rfl rfl ?_; refine GO.nil ?_; refine kblock_n ?_; refine kthen_n ?_)
    refine ⟨m + min m (n - m), ⟨by omega, by omega⟩, by omega, ?_, ?_⟩
    · (refine SubE.c rfl rfl ?_; refine SubE.c rfl rfl ?_; exact SubE.n)
    · ((refine Sb.c Tk.h ?_); (exact Sb.r))
  · have : m = n := by omega
    subst this
    (refine G.exit ?_; refine G.seq ?_; refine G.region ?_; refine GO.move rfl rfl ?_; refine GO.assign rfl rfl ?_; refine GO.nil ?_; refine kthen_n ?_; refine G.ret ?_)
    have e1 : repV x m m = List.replicate m (i64 x) := by simp [repV]
    rw [e1]
    refine KF.r1 rfl (RV.t rfl) ⟨b, rfl, rfl⟩ ?_
    ((refine Sb.c Tk.h ?_); (exact Sb.r))
end Go.Proofs.Ytcemehocbemfmaa
namespace Go.Proofs.Ytcemehocbemfmaa
open Go
attribute [local irreducible] G GO GR GT Fn FnV pt init exs pur sat own ImpS
/-- How far all numbers are from the least. -/
def wt (s : Nat → Int) : Nat → Nat
  | 0 => 0
  | n + 1 => wt s n + (if s n = -1 then 66 else (s n).toNat)
theorem wt_upd {s : Nat → Int} {k : Nat} {m : Int} (h : (if m = -1 then 66 else m.toNat) < (if s k = -1 then 66 else (s k).toNat)) : ∀ n, k < n → wt (upd s k m) n < wt s n
  | 0, hk => by omega
  | n + 1, hk => by
    have le : ∀ n, wt (upd s k m) n ≤ wt s n := by
      intro n
      induction n with
      | zero => exact Nat.le_refl _
      | succ n ih =>
        simp only [wt]
        by_cases e : n = k
        · subst e; rw [upd_at]; omega
        · rw [upd_ne _ _ e]; omega
    simp only [wt]
    by_cases e : n = k
    · subst e; rw [upd_at]; have := le n; omega
    · rw [upd_ne _ _ e]; have := wt_upd h n (by omega); omega
theorem shoStep_dn {s : Nat → Int} {n : Nat} {p : ProdD} (hsh : Shorts s n) (hp : prodIn n p) (h : (shoStep s p).2 = true) : wt (shoStep s p).1 n < wt s n := by
  unfold shoStep at h ⊢
  cases hl : lenF s p.2 0 with
  | none => simp [hl] at h
  | some m =>
    simp only [hl] at h ⊢
    split at h
    · cases h
    · rename_i hc
      rw [if_neg hc]
      have hm := lenF_in hsh hp.2 (by omega) hl
      have hk : p.1.toNat < n := by have := hp.1; omega
      refine wt_upd ?_ n hk
      have hs := hsh p.1.toNat hk
      have : ¬ m = -1 := by omega
      rw [if_neg this]
      split
      · omega
      · rename_i h1
        have : ¬ s p.1.toNat ≤ m := fun hle => hc ⟨h1, hle⟩
        omega
theorem shoStep_st (s : Nat → Int) (p : ProdD) (h : (shoStep s p).2 = false) : (shoStep s p).1 = s := by
  unfold shoStep at h ⊢
  cases hl : lenF s p.2 0 with
  | none => rfl
  | some m =>
    simp only [hl] at h ⊢
    split at h
    · rename_i hc; rw [if_pos hc]
    · cases h
/-- What Shortest answers. -/
def ShoR (C : CnfD) (q : HP) (r : Value) (Q : List HP) : Prop :=
  (okC C = true ∧ ∃ b s, r = .tuple [.slice (some ⟨b, 0, none⟩) C.nts.toNat C.nts.toNat, i64 0].toArray ∧ Reach shoStep C.prods (fun _ => -1) s ∧ (∀ p ∈ C.prods, (shoStep s p).2 = false) ∧ Q = [pt b (row (numsV s C.nts.toNat) 3), q]) ∨
  (okC C = false ∧ r = .tuple [.slice none 0 0, i64 220].toArray ∧ Q = [q])
set_option maxHeartbeats 4000000 in
set_option maxRecDepth 20000 in
theorem shortest_spec (q : HP) (v : Value) (C : CnfD) (hv : CnfR q v C) (hz : Fits C) : Fn Try.prog 12 #[v] [q] (ShoR C q) := by
  have hv0 := hv
  obtain ⟨pv, rfl, hp⟩ := hv
  obtain ⟨a0, cap0, rfl⟩ := hp.form
  refine Fn.mk Try.func12 rfl rfl fun w0 F => ?_
  (refine G.seq ?_; refine G.region ?_)
  refine GO.box rfl rfl rfl fun b1 => ?_
  (refine GO.assign rfl rfl ?_; refine GO.assign rfl rfl ?_; refine GO.nil ?_; refine kthen_n ?_; refine G.seq ?_; refine G.seq ?_; refine G.region ?_)
  refine GO.loadW rfl rfl rfl Tk.h rfl ?_
  refine GO.call1 rfl rfl (check_spec q _ C hv0 hz) (Tks.c (Tk.t Tk.h) Tks.n) ?_
  rintro _ _ ⟨rfl, rfl⟩
  cases hok : okC C with
  | false =>
    have hcv : (if false = true then (0 : Int) else 220) = 220 := rfl
    rw [hcv]
    (refine GO.assign rfl rfl ?_; refine GO.nil ?_; refine kthen_n ?_; refine G.seq ?_; refine G.region ?_; refine GO.move rfl rfl ?_; refine GO.nei rfl rfl rfl ?_; refine GO.nil ?_; refine kthen_n ?_; refine G.condT rfl rfl ?_; refine G.seq ?_; refine G.region ?_; refine GO.move rfl rfl ?_; refine GO.assign rfl rfl ?_; refine GO.assign rfl rfl ?_; refine GO.nil ?_; refine kthen_n ?_; refine G.ret ?_; refine kthen_r ?_)
    refine KF.r2 rfl (RV.t rfl) (RV.t rfl) (.inr ⟨hok, rfl, rfl⟩) ?_
    ((refine Sb.c Tk.h ?_); (refine Sb.s ?_; exact Sb.r))
  | true =>
    have hcv : (if true = true then (0 : Int) else 220) = 0 := rfl
    rw [hcv]
    obtain ⟨⟨hn1, hn2⟩, hin⟩ := okC_in hok
    obtain ⟨n, hn⟩ := Int.eq_ofNat_of_zero_le (show 0 ≤ C.nts by omega)
    have hnn : C.nts.toNat = n := by omega
    have hrep := fun bx => repeat_spec (-1) n bx ⟨by omega, by omega⟩
    rw [← hn] at hrep
    (refine GO.assign rfl rfl ?_; refine GO.nil ?_; refine kthen_n ?_; refine G.seq ?_; refine G.region ?_; refine GO.move rfl rfl ?_; refine GO.neF rfl rfl rfl rfl ?_; refine GO.nil ?_; refine kthen_n ?_; refine G.condF rfl rfl ?_; refine G.skip ?_; refine kthen_n ?_; refine G.seq ?_; refine G.region ?_)
    refine GO.buildSlice1 rfl rfl (by simp; rfl) rfl ⟨by omega, by omega⟩ fun bx => ?_
    (refine GO.fieldAddr rfl rfl ?_; refine GO.load1 rfl rfl rfl (Tk.t (Tk.t Tk.h)) rfl ?_)
    refine GO.call2 rfl rfl rfl (hrep bx) (Tks.c Tk.h Tks.n) ?_
    rintro _ _ ⟨bo, rfl, rfl⟩
    rw [rowV_const (f := i64)]
    refine GO.alloc rfl fun b5 => ?_
    refine GO.store1 rfl rfl rfl Tk.h (by decide) ?_
    (refine GO.nil ?_; refine kthen_n ?_; refine G.seq ?_; refine G.region ?_)
    refine GO.loadW rfl rfl rfl (Tk.t (Tk.t (Tk.t Tk.h))) rfl ?_
    refine GO.makeFunc1 rfl rfl ?_
    refine GO.call2 rfl rfl rfl (grow_spec q _ _ C hv0 hz (shoM n bo b5) (fun s => Shorts s n) shoStep (fun s => wt s n)
      (fun s p hI hpm bv hb => FnV.of (caps := [.pointer (some ⟨b5, 0, none⟩)]) (shop_spec q s n bo b5 p bv hb (by have := hin p hpm; rw [hn] at this; exact this) (by have := hz.2 p hpm; omega) hI))
      (fun s p hI hpm => shoStep_in hI (by have := hin p hpm; rw [hn] at this; exact this)) (fun s p hI hpm h => shoStep_dn hI (by have := hin p hpm; rw [hn] at this; exact this) h) (fun s p h => shoStep_st s p h) (fun _ => -1) (fun i _ => by show (-1 : Int) ≤ -1 ∧ (-1 : Int) ≤ 65; decide))
      (Tks.c (Tk.t (Tk.t Tk.h)) (Tks.c Tk.h (Tks.c Tk.h Tks.n))) ?_
    rintro _ _ ⟨s, _, hR, hst, rfl⟩
    (refine GO.nil ?_; refine kthen_n ?_; refine G.seq ?_; refine G.region ?_; refine GO.load1 rfl rfl rfl (Tk.t Tk.h) rfl ?_; refine GO.assign rfl rfl ?_; refine GO.assign rfl rfl ?_; refine GO.nil ?_; refine kthen_n ?_; refine G.ret ?_)
    refine KF.r2 rfl (RV.t rfl) (RV.t rfl) (.inl ⟨hok, bo, s, by rw [hnn], hR, hst, rfl⟩) ?_
    rw [hnn]
    ((refine Sb.c (Tk.t (Tk.t Tk.h)) ?_; refine Sb.c Tk.h ?_); (refine Sb.s ?_; refine Sb.s ?_; exact Sb.r))
end Go.Proofs.Ytcemehocbemfmaa
namespace Go.Proofs.Ytcemehocbemfmaa
open Go
attribute [local irreducible] G GO GR GT Fn FnV pt init exs pur sat own ImpS
set_option maxHeartbeats 4000000 in
set_option maxRecDepth 20000 in
theorem rlong_spec (q : HP) (v : Value) (ss : List SymD) (s : Nat → Int) (n bs : Nat) (hv : SymsR q v ss) (hs : ∀ x ∈ ss, symIn n x) (hn : ss.length ≤ 9223372036854775806) (hsh : Shorts s n) :
    Fn Try.prog 20 #[v, .slice (some ⟨bs, 0, none⟩) n n] [q, pt bs (row (numsV s n) 3)] (fun r Q => r = i64 ((lenF s ss 0).getD (-1)) ∧ Q = [q, pt bs (row (numsV s n) 3)]) := by
  obtain ⟨a, cap, rfl⟩ := hv.form
  refine Fn.mk Try.func20 rfl rfl fun w0 F => ?_
  (refine G.seq ?_; refine G.region ?_; refine GO.assign rfl rfl ?_; refine GO.nil ?_; refine kthen_n ?_; refine G.seq ?_; refine G.region ?_; refine GO.assign rfl rfl ?_; refine GO.nil ?_; refine kthen_n ?_; refine G.seq ?_; refine G.seq ?_; refine G.region ?_; refine GO.assign rfl rfl ?_; refine GO.nil ?_; refine kthen_n ?_; refine G.block ?_)
  refine G.loop2 (fun (k : Nat) (m : Int) => [(0, .slice a ss.length cap), (1, .slice (some ⟨bs, 0, none⟩) n n), (5, i64 m), (6, i64 k)]) (fun _ _ => q :: pt bs (row (numsV s n) 3) :: F)
    (fun k m => k ≤ ss.length ∧ (0 ≤ m ∧ m ≤ 65) ∧ lenF s (ss.drop k) m = lenF s ss 0) (fun k _ => ss.length - k) 0 0 ⟨by omega, by omega, rfl⟩ ?_ ?_ ?_
  · (refine SubE.c rfl rfl ?_; refine SubE.c rfl rfl ?_; refine SubE.c rfl rfl ?_; refine SubE.c rfl rfl ?_; exact SubE.n)
  · ((refine Sb.c Tk.h ?_; refine Sb.c Tk.h ?_); (exact Sb.r))
  rintro k m ⟨hk, hm, hF⟩
  (refine G.seq ?_; refine G.seq ?_; refine G.region ?_; refine GO.move rfl rfl ?_; refine GO.move rfl rfl ?_; refine GO.lenS rfl rfl ?_; refine GO.lti rfl rfl rfl ?_; refine GO.nil ?_; refine kthen_n ?_)
  refine G.condD rfl (fun hlt => ?_) (fun hge => ?_)
  · have hlt' : k < ss.length := by omega
    obtain ⟨⟨lb, i⟩, hx⟩ : ∃ x : SymD, ss[k]? = some x := ⟨ss[k], by simp [hlt']⟩
    have hin := hs _ (List.mem_of_getElem? hx)
    obtain ⟨b, o, rfl, _, r1, r2⟩ := hv.at hx
    dsimp only at r1 r2
    rw [drop_at hx] at hF
    (refine G.skip ?_; refine kthen_n ?_; refine G.seq ?_; refine G.block ?_; refine G.seq ?_; refine G.region ?_; refine GO.move rfl rfl ?_; refine GO.move rfl rfl ?_; refine GO.idxS rfl rfl rfl ⟨rfl, by omega⟩ ?_)
    refine GO.load2 (q := q) rfl rfl rfl Tk.h r1 r2 ?_
    refine GO.alloc rfl fun b8 => ?_
    refine GO.storeW rfl rfl Tk.h ⟨rfl, rfl⟩ (by simp [Value.oneCell']) ?_
    (refine GO.nil ?_; refine kthen_n ?_; refine G.seq ?_; refine G.seq ?_; refine G.region ?_; refine GO.fieldAddr rfl rfl ?_; refine GO.load1 rfl rfl rfl Tk.h rfl ?_; refine GO.nil ?_; refine kthen_n ?_)
    cases lb with
    | true =>
      have e1 : lenF s ((true, i) :: ss.drop (k + 1)) m = lenF s (ss.drop (k + 1)) (min 65 (m + 1)) := rfl
      rw [e1] at hF
      have hm2 : 0 ≤ min 65 (m + 1) ∧ min 65 (m + 1) ≤ 65 := by omega
      (refine G.condT rfl rfl ?_; refine G.region ?_; refine GO.move rfl rfl ?_; refine GO.addi rfl rfl rfl (by omega) ?_; refine GO.assign rfl rfl ?_; refine GO.nil ?_; refine kthen_n ?_; refine G.seq ?_; refine G.region ?_; refine GO.move rfl rfl ?_; refine GO.gti rfl rfl rfl ?_; refine GO.nil ?_; refine kthen_n ?_)
      refine G.condD rfl (fun hgt => ?_) (fun hgt => ?_)
      · (refine G.region ?_; refine GO.assign rfl rfl ?_; refine GO.nil ?_; refine kblock_n ?_; refine kthen_n ?_; refine G.region ?_; refine GO.move rfl rfl ?_; refine GO.addi rfl rfl rfl (by omega) ?_; refine GO.assign rfl rfl ?_; refine GO.nil ?_; refine kthen_n ?_)
        refine ⟨k + 1, min 65 (m + 1), ⟨by omega, hm2, hF⟩, by omega, ?_, ?_⟩
        · rw [show min 65 (m + 1) = 65 by omega]; (refine SubE.c rfl rfl ?_; refine SubE.c rfl rfl ?_; refine SubE.c rfl rfl ?_; refine SubE.c rfl rfl ?_; exact SubE.n)
        · ((refine Sb.c (Tk.t Tk.h) ?_; refine Sb.c (Tk.t Tk.h) ?_); (refine Sb.s ?_; exact Sb.r))
      · (refine G.skip ?_; refine kblock_n ?_; refine kthen_n ?_; refine G.region ?_; refine GO.move rfl rfl ?_; refine GO.addi rfl rfl rfl (by omega) ?_; refine GO.assign rfl rfl ?_; refine GO.nil ?_; refine kthen_n ?_)
        refine ⟨k + 1, min 65 (m + 1), ⟨by omega, hm2, hF⟩, by omega, ?_, ?_⟩
        · rw [show min 65 (m + 1) = m + 1 by omega]; (refine SubE.c rfl rfl ?_; refine SubE.c rfl rfl ?_; refine SubE.c rfl rfl ?_; refine SubE.c rfl rfl ?_; exact SubE.n)
        · ((refine Sb.c (Tk.t Tk.h) ?_; refine Sb.c (Tk.t Tk.h) ?_); (refine Sb.s ?_; exact Sb.r))
    | false =>
      obtain ⟨h1, h2⟩ := hin rfl
      dsimp only at h1 h2
      obtain ⟨j, rfl⟩ := Int.eq_ofNat_of_zero_le h1
      have hjn : j < n := by omega
      have hsj := hsh j hjn
      have e1 : lenF s ((false, (j : Int)) :: ss.drop (k + 1)) m = if s j = -1 then none else lenF s (ss.drop (k + 1)) (min 65 (m + s j)) := rfl
      rw [e1] at hF
      (refine G.condF rfl rfl ?_; refine G.seq ?_; refine G.region ?_; refine GO.move rfl rfl ?_; refine GO.fieldAddr rfl rfl ?_; refine GO.load1 rfl rfl rfl Tk.h rfl ?_; refine GO.idxS rfl rfl rfl ⟨rfl, by omega⟩ ?_)
      refine GO.load1 rfl rfl rfl (by (exact (Tk.t (Tk.t Tk.h)))) (rowV_get1 hjn) ?_
      (refine GO.lti rfl rfl rfl ?_; refine GO.nil ?_; refine kthen_n ?_)
      refine G.condD rfl (fun he => ?_) (fun he => ?_)
      · rw [if_pos (by omega)] at hF
        (refine G.seq ?_; refine G.region ?_; refine GO.assign rfl rfl ?_; refine GO.nil ?_; refine kthen_n ?_; refine G.ret ?_; refine kthen_r ?_; refine kblock_r ?_; refine kthen_r ?_; refine kthen_r ?_; refine kblock_r ?_; refine kthen_r ?_)
        refine KF.r1 rfl (RV.t rfl) ⟨by rw [← hF]; rfl, rfl⟩ ?_
        ((refine Sb.c (Tk.t Tk.h) ?_; refine Sb.c (Tk.t Tk.h) ?_); (refine Sb.s ?_; exact Sb.r))
      · rw [if_neg (by omega)] at hF
        have hm2 : 0 ≤ min 65 (m + s j) ∧ min 65 (m + s j) ≤ 65 := by omega
        (refine G.region ?_; refine GO.move rfl rfl ?_; refine GO.move rfl rfl ?_; refine GO.fieldAddr rfl rfl ?_; refine GO.load1 rfl rfl rfl Tk.h rfl ?_; refine GO.idxS rfl rfl rfl ⟨rfl, by omega⟩ ?_)
        refine GO.load1 rfl rfl rfl (by (exact (Tk.t (Tk.t Tk.h)))) (rowV_get1 hjn) ?_
        (refine GO.addi rfl rfl rfl (by omega) ?_; refine GO.assign rfl rfl ?_; refine GO.nil ?_; refine kthen_n ?_; refine G.seq ?_; refine G.region ?_; refine GO.move rfl rfl ?_; refine GO.gti rfl rfl rfl ?_; refine GO.nil ?_; refine kthen_n ?_)
        refine G.condD rfl (fun hgt => ?_) (fun hgt => ?_)
        · (refine G.region ?_; refine GO.assign rfl rfl ?_; refine GO.nil ?_; refine kblock_n ?_; refine kthen_n ?_; refine G.region ?_; refine GO.move rfl rfl ?_; refine GO.addi rfl rfl rfl (by omega) ?_; refine GO.assign rfl rfl ?_; refine GO.nil ?_; refine kthen_n ?_)
          refine ⟨k + 1, min 65 (m + s j), ⟨by omega, hm2, hF⟩, by omega, ?_, ?_⟩
          · rw [show min 65 (m + s j) = 65 by omega]; (refine SubE.c rfl rfl ?_; refine SubE.c rfl rfl ?_; refine SubE.c rfl rfl ?_; refine SubE.c rfl rfl ?_; exact SubE.n)
          · ((refine Sb.c (Tk.t Tk.h) ?_; refine Sb.c (Tk.t Tk.h) ?_); (refine Sb.s ?_; exact Sb.r))
        · (refine G.skip ?_; refine kblock_n ?_; refine kthen_n ?_; refine G.region ?_; refine GO.move rfl rfl ?_; refine GO.addi rfl rfl rfl (by omega) ?_; refine GO.assign rfl rfl ?_; refine GO.nil ?_; refine kthen_n ?_)
          refine ⟨k + 1, min 65 (m + s j), ⟨by omega, hm2, hF⟩, by omega, ?_, ?_⟩
          · rw [show min 65 (m + s j) = m + s j by omega]; (refine SubE.c rfl rfl ?_; refine SubE.c rfl rfl ?_; refine SubE.c rfl rfl ?_; refine SubE.c rfl rfl ?_; exact SubE.n)
          · ((refine Sb.c (Tk.t Tk.h) ?_; refine Sb.c (Tk.t Tk.h) ?_); (refine Sb.s ?_; exact Sb.r))
  · have : k = ss.length := by omega
    subst this
    rw [List.drop_length] at hF
    (refine G.exit ?_; refine G.seq ?_; refine G.region ?_; refine GO.move rfl rfl ?_; refine GO.assign rfl rfl ?_; refine GO.nil ?_; refine kthen_n ?_; refine G.ret ?_)
    refine KF.r1 rfl (RV.t rfl) ⟨by rw [← hF]; rfl, rfl⟩ ?_
    ((refine Sb.c Tk.h ?_; refine Sb.c Tk.h ?_); (exact Sb.r))
/-- Are two functions the same below n? -/
def sameB {α : Type} [DecidableEq α] (o p : Nat → α) (n : Nat) : Bool := (List.range n).all fun i => decide (o i = p i)
theorem sameB_iff {α : Type} [DecidableEq α] {o p : Nat → α} {n : Nat} : sameB o p n = true ↔ ∀ i, i < n → o i = p i := by
  unfold sameB; simp
set_option maxHeartbeats 4000000 in
set_option maxRecDepth 20000 in
theorem sameInts_spec (s t : Nat → Int) (n bs bt : Nat) (hn : n ≤ 1048576) : Fn Try.prog 19 #[.slice (some ⟨bs, 0, none⟩) n n, .slice (some ⟨bt, 0, none⟩) n n] [pt bs (row (numsV s n) 3), pt bt (row (numsV t n) 3)]
    (fun r Q => r = .bool (sameB s t n) ∧ Q = [pt bs (row (numsV s n) 3), pt bt (row (numsV t n) 3)]) := by
  refine Fn.mk Try.func19 rfl rfl fun w0 F => ?_
  (refine G.seq ?_; refine G.region ?_; refine GO.assign rfl rfl ?_; refine GO.nil ?_; refine kthen_n ?_; refine G.seq ?_; refine G.seq ?_; refine G.region ?_; refine GO.assign rfl rfl ?_; refine GO.nil ?_; refine kthen_n ?_; refine G.block ?_)
  refine G.loop (fun k : Nat => [(0, .slice (some ⟨bs, 0, none⟩) n n), (1, .slice (some ⟨bt, 0, none⟩) n n), (5, i64 k)]) (fun _ => pt bs (row (numsV s n) 3) :: pt bt (row (numsV t n) 3) :: F) (fun k => k ≤ n ∧ ∀ i, i < k → s i = t i) (fun k => n - k) 0 ⟨by omega, fun i hi => by omega⟩ ?_ ?_ ?_
  · (refine SubE.c rfl rfl ?_; refine SubE.c rfl rfl ?_; refine SubE.c rfl rfl ?_; exact SubE.n)
  · ((refine Sb.c Tk.h ?_; refine Sb.c Tk.h ?_); (exact Sb.r))
  rintro k ⟨hk, heq⟩
  (refine G.seq ?_; refine G.seq ?_; refine G.region ?_; refine GO.move rfl rfl ?_; refine GO.move rfl rfl ?_; refine GO.lenS rfl rfl ?_; refine GO.lti rfl rfl rfl ?_; refine GO.move rfl rfl ?_)
  refine GO.splitD 10 rfl (fun hlt => ?_) (fun hge => ?_)
  · have hlt' : k < n := by omega
    have ed : decide ((k : Int) < (n : Int)) = true := decide_eq_true hlt
    (refine GO.gT rfl rfl rfl ?_; refine GO.move rfl rfl ?_; refine GO.gT rfl rfl rfl ?_; refine GO.move rfl rfl ?_; refine GO.gT rfl rfl rfl ?_; refine GO.lenS rfl rfl ?_; refine GO.gT rfl rfl rfl ?_; refine GO.lti rfl rfl rfl ?_; refine GO.pickT rfl rfl rfl ?_; refine GO.nil ?_; refine kthen_n ?_)
    refine G.condD rfl (fun _ => ?_) (fun h => absurd hlt h)
    (refine G.skip ?_; refine kthen_n ?_; refine G.seq ?_; refine G.block ?_; refine G.seq ?_)
    refine G.draw 9 (by kernel_rfl) ?_
    ((apply GQ.step; focus (intro Z; refine GO.move rfl rfl ?_; exact KQ.z)); (apply GQ.step; focus (intro Z; refine GO.move rfl rfl ?_; exact KQ.z)); (apply GQ.step; focus (intro Z; refine GO.idxS rfl rfl rfl ⟨rfl, by omega⟩ ?_; exact KQ.z)))
    apply GQ.step; focus (intro Z; refine GO.load1 rfl rfl rfl (by (exact Tk.h)) (rowV_get1 hlt') ?_; exact KQ.z)
    ((apply GQ.step; focus (intro Z; refine GO.move rfl rfl ?_; exact KQ.z)); (apply GQ.step; focus (intro Z; refine GO.move rfl rfl ?_; exact KQ.z)); (apply GQ.step; focus (intro Z; refine GO.idxS rfl rfl rfl ⟨rfl, by omega⟩ ?_; exact KQ.z)))
    apply GQ.step; focus (intro Z; refine GO.load1 rfl rfl rfl (by (exact (Tk.t Tk.h))) (rowV_get1 hlt') ?_; exact KQ.z)
    ((apply GQ.step; focus (intro Z; refine GO.nei rfl rfl rfl ?_; exact KQ.z)))
    refine GQ.nil ?_
    (refine GO.nil ?_; refine kthen_n ?_)
    refine G.condD rfl (fun hne => ?_) (fun he => ?_)
    · (refine G.seq ?_; refine G.region ?_; refine GO.assign rfl rfl ?_; refine GO.nil ?_; refine kthen_n ?_; refine G.ret ?_; refine kblock_r ?_; refine kthen_r ?_; refine kthen_r ?_; refine kblock_r ?_; refine kthen_r ?_)
      refine KF.r1 rfl (RV.t rfl) ⟨?_, rfl⟩ ?_
      · have : sameB s t n = false := by
          cases h : sameB s t n with
          | false => rfl
          | true => exact absurd (sameB_iff.1 h k hlt') hne
        rw [this]
      · ((refine Sb.c Tk.h ?_; refine Sb.c Tk.h ?_); (exact Sb.r))
    · (refine G.skip ?_; refine kblock_n ?_; refine kthen_n ?_; refine G.region ?_; refine GO.move rfl rfl ?_; refine GO.addi rfl rfl rfl (by omega) ?_; refine GO.assign rfl rfl ?_; refine GO.nil ?_; refine kthen_n ?_)
      refine ⟨k + 1, ⟨by omega, fun i hi => ?_⟩, by omega, ?_, ?_⟩
      · by_cases e : i = k
        · subst e; exact Classical.byContradiction fun h => he h
        · exact heq i (by omega)
      · (refine SubE.c rfl rfl ?_; refine SubE.c rfl rfl ?_; refine SubE.c rfl rfl ?_; exact SubE.n)
      · ((refine Sb.c Tk.h ?_; refine Sb.c Tk.h ?_); (exact Sb.r))
  · have : k = n := by omega
    subst this
    (refine GO.gF rfl rfl rfl rfl ?_; refine GO.gF rfl rfl rfl rfl ?_; refine GO.gF rfl rfl rfl rfl ?_; refine GO.gF rfl rfl rfl rfl ?_; refine GO.pickF rfl rfl rfl ?_; refine GO.nil ?_; refine kthen_n ?_; refine G.condF rfl rfl ?_; refine G.exit ?_; refine G.seq ?_; refine G.region ?_; refine GO.move rfl rfl ?_; refine GO.lenS rfl rfl ?_; refine GO.move rfl rfl ?_; refine GO.lenS rfl rfl ?_; refine GO.eqT rfl rfl rfl rfl ?_; refine GO.assign rfl rfl ?_; refine GO.nil ?_; refine kthen_n ?_; refine G.ret ?_)
    refine KF.r1 rfl (RV.t rfl) ⟨?_, rfl⟩ ?_
    · rw [sameB_iff.2 heq]
    · ((refine Sb.c Tk.h ?_; refine Sb.c Tk.h ?_); (exact Sb.r))
set_option maxHeartbeats 4000000 in
set_option maxRecDepth 20000 in
theorem sameBools_spec (s t : Nat → Bool) (n bs bt : Nat) (hn : n ≤ 1048576) : Fn Try.prog 16 #[.slice (some ⟨bs, 0, none⟩) n n, .slice (some ⟨bt, 0, none⟩) n n] [pt bs (row (boolsV s n) 4), pt bt (row (boolsV t n) 4)]
    (fun r Q => r = .bool (sameB s t n) ∧ Q = [pt bs (row (boolsV s n) 4), pt bt (row (boolsV t n) 4)]) := by
  refine Fn.mk Try.func16 rfl rfl fun w0 F => ?_
  (refine G.seq ?_; refine G.region ?_; refine GO.assign rfl rfl ?_; refine GO.nil ?_; refine kthen_n ?_; refine G.seq ?_; refine G.seq ?_; refine G.region ?_; refine GO.move rfl rfl ?_; refine GO.lenS rfl rfl ?_; refine GO.move rfl rfl ?_; refine GO.lenS rfl rfl ?_; refine GO.neF rfl rfl rfl rfl ?_; refine GO.nil ?_; refine kthen_n ?_; refine G.condF rfl rfl ?_; refine G.skip ?_; refine kthen_n ?_; refine G.seq ?_; refine G.seq ?_; refine G.region ?_; refine GO.assign rfl rfl ?_; refine GO.nil ?_; refine kthen_n ?_; refine G.block ?_)
  refine G.loop (fun k : Nat => [(0, .slice (some ⟨bs, 0, none⟩) n n), (1, .slice (some ⟨bt, 0, none⟩) n n), (5, i64 k)]) (fun _ => pt bs (row (boolsV s n) 4) :: pt bt (row (boolsV t n) 4) :: F) (fun k => k ≤ n ∧ ∀ i, i < k → s i = t i) (fun k => n - k) 0 ⟨by omega, fun i hi => by omega⟩ ?_ ?_ ?_
  · (refine SubE.c rfl rfl ?_; refine SubE.c rfl rfl ?_; refine SubE.c rfl rfl ?_; exact SubE.n)
  · ((refine Sb.c Tk.h ?_; refine Sb.c Tk.h ?_); (exact Sb.r))
  rintro k ⟨hk, heq⟩
  (refine G.seq ?_; refine G.seq ?_; refine G.region ?_; refine GO.move rfl rfl ?_; refine GO.move rfl rfl ?_; refine GO.lenS rfl rfl ?_; refine GO.lti rfl rfl rfl ?_; refine GO.nil ?_; refine kthen_n ?_)
  refine G.condD rfl (fun hlt => ?_) (fun hge => ?_)
  · have hlt' : k < n := by omega
    (refine G.skip ?_; refine kthen_n ?_; refine G.seq ?_; refine G.block ?_; refine G.seq ?_)
    refine G.draw 9 (by kernel_rfl) ?_
    ((apply GQ.step; focus (intro Z; refine GO.move rfl rfl ?_; exact KQ.z)); (apply GQ.step; focus (intro Z; refine GO.move rfl rfl ?_; exact KQ.z)); (apply GQ.step; focus (intro Z; refine GO.idxS rfl rfl rfl ⟨rfl, by omega⟩ ?_; exact KQ.z)))
    apply GQ.step; focus (intro Z; refine GO.load1 rfl rfl rfl (by (exact Tk.h)) (rowV_get1 hlt') ?_; exact KQ.z)
    ((apply GQ.step; focus (intro Z; refine GO.move rfl rfl ?_; exact KQ.z)); (apply GQ.step; focus (intro Z; refine GO.move rfl rfl ?_; exact KQ.z)); (apply GQ.step; focus (intro Z; refine GO.idxS rfl rfl rfl ⟨rfl, by omega⟩ ?_; exact KQ.z)))
    apply GQ.step; focus (intro Z; refine GO.load1 rfl rfl rfl (by (exact (Tk.t Tk.h))) (rowV_get1 hlt') ?_; exact KQ.z)
    apply GQ.step; focus (intro Z; refine GO.neqB rfl rfl rfl ?_; exact KQ.z)
    refine GQ.nil ?_
    (refine GO.nil ?_; refine kthen_n ?_)
    refine G.cond rfl (fun hne => ?_) (fun he => ?_)
    · (refine G.seq ?_; refine G.region ?_; refine GO.assign rfl rfl ?_; refine GO.nil ?_; refine kthen_n ?_; refine G.ret ?_; refine kblock_r ?_; refine kthen_r ?_; refine kthen_r ?_; refine kblock_r ?_; refine kthen_r ?_)
      refine KF.r1 rfl (RV.t rfl) ⟨?_, rfl⟩ ?_
      · have : sameB s t n = false := by
          cases h : sameB s t n with
          | false => rfl
          | true => rw [sameB_iff.1 h k hlt'] at hne; simp at hne
        rw [this]
      · ((refine Sb.c Tk.h ?_; refine Sb.c Tk.h ?_); (exact Sb.r))
    · (refine G.skip ?_; refine kblock_n ?_; refine kthen_n ?_; refine G.region ?_; refine GO.move rfl rfl ?_; refine GO.addi rfl rfl rfl (by omega) ?_; refine GO.assign rfl rfl ?_; refine GO.nil ?_; refine kthen_n ?_)
      refine ⟨k + 1, ⟨by omega, fun i hi => ?_⟩, by omega, ?_, ?_⟩
      · by_cases e : i = k
        · subst e; simpa using he
        · exact heq i (by omega)
      · (refine SubE.c rfl rfl ?_; refine SubE.c rfl rfl ?_; refine SubE.c rfl rfl ?_; exact SubE.n)
      · ((refine Sb.c Tk.h ?_; refine Sb.c Tk.h ?_); (exact Sb.r))
  · have : k = n := by omega
    subst this
    (refine G.exit ?_; refine G.seq ?_; refine G.region ?_; refine GO.assign rfl rfl ?_; refine GO.nil ?_; refine kthen_n ?_; refine G.ret ?_)
    refine KF.r1 rfl (RV.t rfl) ⟨?_, rfl⟩ ?_
    · rw [sameB_iff.2 heq]
    · ((refine Sb.c Tk.h ?_; refine Sb.c Tk.h ?_); (exact Sb.r))
end Go.Proofs.Ytcemehocbemfmaa
namespace Go.Proofs.Ytcemehocbemfmaa
open Go
attribute [local irreducible] G GO GR GT Fn FnV pt init exs pur sat own ImpS
/-- One round: the least that a production gives, by what is known. -/
def rndStep (s t : Nat → Int) (p : ProdD) : Nat → Int :=
  match lenF s p.2 0 with
  | none => t
  | some m => if t p.1.toNat < 0 ∨ m < t p.1.toNat then upd t p.1.toNat m else t
def rnd (ps : List ProdD) (s : Nat → Int) : Nat → Int := ps.foldl (rndStep s) (fun _ => -1)
/-- The rounds, till two are the same. -/
def leastS (ps : List ProdD) (n : Nat) : Nat → (Nat → Int) → (Nat → Int)
  | 0, s => s
  | k + 1, s => if sameB s (rnd ps s) n then rnd ps s else leastS ps n k (rnd ps s)
theorem rndStep_in {s t : Nat → Int} {n : Nat} {p : ProdD} (hs : Shorts s n) (ht : Shorts t n) (hp : prodIn n p) : Shorts (rndStep s t p) n := by
  unfold rndStep
  cases h : lenF s p.2 0 with
  | none => exact ht
  | some m =>
    simp only
    split
    · intro i hi
      have := lenF_in hs hp.2 (by omega) h
      simp only [upd]
      split
      · omega
      · exact ht i hi
    · exact ht
theorem foldl_take {α β : Type} {f : β → α → β} {l : List α} {k : Nat} {a : α} {b : β} (h : l[k]? = some a) : (l.take (k + 1)).foldl f b = f ((l.take k).foldl f b) a := by
  rw [List.take_add_one, h, List.foldl_append]; rfl
set_option maxHeartbeats 8000000 in
set_option maxRecDepth 20000 in
theorem least_spec (q : HP) (v : Value) (C : CnfD) (n lv : Nat) (hv : CnfR q v C) (hz : Fits C) (hn : C.nts = n) (hn1 : n ≤ 1024) (hlv : lv ≤ 1048576) (hin : ∀ p ∈ C.prods, prodIn n p) : Fn Try.prog 34 #[v, i64 lv] [q]
    (fun r Q => ∃ b, r = .slice (some ⟨b, 0, none⟩) n n ∧ Q = [pt b (row (numsV (leastS C.prods n lv (fun _ => -1)) n) 3), q]) := by
  obtain ⟨pv, rfl, hp⟩ := hv
  obtain ⟨a0, cap0, rfl⟩ := hp.form
  have hz1 := hz.1
  rw [hn]
  refine Fn.mk Try.func34 rfl rfl fun w0 F => ?_
  (refine G.seq ?_; refine G.region ?_)
  refine GO.box rfl rfl rfl fun b2 => ?_
  (refine GO.assign rfl rfl ?_; refine GO.nil ?_; refine kthen_n ?_; refine G.seq ?_; refine G.region ?_; refine GO.fieldAddr rfl rfl ?_; refine GO.load1 rfl rfl rfl Tk.h rfl ?_)
  refine GO.make1 (n := n) rfl rfl rfl ⟨rfl, rfl⟩ ⟨by omega, by omega⟩ fun bo => ?_
  rw [rowV_const (f := i64)]
  (refine GO.assign rfl rfl ?_; refine GO.nil ?_; refine kthen_n ?_; refine G.seq ?_; refine G.seq ?_; refine G.region ?_; refine GO.assign rfl rfl ?_; refine GO.nil ?_; refine kthen_n ?_; refine G.block ?_)
  refine G.loop2 (fun (k : Nat) (_ : Nat → Int) => [(1, i64 lv), (2, .pointer (some ⟨b2, 0, none⟩)), (5, .slice (some ⟨bo, 0, none⟩) n n), (6, i64 k)]) (fun _ s => pt bo (row (numsV s n) 3) :: pt b2 (row [i64 n, .slice a0 C.prods.length cap0] 24) :: q :: F)
    (fun k s => k ≤ n ∧ ∀ i, i < k → s i = -1) (fun k _ => n - k) 0 (fun _ => 0) ⟨by omega, fun i hi => by omega⟩ ?_ ?_ ?_
  · (refine SubE.c rfl rfl ?_; refine SubE.c rfl rfl ?_; refine SubE.c rfl rfl ?_; refine SubE.c rfl rfl ?_; exact SubE.n)
  · ((refine Sb.c Tk.h ?_; refine Sb.c Tk.h ?_; refine Sb.c Tk.h ?_); (exact Sb.r))
  rintro k s ⟨hk, hs⟩
  (refine G.seq ?_; refine G.seq ?_; refine G.region ?_; refine GO.move rfl rfl ?_; refine GO.fieldAddr rfl rfl ?_; refine GO.load1 rfl rfl rfl (Tk.t Tk.h) rfl ?_; refine GO.lti rfl rfl rfl ?_; refine GO.nil ?_; refine kthen_n ?_)
  refine G.condD rfl (fun hlt => ?_) (fun hge => ?_)
  · have hlt' : k < n := by omega
    (refine G.skip ?_; refine kthen_n ?_; refine G.seq ?_; refine G.block ?_; refine G.region ?_; refine GO.move rfl rfl ?_; refine GO.move rfl rfl ?_; refine GO.idxS rfl rfl rfl ⟨rfl, by omega⟩ ?_)
    refine GO.store1 rfl rfl rfl (by (exact Tk.h)) (by rw [rowV_len]; omega) ?_
    rw [rowV_set]
    (refine GO.nil ?_; refine kblock_n ?_; refine kthen_n ?_; refine G.region ?_; refine GO.move rfl rfl ?_; refine GO.addi rfl rfl rfl (by omega) ?_; refine GO.assign rfl rfl ?_; refine GO.nil ?_; refine kthen_n ?_)
    refine ⟨k + 1, upd s k (-1), ⟨by omega, fun i hi => ?_⟩, by omega, ?_, ?_⟩
    · by_cases e : i = k
      · subst e; exact upd_at _ _ _
      · rw [upd_ne _ _ e]; exact hs i (by omega)
    · (refine SubE.c rfl rfl ?_; refine SubE.c rfl rfl ?_; refine SubE.c rfl rfl ?_; refine SubE.c rfl rfl ?_; exact SubE.n)
    · ((refine Sb.c Tk.h ?_; refine Sb.c Tk.h ?_; refine Sb.c Tk.h ?_); (exact Sb.r))
  have hkn : n = k := by omega
  subst hkn
  have hnums : numsV s n = numsV (fun _ => -1) n := by
    unfold numsV rowV
    apply List.map_congr_left
    intro i hi
    rw [hs i (by simpa using hi)]
  rw [hnums]
  clear hs hnums s hge hk
  (refine G.exit ?_; refine G.seq ?_; refine G.seq ?_; refine G.region ?_; refine GO.assign rfl rfl ?_; refine GO.nil ?_; refine kthen_n ?_; refine G.block ?_)
  refine G.loop3 (fun (j : Nat) (_ : Nat → Int) (bo : Nat) => [(1, i64 lv), (2, .pointer (some ⟨b2, 0, none⟩)), (5, .slice (some ⟨bo, 0, none⟩) n n), (7, i64 j)]) (fun _ s bo => pt bo (row (numsV s n) 3) :: pt b2 (row [i64 n, .slice a0 C.prods.length cap0] 24) :: q :: F)
    (fun j s _ => j ≤ lv ∧ Shorts s n ∧ leastS C.prods n (lv - j) s = leastS C.prods n lv (fun _ => -1)) (fun j _ _ => lv - j) 0 (fun _ => -1) bo ⟨by omega, fun i _ => by show (-1 : Int) ≤ -1 ∧ (-1 : Int) ≤ 65; decide, rfl⟩ ?_ ?_ ?_
  · (refine SubE.c rfl rfl ?_; refine SubE.c rfl rfl ?_; refine SubE.c rfl rfl ?_; refine SubE.c rfl rfl ?_; exact SubE.n)
  · ((refine Sb.c Tk.h ?_; refine Sb.c Tk.h ?_; refine Sb.c Tk.h ?_); (exact Sb.r))
  clear bo
  rintro j s bo ⟨hj, hsh, hL⟩
  (refine G.seq ?_; refine G.seq ?_; refine G.region ?_; refine GO.move rfl rfl ?_; refine GO.move rfl rfl ?_; refine GO.lti rfl rfl rfl ?_; refine GO.nil ?_; refine kthen_n ?_)
  refine G.condD rfl (fun hlt => ?_) (fun hge => ?_)
  · have hj' : j < lv := by omega
    rw [show lv - j = (lv - (j + 1)) + 1 by omega] at hL
    (refine G.skip ?_; refine kthen_n ?_; refine G.seq ?_; refine G.block ?_; refine G.seq ?_; refine G.region ?_; refine GO.fieldAddr rfl rfl ?_; refine GO.load1 rfl rfl rfl (Tk.t Tk.h) rfl ?_)
    refine GO.make1 (n := n) rfl rfl rfl ⟨rfl, rfl⟩ ⟨by omega, by omega⟩ fun b8 => ?_
    rw [rowV_const (f := i64)]
    (refine GO.assign rfl rfl ?_; refine GO.nil ?_; refine kthen_n ?_; refine G.seq ?_; refine G.seq ?_; refine G.region ?_; refine GO.assign rfl rfl ?_; refine GO.nil ?_; refine kthen_n ?_; refine G.block ?_)
    refine G.loop2 (fun (k : Nat) (_ : Nat → Int) => [(1, i64 lv), (2, .pointer (some ⟨b2, 0, none⟩)), (5, .slice (some ⟨bo, 0, none⟩) n n), (7, i64 j), (8, .slice (some ⟨b8, 0, none⟩) n n), (9, i64 k)]) (fun _ t => pt b8 (row (numsV t n) 3) :: pt bo (row (numsV s n) 3) :: pt b2 (row [i64 n, .slice a0 C.prods.length cap0] 24) :: q :: F)
      (fun k t => k ≤ n ∧ ∀ i, i < k → t i = -1) (fun k _ => n - k) 0 (fun _ => 0) ⟨by omega, fun i hi => by omega⟩ ?_ ?_ ?_
    · (refine SubE.c rfl rfl ?_; refine SubE.c rfl rfl ?_; refine SubE.c rfl rfl ?_; refine SubE.c rfl rfl ?_; refine SubE.c rfl rfl ?_; refine SubE.c rfl rfl ?_; exact SubE.n)
    · ((refine Sb.c Tk.h ?_; refine Sb.c Tk.h ?_; refine Sb.c Tk.h ?_; refine Sb.c Tk.h ?_); (exact Sb.r))
    rintro k t ⟨hk, ht⟩
    (refine G.seq ?_; refine G.seq ?_; refine G.region ?_; refine GO.move rfl rfl ?_; refine GO.fieldAddr rfl rfl ?_; refine GO.load1 rfl rfl rfl (Tk.t (Tk.t Tk.h)) rfl ?_; refine GO.lti rfl rfl rfl ?_; refine GO.nil ?_; refine kthen_n ?_)
    refine G.condD rfl (fun hlt2 => ?_) (fun hge2 => ?_)
    · have hlt' : k < n := by omega
      (refine G.skip ?_; refine kthen_n ?_; refine G.seq ?_; refine G.block ?_; refine G.region ?_; refine GO.move rfl rfl ?_; refine GO.move rfl rfl ?_; refine GO.idxS rfl rfl rfl ⟨rfl, by omega⟩ ?_)
      refine GO.store1 rfl rfl rfl (by (exact Tk.h)) (by rw [rowV_len]; omega) ?_
      rw [rowV_set]
      (refine GO.nil ?_; refine kblock_n ?_; refine kthen_n ?_; refine G.region ?_; refine GO.move rfl rfl ?_; refine GO.addi rfl rfl rfl (by omega) ?_; refine GO.assign rfl rfl ?_; refine GO.nil ?_; refine kthen_n ?_)
      refine ⟨k + 1, upd t k (-1), ⟨by omega, fun i hi => ?_⟩, by omega, ?_, ?_⟩
      · by_cases e : i = k
        · subst e; exact upd_at _ _ _
        · rw [upd_ne _ _ e]; exact ht i (by omega)
      · (refine SubE.c rfl rfl ?_; refine SubE.c rfl rfl ?_; refine SubE.c rfl rfl ?_; refine SubE.c rfl rfl ?_; refine SubE.c rfl rfl ?_; refine SubE.c rfl rfl ?_; exact SubE.n)
      · ((refine Sb.c Tk.h ?_; refine Sb.c Tk.h ?_; refine Sb.c Tk.h ?_; refine Sb.c Tk.h ?_); (exact Sb.r))
    have hkn : n = k := by omega
    subst hkn
    have hnums : numsV t n = numsV (fun _ => -1) n := by
      unfold numsV rowV
      apply List.map_congr_left
      intro i hi
      rw [ht i (by simpa using hi)]
    rw [hnums]
    clear ht hnums t hge2 hk
    (refine G.exit ?_; refine G.seq ?_; refine G.seq ?_; refine G.region ?_; refine GO.assign rfl rfl ?_; refine GO.nil ?_; refine kthen_n ?_; refine G.block ?_)
    refine G.loop (fun i : Nat => [(1, i64 lv), (2, .pointer (some ⟨b2, 0, none⟩)), (5, .slice (some ⟨bo, 0, none⟩) n n), (7, i64 j), (8, .slice (some ⟨b8, 0, none⟩) n n), (10, i64 i)]) (fun i => pt b8 (row (numsV ((C.prods.take i).foldl (rndStep s) (fun _ => -1)) n) 3) :: pt bo (row (numsV s n) 3) :: pt b2 (row [i64 n, .slice a0 C.prods.length cap0] 24) :: q :: F)
      (fun i => i ≤ C.prods.length ∧ Shorts ((C.prods.take i).foldl (rndStep s) (fun _ => -1)) n) (fun i => C.prods.length - i) 0 ⟨by omega, fun i _ => by show (-1 : Int) ≤ -1 ∧ (-1 : Int) ≤ 65; decide⟩ ?_ ?_ ?_
    · (refine SubE.c rfl rfl ?_; refine SubE.c rfl rfl ?_; refine SubE.c rfl rfl ?_; refine SubE.c rfl rfl ?_; refine SubE.c rfl rfl ?_; refine SubE.c rfl rfl ?_; exact SubE.n)
    · ((refine Sb.c Tk.h ?_; refine Sb.c Tk.h ?_; refine Sb.c Tk.h ?_; refine Sb.c Tk.h ?_); (exact Sb.r))
    rintro i ⟨hi, hti⟩
    (refine G.seq ?_; refine G.seq ?_; refine G.region ?_; refine GO.move rfl rfl ?_; refine GO.fieldAddr rfl rfl ?_; refine GO.load1 rfl rfl rfl (Tk.t (Tk.t Tk.h)) rfl ?_; refine GO.lenS rfl rfl ?_; refine GO.lti rfl rfl rfl ?_; refine GO.nil ?_; refine kthen_n ?_)
    refine G.condD rfl (fun hlt2 => ?_) (fun hge2 => ?_)
    · have hil : i < C.prods.length := by omega
      obtain ⟨⟨h, ss⟩, hpk⟩ : ∃ p : ProdD, C.prods[i]? = some p := ⟨C.prods[i], by simp [hil]⟩
      have hpin := hin _ (List.mem_of_getElem? hpk)
      have hpl := hz.2 _ (List.mem_of_getElem? hpk)
      obtain ⟨b, o, bv, rfl, _, r1, r2, hss⟩ := hp.at hpk
      have hnext := foldl_take (f := rndStep s) (b := fun _ => -1) hpk
      have hnin := rndStep_in hsh hti hpin
      rw [← hnext] at hnin
      generalize hT : (C.prods.take i).foldl (rndStep s) (fun _ => -1) = t at *
      obtain ⟨⟨h1, h2⟩, hsin⟩ := hpin
      dsimp only at h1 h2 r1 r2 hss hsin hpl
      obtain ⟨k, rfl⟩ := Int.eq_ofNat_of_zero_le h1
      have hkn : k < n := by omega
      (refine G.skip ?_; refine kthen_n ?_; refine G.seq ?_; refine G.block ?_; refine G.seq ?_; refine G.region ?_; refine GO.fieldAddr rfl rfl ?_; refine GO.load1 rfl rfl rfl (Tk.t (Tk.t Tk.h)) rfl ?_; refine GO.move rfl rfl ?_; refine GO.idxS rfl rfl rfl ⟨rfl, by omega⟩ ?_; refine GO.fieldAddr rfl rfl ?_)
      refine GO.loadQ (q := q) rfl rfl rfl (Tk.t (Tk.t (Tk.t Tk.h))) r1 ?_
      (refine GO.assign rfl rfl ?_; refine GO.nil ?_; refine kthen_n ?_; refine G.seq ?_; refine G.region ?_; refine GO.fieldAddr rfl rfl ?_; refine GO.load1 rfl rfl rfl (Tk.t (Tk.t Tk.h)) rfl ?_; refine GO.move rfl rfl ?_; refine GO.idxS rfl rfl rfl ⟨rfl, by omega⟩ ?_; refine GO.fieldAddr rfl rfl ?_)
      refine GO.loadQ (q := q) rfl rfl rfl (Tk.t (Tk.t (Tk.t Tk.h))) r2 ?_
      (refine GO.move rfl rfl ?_)
      refine GO.call2 rfl rfl rfl (rlong_spec q bv ss s n bo hss hsin (by omega) hsh) (Tks.c (Tk.t (Tk.t (Tk.t Tk.h))) (Tks.c (Tk.t Tk.h) Tks.n)) ?_
      rintro _ _ ⟨rfl, rfl⟩
      cases hl : lenF s ss 0 with
      | none =>
        have er : rndStep s t ((k : Int), ss) = t := by unfold rndStep; simp only [hl]
        rw [er] at hnext
        (refine GO.assign rfl rfl ?_; refine GO.nil ?_; refine kthen_n ?_; refine G.seq ?_; refine G.region ?_; refine GO.move rfl rfl ?_; refine GO.gei rfl rfl rfl ?_; refine GO.move rfl rfl ?_; refine GO.gF rfl rfl rfl rfl ?_; refine GO.gF rfl rfl rfl rfl ?_; refine GO.gF rfl rfl rfl rfl ?_; refine GO.gF rfl rfl rfl rfl ?_; refine GO.gF rfl rfl rfl rfl ?_; refine GO.gF rfl rfl rfl rfl ?_; refine GO.gU rfl rfl rfl ?_; refine GO.gU rfl rfl rfl ?_; refine GO.gU rfl rfl rfl ?_; refine GO.gU rfl rfl rfl ?_; refine GO.gU rfl rfl rfl ?_; refine GO.gU rfl rfl rfl ?_; refine GO.gF rfl rfl rfl rfl ?_; refine GO.pickF rfl rfl rfl ?_; refine GO.nil ?_; refine kthen_n ?_; refine G.condF rfl rfl ?_; refine G.skip ?_; refine kblock_n ?_; refine kthen_n ?_; refine G.region ?_; refine GO.move rfl rfl ?_; refine GO.addi rfl rfl rfl (by omega) ?_; refine GO.assign rfl rfl ?_; refine GO.nil ?_; refine kthen_n ?_)
        refine ⟨i + 1, ⟨by omega, hnin⟩, by omega, ?_, ?_⟩
        · (refine SubE.c rfl rfl ?_; refine SubE.c rfl rfl ?_; refine SubE.c rfl rfl ?_; refine SubE.c rfl rfl ?_; refine SubE.c rfl rfl ?_; refine SubE.c rfl rfl ?_; exact SubE.n)
        · rw [hnext]; ((refine Sb.c (Tk.t (Tk.t Tk.h)) ?_; refine Sb.c (Tk.t Tk.h) ?_; refine Sb.c (Tk.t Tk.h) ?_; refine Sb.c Tk.h ?_); (exact Sb.r))
      | some m =>
        have hm := lenF_in hsh hsin (by omega) hl
        have ed : decide ((0 : Int) ≤ (some m).getD (-1)) = true := decide_eq_true hm.1
        (refine GO.assign rfl rfl ?_; refine GO.nil ?_; refine kthen_n ?_; refine G.seq ?_; refine G.region ?_; refine GO.move rfl rfl ?_; refine GO.gei rfl rfl rfl ?_; refine GO.move rfl rfl ?_)
        rw [ed]
        (refine GO.gT rfl rfl rfl ?_; refine GO.move rfl rfl ?_; refine GO.gT rfl rfl rfl ?_; refine GO.move rfl rfl ?_; refine GO.gT rfl rfl rfl ?_; refine GO.idxS rfl rfl rfl ⟨rfl, by omega⟩ ?_; refine GO.gT rfl rfl rfl ?_)
        refine GO.load1 rfl rfl rfl (by (exact (Tk.t (Tk.t Tk.h)))) (rowV_get1 hkn) ?_
        (refine GO.gT rfl rfl rfl ?_; refine GO.lti rfl rfl rfl ?_; refine GO.gT rfl rfl rfl ?_; refine GO.move rfl rfl ?_)
        by_cases hneg : t k < 0
        · have ed2 : decide (t k < 0) = true := decide_eq_true hneg
          have er : rndStep s t ((k : Int), ss) = upd t k m := by unfold rndStep; simp [hl, hneg]
          rw [er] at hnext
          rw [ed2]
          (refine GO.gF rfl rfl rfl rfl ?_; refine GO.gF rfl rfl rfl rfl ?_; refine GO.gF rfl rfl rfl rfl ?_; refine GO.gF rfl rfl rfl rfl ?_; refine GO.gF rfl rfl rfl rfl ?_; refine GO.gF rfl rfl rfl rfl ?_; refine GO.gT rfl rfl rfl ?_; refine GO.pickT rfl rfl rfl ?_; refine GO.pickT rfl rfl rfl ?_; refine GO.nil ?_; refine kthen_n ?_; refine G.condT rfl rfl ?_; refine G.region ?_; refine GO.move rfl rfl ?_; refine GO.move rfl rfl ?_; refine GO.move rfl rfl ?_; refine GO.idxS rfl rfl rfl ⟨rfl, by omega⟩ ?_)
          refine GO.store1 rfl rfl rfl (by (exact (Tk.t (Tk.t Tk.h)))) (by rw [rowV_len]; omega) ?_
          rw [show (some m).getD (-1) = m from rfl, rowV_set]
          (refine GO.nil ?_; refine kblock_n ?_; refine kthen_n ?_; refine G.region ?_; refine GO.move rfl rfl ?_; refine GO.addi rfl rfl rfl (by omega) ?_; refine GO.assign rfl rfl ?_; refine GO.nil ?_; refine kthen_n ?_)
          refine ⟨i + 1, ⟨by omega, hnin⟩, by omega, ?_, ?_⟩
          · (refine SubE.c rfl rfl ?_; refine SubE.c rfl rfl ?_; refine SubE.c rfl rfl ?_; refine SubE.c rfl rfl ?_; refine SubE.c rfl rfl ?_; refine SubE.c rfl rfl ?_; exact SubE.n)
          · rw [hnext]; ((refine Sb.c Tk.h ?_; refine Sb.c (Tk.t Tk.h) ?_; refine Sb.c (Tk.t Tk.h) ?_; refine Sb.c Tk.h ?_); (exact Sb.r))
        · have ed2 : decide (t k < 0) = false := decide_eq_false hneg
          rw [ed2]
          (refine GO.gT rfl rfl rfl ?_; refine GO.move rfl rfl ?_; refine GO.gT rfl rfl rfl ?_; refine GO.move rfl rfl ?_; refine GO.gT rfl rfl rfl ?_; refine GO.move rfl rfl ?_; refine GO.gT rfl rfl rfl ?_; refine GO.idxS rfl rfl rfl ⟨rfl, by omega⟩ ?_; refine GO.gT rfl rfl rfl ?_)
          refine GO.load1 rfl rfl rfl (by (exact (Tk.t (Tk.t Tk.h)))) (rowV_get1 hkn) ?_
          (refine GO.gT rfl rfl rfl ?_; refine GO.lti rfl rfl rfl ?_; refine GO.gT rfl rfl rfl ?_; refine GO.pickF rfl rfl rfl ?_; refine GO.pickT rfl rfl rfl ?_; refine GO.nil ?_; refine kthen_n ?_)
          refine G.condD rfl (fun hlm => ?_) (fun hlm => ?_)
          · have hlm' : m < t k := hlm
            have er : rndStep s t ((k : Int), ss) = upd t k m := by unfold rndStep; simp [hl, hlm']
            rw [er] at hnext
            (refine G.region ?_; refine GO.move rfl rfl ?_; refine GO.move rfl rfl ?_; refine GO.move rfl rfl ?_; refine GO.idxS rfl rfl rfl ⟨rfl, by omega⟩ ?_)
            refine GO.store1 rfl rfl rfl (by (exact (Tk.t (Tk.t Tk.h)))) (by rw [rowV_len]; omega) ?_
            rw [show (some m).getD (-1) = m from rfl, rowV_set]
            (refine GO.nil ?_; refine kblock_n ?_; refine kthen_n ?_; refine G.region ?_; refine GO.move rfl rfl ?_; refine GO.addi rfl rfl rfl (by omega) ?_; refine GO.assign rfl rfl ?_; refine GO.nil ?_; refine kthen_n ?_)
            refine ⟨i + 1, ⟨by omega, hnin⟩, by omega, ?_, ?_⟩
            · (refine SubE.c rfl rfl ?_; refine SubE.c rfl rfl ?_; refine SubE.c rfl rfl ?_; refine SubE.c rfl rfl ?_; refine SubE.c rfl rfl ?_; refine SubE.c rfl rfl ?_; exact SubE.n)
            · rw [hnext]; ((refine Sb.c Tk.h ?_; refine Sb.c (Tk.t Tk.h) ?_; refine Sb.c (Tk.t Tk.h) ?_; refine Sb.c Tk.h ?_); (exact Sb.r))
          · have hlm' : ¬ m < t k := hlm
            have er : rndStep s t ((k : Int), ss) = t := by unfold rndStep; simp [hl, hlm', hneg]
            rw [er] at hnext
            (refine G.skip ?_; refine kblock_n ?_; refine kthen_n ?_; refine G.region ?_; refine GO.move rfl rfl ?_; refine GO.addi rfl rfl rfl (by omega) ?_; refine GO.assign rfl rfl ?_; refine GO.nil ?_; refine kthen_n ?_)
            refine ⟨i + 1, ⟨by omega, hnin⟩, by omega, ?_, ?_⟩
            · (refine SubE.c rfl rfl ?_; refine SubE.c rfl rfl ?_; refine SubE.c rfl rfl ?_; refine SubE.c rfl rfl ?_; refine SubE.c rfl rfl ?_; refine SubE.c rfl rfl ?_; exact SubE.n)
            · rw [hnext]; ((refine Sb.c (Tk.t (Tk.t Tk.h)) ?_; refine Sb.c (Tk.t Tk.h) ?_; refine Sb.c (Tk.t Tk.h) ?_; refine Sb.c Tk.h ?_); (exact Sb.r))
    · have : i = C.prods.length := by omega
      subst this
      rw [List.take_length] at hti ⊢
      change Shorts (rnd C.prods s) n at hti
      rw [show C.prods.foldl (rndStep s) (fun _ => -1) = rnd C.prods s from rfl]
      simp only [leastS] at hL
      (refine G.exit ?_; refine G.seq ?_; refine G.seq ?_; refine G.region ?_; refine GO.move rfl rfl ?_; refine GO.move rfl rfl ?_)
      refine GO.call2 rfl rfl rfl (sameInts_spec s (rnd C.prods s) n bo b8 (by omega)) (Tks.c (Tk.t Tk.h) (Tks.c Tk.h Tks.n)) ?_
      rintro _ _ ⟨rfl, rfl⟩
      (refine GO.nil ?_; refine kthen_n ?_)
      refine G.cond rfl (fun hb => ?_) (fun hb => ?_)
      · rw [if_pos hb] at hL
        (refine G.seq ?_; refine G.region ?_; refine GO.move rfl rfl ?_; refine GO.assign rfl rfl ?_; refine GO.nil ?_; refine kthen_n ?_; refine G.ret ?_; refine kthen_r ?_; refine kblock_r ?_; refine kthen_r ?_; refine kthen_r ?_; refine kblock_r ?_; refine kthen_r ?_)
        refine KF.r1 rfl (RV.t rfl) ⟨b8, rfl, rfl⟩ ?_
        rw [← hL]; ((refine Sb.c (Tk.t Tk.h) ?_; refine Sb.c (Tk.t (Tk.t Tk.h)) ?_); (refine Sb.s ?_; refine Sb.s ?_; exact Sb.r))
      · rw [if_neg (by rw [hb]; simp)] at hL
        (refine G.skip ?_; refine kthen_n ?_; refine G.region ?_; refine GO.move rfl rfl ?_; refine GO.assign rfl rfl ?_; refine GO.nil ?_; refine kblock_n ?_; refine kthen_n ?_; refine G.region ?_; refine GO.move rfl rfl ?_; refine GO.addi rfl rfl rfl (by omega) ?_; refine GO.assign rfl rfl ?_; refine GO.nil ?_; refine kthen_n ?_)
        refine ⟨j + 1, rnd C.prods s, b8, ⟨by omega, hti, hL⟩, by omega, ?_, ?_⟩
        · (refine SubE.c rfl rfl ?_; refine SubE.c rfl rfl ?_; refine SubE.c rfl rfl ?_; refine SubE.c rfl rfl ?_; exact SubE.n)
        · ((refine Sb.c (Tk.t Tk.h) ?_; refine Sb.c (Tk.t Tk.h) ?_; refine Sb.c (Tk.t Tk.h) ?_); (refine Sb.s ?_; exact Sb.r))
  · have : j = lv := by omega
    subst this
    rw [Nat.sub_self] at hL
    simp only [leastS] at hL
    (refine G.exit ?_; refine G.seq ?_; refine G.region ?_; refine GO.move rfl rfl ?_; refine GO.assign rfl rfl ?_; refine GO.nil ?_; refine kthen_n ?_; refine G.ret ?_)
    refine KF.r1 rfl (RV.t rfl) ⟨bo, rfl, rfl⟩ ?_
    rw [← hL]; ((refine Sb.c Tk.h ?_; refine Sb.c (Tk.t Tk.h) ?_); (refine Sb.s ?_; exact Sb.r))
end Go.Proofs.Ytcemehocbemfmaa
namespace Go.Proofs.Ytcemehocbemfmaa
open Go
attribute [local irreducible] G GO GR GT Fn FnV pt init exs pur sat own ImpS
theorem rshortest_spec (q : HP) (v : Value) (C : CnfD) (n : Nat) (hv : CnfR q v C) (hz : Fits C) (hn : C.nts = n) (hn1 : n ≤ 1024) (hin : ∀ p ∈ C.prods, prodIn n p) : Fn Try.prog 15 #[v] [q]
    (fun r Q => ∃ b, r = .slice (some ⟨b, 0, none⟩) n n ∧ Q = [pt b (row (numsV (leastS C.prods n (n + 1) (fun _ => -1)) n) 3), q]) := by
  have hv0 := hv
  obtain ⟨pv, rfl, hp⟩ := hv
  obtain ⟨a0, cap0, rfl⟩ := hp.form
  rw [hn] at hv0 ⊢
  refine Fn.mk Try.func15 rfl rfl fun w0 F => ?_
  (refine G.seq ?_; refine G.region ?_)
  refine GO.box rfl rfl rfl fun b1 => ?_
  (refine GO.assign rfl rfl ?_; refine GO.nil ?_; refine kthen_n ?_; refine G.seq ?_; refine G.region ?_)
  refine GO.loadW rfl rfl rfl Tk.h rfl ?_
  (refine GO.fieldAddr rfl rfl ?_; refine GO.load1 rfl rfl rfl Tk.h rfl ?_; refine GO.addi rfl rfl rfl (by omega) ?_)
  refine GO.call2 rfl rfl rfl (least_spec q _ C n (n + 1) hv0 hz hn hn1 (by omega) hin) (Tks.c (Tk.t Tk.h) Tks.n) ?_
  rintro _ _ ⟨b, rfl, rfl⟩
  (refine GO.assign rfl rfl ?_; refine GO.nil ?_; refine kthen_n ?_; refine G.ret ?_)
  refine KF.r1 rfl (RV.t rfl) ⟨b, rfl, rfl⟩ ?_
  ((refine Sb.c Tk.h ?_; refine Sb.c Tk.h ?_); (refine Sb.s ?_; exact Sb.r))
set_option maxHeartbeats 4000000 in
set_option maxRecDepth 20000 in
theorem rempty_spec (q : HP) (v : Value) (C : CnfD) (n : Nat) (hv : CnfR q v C) (hz : Fits C) (hn : C.nts = n) (hn1 : n ≤ 1024) (hin : ∀ p ∈ C.prods, prodIn n p) : Fn Try.prog 17 #[v] [q]
    (fun r Q => ∃ b, r = .slice (some ⟨b, 0, none⟩) n n ∧ Q = [pt b (row (boolsV (fun i => decide (leastS C.prods n (n + 1) (fun _ => -1) i = 0)) n) 4), q]) := by
  have hv0 := hv
  obtain ⟨pv, rfl, hp⟩ := hv
  obtain ⟨a0, cap0, rfl⟩ := hp.form
  rw [hn] at hv0 ⊢
  refine Fn.mk Try.func17 rfl rfl fun w0 F => ?_
  (refine G.seq ?_; refine G.region ?_)
  refine GO.box rfl rfl rfl fun b1 => ?_
  (refine GO.assign rfl rfl ?_; refine GO.nil ?_; refine kthen_n ?_; refine G.seq ?_; refine G.region ?_)
  refine GO.loadW rfl rfl rfl Tk.h rfl ?_
  refine GO.call1 rfl rfl (rshortest_spec q _ C n hv0 hz hn hn1 hin) (Tks.c (Tk.t Tk.h) Tks.n) ?_
  rintro _ _ ⟨bl, rfl, rfl⟩
  generalize leastS C.prods n (n + 1) (fun _ => -1) = s
  (refine GO.assign rfl rfl ?_; refine GO.nil ?_; refine kthen_n ?_; refine G.seq ?_; refine G.region ?_; refine GO.fieldAddr rfl rfl ?_; refine GO.load1 rfl rfl rfl (Tk.t (Tk.t Tk.h)) rfl ?_)
  refine GO.make1 (n := n) rfl rfl rfl ⟨rfl, rfl⟩ ⟨by omega, by omega⟩ fun bo => ?_
  rw [rowV_const (f := Value.bool)]
  (refine GO.assign rfl rfl ?_; refine GO.nil ?_; refine kthen_n ?_; refine G.seq ?_; refine G.seq ?_; refine G.region ?_; refine GO.assign rfl rfl ?_; refine GO.nil ?_; refine kthen_n ?_; refine G.block ?_)
  refine G.loop2 (fun (k : Nat) (_ : Nat → Bool) => [(1, .pointer (some ⟨b1, 0, none⟩)), (3, .slice (some ⟨bl, 0, none⟩) n n), (4, .slice (some ⟨bo, 0, none⟩) n n), (5, i64 k)]) (fun _ t => pt bo (row (boolsV t n) 4) :: pt bl (row (numsV s n) 3) :: pt b1 (row [i64 n, .slice a0 C.prods.length cap0] 24) :: q :: F)
    (fun k t => k ≤ n ∧ ∀ i, i < k → t i = decide (s i = 0)) (fun k _ => n - k) 0 (fun _ => false) ⟨by omega, fun i hi => by omega⟩ ?_ ?_ ?_
  · (refine SubE.c rfl rfl ?_; refine SubE.c rfl rfl ?_; refine SubE.c rfl rfl ?_; refine SubE.c rfl rfl ?_; exact SubE.n)
  · ((refine Sb.c Tk.h ?_; refine Sb.c Tk.h ?_; refine Sb.c (Tk.t Tk.h) ?_; refine Sb.c Tk.h ?_); (exact Sb.r))
  rintro k t ⟨hk, ht⟩
  (refine G.seq ?_; refine G.seq ?_; refine G.region ?_; refine GO.move rfl rfl ?_; refine GO.fieldAddr rfl rfl ?_; refine GO.load1 rfl rfl rfl (Tk.t (Tk.t Tk.h)) rfl ?_; refine GO.lti rfl rfl rfl ?_; refine GO.nil ?_; refine kthen_n ?_)
  refine G.condD rfl (fun hlt => ?_) (fun hge => ?_)
  · have hlt' : k < n := by omega
    (refine G.skip ?_; refine kthen_n ?_; refine G.seq ?_; refine G.block ?_; refine G.region ?_; refine GO.move rfl rfl ?_; refine GO.move rfl rfl ?_; refine GO.move rfl rfl ?_; refine GO.move rfl rfl ?_; refine GO.idxS rfl rfl rfl ⟨rfl, by omega⟩ ?_)
    refine GO.load1 rfl rfl rfl (by (exact (Tk.t Tk.h))) (rowV_get1 hlt') ?_
    (refine GO.eqi rfl rfl rfl ?_; refine GO.idxS rfl rfl rfl ⟨rfl, by omega⟩ ?_)
    refine GO.store1 rfl rfl rfl (by (exact Tk.h)) (by rw [rowV_len]; omega) ?_
    rw [rowV_set]
    (refine GO.nil ?_; refine kblock_n ?_; refine kthen_n ?_; refine G.region ?_; refine GO.move rfl rfl ?_; refine GO.addi rfl rfl rfl (by omega) ?_; refine GO.assign rfl rfl ?_; refine GO.nil ?_; refine kthen_n ?_)
    refine ⟨k + 1, upd t k (decide (s k = 0)), ⟨by omega, fun i hi => ?_⟩, by omega, ?_, ?_⟩
    · by_cases e : i = k
      · subst e; exact upd_at _ _ _
      · rw [upd_ne _ _ e]; exact ht i (by omega)
    · (refine SubE.c rfl rfl ?_; refine SubE.c rfl rfl ?_; refine SubE.c rfl rfl ?_; refine SubE.c rfl rfl ?_; exact SubE.n)
    · ((refine Sb.c Tk.h ?_; refine Sb.c Tk.h ?_; refine Sb.c Tk.h ?_; refine Sb.c Tk.h ?_); (exact Sb.r))
  · have hkn : n = k := by omega
    subst hkn
    have hb : boolsV t n = boolsV (fun i => decide (s i = 0)) n := by
      unfold boolsV rowV
      apply List.map_congr_left
      intro i hi
      rw [ht i (by simpa using hi)]
    rw [hb]
    (refine G.exit ?_; refine G.seq ?_; refine G.region ?_; refine GO.move rfl rfl ?_; refine GO.assign rfl rfl ?_; refine GO.nil ?_; refine kthen_n ?_; refine G.ret ?_)
    refine KF.r1 rfl (RV.t rfl) ⟨bo, rfl, rfl⟩ ?_
    ((refine Sb.c Tk.h ?_; refine Sb.c (Tk.t (Tk.t Tk.h)) ?_); (refine Sb.s ?_; refine Sb.s ?_; exact Sb.r))
set_option maxHeartbeats 4000000 in
set_option maxRecDepth 20000 in
theorem rfruitful_spec (q : HP) (v : Value) (C : CnfD) (n : Nat) (hv : CnfR q v C) (hz : Fits C) (hn : C.nts = n) (hn1 : n ≤ 1024) (hin : ∀ p ∈ C.prods, prodIn n p) : Fn Try.prog 18 #[v] [q]
    (fun r Q => ∃ b, r = .slice (some ⟨b, 0, none⟩) n n ∧ Q = [pt b (row (boolsV (fun i => decide (0 ≤ leastS C.prods n (n + 1) (fun _ => -1) i)) n) 4), q]) := by
  have hv0 := hv
  obtain ⟨pv, rfl, hp⟩ := hv
  obtain ⟨a0, cap0, rfl⟩ := hp.form
  rw [hn] at hv0 ⊢
  refine Fn.mk Try.func18 rfl rfl fun w0 F => ?_
  (refine G.seq ?_; refine G.region ?_)
  refine GO.box rfl rfl rfl fun b1 => ?_
  (refine GO.assign rfl rfl ?_; refine GO.nil ?_; refine kthen_n ?_; refine G.seq ?_; refine G.region ?_)
  refine GO.loadW rfl rfl rfl Tk.h rfl ?_
  refine GO.call1 rfl rfl (rshortest_spec q _ C n hv0 hz hn hn1 hin) (Tks.c (Tk.t Tk.h) Tks.n) ?_
  rintro _ _ ⟨bl, rfl, rfl⟩
  generalize leastS C.prods n (n + 1) (fun _ => -1) = s
  (refine GO.assign rfl rfl ?_; refine GO.nil ?_; refine kthen_n ?_; refine G.seq ?_; refine G.region ?_; refine GO.fieldAddr rfl rfl ?_; refine GO.load1 rfl rfl rfl (Tk.t (Tk.t Tk.h)) rfl ?_)
  refine GO.make1 (n := n) rfl rfl rfl ⟨rfl, rfl⟩ ⟨by omega, by omega⟩ fun bo => ?_
  rw [rowV_const (f := Value.bool)]
  (refine GO.assign rfl rfl ?_; refine GO.nil ?_; refine kthen_n ?_; refine G.seq ?_; refine G.seq ?_; refine G.region ?_; refine GO.assign rfl rfl ?_; refine GO.nil ?_; refine kthen_n ?_; refine G.block ?_)
  refine G.loop2 (fun (k : Nat) (_ : Nat → Bool) => [(1, .pointer (some ⟨b1, 0, none⟩)), (3, .slice (some ⟨bl, 0, none⟩) n n), (4, .slice (some ⟨bo, 0, none⟩) n n), (5, i64 k)]) (fun _ t => pt bo (row (boolsV t n) 4) :: pt bl (row (numsV s n) 3) :: pt b1 (row [i64 n, .slice a0 C.prods.length cap0] 24) :: q :: F)
    (fun k t => k ≤ n ∧ ∀ i, i < k → t i = decide (0 ≤ s i)) (fun k _ => n - k) 0 (fun _ => false) ⟨by omega, fun i hi => by omega⟩ ?_ ?_ ?_
  · (refine SubE.c rfl rfl ?_; refine SubE.c rfl rfl ?_; refine SubE.c rfl rfl ?_; refine SubE.c rfl rfl ?_; exact SubE.n)
  · ((refine Sb.c Tk.h ?_; refine Sb.c Tk.h ?_; refine Sb.c (Tk.t Tk.h) ?_; refine Sb.c Tk.h ?_); (exact Sb.r))
  rintro k t ⟨hk, ht⟩
  (refine G.seq ?_; refine G.seq ?_; refine G.region ?_; refine GO.move rfl rfl ?_; refine GO.fieldAddr rfl rfl ?_; refine GO.load1 rfl rfl rfl (Tk.t (Tk.t Tk.h)) rfl ?_; refine GO.lti rfl rfl rfl ?_; refine GO.nil ?_; refine kthen_n ?_)
  refine G.condD rfl (fun hlt => ?_) (fun hge => ?_)
  · have hlt' : k < n := by omega
    (refine G.skip ?_; refine kthen_n ?_; refine G.seq ?_; refine G.block ?_; refine G.region ?_; refine GO.move rfl rfl ?_; refine GO.move rfl rfl ?_; refine GO.move rfl rfl ?_; refine GO.move rfl rfl ?_; refine GO.idxS rfl rfl rfl ⟨rfl, by omega⟩ ?_)
    refine GO.load1 rfl rfl rfl (by (exact (Tk.t Tk.h))) (rowV_get1 hlt') ?_
    (refine GO.gei rfl rfl rfl ?_; refine GO.idxS rfl rfl rfl ⟨rfl, by omega⟩ ?_)
    refine GO.store1 rfl rfl rfl (by (exact Tk.h)) (by rw [rowV_len]; omega) ?_
    rw [rowV_set]
    (refine GO.nil ?_; refine kblock_n ?_; refine kthen_n ?_; refine G.region ?_; refine GO.move rfl rfl ?_; refine GO.addi rfl rfl rfl (by omega) ?_; refine GO.assign rfl rfl ?_; refine GO.nil ?_; refine kthen_n ?_)
    refine ⟨k + 1, upd t k (decide (0 ≤ s k)), ⟨by omega, fun i hi => ?_⟩, by omega, ?_, ?_⟩
    · by_cases e : i = k
      · subst e; exact upd_at _ _ _
      · rw [upd_ne _ _ e]; exact ht i (by omega)
    · (refine SubE.c rfl rfl ?_; refine SubE.c rfl rfl ?_; refine SubE.c rfl rfl ?_; refine SubE.c rfl rfl ?_; exact SubE.n)
    · ((refine Sb.c Tk.h ?_; refine Sb.c Tk.h ?_; refine Sb.c Tk.h ?_; refine Sb.c Tk.h ?_); (exact Sb.r))
  · have hkn : n = k := by omega
    subst hkn
    have hb : boolsV t n = boolsV (fun i => decide (0 ≤ s i)) n := by
      unfold boolsV rowV
      apply List.map_congr_left
      intro i hi
      rw [ht i (by simpa using hi)]
    rw [hb]
    (refine G.exit ?_; refine G.seq ?_; refine G.region ?_; refine GO.move rfl rfl ?_; refine GO.assign rfl rfl ?_; refine GO.nil ?_; refine kthen_n ?_; refine G.ret ?_)
    refine KF.r1 rfl (RV.t rfl) ⟨bo, rfl, rfl⟩ ?_
    ((refine Sb.c Tk.h ?_; refine Sb.c (Tk.t (Tk.t Tk.h)) ?_); (refine Sb.s ?_; refine Sb.s ?_; exact Sb.r))
end Go.Proofs.Ytcemehocbemfmaa
namespace Go.Proofs.Ytcemehocbemfmaa
open Go
/-- 66 stands for none. -/
def vN (x : Int) : Nat := if x = -1 then 66 else x.toNat
/-- The least length of a body's words, none being 66. -/
def longU (u : Nat → Nat) : List SymD → Nat → Nat
  | [], m => m
  | (true, _) :: r, m => longU u r (min 65 (m + 1))
  | (false, k) :: r, m => if 66 ≤ u k.toNat then 66 else longU u r (min 65 (m + u k.toNat))
theorem vN_le {s : Nat → Int} {n i : Nat} (hs : Shorts s n) (hi : i < n) : vN (s i) ≤ 66 ∧ (66 ≤ vN (s i) ↔ s i = -1) := by
  have := hs i hi
  unfold vN
  split <;> omega
theorem longU_lenF {s : Nat → Int} {n : Nat} (hs : Shorts s n) : ∀ {ss : List SymD} {m : Int}, (∀ x ∈ ss, symIn n x) → 0 ≤ m ∧ m ≤ 65 → vN ((lenF s ss m).getD (-1)) = longU (fun i => vN (s i)) ss m.toNat
  | [], m, _, hm => by
    have : ¬ m = -1 := by omega
    simp [lenF, longU, vN, this]
  | (true, i) :: r, m, hi, hm => by
    have := longU_lenF hs (ss := r) (m := min 65 (m + 1)) (fun x hx => hi x (List.mem_cons_of_mem _ hx)) (by omega)
    simp only [lenF, longU]
    rw [this]; congr 1; omega
  | (false, i) :: r, m, hi, hm => by
    have h1 := hi (false, i) (by simp) rfl
    dsimp only at h1
    have hk : i.toNat < n := by omega
    have h2 := hs i.toNat hk
    have h3 := (vN_le hs hk).2
    simp only [lenF, longU]
    by_cases hne : s i.toNat = -1
    · rw [if_pos hne, if_pos (h3.2 hne)]; rfl
    · rw [if_neg hne, if_neg (fun h => hne (h3.1 h))]
      have := longU_lenF hs (ss := r) (m := min 65 (m + s i.toNat)) (fun x hx => hi x (List.mem_cons_of_mem _ hx)) (by omega)
      rw [this]; congr 1
      unfold vN; rw [if_neg hne]; omega
theorem longU_ge (u : Nat → Nat) : ∀ (ss : List SymD) (m : Nat), m ≤ 65 → m ≤ longU u ss m ∧ longU u ss m ≤ 66
  | [], m, h => by simp [longU]; omega
  | (true, _) :: r, m, h => by
    have := longU_ge u r (min 65 (m + 1)) (by omega)
    simp only [longU]; omega
  | (false, k) :: r, m, h => by
    simp only [longU]
    split
    · omega
    · have := longU_ge u r (min 65 (m + u k.toNat)) (by omega)
      omega
theorem longU_mono {u w : Nat → Nat} {n : Nat} (h : ∀ i, i < n → u i ≤ w i) : ∀ (ss : List SymD) (m m' : Nat), (∀ x ∈ ss, symIn n x) → m ≤ m' → m' ≤ 65 → longU u ss m ≤ longU w ss m'
  | [], m, m', _, hm, _ => hm
  | (true, _) :: r, m, m', hi, hm, hm' => longU_mono h r _ _ (fun x hx => hi x (List.mem_cons_of_mem _ hx)) (by omega) (by omega)
  | (false, k) :: r, m, m', hi, hm, hm' => by
    have h1 := hi (false, k) (by simp) rfl
    dsimp only at h1
    have h2 := h k.toNat (by omega)
    simp only [longU]
    by_cases hw : 66 ≤ w k.toNat
    · rw [if_pos hw]
      split
      · omega
      · exact (longU_ge u r _ (by omega)).2
    · rw [if_neg hw, if_neg (by omega)]
      exact longU_mono h r _ _ (fun x hx => hi x (List.mem_cons_of_mem _ hx)) (by omega) (by omega)
/-- Where a body gets shorter, one of its nonterminals has. -/
theorem longU_comp {u w : Nat → Nat} {n : Nat} (h : ∀ i, i < n → u i ≤ w i) (hb : ∀ i, i < n → u i ≤ 65 ∨ 66 ≤ u i) : ∀ (ss : List SymD) (m : Nat), (∀ x ∈ ss, symIn n x) → m ≤ 65 → longU u ss m < longU w ss m →
    ∃ k, k < n ∧ u k < w k ∧ u k ≤ longU u ss m
  | [], m, _, _, hlt => absurd hlt (by simp [longU])
  | (true, _) :: r, m, hi, hm, hlt => longU_comp h hb r (min 65 (m + 1)) (fun x hx => hi x (List.mem_cons_of_mem _ hx)) (by omega) hlt
  | (false, k) :: r, m, hi, hm, hlt => by
    have h1 := hi (false, k) (by simp) rfl
    dsimp only at h1
    have hk : k.toNat < n := by omega
    have h2 := h k.toNat hk
    have hwle := (longU_ge w ((false, k) :: r) m hm).2
    by_cases hu : 66 ≤ u k.toNat
    · have e : longU u ((false, k) :: r) m = 66 := by simp only [longU]; rw [if_pos hu]
      rw [e] at hlt; omega
    · have e : longU u ((false, k) :: r) m = longU u r (min 65 (m + u k.toNat)) := by simp only [longU]; rw [if_neg hu]
      rw [e] at hlt ⊢
      by_cases hd : u k.toNat < w k.toNat
      · refine ⟨k.toNat, hk, hd, ?_⟩
        have := (longU_ge u r (min 65 (m + u k.toNat)) (by omega)).1
        omega
      · have heq : w k.toNat = u k.toNat := by omega
        have e2 : longU w ((false, k) :: r) m = longU w r (min 65 (m + u k.toNat)) := by simp only [longU]; rw [if_neg (by omega), heq]
        rw [e2] at hlt
        exact longU_comp h hb r _ (fun x hx => hi x (List.mem_cons_of_mem _ hx)) (by omega) hlt
theorem nodup_short : ∀ (n : Nat) (l : List Nat), l.Nodup → (∀ x ∈ l, x < n) → l.length ≤ n
  | 0, l, _, h => by
    cases l with
    | nil => simp
    | cons a l => exact absurd (h a (by simp)) (by omega)
  | n + 1, l, hd, h => by
    by_cases hm : n ∈ l
    · have := nodup_short n (l.erase n) (hd.erase n) (fun x hx => by
        have h1 := h x (List.mem_of_mem_erase hx)
        have h2 : x ≠ n := fun e => by subst e; exact (List.Nodup.not_mem_erase hd) hx
        omega)
      rw [List.length_erase_of_mem hm] at this
      omega
    · have := nodup_short n l hd (fun x hx => by
        have h1 := h x hx
        have h2 : x ≠ n := fun e => by subst e; exact hm hx
        omega)
      omega
/-! ### The rounds -/
section
variable {ps : List ProdD} {n : Nat}
theorem rnd_in (hin : ∀ p ∈ ps, prodIn n p) {s : Nat → Int} (hs : Shorts s n) : Shorts (rnd ps s) n := by
  have key : ∀ (l : List ProdD) (t : Nat → Int), (∀ p ∈ l, prodIn n p) → Shorts t n → Shorts (l.foldl (rndStep s) t) n := by
    intro l
    induction l with
    | nil => intro t _ ht; exact ht
    | cons p l ih => intro t hp ht; exact ih _ (fun p' h' => hp p' (by simp [h'])) (rndStep_in hs ht (hp p (by simp)))
  exact key ps _ hin (fun i _ => by show (-1 : Int) ≤ -1 ∧ (-1 : Int) ≤ 65; decide)
/-- What a round makes of a nonterminal: the least that its bodies give. -/
theorem rnd_spec (hin : ∀ p ∈ ps, prodIn n p) {s : Nat → Int} (hs : Shorts s n) : (∀ p ∈ ps, vN (rnd ps s p.1.toNat) ≤ longU (fun i => vN (s i)) p.2 0) ∧
    ∀ i, i < n → vN (rnd ps s i) = 66 ∨ ∃ p ∈ ps, p.1.toNat = i ∧ vN (rnd ps s i) = longU (fun i => vN (s i)) p.2 0 := by
  have key : ∀ (l : List ProdD) (t : Nat → Int), (∀ p ∈ l, prodIn n p) → Shorts t n →
      (∀ i, i < n → vN (l.foldl (rndStep s) t i) ≤ vN (t i)) ∧ (∀ p ∈ l, vN (l.foldl (rndStep s) t p.1.toNat) ≤ longU (fun i => vN (s i)) p.2 0) ∧
      ∀ i, i < n → vN (l.foldl (rndStep s) t i) = vN (t i) ∨ ∃ p ∈ l, p.1.toNat = i ∧ vN (l.foldl (rndStep s) t i) = longU (fun i => vN (s i)) p.2 0 := by
    intro l
    induction l with
    | nil => intro t _ _; exact ⟨fun i _ => Nat.le_refl _, fun p hp => by simp at hp, fun i _ => .inl rfl⟩
    | cons p l ih =>
      intro t hp ht
      have hpp := hp p (by simp)
      have hk : p.1.toNat < n := by have := hpp.1; omega
      have hlen := longU_lenF hs hpp.2 (m := 0) (by omega)
      -- one step
      have one : (∀ i, i < n → vN (rndStep s t p i) ≤ vN (t i)) ∧ vN (rndStep s t p p.1.toNat) ≤ longU (fun i => vN (s i)) p.2 0 ∧
          ∀ i, i < n → vN (rndStep s t p i) = vN (t i) ∨ (p.1.toNat = i ∧ vN (rndStep s t p i) = longU (fun i => vN (s i)) p.2 0) := by
        unfold rndStep
        cases hl : lenF s p.2 0 with
        | none =>
          rw [hl] at hlen
          have h66 : longU (fun i => vN (s i)) p.2 0 = 66 := by rw [show (0 : Nat) = (0 : Int).toNat from rfl, ← hlen]; rfl
          refine ⟨fun i _ => Nat.le_refl _, ?_, fun i _ => .inl rfl⟩
          rw [h66]; exact (vN_le ht hk).1
        | some m =>
          rw [hl] at hlen
          have hm := lenF_in hs hpp.2 (by omega) hl
          have hvm : vN m = longU (fun i => vN (s i)) p.2 0 := hlen
          have hm1 : ¬ m = -1 := by omega
          have hvm' : vN m = m.toNat := by unfold vN; rw [if_neg hm1]
          have htk := ht p.1.toNat hk
          simp only
          split
          · rename_i hc
            refine ⟨fun i hi => ?_, by rw [upd_at, hvm]; exact Nat.le_refl _, fun i hi => ?_⟩
            · by_cases e : i = p.1.toNat
              · subst e; rw [upd_at, hvm']
                unfold vN; split <;> omega
              · rw [upd_ne _ _ e]; exact Nat.le_refl _
            · by_cases e : i = p.1.toNat
              · subst e; right; exact ⟨rfl, by rw [upd_at, hvm]⟩
              · left; rw [upd_ne _ _ e]
          · rename_i hc
            refine ⟨fun i _ => Nat.le_refl _, ?_, fun i _ => .inl rfl⟩
            rw [← hvm, hvm']
            unfold vN; split <;> omega
      have ht' := rndStep_in hs ht hpp
      obtain ⟨i1, i2, i3⟩ := ih (rndStep s t p) (fun p' h' => hp p' (by simp [h'])) ht'
      rw [List.foldl_cons]
      refine ⟨fun i hi => Nat.le_trans (i1 i hi) (one.1 i hi), fun p' hp' => ?_, fun i hi => ?_⟩
      · rcases List.mem_cons.1 hp' with rfl | hp'
        · exact Nat.le_trans (i1 _ hk) one.2.1
        · exact i2 p' hp'
      · rcases i3 i hi with h | ⟨p', hp', h1, h2⟩
        · rcases one.2.2 i hi with h' | ⟨h1, h2⟩
          · exact .inl (by rw [h, h'])
          · exact .inr ⟨p, by simp, h1, by rw [h, h2]⟩
        · exact .inr ⟨p', by simp [hp'], h1, h2⟩
  obtain ⟨_, k2, k3⟩ := key ps (fun _ => -1) hin (fun i _ => by show (-1 : Int) ≤ -1 ∧ (-1 : Int) ≤ 65; decide)
  exact ⟨k2, fun i hi => (k3 i hi).imp (fun h => by unfold rnd; rw [h]; rfl) id⟩
def itR (ps : List ProdD) : Nat → (Nat → Int)
  | 0 => fun _ => -1
  | k + 1 => rnd ps (itR ps k)
theorem itR_in (hin : ∀ p ∈ ps, prodIn n p) : ∀ k, Shorts (itR ps k) n
  | 0 => fun i _ => by show (-1 : Int) ≤ -1 ∧ (-1 : Int) ≤ 65; decide
  | k + 1 => rnd_in hin (itR_in hin k)
theorem rnd_mono (hin : ∀ p ∈ ps, prodIn n p) {s t : Nat → Int} (hs : Shorts s n) (ht : Shorts t n) (h : ∀ i, i < n → vN (s i) ≤ vN (t i)) : ∀ i, i < n → vN (rnd ps s i) ≤ vN (rnd ps t i) := by
  intro i hi
  rcases (rnd_spec hin ht).2 i hi with h1 | ⟨p, hp, h1, h2⟩
  · rw [h1]; exact (vN_le (rnd_in hin hs) hi).1
  · rw [h2, ← h1]
    exact Nat.le_trans ((rnd_spec hin hs).1 p hp) (longU_mono h p.2 0 0 (hin p hp).2 (Nat.le_refl _) (by omega))
theorem itR_dn (hin : ∀ p ∈ ps, prodIn n p) : ∀ k i, i < n → vN (itR ps (k + 1) i) ≤ vN (itR ps k i)
  | 0, i, hi => by
    have := (vN_le (itR_in hin 1) hi).1
    exact this
  | k + 1, i, hi => rnd_mono hin (itR_in hin (k + 1)) (itR_in hin k) (itR_dn hin k) i hi
theorem itR_le (hin : ∀ p ∈ ps, prodIn n p) {j k i : Nat} (hjk : j ≤ k) (hi : i < n) : vN (itR ps k i) ≤ vN (itR ps j i) := by
  induction hjk with
  | refl => exact Nat.le_refl _
  | step _ ih => exact Nat.le_trans (itR_dn hin _ i hi) ih
/-- A change in the k-th round comes of a chain of k changes at as many nonterminals. -/
theorem itR_chain (hin : ∀ p ∈ ps, prodIn n p) : ∀ k i, i < n → vN (itR ps (k + 1) i) < vN (itR ps k i) →
    ∃ l : List Nat, l.length = k + 1 ∧ l.Nodup ∧ (∀ x ∈ l, x < n) ∧ ∀ x ∈ l, ∃ j, j ≤ k + 1 ∧ vN (itR ps j x) ≤ vN (itR ps (k + 1) i)
  | 0, i, hi, hlt => ⟨[i], rfl, by simp, by simpa using hi, fun x hx => by simp at hx; subst hx; exact ⟨1, by omega, Nat.le_refl _⟩⟩
  | k + 1, i, hi, hlt => by
    have hlt : vN (itR ps (k + 2) i) < vN (itR ps (k + 1) i) := hlt
    show ∃ l : List Nat, l.length = k + 2 ∧ l.Nodup ∧ (∀ x ∈ l, x < n) ∧ ∀ x ∈ l, ∃ j, j ≤ k + 2 ∧ vN (itR ps j x) ≤ vN (itR ps (k + 2) i)
    have hne : vN (itR ps (k + 2) i) ≠ 66 := by have := (vN_le (itR_in hin (k + 1)) hi).1; omega
    rcases (rnd_spec hin (itR_in hin (k + 1))).2 i hi with h1 | ⟨p, hp, h1, h2⟩
    · exact absurd h1 hne
    · have h3 := (rnd_spec hin (itR_in hin k)).1 p hp
      rw [h1] at h3
      have h4 : longU (fun i => vN (itR ps (k + 1) i)) p.2 0 < longU (fun i => vN (itR ps k i)) p.2 0 := by
        have h5 : vN (itR ps (k + 2) i) = longU (fun i => vN (itR ps (k + 1) i)) p.2 0 := h2
        have h6 : vN (itR ps (k + 1) i) ≤ longU (fun i => vN (itR ps k i)) p.2 0 := h3
        omega
      obtain ⟨c, hc, hcl, hcv⟩ := longU_comp (n := n) (u := fun i => vN (itR ps (k + 1) i)) (w := fun i => vN (itR ps k i)) (itR_dn hin k) (fun i _ => by omega) p.2 0 (hin p hp).2 (by omega) h4
      obtain ⟨l, hl1, hl2, hl3, hl4⟩ := itR_chain hin k c hc hcl
      have hcv' : vN (itR ps (k + 1) c) ≤ vN (itR ps (k + 2) i) := by
        have h5 : vN (itR ps (k + 2) i) = longU (fun i => vN (itR ps (k + 1) i)) p.2 0 := h2
        rw [h5]; exact hcv
      refine ⟨i :: l, by simp [hl1], ?_, ?_, ?_⟩
      · rw [List.nodup_cons]
        refine ⟨fun hm => ?_, hl2⟩
        obtain ⟨j, hj, hv⟩ := hl4 i hm
        have := itR_le hin (j := j) (k := k + 1) hj hi
        omega
      · intro x hx
        rcases List.mem_cons.1 hx with rfl | hx
        · exact hi
        · exact hl3 x hx
      · intro x hx
        rcases List.mem_cons.1 hx with rfl | hx
        · exact ⟨k + 2, by omega, Nat.le_refl _⟩
        · obtain ⟨j, hj, hv⟩ := hl4 x hx
          exact ⟨j, by omega, by omega⟩
theorem itR_end (hin : ∀ p ∈ ps, prodIn n p) : ∀ i, i < n → vN (itR ps (n + 1) i) = vN (itR ps n i) := by
  intro i hi
  by_cases h : vN (itR ps (n + 1) i) < vN (itR ps n i)
  · obtain ⟨l, h1, h2, h3, _⟩ := itR_chain hin n i hi h
    have := nodup_short n l h2 h3
    omega
  · have := itR_dn hin n i hi
    omega
theorem vN_inj {s t : Nat → Int} (hs : Shorts s n) (ht : Shorts t n) {i : Nat} (hi : i < n) (h : vN (s i) = vN (t i)) : s i = t i := by
  have h1 := hs i hi
  have h2 := ht i hi
  unfold vN at h
  split at h <;> split at h <;> omega
theorem itR_fix (hin : ∀ p ∈ ps, prodIn n p) : ∀ i, i < n → vN (rnd ps (itR ps n) i) = vN (itR ps n i) := itR_end hin
/-- From where two rounds are the same on, all are. -/
theorem itR_same (hin : ∀ p ∈ ps, prodIn n p) {k : Nat} (h : ∀ i, i < n → itR ps k i = itR ps (k + 1) i) : ∀ j, k ≤ j → ∀ i, i < n → vN (itR ps j i) = vN (itR ps k i) := by
  intro j hj
  induction hj with
  | refl => intro i _; rfl
  | @step m _ ih =>
    intro i hi
    have h1 := rnd_mono hin (itR_in hin m) (itR_in hin k) (fun i hi => Nat.le_of_eq (ih i hi)) i hi
    have h2 := rnd_mono hin (itR_in hin k) (itR_in hin m) (fun i hi => Nat.le_of_eq (ih i hi).symm) i hi
    have h3 : itR ps k i = itR ps (k + 1) i := h i hi
    show vN (rnd ps (itR ps m) i) = _
    have h4 : vN (rnd ps (itR ps k) i) = vN (itR ps k i) := by rw [h3]; rfl
    omega
theorem leastS_it (hin : ∀ p ∈ ps, prodIn n p) : ∀ m k, k + m = n + 1 → ∀ i, i < n → leastS ps n m (itR ps k) i = itR ps n i
  | 0, k, hk, i, hi => by
    simp only [leastS]
    have : k = n + 1 := by omega
    subst this
    exact vN_inj (itR_in hin _) (itR_in hin _) hi (itR_end hin i hi)
  | m + 1, k, hk, i, hi => by
    simp only [leastS]
    by_cases hb : sameB (itR ps k) (rnd ps (itR ps k)) n = true
    · rw [if_pos hb]
      have hs := sameB_iff.1 hb
      have h1 := itR_same hin (k := k) (fun i hi => hs i hi)
      have h2 := h1 n (by omega) i hi
      have h3 := h1 (k + 1) (by omega) i hi
      exact vN_inj (itR_in hin (k + 1)) (itR_in hin n) hi (by rw [h2]; exact h3)
    · rw [if_neg hb]
      exact leastS_it hin m (k + 1) (by omega) i hi
/-- What the reference tells: the end of the rounds. -/
theorem leastS_end (hin : ∀ p ∈ ps, prodIn n p) (i : Nat) (hi : i < n) : leastS ps n (n + 1) (fun _ => -1) i = itR ps n i := leastS_it hin (n + 1) 0 (by omega) i hi
/-! ### The engine's growing -/
theorem shoStep_stable {s : Nat → Int} (hs : Shorts s n) {p : ProdD} (hp : prodIn n p) (h : (shoStep s p).2 = false) : vN (s p.1.toNat) ≤ longU (fun i => vN (s i)) p.2 0 := by
  have hk : p.1.toNat < n := by have := hp.1; omega
  have hlen := longU_lenF hs hp.2 (m := 0) (by omega)
  unfold shoStep at h
  cases hl : lenF s p.2 0 with
  | none =>
    rw [hl] at hlen
    have h66 : longU (fun i => vN (s i)) p.2 0 = 66 := by rw [show (0 : Nat) = (0 : Int).toNat from rfl, ← hlen]; rfl
    rw [h66]; exact (vN_le hs hk).1
  | some m =>
    rw [hl] at hlen
    simp only [hl] at h
    split at h
    · rename_i hc
      have hvm : vN m = longU (fun i => vN (s i)) p.2 0 := hlen
      have hm := lenF_in hs hp.2 (by omega) hl
      have h1 := hs p.1.toNat hk
      rw [← hvm]
      have hm1 : ¬ m = -1 := by omega
      unfold vN
      rw [if_neg hc.1, if_neg hm1]; omega
    · cases h
theorem shortest_end (hin : ∀ p ∈ ps, prodIn n p) {s : Nat → Int} (hR : Reach shoStep ps (fun _ => -1) s) (hst : ∀ p ∈ ps, (shoStep s p).2 = false) : ∀ i, i < n → s i = itR ps n i := by
  have h0 : Shorts (fun _ => -1) n := fun i _ => by show (-1 : Int) ≤ -1 ∧ (-1 : Int) ≤ 65; decide
  have hJ : Shorts s n ∧ ∀ i, i < n → vN (itR ps n i) ≤ vN (s i) := by
    refine Reach.inv (J := fun s => Shorts s n ∧ ∀ i, i < n → vN (itR ps n i) ≤ vN (s i)) (fun t p ⟨h1, h2⟩ hp => ⟨shoStep_in h1 (hin p hp), fun i hi => ?_⟩) hR ⟨h0, fun i hi => (vN_le (itR_in hin n) hi).1⟩
    have hpp := hin p hp
    have hlen := longU_lenF h1 hpp.2 (m := 0) (by omega)
    unfold shoStep
    cases hl : lenF t p.2 0 with
    | none => exact h2 i hi
    | some m =>
      simp only
      split
      · exact h2 i hi
      · dsimp only
        by_cases e : i = p.1.toNat
        · subst e
          rw [upd_at]
          rw [hl] at hlen
          have hvm : vN m = longU (fun i => vN (t i)) p.2 0 := hlen
          rw [hvm, ← itR_fix hin _ hi]
          exact Nat.le_trans ((rnd_spec hin (itR_in hin n)).1 p hp) (longU_mono h2 p.2 0 0 hpp.2 (Nat.le_refl _) (by omega))
        · rw [upd_ne _ _ e]; exact h2 i hi
  obtain ⟨hs, hlow⟩ := hJ
  have hup : ∀ k i, i < n → vN (s i) ≤ vN (itR ps k i) := by
    intro k
    induction k with
    | zero => intro i hi; exact (vN_le hs hi).1
    | succ k ih =>
      intro i hi
      rcases (rnd_spec hin (itR_in hin k)).2 i hi with h1 | ⟨p, hp, h1, h2⟩
      · show vN (s i) ≤ vN (rnd ps (itR ps k) i)
        rw [h1]; exact (vN_le hs hi).1
      · show vN (s i) ≤ vN (rnd ps (itR ps k) i)
        rw [h2, ← h1]
        exact Nat.le_trans (shoStep_stable hs (hin p hp) (hst p hp)) (longU_mono ih p.2 0 0 (hin p hp).2 (Nat.le_refl _) (by omega))
  intro i hi
  exact vN_inj hs (itR_in hin n) hi (Nat.le_antisymm (hup n i hi) (hlow i hi))
/-- A body that has something throughout, by what the rounds tell. -/
theorem all_has {u : Nat → Nat} {o : Nat → Bool} {lb : Bool} {b : Nat} (hb : b ≤ 65) (hlb : lb = true → b = 65) (ho : ∀ i, i < n → (o i = true ↔ u i ≤ b)) : ∀ (ss : List SymD) (m : Nat), (∀ x ∈ ss, symIn n x) → m ≤ b → (lb = false → b = 0) → (ss.all (symHas o lb) = true ↔ longU u ss m ≤ b)
  | [], m, _, hm, _ => by simp [longU, hm]
  | (true, k) :: r, m, hi, hm, hb0 => by
    have ih := all_has hb hlb ho r (min 65 (m + 1)) (fun x hx => hi x (List.mem_cons_of_mem _ hx))
    simp only [List.all_cons, Bool.and_eq_true, longU]
    cases lb with
    | true =>
      have := hlb rfl
      rw [ih (by omega) hb0]
      simp [symHas]
    | false =>
      have h0 := hb0 rfl
      have h1 := (longU_ge u r (min 65 (m + 1)) (by omega)).1
      simp only [symHas, if_true]
      constructor
      · rintro ⟨h, _⟩; cases h
      · intro h; omega
  | (false, k) :: r, m, hi, hm, hb0 => by
    have h1 := hi (false, k) (by simp) rfl
    dsimp only at h1
    have hk : k.toNat < n := by omega
    have ho' := ho k.toNat hk
    simp only [List.all_cons, Bool.and_eq_true, longU]
    have hh : symHas o lb (false, k) = o k.toNat := rfl
    rw [hh, ho']
    by_cases hu : 66 ≤ u k.toNat
    · rw [if_pos hu]
      constructor
      · rintro ⟨h, _⟩; omega
      · intro h; omega
    · rw [if_neg hu]
      have hge := (longU_ge u r (min 65 (m + u k.toNat)) (by omega)).1
      by_cases hle : u k.toNat ≤ b
      · cases lb with
        | true =>
          have := hlb rfl
          rw [all_has hb hlb ho r (min 65 (m + u k.toNat)) (fun x hx => hi x (List.mem_cons_of_mem _ hx)) (by omega) hb0]
          exact ⟨fun h => h.2, fun h => ⟨hle, h⟩⟩
        | false =>
          have h0 := hb0 rfl
          rw [all_has hb hlb ho r (min 65 (m + u k.toNat)) (fun x hx => hi x (List.mem_cons_of_mem _ hx)) (by omega) hb0]
          exact ⟨fun h => h.2, fun h => ⟨hle, h⟩⟩
      · constructor
        · rintro ⟨h, _⟩; exact absurd h hle
        · intro h
          exfalso
          cases lb with
          | true => have := hlb rfl; omega
          | false => have := hb0 rfl; omega
end
end Go.Proofs.Ytcemehocbemfmaa
namespace Go.Proofs.Ytcemehocbemfmaa
open Go
theorem closed_end {ps : List ProdD} {n : Nat} (hin : ∀ p ∈ ps, prodIn n p) {lb : Bool} {b : Nat} (hb : b ≤ 65) (hlb : lb = true → b = 65) (hlb0 : lb = false → b = 0) {o : Nat → Bool} (hR : Reach (cloStep lb) ps (fun _ => false) o) (hst : ∀ p ∈ ps, (cloStep lb o p).2 = false) : ∀ i, i < n → (o i = true ↔ vN (itR ps n i) ≤ b) := by
  have hJ : ∀ i, i < n → o i = true → vN (itR ps n i) ≤ b := by
    refine Reach.inv (J := fun t => ∀ i, i < n → t i = true → vN (itR ps n i) ≤ b) (fun t p ht hp i hi => ?_) hR (fun i _ h => by cases h)
    have hpp := hin p hp
    unfold cloStep
    split
    · exact ht i hi
    · rename_i hc
      dsimp only
      by_cases e : i = p.1.toNat
      · intro _
        subst e
        have hall : p.2.all (symHas t lb) = true := by
          cases h : p.2.all (symHas t lb) with
          | true => rfl
          | false => rw [h] at hc; simp at hc
        have h1 := (all_has (u := fun i => if t i = true then vN (itR ps n i) else 66) hb hlb (fun i hi => by
          show t i = true ↔ (if t i = true then vN (itR ps n i) else 66) ≤ b
          by_cases hti : t i = true
          · rw [if_pos hti]; exact ⟨fun _ => ht i hi hti, fun _ => hti⟩
          · rw [if_neg hti]; exact ⟨fun h => absurd h hti, fun h => by omega⟩) p.2 0 hpp.2 (Nat.zero_le b) hlb0).1 hall
        have h2 := longU_mono (u := fun i => vN (itR ps n i)) (w := fun i => if t i = true then vN (itR ps n i) else 66) (n := n) (fun i hi => by
          show vN (itR ps n i) ≤ (if t i = true then vN (itR ps n i) else 66)
          have := (vN_le (itR_in hin n) hi).1
          split <;> omega) p.2 0 0 hpp.2 (Nat.le_refl _) (by omega)
        have h3 := (rnd_spec hin (itR_in hin n)).1 p hp
        have h4 := itR_fix hin _ hi
        omega
      · rw [upd_ne _ _ e]; exact ht i hi
  have hK : ∀ k i, i < n → vN (itR ps k i) ≤ b → o i = true := by
    intro k
    induction k with
    | zero =>
      intro i _ h
      have : vN (itR ps 0 i) = 66 := rfl
      omega
    | succ k ih =>
      intro i hi h
      have h : vN (rnd ps (itR ps k) i) ≤ b := h
      rcases (rnd_spec hin (itR_in hin k)).2 i hi with h1 | ⟨p, hp, h1, h2⟩
      · omega
      · have hpp := hin p hp
        have h3 := longU_mono (u := fun i => if o i = true then 0 else vN (itR ps k i)) (w := fun i => vN (itR ps k i)) (n := n) (fun i hi => by
          show (if o i = true then 0 else vN (itR ps k i)) ≤ vN (itR ps k i)
          split <;> omega) p.2 0 0 hpp.2 (Nat.le_refl _) (by omega)
        have hall := (all_has (u := fun i => if o i = true then 0 else vN (itR ps k i)) (o := o) hb hlb (fun i hi => by
          show o i = true ↔ (if o i = true then 0 else vN (itR ps k i)) ≤ b
          by_cases hti : o i = true
          · rw [if_pos hti]; exact ⟨fun _ => Nat.zero_le b, fun _ => hti⟩
          · rw [if_neg hti]; exact ⟨fun h => absurd h hti, fun h => ih i hi h⟩) p.2 0 hpp.2 (Nat.zero_le b) hlb0).2 (by omega)
        have hs := hst p hp
        unfold cloStep at hs
        split at hs
        · rename_i hc
          rw [hall] at hc
          simp at hc
          rw [← h1]; exact hc
        · cases hs
  exact fun i hi => ⟨hJ i hi, hK n i hi⟩
theorem empty_end {ps : List ProdD} {n : Nat} (hin : ∀ p ∈ ps, prodIn n p) {o : Nat → Bool} (hR : Reach (cloStep false) ps (fun _ => false) o) (hst : ∀ p ∈ ps, (cloStep false o p).2 = false) : ∀ i, i < n → o i = decide (itR ps n i = 0) := by
  intro i hi
  have h := closed_end hin (b := 0) (by omega) (fun h => by cases h) (fun _ => rfl) hR hst i hi
  have h2 := itR_in hin n i hi
  have h3 : vN (itR ps n i) ≤ 0 ↔ itR ps n i = 0 := by unfold vN; split <;> omega
  rw [h3] at h
  rw [Bool.eq_iff_iff, h, decide_eq_true_iff]
theorem fruitful_end {ps : List ProdD} {n : Nat} (hin : ∀ p ∈ ps, prodIn n p) {o : Nat → Bool} (hR : Reach (cloStep true) ps (fun _ => false) o) (hst : ∀ p ∈ ps, (cloStep true o p).2 = false) : ∀ i, i < n → o i = decide (0 ≤ itR ps n i) := by
  intro i hi
  have h := closed_end hin (b := 65) (by omega) (fun _ => rfl) (fun h => by cases h) hR hst i hi
  have h2 := itR_in hin n i hi
  have h3 : vN (itR ps n i) ≤ 65 ↔ 0 ≤ itR ps n i := by unfold vN; split <;> omega
  rw [h3] at h
  rw [Bool.eq_iff_iff, h, decide_eq_true_iff]
end Go.Proofs.Ytcemehocbemfmaa
