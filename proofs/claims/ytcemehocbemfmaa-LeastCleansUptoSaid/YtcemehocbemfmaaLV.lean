/-
  least.Used: which nonterminals are used from some.
-/
import Derived.Test.YtcemehocbemfmaaLT
import Derived.Test.YtcemehocbemfmaaN
import Derived.Test.YtcemehocbemfmaaLH
namespace Go.Proofs.Ytcemehocbemfmaa
open Go
attribute [local irreducible] G GO GR GT Fn FnV pt init exs pur sat own ImpS
/-- Numbers that can be read in q. -/
def IntsR (q : HP) (v : Value) (l : List Int) : Prop := Sl q v l.length 1 (intsV l)
theorem IntsR.form {q : HP} {v : Value} {l : List Int} (h : IntsR q v l) : ∃ a cap, v = .slice a l.length cap := let ⟨a, cap, e, _⟩ := h; ⟨a, cap, e⟩
theorem IntsR.at {q : HP} {a : Option Addr} {n cap k : Nat} {l : List Int} {x : Int} (h : IntsR q (.slice a n cap) l) (hk : l[k]? = some x) :
    ∃ b o, a = some ⟨b, o, none⟩ ∧ n = l.length ∧ Rd q ⟨b, o + k * 1, none⟩ (i64 x) := by
  obtain ⟨a', cap', e, hl, hr⟩ := h
  injection e with e1 e2 e3
  subst e1 e2
  have hlt := (List.getElem?_eq_some_iff.1 hk).1
  obtain ⟨b, o, rfl, hr'⟩ := hr (by omega)
  exact ⟨b, o, rfl, rfl, hr' _ _ (by rw [Nat.mul_one]; exact intsV_get hk)⟩
theorem IntsR.sup {q q' : HP} (h : Sup q q') {v : Value} {l : List Int} (k : IntsR q v l) : IntsR q' v l := Sl.sup h k
/-- One symbol of a body, the head being used or not. -/
def useS (h : Nat) (a : (Nat → Bool) × Bool) (s : SymD) : (Nat → Bool) × Bool := if a.1 h && !s.1 && !a.1 s.2.toNat then (upd a.1 s.2.toNat true, true) else a
def useStep (o : Nat → Bool) (p : ProdD) : (Nat → Bool) × Bool := p.2.foldl (useS p.1.toNat) (o, false)
abbrev useM (n bo bp : Nat) (o : Nat → Bool) : List HP := [pt bp (row [.slice (some ⟨bo, 0, none⟩) n n] 25), pt bo (row (boolsV o n) 4)]
set_option maxHeartbeats 2000000 in
set_option maxRecDepth 20000 in
theorem usep_spec (q : HP) (o : Nat → Bool) (n bo bp : Nat) (p : ProdD) (bv : Value) (hb : SymsR q bv p.2) (hp : prodIn n p) (hn : p.2.length ≤ 9223372036854775807) :
    Fn Try.prog 49 #[prodV p bv, .pointer (some ⟨bp, 0, none⟩)] (q :: useM n bo bp o) (fun r Q => r = .bool (useStep o p).2 ∧ Q = q :: useM n bo bp (useStep o p).1) := by
  obtain ⟨h, ss⟩ := p
  obtain ⟨⟨h1, h2⟩, hss⟩ := hp
  dsimp only at h1 h2 hss hn hb
  obtain ⟨h, rfl⟩ := Int.eq_ofNat_of_zero_le h1
  have hkn : h < n := by omega
  have hst : ∀ k s, ss[k]? = some s → (ss.take (k + 1)).foldl (useS h) (o, false) = useS h ((ss.take k).foldl (useS h) (o, false)) s := fun k s hk => foldl_take hk
  have hend : useStep o ((h : Int), ss) = (ss.take ss.length).foldl (useS h) (o, false) := by rw [List.take_length]; rfl
  have hbeg : (ss.take 0).foldl (useS h) (o, false) = (o, false) := rfl
  rw [hend]
  generalize hgen : (fun k => (ss.take k).foldl (useS h) (o, false)) = st at hst hbeg
  have hg : ∀ k, (ss.take k).foldl (useS h) (o, false) = st k := fun k => congrFun hgen k
  simp only [hg] at hst hbeg ⊢
  obtain ⟨ab, capb, rfl⟩ := hb.form
  refine Fn.mk Try.func49 rfl rfl fun w0 F => ?_
  (refine G.seq ?_; refine G.region ?_; refine GO.box rfl rfl rfl fun b2 => ?_; refine GO.assign rfl rfl ?_; refine GO.nil ?_; refine kthen_n ?_; refine G.seq ?_; refine G.region ?_; refine GO.assign rfl rfl ?_; refine GO.nil ?_; refine kthen_n ?_; refine G.seq ?_; refine G.seq ?_; refine G.region ?_; refine GO.fieldAddr rfl rfl ?_; refine GO.load1 rfl rfl rfl Tk.h rfl ?_; refine GO.lenS rfl rfl ?_; refine GO.move rfl rfl ?_; refine GO.nil ?_; refine kthen_n ?_; refine G.block ?_)
  refine G.loop (fun k : Nat => [(1, .pointer (some ⟨bp, 0, none⟩)), (2, .pointer (some ⟨b2, 0, none⟩)), (4, .bool (st k).2), (8, .slice ab ss.length capb), (9, i64 ss.length), (10, i64 k)])
    (fun k => pt bp (row [.slice (some ⟨bo, 0, none⟩) n n] 25) :: pt bo (row (boolsV (st k).1 n) 4) :: pt b2 (row [i64 h, .slice ab ss.length capb] 42) :: q :: F) (fun k => k ≤ ss.length) (fun k => ss.length - k) 0 (by omega) ?_ ?_ ?_
  · rw [hbeg]; (refine SubE.c rfl rfl ?_; refine SubE.c rfl rfl ?_; refine SubE.c rfl rfl ?_; refine SubE.c rfl rfl ?_; refine SubE.c rfl rfl ?_; refine SubE.c rfl rfl ?_; exact SubE.n)
  · rw [hbeg]; ((refine Sb.c (Tk.t (Tk.t Tk.h)) ?_; refine Sb.c (Tk.t (Tk.t Tk.h)) ?_; refine Sb.c Tk.h ?_; refine Sb.c Tk.h ?_); (exact Sb.r))
  rintro k hk
  (refine G.seq ?_; refine G.region ?_; refine GO.lti rfl rfl rfl ?_; refine GO.nil ?_; refine kthen_n ?_; refine G.seq ?_)
  refine G.condD rfl (fun hlt => ?_) (fun hge => ?_)
  · have hlt' : k < ss.length := by omega
    obtain ⟨⟨lb, m⟩, hsk⟩ : ∃ s : SymD, ss[k]? = some s := ⟨ss[k], by simp [hlt']⟩
    obtain ⟨b, o', rfl, _, r3, r4⟩ := hb.at hsk
    have hin := hss _ (List.mem_of_getElem? hsk)
    have hs1 := hst k _ hsk
    dsimp only at r3 r4
    generalize st k = a at hs1 ⊢
    obtain ⟨oa, ch⟩ := a
    dsimp only
    (refine G.skip ?_; refine kthen_n ?_; refine G.seq ?_; refine G.block ?_; refine G.seq ?_; refine G.region ?_; refine GO.idxS rfl rfl rfl ⟨rfl, by omega⟩ ?_; refine GO.load2 rfl rfl rfl (Tk.t (Tk.t (Tk.t Tk.h))) (by assumption) (by assumption) ?_; refine GO.alloc rfl fun b6 => ?_; refine GO.storeW rfl rfl Tk.h ⟨rfl, rfl⟩ (by simp [Value.oneCell']) ?_; refine GO.nil ?_; refine kthen_n ?_; refine G.seq ?_; refine G.region ?_; refine GO.load1 rfl rfl rfl (Tk.t Tk.h) rfl ?_; refine GO.fieldAddr rfl rfl ?_; refine GO.load1 rfl rfl rfl (Tk.t (Tk.t (Tk.t Tk.h))) rfl ?_; refine GO.idxS rfl rfl rfl ⟨rfl, by omega⟩ ?_; refine GO.load1 rfl rfl rfl (Tk.t (Tk.t Tk.h)) (rowV_get1 (by assumption)) ?_; refine GO.move rfl rfl ?_)
    cases ho : oa h with
    | false =>
      (refine GO.gF rfl rfl rfl rfl ?_; refine GO.gF rfl rfl rfl rfl ?_; refine GO.gF rfl rfl rfl rfl ?_; refine GO.pickF rfl rfl rfl ?_; refine GO.move rfl rfl ?_; refine GO.gF rfl rfl rfl rfl ?_; refine GO.gF rfl rfl rfl rfl ?_; refine GO.gF rfl rfl rfl rfl ?_; refine GO.gF rfl rfl rfl rfl ?_; refine GO.gF rfl rfl rfl rfl ?_; refine GO.gF rfl rfl rfl rfl ?_; refine GO.pickF rfl rfl rfl ?_; refine GO.nil ?_; refine kthen_n ?_; refine G.condF rfl rfl ?_; refine G.skip ?_; refine kblock_n ?_; refine kthen_n ?_; refine G.region ?_; refine GO.addi rfl rfl rfl (by omega) ?_; refine GO.move rfl rfl ?_; refine GO.nil ?_; refine kthen_n ?_)
      refine ⟨k + 1, by omega, by omega, ?_, ?_⟩
      · rw [hs1]; unfold useS; simp only [ho, Bool.false_and]; (refine SubE.c rfl rfl ?_; refine SubE.c rfl rfl ?_; refine SubE.c rfl rfl ?_; refine SubE.c rfl rfl ?_; refine SubE.c rfl rfl ?_; refine SubE.c rfl rfl ?_; exact SubE.n)
      · rw [hs1]; unfold useS; simp only [ho, Bool.false_and]; ((refine Sb.c (Tk.t Tk.h) ?_; refine Sb.c (Tk.t Tk.h) ?_; refine Sb.c (Tk.t Tk.h) ?_; refine Sb.c (Tk.t Tk.h) ?_); (refine Sb.s ?_; exact Sb.r))
    | true =>
      (refine GO.gT rfl rfl rfl ?_; refine GO.fieldAddr rfl rfl ?_; refine GO.gT rfl rfl rfl ?_; refine GO.load1 rfl rfl rfl Tk.h rfl ?_; refine GO.gT rfl rfl rfl ?_; refine GO.not rfl rfl ?_; refine GO.pickT rfl rfl rfl ?_; refine GO.move rfl rfl ?_)
      cases lb with
      | true =>
        (refine GO.gF rfl rfl rfl rfl ?_; refine GO.gF rfl rfl rfl rfl ?_; refine GO.gF rfl rfl rfl rfl ?_; refine GO.gF rfl rfl rfl rfl ?_; refine GO.gF rfl rfl rfl rfl ?_; refine GO.gF rfl rfl rfl rfl ?_; refine GO.pickF rfl rfl rfl ?_; refine GO.nil ?_; refine kthen_n ?_; refine G.condF rfl rfl ?_; refine G.skip ?_; refine kblock_n ?_; refine kthen_n ?_; refine G.region ?_; refine GO.addi rfl rfl rfl (by omega) ?_; refine GO.move rfl rfl ?_; refine GO.nil ?_; refine kthen_n ?_)
        refine ⟨k + 1, by omega, by omega, ?_, ?_⟩
        · rw [hs1]; unfold useS; simp only [ho, Bool.not_true, Bool.and_false, Bool.false_and]; (refine SubE.c rfl rfl ?_; refine SubE.c rfl rfl ?_; refine SubE.c rfl rfl ?_; refine SubE.c rfl rfl ?_; refine SubE.c rfl rfl ?_; refine SubE.c rfl rfl ?_; exact SubE.n)
        · rw [hs1]; unfold useS; simp only [ho, Bool.not_true, Bool.and_false, Bool.false_and]; ((refine Sb.c (Tk.t Tk.h) ?_; refine Sb.c (Tk.t Tk.h) ?_; refine Sb.c (Tk.t Tk.h) ?_; refine Sb.c (Tk.t Tk.h) ?_); (refine Sb.s ?_; exact Sb.r))
      | false =>
        obtain ⟨m, rfl⟩ := Int.eq_ofNat_of_zero_le (hin rfl).1
        have hmn : m < n := by have := (hin rfl).2; dsimp only at this; omega
        (refine GO.gT rfl rfl rfl ?_; refine GO.load1 rfl rfl rfl (Tk.t Tk.h) rfl ?_; refine GO.gT rfl rfl rfl ?_; refine GO.fieldAddr rfl rfl ?_; refine GO.gT rfl rfl rfl ?_; refine GO.load1 rfl rfl rfl Tk.h rfl ?_; refine GO.gT rfl rfl rfl ?_; refine GO.idxS rfl rfl rfl ⟨rfl, by omega⟩ ?_; refine GO.gT rfl rfl rfl ?_; refine GO.load1 rfl rfl rfl (Tk.t (Tk.t Tk.h)) (rowV_get1 (by assumption)) ?_; refine GO.gT rfl rfl rfl ?_; refine GO.not rfl rfl ?_; refine GO.pickT rfl rfl rfl ?_; refine GO.nil ?_; refine kthen_n ?_)
        cases hom : oa m with
        | true =>
          (refine G.condF rfl rfl ?_; refine G.skip ?_; refine kblock_n ?_; refine kthen_n ?_; refine G.region ?_; refine GO.addi rfl rfl rfl (by omega) ?_; refine GO.move rfl rfl ?_; refine GO.nil ?_; refine kthen_n ?_)
          refine ⟨k + 1, by omega, by omega, ?_, ?_⟩
          · rw [hs1]; unfold useS; simp only [ho, Int.toNat_natCast, hom]; (refine SubE.c rfl rfl ?_; refine SubE.c rfl rfl ?_; refine SubE.c rfl rfl ?_; refine SubE.c rfl rfl ?_; refine SubE.c rfl rfl ?_; refine SubE.c rfl rfl ?_; exact SubE.n)
          · rw [hs1]; unfold useS; simp only [ho, Int.toNat_natCast, hom]; ((refine Sb.c (Tk.t Tk.h) ?_; refine Sb.c (Tk.t Tk.h) ?_; refine Sb.c (Tk.t Tk.h) ?_; refine Sb.c (Tk.t Tk.h) ?_); (refine Sb.s ?_; exact Sb.r))
        | false =>
          (refine G.condT rfl rfl ?_; refine G.seq ?_; refine G.region ?_; refine GO.load1 rfl rfl rfl (Tk.t Tk.h) rfl ?_; refine GO.fieldAddr rfl rfl ?_; refine GO.load1 rfl rfl rfl Tk.h rfl ?_; refine GO.idxS rfl rfl rfl ⟨rfl, by omega⟩ ?_)
          refine GO.store1 rfl rfl rfl (Tk.t (Tk.t Tk.h)) (by rw [rowV_len]; omega) ?_
          rw [rowV_set]
          (refine GO.nil ?_; refine kthen_n ?_; refine G.region ?_; refine GO.assign rfl rfl ?_; refine GO.nil ?_; refine kblock_n ?_; refine kthen_n ?_; refine G.region ?_; refine GO.addi rfl rfl rfl (by omega) ?_; refine GO.move rfl rfl ?_; refine GO.nil ?_; refine kthen_n ?_)
          refine ⟨k + 1, by omega, by omega, ?_, ?_⟩
          · rw [hs1]; unfold useS; simp only [ho, Int.toNat_natCast, hom]; (refine SubE.c rfl rfl ?_; refine SubE.c rfl rfl ?_; refine SubE.c rfl rfl ?_; refine SubE.c rfl rfl ?_; refine SubE.c rfl rfl ?_; refine SubE.c rfl rfl ?_; exact SubE.n)
          · rw [hs1]; unfold useS; simp only [ho, Int.toNat_natCast, hom]; ((refine Sb.c (Tk.t (Tk.t Tk.h)) ?_; refine Sb.c Tk.h ?_; refine Sb.c (Tk.t Tk.h) ?_; refine Sb.c (Tk.t Tk.h) ?_); (refine Sb.s ?_; exact Sb.r))
  · have : k = ss.length := by omega
    subst this
    (refine G.exit ?_; refine kthen_x ?_; refine kthen_x ?_; refine kblock_x ?_; refine kthen_n ?_; refine G.seq ?_; refine G.region ?_; refine GO.move rfl rfl ?_; refine GO.assign rfl rfl ?_; refine GO.nil ?_; refine kthen_n ?_; refine G.ret ?_)
    refine KF.r1 rfl (RV.t rfl) ⟨rfl, rfl⟩ ?_
    ((refine Sb.c (Tk.t (Tk.t (Tk.t Tk.h))) ?_; refine Sb.c Tk.h ?_; refine Sb.c Tk.h ?_); (refine Sb.s ?_; exact Sb.r))
/-- The numbers of a list, as a set. -/
def setOf (l : List Int) : Nat → Bool := l.foldl (fun o x => upd o x.toNat true) (fun _ => false)
theorem upd_foldl {l : List Int} : ∀ {o : Nat → Bool} {i : Nat}, l.foldl (fun o x => upd o x.toNat true) o i = true ↔ o i = true ∨ ∃ x ∈ l, x.toNat = i := by
  induction l with
  | nil => intro o i; simp
  | cons y l ih =>
    intro o i
    rw [List.foldl_cons, ih]
    unfold upd
    by_cases h : i = y.toNat
    · subst h; simp
    · have h' : ¬ y.toNat = i := fun e => h e.symm
      simp [h, h']
theorem setOf_iff {l : List Int} {i : Nat} : setOf l i = true ↔ ∃ x ∈ l, x.toNat = i := by
  unfold setOf; rw [upd_foldl]; simp
def inAll (n : Nat) (l : List Int) : Bool := l.all fun x => decide (0 ≤ x ∧ x < n)
theorem inAll_not {n k : Nat} {l : List Int} {x : Int} (h : l[k]? = some x) (hx : ¬ (0 ≤ x ∧ x < n)) : inAll n l = false := by
  unfold inAll; rw [List.all_eq_false]; exact ⟨x, List.mem_of_getElem? h, by simpa using hx⟩
theorem useS_mono {h : Nat} {a : (Nat → Bool) × Bool} {s : SymD} {i : Nat} (hi : a.1 i = true) : (useS h a s).1 i = true := by
  unfold useS; split
  · simp only [upd]; split
    · rfl
    · exact hi
  · exact hi
theorem useF_keep {h : Nat} : ∀ {ss : List SymD} {a : (Nat → Bool) × Bool}, (a.2 = true → (ss.foldl (useS h) a).2 = true) ∧ ((ss.foldl (useS h) a).2 = false → ss.foldl (useS h) a = a)
  | [], a => ⟨id, fun _ => rfl⟩
  | s :: ss, a => by
    obtain ⟨h2, h4⟩ := useF_keep (h := h) (ss := ss) (a := useS h a s)
    rw [List.foldl_cons]
    by_cases hc : (a.1 h && !s.1 && !a.1 s.2.toNat) = true
    · have e : useS h a s = (upd a.1 s.2.toNat true, true) := by unfold useS; rw [if_pos hc]
      rw [e] at h2 h4 ⊢
      exact ⟨fun _ => h2 rfl, fun hf => by rw [h2 rfl] at hf; cases hf⟩
    · have e : useS h a s = a := by unfold useS; rw [if_neg hc]
      rw [e] at h2 h4 ⊢
      exact ⟨h2, h4⟩
theorem useF_less {h n : Nat} : ∀ {ss : List SymD} {a : (Nat → Bool) × Bool}, (∀ s ∈ ss, symIn n s) → falses (ss.foldl (useS h) a).1 n ≤ falses a.1 n ∧ ((ss.foldl (useS h) a).2 = true → a.2 = true ∨ falses (ss.foldl (useS h) a).1 n < falses a.1 n)
  | [], a, _ => ⟨Nat.le_refl _, .inl⟩
  | s :: ss, a, hs => by
    obtain ⟨h1, h3⟩ := useF_less (h := h) (n := n) (ss := ss) (a := useS h a s) (fun x hx => hs x (by simp [hx]))
    rw [List.foldl_cons]
    by_cases hc : (a.1 h && !s.1 && !a.1 s.2.toNat) = true
    · have e : useS h a s = (upd a.1 s.2.toNat true, true) := by unfold useS; rw [if_pos hc]
      rw [e] at h1 h3 ⊢
      simp only [Bool.and_eq_true, Bool.not_eq_true'] at hc
      have hin := hs s (by simp) hc.1.2
      have hlt : falses (upd a.1 s.2.toNat true) n < falses a.1 n := falses_lt (by omega) hc.2
      dsimp only at h1
      exact ⟨by omega, fun _ => .inr (by omega)⟩
    · have e : useS h a s = a := by unfold useS; rw [if_neg hc]
      rw [e] at h1 h3 ⊢
      exact ⟨h1, h3⟩
/-- What Used answers. -/
def UsedR (C : CnfD) (fr : List Int) (q : HP) (r : Value) (Q : List HP) : Prop :=
  (okC C = true ∧ inAll C.nts.toNat fr = true ∧ ∃ b o, r = .tuple [.slice (some ⟨b, 0, none⟩) C.nts.toNat C.nts.toNat, i64 0].toArray ∧ Reach useStep C.prods (setOf fr) o ∧ (∀ p ∈ C.prods, (useStep o p).2 = false) ∧ Q = [pt b (row (boolsV o C.nts.toNat) 4), q]) ∨
  (okC C = true ∧ inAll C.nts.toNat fr = false ∧ r = .tuple [.slice none 0 0, i64 2].toArray ∧ Q = [q]) ∨
  (okC C = false ∧ r = .tuple [.slice none 0 0, i64 220].toArray ∧ Q = [q])
set_option maxHeartbeats 4000000 in
set_option maxRecDepth 20000 in
theorem used0_spec (q : HP) (v fv : Value) (C : CnfD) (fr : List Int) (n : Nat) (hv : CnfR q v C) (hz : Fits C) (hfr : IntsR q fv fr) (hfl : fr.length ≤ 9223372036854775807) (hok : okC C = true) (hn : C.nts = n) (hn2 : n ≤ 1024) (hin : ∀ p ∈ C.prods, prodIn n p) :
    Fn Try.prog 35 #[v, fv] [q] (UsedR C fr q) := by
  have hv0 := hv
  obtain ⟨pv, rfl, hp⟩ := hv
  obtain ⟨a0, cap0, rfl⟩ := hp.form
  obtain ⟨af, capf, rfl⟩ := hfr.form
  have hnn : C.nts.toNat = n := by omega
  unfold UsedR
  rw [hn, hok]
  simp only [Int.toNat_natCast, true_and]
  rw [hn] at hv0
  refine Fn.mk Try.func35 rfl rfl fun w0 F => ?_
  (refine G.seq ?_; refine G.region ?_; refine GO.box rfl rfl rfl fun b2 => ?_; refine GO.assign rfl rfl ?_; refine GO.assign rfl rfl ?_; refine GO.nil ?_; refine kthen_n ?_; refine G.seq ?_; refine G.region ?_; refine GO.fieldAddr rfl rfl ?_; refine GO.load1 rfl rfl rfl Tk.h rfl ?_)
  refine GO.make1 (n := n) rfl rfl rfl ⟨rfl, rfl⟩ ⟨by omega, by omega⟩ fun bo => ?_
  rw [rowV_const (f := Value.bool)]
  (refine GO.alloc rfl fun b6 => ?_; refine GO.store1 rfl rfl rfl Tk.h (by decide) ?_; refine GO.nil ?_; refine kthen_n ?_; refine G.seq ?_; refine G.seq ?_; refine G.region ?_; refine GO.move rfl rfl ?_; refine GO.lenS rfl rfl ?_; refine GO.move rfl rfl ?_; refine GO.nil ?_; refine kthen_n ?_; refine G.block ?_)
  have h0 : (fun _ : Nat => false) = setOf (fr.take 0) := rfl
  rw [h0]
  refine G.loop (fun k : Nat => [(2, .pointer (some ⟨b2, 0, none⟩)), (6, .pointer (some ⟨b6, 0, none⟩)), (12, .slice af fr.length capf), (13, i64 fr.length), (14, i64 k)])
    (fun k => pt b6 (row [.slice (some ⟨bo, 0, none⟩) n n] 25) :: pt bo (row (boolsV (setOf (fr.take k)) n) 4) :: pt b2 (row [i64 n, .slice a0 C.prods.length cap0] 24) :: q :: F) (fun k => k ≤ fr.length ∧ inAll n (fr.take k) = true) (fun k => fr.length - k) 0 ⟨by omega, rfl⟩ ?_ ?_ ?_
  · (refine SubE.c rfl rfl ?_; refine SubE.c rfl rfl ?_; refine SubE.c rfl rfl ?_; refine SubE.c rfl rfl ?_; refine SubE.c rfl rfl ?_; exact SubE.n)
  · ((refine Sb.c Tk.h ?_; refine Sb.c Tk.h ?_; refine Sb.c Tk.h ?_; refine Sb.c Tk.h ?_); (exact Sb.r))
  rintro k ⟨hk, hall⟩
  (refine G.seq ?_; refine G.region ?_; refine GO.lti rfl rfl rfl ?_; refine GO.nil ?_; refine kthen_n ?_; refine G.seq ?_)
  refine G.condD rfl (fun hlt => ?_) (fun hge => ?_)
  · have hkl : k < fr.length := by omega
    obtain ⟨x, hx⟩ : ∃ x : Int, fr[k]? = some x := ⟨fr[k], by simp [hkl]⟩
    obtain ⟨b, o', rfl, _, r1⟩ := hfr.at hx
    (refine G.skip ?_; refine kthen_n ?_; refine G.seq ?_; refine G.block ?_; refine G.seq ?_; refine G.region ?_; refine GO.idxS rfl rfl rfl ⟨rfl, by omega⟩ ?_; refine GO.loadQ rfl rfl rfl (Tk.t (Tk.t (Tk.t Tk.h))) (by assumption) ?_; refine GO.assign rfl rfl ?_; refine GO.nil ?_; refine kthen_n ?_; refine G.seq ?_; refine G.seq ?_; refine G.region ?_; refine GO.move rfl rfl ?_; refine GO.lti rfl rfl rfl ?_; refine GO.move rfl rfl ?_)
    refine GO.cut1 25 (.bool (decide (x < 0) || decide ((n : Int) ≤ x))) ?_ ?_
    · refine GO.splitD 20 rfl (fun h => ?_) (fun h => ?_)
      · (refine GO.gF rfl rfl rfl rfl ?_; refine GO.gF rfl rfl rfl rfl ?_; refine GO.gF rfl rfl rfl rfl ?_; refine GO.gF rfl rfl rfl rfl ?_; refine GO.pickT rfl rfl rfl ?_; refine GO.nil ?_; refine kthen_n ?_)
        (refine ⟨?_, ImpS.sb ?_⟩; (focus (((refine SubE.c rfl ?_ ?_; focus (simp; omega)); (refine SubE.c rfl ?_ ?_; focus (simp; omega)); refine SubE.c rfl rfl ?_; refine SubE.c rfl rfl ?_; refine SubE.c rfl rfl ?_; refine SubE.c rfl rfl ?_; refine SubE.c rfl rfl ?_; refine SubE.c rfl rfl ?_; refine SubE.c rfl rfl ?_; refine SubE.c rfl rfl ?_; refine SubE.c rfl rfl ?_; refine SubE.c rfl rfl ?_; refine SubE.c rfl rfl ?_; exact SubE.n))); (focus (((refine Sb.c Tk.h ?_; refine Sb.c Tk.h ?_; refine Sb.c Tk.h ?_; refine Sb.c Tk.h ?_); (exact Sb.r)))))
      · (refine GO.gT rfl rfl rfl ?_; refine GO.move rfl rfl ?_; refine GO.gT rfl rfl rfl ?_; refine GO.fieldAddr rfl rfl ?_; refine GO.gT rfl rfl rfl ?_; refine GO.load1 rfl rfl rfl (Tk.t (Tk.t Tk.h)) rfl ?_; refine GO.gT rfl rfl rfl ?_; refine GO.gei rfl rfl rfl ?_; refine GO.pickF rfl rfl rfl ?_; refine GO.nil ?_; refine kthen_n ?_)
        (refine ⟨?_, ImpS.sb ?_⟩; (focus (((refine SubE.c rfl ?_ ?_; focus (simp; omega)); (refine SubE.c rfl ?_ ?_; focus (simp; omega)); refine SubE.c rfl rfl ?_; refine SubE.c rfl rfl ?_; refine SubE.c rfl rfl ?_; refine SubE.c rfl rfl ?_; refine SubE.c rfl rfl ?_; refine SubE.c rfl rfl ?_; refine SubE.c rfl rfl ?_; refine SubE.c rfl rfl ?_; refine SubE.c rfl rfl ?_; refine SubE.c rfl rfl ?_; refine SubE.c rfl rfl ?_; exact SubE.n))); (focus (((refine Sb.c Tk.h ?_; refine Sb.c Tk.h ?_; refine Sb.c Tk.h ?_; refine Sb.c Tk.h ?_); (exact Sb.r)))))
    refine G.cond rfl (fun hb => ?_) (fun hb => ?_)
    · (refine G.seq ?_; refine G.region ?_; refine GO.assign rfl rfl ?_; refine GO.assign rfl rfl ?_; refine GO.nil ?_; refine kthen_n ?_; refine G.ret ?_; refine kthen_r ?_; refine kblock_r ?_; refine kthen_r ?_; refine kthen_r ?_; refine kblock_r ?_; refine kthen_r ?_)
      refine KF.r2 rfl (RV.t rfl) (RV.t rfl) (.inr (.inl ⟨inAll_not hx (by simp at hb; omega), rfl, rfl⟩)) ?_
      ((refine Sb.c (Tk.t (Tk.t (Tk.t Tk.h))) ?_); (refine Sb.s ?_; refine Sb.s ?_; refine Sb.s ?_; exact Sb.r))
    · simp only [Bool.or_eq_false_iff, decide_eq_false_iff_not] at hb
      obtain ⟨x, rfl⟩ := Int.eq_ofNat_of_zero_le (show 0 ≤ x by omega)
      have hxn : x < n := by omega
      (refine G.skip ?_; refine kthen_n ?_; refine G.region ?_; refine GO.load1 rfl rfl rfl Tk.h rfl ?_; refine GO.move rfl rfl ?_; refine GO.idxS rfl rfl rfl ⟨rfl, by omega⟩ ?_)
      refine GO.store1 rfl rfl rfl (Tk.t Tk.h) (by rw [rowV_len]; omega) ?_
      rw [rowV_set]
      have e1 : upd (setOf (fr.take k)) x true = setOf (fr.take (k + 1)) := by
        unfold setOf; rw [foldl_take hx, Int.toNat_natCast]
      rw [e1]
      (refine GO.nil ?_; refine kblock_n ?_; refine kthen_n ?_; refine G.region ?_; refine GO.addi rfl rfl rfl (by omega) ?_; refine GO.move rfl rfl ?_; refine GO.nil ?_; refine kthen_n ?_)
      refine ⟨k + 1, ⟨by omega, ?_⟩, by omega, ?_, ?_⟩
      · unfold inAll at hall ⊢
        rw [List.take_add_one, hx]
        simp only [Option.toList, List.all_append, hall]
        simp; omega
      · (refine SubE.c rfl rfl ?_; refine SubE.c rfl rfl ?_; refine SubE.c rfl rfl ?_; refine SubE.c rfl rfl ?_; refine SubE.c rfl rfl ?_; exact SubE.n)
      · ((refine Sb.c (Tk.t Tk.h) ?_; refine Sb.c Tk.h ?_; refine Sb.c Tk.h ?_; refine Sb.c Tk.h ?_); (exact Sb.r))
  · have : k = fr.length := by omega
    subst this
    rw [List.take_length] at hall ⊢
    (refine G.exit ?_; refine kthen_x ?_; refine kthen_x ?_; refine kblock_x ?_; refine kthen_n ?_; refine G.seq ?_; refine G.region ?_; refine GO.loadW rfl rfl rfl (Tk.t (Tk.t Tk.h)) rfl ?_; refine GO.makeFunc1 rfl rfl ?_)
    refine GO.call2 rfl rfl rfl (grow_spec q _ _ C hv0 hz (useM n bo b6) (fun _ => True) useStep (fun o => falses o n) (fun o p _ hpm bv hb => FnV.of (caps := [.pointer (some ⟨b6, 0, none⟩)]) (usep_spec q o n bo b6 p bv hb (hin p hpm) (by have := hz.2 p hpm; omega))) (fun _ _ _ _ => trivial) (fun o p _ hpm h => ((useF_less (n := n) (hin p hpm).2).2 h).resolve_left (by simp)) (fun o p h => congrArg Prod.fst (useF_keep.2 h)) (setOf fr) trivial) (Tks.c (Tk.t (Tk.t (Tk.t Tk.h))) (Tks.c Tk.h (Tks.c Tk.h Tks.n))) ?_
    rintro _ _ ⟨o, _, hR, hst, rfl⟩
    (refine GO.nil ?_; refine kthen_n ?_; refine G.seq ?_; refine G.region ?_; refine GO.load1 rfl rfl rfl (Tk.t Tk.h) rfl ?_; refine GO.assign rfl rfl ?_; refine GO.assign rfl rfl ?_; refine GO.nil ?_; refine kthen_n ?_; refine G.ret ?_)
    refine KF.r2 rfl (RV.t rfl) (RV.t rfl) (.inl ⟨hall, bo, o, rfl, hR, hst, rfl⟩) ?_
    ((refine Sb.c (Tk.t (Tk.t Tk.h)) ?_; refine Sb.c Tk.h ?_); (refine Sb.s ?_; refine Sb.s ?_; exact Sb.r))
theorem used_spec (q : HP) (v fv : Value) (C : CnfD) (fr : List Int) (hv : CnfR q v C) (hz : Fits C) (hfr : IntsR q fv fr) (hfl : fr.length ≤ 9223372036854775807) : Fn Try.prog 21 #[v, fv] [q] (UsedR C fr q) := by
  have hv0 := hv
  obtain ⟨pv, rfl, hp⟩ := hv
  obtain ⟨a0, cap0, rfl⟩ := hp.form
  refine Fn.mk Try.func21 rfl rfl fun w0 F => ?_
  (refine G.seq ?_; refine G.region ?_; refine GO.box rfl rfl rfl fun b2 => ?_; refine GO.assign rfl rfl ?_; refine GO.assign rfl rfl ?_; refine GO.nil ?_; refine kthen_n ?_; refine G.seq ?_; refine G.seq ?_; refine G.region ?_; refine GO.loadW rfl rfl rfl Tk.h rfl ?_)
  refine GO.call1 rfl rfl (check_spec q _ C hv0 hz) (Tks.c (Tk.t Tk.h) Tks.n) ?_
  rintro _ _ ⟨rfl, rfl⟩
  cases hok : okC C with
  | false =>
    have hcv : (if false = true then (0 : Int) else 220) = 220 := rfl
    rw [hcv]
    (refine GO.assign rfl rfl ?_; refine GO.nil ?_; refine kthen_n ?_; refine G.seq ?_; refine G.region ?_; refine GO.move rfl rfl ?_; refine GO.nei rfl rfl rfl ?_; refine GO.nil ?_; refine kthen_n ?_; refine G.condT rfl rfl ?_; refine G.seq ?_; refine G.region ?_; refine GO.move rfl rfl ?_; refine GO.assign rfl rfl ?_; refine GO.assign rfl rfl ?_; refine GO.nil ?_; refine kthen_n ?_; refine G.ret ?_; refine kthen_r ?_)
    refine KF.r2 rfl (RV.t rfl) (RV.t rfl) (.inr (.inr ⟨hok, rfl, rfl⟩)) ?_
    ((refine Sb.c Tk.h ?_); (refine Sb.s ?_; exact Sb.r))
  | true =>
    have hcv : (if true = true then (0 : Int) else 220) = 0 := rfl
    rw [hcv]
    obtain ⟨⟨hn1, hn2⟩, hin⟩ := okC_in hok
    obtain ⟨n, hn⟩ := Int.eq_ofNat_of_zero_le (show 0 ≤ C.nts by omega)
    rw [hn] at hin
    (refine GO.assign rfl rfl ?_; refine GO.nil ?_; refine kthen_n ?_; refine G.seq ?_; refine G.region ?_; refine GO.move rfl rfl ?_; refine GO.neF rfl rfl rfl rfl ?_; refine GO.nil ?_; refine kthen_n ?_; refine G.condF rfl rfl ?_; refine G.skip ?_; refine kthen_n ?_; refine G.seq ?_; refine G.region ?_; refine GO.loadW rfl rfl rfl (Tk.t Tk.h) rfl ?_; refine GO.move rfl rfl ?_)
    refine GO.call2 rfl rfl rfl (used0_spec q _ _ C fr n hv0 hz hfr hfl hok hn (by omega) hin) (Tks.c Tk.h Tks.n) ?_
    rintro _ _ (⟨h1, h2, b, o, rfl, hR, hst, rfl⟩ | ⟨h1, h2, rfl, rfl⟩ | ⟨h1, rfl, rfl⟩)
    · (refine GO.extract rfl rfl rfl ?_; refine GO.extract rfl rfl rfl ?_; refine GO.assign rfl rfl ?_; refine GO.assign rfl rfl ?_; refine GO.nil ?_; refine kthen_n ?_; refine G.ret ?_)
      refine KF.r2 rfl (RV.t rfl) (RV.t rfl) (.inl ⟨h1, h2, b, o, rfl, hR, hst, rfl⟩) ?_
      ((refine Sb.c Tk.h ?_; refine Sb.c Tk.h ?_); (refine Sb.s ?_; exact Sb.r))
    · (refine GO.extract rfl rfl rfl ?_; refine GO.extract rfl rfl rfl ?_; refine GO.assign rfl rfl ?_; refine GO.assign rfl rfl ?_; refine GO.nil ?_; refine kthen_n ?_; refine G.ret ?_)
      refine KF.r2 rfl (RV.t rfl) (RV.t rfl) (.inr (.inl ⟨h1, h2, rfl, rfl⟩)) ?_
      ((refine Sb.c Tk.h ?_); (refine Sb.s ?_; exact Sb.r))
    · rw [hok] at h1; cases h1
end Go.Proofs.Ytcemehocbemfmaa
