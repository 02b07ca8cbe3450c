/-
  QLv, part 2.
-/
import Derived.Test.YtcemehocbemfmaaM1
import Derived.Test.YtcemehocbemfmaaN
import Derived.Test.YtcemehocbemfmaaNB
import Derived.Test.YtcemehocbemfmaaS
import Derived.Shelf.SlSortCmp.NoneTotal
import Derived.Test.YtcemehocbemfmaaLay
import Derived.Test.YtcemehocbemfmaaT
import Derived.Test.YtcemehocbemfmaaE
import Derived.Scope
import Derived.Test.YtcemehocbemfmaaNA
namespace Go.Proofs.Ytcemehocbemfmaa
open Go
attribute [local irreducible] G GO GR GT Fn FnV pt init exs pur sat own ImpS
theorem built_sym : Try.prog.built 63 [(0, .bool true)] = some [.bool true, i64 0].toArray := by kernel_rfl
abbrev tiny : CnfD := ⟨2, [(1, [(true, 0)])]⟩
theorem tiny_fits : Fits tiny := by
  refine ⟨by decide, fun p hp => ?_⟩
  simp at hp; subst hp; decide
theorem tiny_ok : okC tiny = true := by decide
theorem tiny_at (b5 b7 : Nat) : CnfR (star [pt b7 (row [i64 1, .slice (some ⟨b5, 0, none⟩) 1 1] 42), pt b5 (row [.bool true, i64 0] 63)]) (.agg [i64 2, .slice (some ⟨b7, 0, none⟩) 1 1].toArray) tiny := by
  refine ⟨_, rfl, [i64 1, .slice (some ⟨b5, 0, none⟩) 1 1], ⟨_, _, rfl, rfl, fun _ => ⟨b7, 0, rfl, fun j u hj => ?_⟩⟩, fun k p hk => ?_⟩
  · rw [Nat.zero_add]
    exact Sup.left _ _ _ _ (Rd.row hj)
  · match k, hk with
    | 0, hk =>
      simp at hk
      subst hk
      refine ⟨_, rfl, rfl, _, _, rfl, rfl, fun _ => ⟨b5, 0, rfl, fun j u hj => ?_⟩⟩
      rw [Nat.zero_add]
      exact Sup.right _ _ _ _ (Rd.row hj)
    | k + 1, hk => simp at hk
theorem tiny_end {s : Nat → Int} (hR : Reach shoStep tiny.prods (fun _ => -1) s) (hst : ∀ p ∈ tiny.prods, (shoStep s p).2 = false) : numsV s 2 = [i64 (-1), i64 1] := by
  have h := shortest_end (n := 2) (okC_in tiny_ok).2 hR hst
  have h0 : s 0 = -1 := by rw [h 0 (by omega)]; decide
  have h1 : s 1 = 1 := by rw [h 1 (by omega)]; decide
  show [i64 (s 0), i64 (s 1)] = _
  rw [h0, h1]
set_option maxHeartbeats 4000000 in
set_option maxRecDepth 20000 in
theorem head_spec : Fn Try.prog 13 #[] [] (fun r Q => r = .bool true ∧ Q = []) := by
  refine Fn.mk Try.func13 rfl rfl fun w0 F => ?_
  (refine G.seq ?_; refine G.region ?_; refine GO.assign rfl rfl ?_; refine GO.nil ?_; refine kthen_n ?_; refine G.seq ?_; refine G.region ?_)
  refine GO.buildPart1 built_sym rfl rfl ?_
  skip
  refine GO.buildSlice1 rfl rfl (by simp; rfl) rfl ⟨by omega, by omega⟩ fun b5 => ?_
  (refine GO.build2 rfl rfl rfl rfl ?_)
  refine GO.buildSlice1 rfl rfl (by simp; rfl) rfl ⟨by omega, by omega⟩ fun b7 => ?_
  (refine GO.build2 rfl rfl rfl rfl ?_)
  refine GO.merge (x := pt b7 (row [i64 1, .slice (some ⟨b5, 0, none⟩) 1 1] 42)) (y := pt b5 (row [.bool true, i64 0] 63)) (Tks.c Tk.h (Tks.c Tk.h Tks.n)) ?_
  have hq := tiny_at b5 b7
  generalize star [pt b7 (row [i64 1, .slice (some ⟨b5, 0, none⟩) 1 1] 42), pt b5 (row [.bool true, i64 0] 63)] = q at hq ⊢
  refine GO.call1 rfl rfl (shortest_spec q _ tiny hq tiny_fits) (Tks.c Tk.h Tks.n) ?_
  rintro _ _ (⟨_, b, s, rfl, hR, hst, rfl⟩ | ⟨h, _⟩)
  · rw [show tiny.nts.toNat = 2 from rfl, tiny_end hR hst]
    (refine GO.move rfl rfl ?_; refine GO.extract rfl rfl rfl ?_; refine GO.extract rfl rfl rfl ?_; refine GO.assign rfl rfl ?_; refine GO.assign rfl rfl ?_; refine GO.nil ?_; refine kthen_n ?_; refine G.seq ?_; refine G.region ?_; refine GO.move rfl rfl ?_; refine GO.eqT rfl rfl rfl rfl ?_; refine GO.move rfl rfl ?_; refine GO.gT rfl rfl rfl ?_; refine GO.move rfl rfl ?_; refine GO.gT rfl rfl rfl ?_; refine GO.lenS rfl rfl ?_; refine GO.gT rfl rfl rfl ?_; refine GO.eqT rfl rfl rfl rfl ?_; refine GO.pickT rfl rfl rfl ?_; refine GO.move rfl rfl ?_; refine GO.gT rfl rfl rfl ?_; refine GO.move rfl rfl ?_; refine GO.gT rfl rfl rfl ?_)
    refine GO.idxS (j := 0) rfl rfl rfl ⟨rfl, by omega⟩ ?_
    (refine GO.gT rfl rfl rfl ?_; refine GO.load1 rfl rfl rfl Tk.h rfl ?_; refine GO.gT rfl rfl rfl ?_; refine GO.eqT rfl rfl rfl rfl ?_; refine GO.pickT rfl rfl rfl ?_; refine GO.move rfl rfl ?_; refine GO.gT rfl rfl rfl ?_; refine GO.move rfl rfl ?_; refine GO.gT rfl rfl rfl ?_)
    refine GO.idxS (j := 1) rfl rfl rfl ⟨rfl, by omega⟩ ?_
    (refine GO.gT rfl rfl rfl ?_; refine GO.load1 rfl rfl rfl Tk.h rfl ?_; refine GO.gT rfl rfl rfl ?_; refine GO.eqT rfl rfl rfl rfl ?_; refine GO.pickT rfl rfl rfl ?_; refine GO.assign rfl rfl ?_; refine GO.nil ?_; refine kthen_n ?_; refine G.ret ?_)
    refine KF.r1 rfl (RV.t rfl) ⟨rfl, rfl⟩ ?_
    (skip; (refine Sb.s ?_; refine Sb.s ?_; exact Sb.r))
  · rw [tiny_ok] at h; cases h
end Go.Proofs.Ytcemehocbemfmaa
namespace Go.Proofs.Ytcemehocbemfmaa
open Go
attribute [local irreducible] G GO GR GT Fn FnV pt init exs pur sat own ImpS
/-- The length that the reference's Long tells. -/
abbrev lg (s : Nat → Int) (p : ProdD) : Int := (lenF s p.2 0).getD (-1)
theorem lg_vN {s : Nat → Int} {n : Nat} (hs : Shorts s n) {p : ProdD} (hp : prodIn n p) : vN (lg s p) = longU (fun i => vN (s i)) p.2 0 ∧ -1 ≤ lg s p ∧ lg s p ≤ 65 := by
  have hlen := longU_lenF hs hp.2 (m := 0) (by omega)
  unfold lg
  cases hl : lenF s p.2 0 with
  | none =>
    rw [hl] at hlen
    exact ⟨by rw [show (0 : Nat) = (0 : Int).toNat from rfl, ← hlen], by decide, by decide⟩
  | some m =>
    rw [hl] at hlen
    have hm := lenF_in hs hp.2 (by omega) hl
    exact ⟨hlen, by show -1 ≤ m; omega, by show m ≤ 65; omega⟩
/-- No body is shorter than what the end of the rounds tells. -/
theorem goes_le {ps : List ProdD} {n : Nat} (hin : ∀ p ∈ ps, prodIn n p) {s : Nat → Int} (hs : ∀ i, i < n → s i = itR ps n i) {p : ProdD} (hp : p ∈ ps) (hl : 0 ≤ lg s p) : 0 ≤ s p.1.toNat ∧ s p.1.toNat ≤ lg s p := by
  have hsh : Shorts s n := fun i hi => by rw [hs i hi]; exact itR_in hin n i hi
  have hpp := hin p hp
  have hk : p.1.toNat < n := by have := hpp.1; omega
  obtain ⟨h1, h2, h3⟩ := lg_vN hsh hpp
  have e : longU (fun i => vN (s i)) p.2 0 = longU (fun i => vN (itR ps n i)) p.2 0 := Nat.le_antisymm
    (longU_mono (n := n) (fun i hi => by show vN (s i) ≤ vN (itR ps n i); rw [hs i hi]; exact Nat.le_refl _) p.2 0 0 hpp.2 (Nat.le_refl _) (by omega))
    (longU_mono (n := n) (fun i hi => by show vN (itR ps n i) ≤ vN (s i); rw [hs i hi]; exact Nat.le_refl _) p.2 0 0 hpp.2 (Nat.le_refl _) (by omega))
  have h4 := (rnd_spec hin (itR_in hin n)).1 p hp
  rw [itR_fix hin _ hk, ← hs _ hk, ← e, ← h1] at h4
  have h5 := hsh _ hk
  unfold vN at h4
  split at h4 <;> split at h4 <;> omega
/-- Where there is a word, a body has its length. -/
theorem goes_at {ps : List ProdD} {n : Nat} (hin : ∀ p ∈ ps, prodIn n p) {s : Nat → Int} (hs : ∀ i, i < n → s i = itR ps n i) {i : Nat} (hi : i < n) (h0 : 0 ≤ s i) : ∃ p ∈ ps, p.1.toNat = i ∧ lg s p = s i := by
  have hsh : Shorts s n := fun i hi => by rw [hs i hi]; exact itR_in hin n i hi
  have hne : vN (itR ps n i) ≠ 66 := by
    rw [← hs i hi]
    have := hsh i hi
    unfold vN; split <;> omega
  rcases (rnd_spec hin (itR_in hin n)).2 i hi with h | ⟨p, hp, h1, h2⟩
  · rw [itR_fix hin i hi] at h; exact absurd h hne
  · have hpp := hin p hp
    obtain ⟨g1, g2, g3⟩ := lg_vN hsh hpp
    have e : longU (fun i => vN (s i)) p.2 0 = longU (fun i => vN (itR ps n i)) p.2 0 := Nat.le_antisymm
      (longU_mono (n := n) (fun i hi => by show vN (s i) ≤ vN (itR ps n i); rw [hs i hi]; exact Nat.le_refl _) p.2 0 0 hpp.2 (Nat.le_refl _) (by omega))
      (longU_mono (n := n) (fun i hi => by show vN (itR ps n i) ≤ vN (s i); rw [hs i hi]; exact Nat.le_refl _) p.2 0 0 hpp.2 (Nat.le_refl _) (by omega))
    rw [itR_fix hin i hi, ← hs i hi, ← e, ← g1] at h2
    refine ⟨p, hp, h1, ?_⟩
    have h5 := hsh i hi
    unfold vN at h2
    split at h2 <;> split at h2 <;> omega
end Go.Proofs.Ytcemehocbemfmaa
namespace Go.Proofs.Ytcemehocbemfmaa
open Go
attribute [local irreducible] G GO GR GT Fn FnV pt init exs pur sat own ImpS
/-- Numbers that can be read in q. -/
def IntsR (q : HP) (v : Value) (l : List Int) : Prop := Sl q v l.length 1 (intsV l)
theorem IntsR.form {q : HP} {v : Value} {l : List Int} (h : IntsR q v l) : ∃ a cap, v = .slice a l.length cap := let ⟨a, cap, e, _⟩ := h; ⟨a, cap, e⟩
theorem IntsR.at {q : HP} {a : Option Addr} {n cap k : Nat} {l : List Int} {x : Int} (h : IntsR q (.slice a n cap) l) (hk : l[k]? = some x) :
    ∃ b o, a = some ⟨b, o, none⟩ ∧ n = l.length ∧ Rd q ⟨b, o + k * 1, none⟩ (i64 x) := by
  obtain ⟨a', cap', e, hl, hr⟩ := h
  injection e with e1 e2 e3
  subst e1 e2
  have hlt := (List.getElem?_eq_some_iff.1 hk).1
  obtain ⟨b, o, rfl, hr'⟩ := hr (by omega)
  exact ⟨b, o, rfl, rfl, hr' _ _ (by rw [Nat.mul_one]; exact intsV_get hk)⟩
theorem IntsR.sup {q q' : HP} (h : Sup q q') {v : Value} {l : List Int} (k : IntsR q v l) : IntsR q' v l := Sl.sup h k
/-- One symbol of a body, the head being used or not. -/
def useS (h : Nat) (a : (Nat → Bool) × Bool) (s : SymD) : (Nat → Bool) × Bool := if a.1 h && !s.1 && !a.1 s.2.toNat then (upd a.1 s.2.toNat true, true) else a
def useStep (o : Nat → Bool) (p : ProdD) : (Nat → Bool) × Bool := p.2.foldl (useS p.1.toNat) (o, false)
abbrev useM (n bo bp : Nat) (o : Nat → Bool) : List HP := [pt bp (row [.slice (some ⟨bo, 0, none⟩) n n] 25), pt bo (row (boolsV o n) 4)]
set_option maxHeartbeats 2000000 in
set_option maxRecDepth 20000 in
theorem usep_spec (q : HP) (o : Nat → Bool) (n bo bp : Nat) (p : ProdD) (bv : Value) (hb : SymsR q bv p.2) (hp : prodIn n p) (hn : p.2.length ≤ 9223372036854775807) :
    Fn Try.prog 49 #[prodV p bv, .pointer (some ⟨bp, 0, none⟩)] (q :: useM n bo bp o) (fun r Q => r = .bool (useStep o p).2 ∧ Q = q :: useM n bo bp (useStep o p).1) := by
  obtain ⟨h, ss⟩ := p
  obtain ⟨⟨h1, h2⟩, hss⟩ := hp
  dsimp only at h1 h2 hss hn hb
  obtain ⟨h, rfl⟩ := Int.eq_ofNat_of_zero_le h1
  have hkn : h < n := by omega
  have hst : ∀ k s, ss[k]? = some s → (ss.take (k + 1)).foldl (useS h) (o, false) = useS h ((ss.take k).foldl (useS h) (o, false)) s := fun k s hk => foldl_take hk
  have hend : useStep o ((h : Int), ss) = (ss.take ss.length).foldl (useS h) (o, false) := by rw [List.take_length]; rfl
  have hbeg : (ss.take 0).foldl (useS h) (o, false) = (o, false) := rfl
  rw [hend]
  generalize hgen : (fun k => (ss.take k).foldl (useS h) (o, false)) = st at hst hbeg
  have hg : ∀ k, (ss.take k).foldl (useS h) (o, false) = st k := fun k => congrFun hgen k
  simp only [hg] at hst hbeg ⊢
  obtain ⟨ab, capb, rfl⟩ := hb.form
  refine Fn.mk Try.func49 rfl rfl fun w0 F => ?_
  (refine G.seq ?_; refine G.region ?_; refine GO.box rfl rfl rfl fun b2 => ?_; refine GO.assign rfl rfl ?_; refine GO.nil ?_; refine kthen_n ?_; refine G.seq ?_; refine G.region ?_; refine GO.assign rfl rfl ?_; refine GO.nil ?_; refine kthen_n ?_; refine G.seq ?_; refine G.seq ?_; refine G.region ?_; refine GO.fieldAddr rfl rfl ?_; refine GO.load1 rfl rfl rfl Tk.h rfl ?_; refine GO.lenS rfl rfl ?_; refine GO.move rfl rfl ?_; refine GO.nil ?_; refine kthen_n ?_; refine G.block ?_)
  refine G.loop (fun k : Nat => [(1, .pointer (some ⟨bp, 0, none⟩)), (2, .pointer (some ⟨b2, 0, none⟩)), (4, .bool (st k).2), (8, .slice ab ss.length capb), (9, i64 ss.length), (10, i64 k)])
    (fun k => pt bp (row [.slice (some ⟨bo, 0, none⟩) n n] 25) :: pt bo (row (boolsV (st k).1 n) 4) :: pt b2 (row [i64 h, .slice ab ss.length capb] 42) :: q :: F) (fun k => k ≤ ss.length) (fun k => ss.length - k) 0 (by omega) ?_ ?_ ?_
  · rw [hbeg]; (refine SubE.c rfl rfl ?_; refine SubE.c rfl rfl ?_; refine SubE.c rfl rfl ?_; refine SubE.c rfl rfl ?_; refine SubE.c rfl rfl ?_; refine SubE.c rfl rfl ?_; exact SubE.n)
  · rw [hbeg]; ((refine Sb.c (Tk.t (Tk.t Tk.h)) ?_; refine Sb.c (Tk.t (Tk.t Tk.h)) ?_; refine Sb.c Tk.h ?_; refine Sb.c Tk.h ?_); (exact Sb.r))
  rintro k hk
  (refine G.seq ?_; refine G.region ?_; refine GO.lti rfl rfl rfl ?_; refine GO.nil ?_; refine kthen_n ?_; refine G.seq ?_)
  refine G.condD rfl (fun hlt => ?_) (fun hge => ?_)
  · have hlt' : k < ss.length := by omega
    obtain ⟨⟨lb, m⟩, hsk⟩ : ∃ s : SymD, ss[k]? = some s := ⟨ss[k], by simp [hlt']⟩
    obtain ⟨b, o', rfl, _, r3, r4⟩ := hb.at hsk
    have hin := hss _ (List.mem_of_getElem? hsk)
    have hs1 := hst k _ hsk
    dsimp only at r3 r4
    generalize st k = a at hs1 ⊢
    obtain ⟨oa, ch⟩ := a
    dsimp only
    (refine G.skip ?_; refine kthen_n ?_; refine G.seq ?_; refine G.block ?_; refine G.seq ?_; refine G.region ?_; refine GO.idxS rfl rfl rfl ⟨rfl, by omega⟩ ?_; refine GO.load2 rfl rfl rfl (Tk.t (Tk.t (Tk.t Tk.h))) (by assumption) (by assumption) ?_; refine GO.alloc rfl fun b6 => ?_; refine GO.storeW rfl rfl Tk.h ⟨rfl, rfl⟩ (by simp [Value.oneCell']) ?_; refine GO.nil ?_; refine kthen_n ?_; refine G.seq ?_; refine G.region ?_; refine GO.load1 rfl rfl rfl (Tk.t Tk.h) rfl ?_; refine GO.fieldAddr rfl rfl ?_; refine GO.load1 rfl rfl rfl (Tk.t (Tk.t (Tk.t Tk.h))) rfl ?_; refine GO.idxS rfl rfl rfl ⟨rfl, by omega⟩ ?_; refine GO.load1 rfl rfl rfl (Tk.t (Tk.t Tk.h)) (rowV_get1 (by assumption)) ?_; refine GO.move rfl rfl ?_)
    cases ho : oa h with
    | false =>
      (refine GO.gF rfl rfl rfl rfl ?_; refine GO.gF rfl rfl rfl rfl ?_; refine GO.gF rfl rfl rfl rfl ?_; refine GO.pickF rfl rfl rfl ?_; refine GO.move rfl rfl ?_; refine GO.gF rfl rfl rfl rfl ?_; refine GO.gF rfl rfl rfl rfl ?_; refine GO.gF rfl rfl rfl rfl ?_; refine GO.gF rfl rfl rfl rfl ?_; refine GO.gF rfl rfl rfl rfl ?_; refine GO.gF rfl rfl rfl rfl ?_; refine GO.pickF rfl rfl rfl ?_; refine GO.nil ?_; refine kthen_n ?_; refine G.condF rfl rfl ?_; refine G.skip ?_; refine kblock_n ?_; refine kthen_n ?_; refine G.region ?_; refine GO.addi rfl rfl rfl (by omega) ?_; refine GO.move rfl rfl ?_; refine GO.nil ?_; refine kthen_n ?_)
      refine ⟨k + 1, by omega, by omega, ?_, ?_⟩
      · rw [hs1]; unfold useS; simp only [ho, Bool.false_and]; (refine SubE.c rfl rfl ?_; refine SubE.c rfl rfl ?_; refine SubE.c rfl rfl ?_; refine SubE.c rfl rfl ?_; refine SubE.c rfl rfl ?_; refine SubE.c rfl rfl ?_; exact SubE.n)
      · rw [hs1]; unfold useS; simp only [ho, Bool.false_and]; ((refine Sb.c (Tk.t Tk.h) ?_; refine Sb.c (Tk.t Tk.h) ?_; refine Sb.c (Tk.t Tk.h) ?_; refine Sb.c (Tk.t Tk.h) ?_); (refine Sb.s ?_; exact Sb.r))
    | true =>
      (refine GO.gT rfl rfl rfl ?_; refine GO.fieldAddr rfl rfl ?_; refine GO.gT rfl rfl rfl ?_; refine GO.load1 rfl rfl rfl Tk.h rfl ?_; refine GO.gT rfl rfl rfl ?_; refine GO.not rfl rfl ?_; refine GO.pickT rfl rfl rfl ?_; refine GO.move rfl rfl ?_)
      cases lb with
      | true =>
        (refine GO.gF rfl rfl rfl rfl ?_; refine GO.gF rfl rfl rfl rfl ?_; refine GO.gF rfl rfl rfl rfl ?_; refine GO.gF rfl rfl rfl rfl ?_; refine GO.gF rfl rfl rfl rfl ?_; refine GO.gF rfl rfl rfl rfl ?_; refine GO.pickF rfl rfl rfl ?_; refine GO.nil ?_; refine kthen_n ?_; refine G.condF rfl rfl ?_; refine G.skip ?_; refine kblock_n ?_; refine kthen_n ?_; refine G.region ?_; refine GO.addi rfl rfl rfl (by omega) ?_; refine GO.move rfl rfl ?_; refine GO.nil ?_; refine kthen_n ?_)
        refine ⟨k + 1, by omega, by omega, ?_, ?_⟩
        · rw [hs1]; unfold useS; simp only [ho, Bool.not_true, Bool.and_false, Bool.false_and]; (refine SubE.c rfl rfl ?_; refine SubE.c rfl rfl ?_; refine SubE.c rfl rfl ?_; refine SubE.c rfl rfl ?_; refine SubE.c rfl rfl ?_; refine SubE.c rfl rfl ?_; exact SubE.n)
        · rw [hs1]; unfold useS; simp only [ho, Bool.not_true, Bool.and_false, Bool.false_and]; ((refine Sb.c (Tk.t Tk.h) ?_; refine Sb.c (Tk.t Tk.h) ?_; refine Sb.c (Tk.t Tk.h) ?_; refine Sb.c (Tk.t Tk.h) ?_); (refine Sb.s ?_; exact Sb.r))
      | false =>
        obtain ⟨m, rfl⟩ := Int.eq_ofNat_of_zero_le (hin rfl).1
        have hmn : m < n := by have := (hin rfl).2; dsimp only at this; omega
        (refine GO.gT rfl rfl rfl ?_; refine GO.load1 rfl rfl rfl (Tk.t Tk.h) rfl ?_; refine GO.gT rfl rfl rfl ?_; refine GO.fieldAddr rfl rfl ?_; refine GO.gT rfl rfl rfl ?_; refine GO.load1 rfl rfl rfl Tk.h rfl ?_; refine GO.gT rfl rfl rfl ?_; refine GO.idxS rfl rfl rfl ⟨rfl, by omega⟩ ?_; refine GO.gT rfl rfl rfl ?_; refine GO.load1 rfl rfl rfl (Tk.t (Tk.t Tk.h)) (rowV_get1 (by assumption)) ?_; refine GO.gT rfl rfl rfl ?_; refine GO.not rfl rfl ?_; refine GO.pickT rfl rfl rfl ?_; refine GO.nil ?_; refine kthen_n ?_)
        cases hom : oa m with
        | true =>
          (refine G.condF rfl rfl ?_; refine G.skip ?_; refine kblock_n ?_; refine kthen_n ?_; refine G.region ?_; refine GO.addi rfl rfl rfl (by omega) ?_; refine GO.move rfl rfl ?_; refine GO.nil ?_; refine kthen_n ?_)
          refine ⟨k + 1, by omega, by omega, ?_, ?_⟩
          · rw [hs1]; unfold useS; simp only [ho, Int.toNat_natCast, hom]; (refine SubE.c rfl rfl ?_; refine SubE.c rfl rfl ?_; refine SubE.c rfl rfl ?_; refine SubE.c rfl rfl ?_; refine SubE.c rfl rfl ?_; refine SubE.c rfl rfl ?_; exact SubE.n)
          · rw [hs1]; unfold useS; simp only [ho, Int.toNat_natCast, hom]; ((refine Sb.c (Tk.t Tk.h) ?_; refine Sb.c (Tk.t Tk.h) ?_; refine Sb.c (Tk.t Tk.h) ?_; refine Sb.c (Tk.t Tk.h) ?_); (refine Sb.s ?_; exact Sb.r))
        | false =>
          (refine G.condT rfl rfl ?_; refine G.seq ?_; refine G.region ?_; refine GO.load1 rfl rfl rfl (Tk.t Tk.h) rfl ?_; refine GO.fieldAddr rfl rfl ?_; refine GO.load1 rfl rfl rfl Tk.h rfl ?_; refine GO.idxS rfl rfl rfl ⟨rfl, by omega⟩ ?_)
          refine GO.store1 rfl rfl rfl (Tk.t (Tk.t Tk.h)) (by rw [rowV_len]; omega) ?_
          rw [rowV_set]
          (refine GO.nil ?_; refine kthen_n ?_; refine G.region ?_; refine GO.assign rfl rfl ?_; refine GO.nil ?_; refine kblock_n ?_; refine kthen_n ?_; refine G.region ?_; refine GO.addi rfl rfl rfl (by omega) ?_; refine GO.move rfl rfl ?_; refine GO.nil ?_; refine kthen_n ?_)
          refine ⟨k + 1, by omega, by omega, ?_, ?_⟩
          · rw [hs1]; unfold useS; simp only [ho, Int.toNat_natCast, hom]; (refine SubE.c rfl rfl ?_; refine SubE.c rfl rfl ?_; refine SubE.c rfl rfl ?_; refine SubE.c rfl rfl ?_; refine SubE.c rfl rfl ?_; refine SubE.c rfl rfl ?_; exact SubE.n)
          · rw [hs1]; unfold useS; simp only [ho, Int.toNat_natCast, hom]; ((refine Sb.c (Tk.t (Tk.t Tk.h)) ?_; refine Sb.c Tk.h ?_; refine Sb.c (Tk.t Tk.h) ?_; refine Sb.c (Tk.t Tk.h) ?_); (refine Sb.s ?_; exact Sb.r))
  · have : k = ss.length := by omega
    subst this
    (refine G.exit ?_; refine kthen_x ?_; refine kthen_x ?_; refine kblock_x ?_; refine kthen_n ?_; refine G.seq ?_; refine G.region ?_; refine GO.move rfl rfl ?_; refine GO.assign rfl rfl ?_; refine GO.nil ?_; refine kthen_n ?_; refine G.ret ?_)
    refine KF.r1 rfl (RV.t rfl) ⟨rfl, rfl⟩ ?_
    ((refine Sb.c (Tk.t (Tk.t (Tk.t Tk.h))) ?_; refine Sb.c Tk.h ?_; refine Sb.c Tk.h ?_); (refine Sb.s ?_; exact Sb.r))
/-- The numbers of a list, as a set. -/
def setOf (l : List Int) : Nat → Bool := l.foldl (fun o x => upd o x.toNat true) (fun _ => false)
theorem upd_foldl {l : List Int} : ∀ {o : Nat → Bool} {i : Nat}, l.foldl (fun o x => upd o x.toNat true) o i = true ↔ o i = true ∨ ∃ x ∈ l, x.toNat = i := by
  induction l with
  | nil => intro o i; simp
  | cons y l ih =>
    intro o i
    rw [List.foldl_cons, ih]
    unfold upd
    by_cases h : i = y.toNat
    · subst h; simp
    · have h' : ¬ y.toNat = i := fun e => h e.symm
      simp [h, h']
theorem setOf_iff {l : List Int} {i : Nat} : setOf l i = true ↔ ∃ x ∈ l, x.toNat = i := by
  unfold setOf; rw [upd_foldl]; simp
def inAll (n : Nat) (l : List Int) : Bool := l.all fun x => decide (0 ≤ x ∧ x < n)
theorem inAll_not {n k : Nat} {l : List Int} {x : Int} (h : l[k]? = some x) (hx : ¬ (0 ≤ x ∧ x < n)) : inAll n l = false := by
  unfold inAll; rw [List.all_eq_false]; exact ⟨x, List.mem_of_getElem? h, by simpa using hx⟩
theorem useS_mono {h : Nat} {a : (Nat → Bool) × Bool} {s : SymD} {i : Nat} (hi : a.1 i = true) : (useS h a s).1 i = true := by
  unfold useS; split
  · simp only [upd]; split
    · rfl
    · exact hi
  · exact hi
theorem useF_keep {h : Nat} : ∀ {ss : List SymD} {a : (Nat → Bool) × Bool}, (a.2 = true → (ss.foldl (useS h) a).2 = true) ∧ ((ss.foldl (useS h) a).2 = false → ss.foldl (useS h) a = a)
  | [], a => ⟨id, fun _ => rfl⟩
  | s :: ss, a => by
    obtain ⟨h2, h4⟩ := useF_keep (h := h) (ss := ss) (a := useS h a s)
    rw [List.foldl_cons]
    by_cases hc : (a.1 h && !s.1 && !a.1 s.2.toNat) = true
    · have e : useS h a s = (upd a.1 s.2.toNat true, true) := by unfold useS; rw [if_pos hc]
      rw [e] at h2 h4 ⊢
      exact ⟨fun _ => h2 rfl, fun hf => by rw [h2 rfl] at hf; cases hf⟩
    · have e : useS h a s = a := by unfold useS; rw [if_neg hc]
      rw [e] at h2 h4 ⊢
      exact ⟨h2, h4⟩
theorem useF_less {h n : Nat} : ∀ {ss : List SymD} {a : (Nat → Bool) × Bool}, (∀ s ∈ ss, symIn n s) → falses (ss.foldl (useS h) a).1 n ≤ falses a.1 n ∧ ((ss.foldl (useS h) a).2 = true → a.2 = true ∨ falses (ss.foldl (useS h) a).1 n < falses a.1 n)
  | [], a, _ => ⟨Nat.le_refl _, .inl⟩
  | s :: ss, a, hs => by
    obtain ⟨h1, h3⟩ := useF_less (h := h) (n := n) (ss := ss) (a := useS h a s) (fun x hx => hs x (by simp [hx]))
    rw [List.foldl_cons]
    by_cases hc : (a.1 h && !s.1 && !a.1 s.2.toNat) = true
    · have e : useS h a s = (upd a.1 s.2.toNat true, true) := by unfold useS; rw [if_pos hc]
      rw [e] at h1 h3 ⊢
      simp only [Bool.and_eq_true, Bool.not_eq_true'] at hc
      have hin := hs s (by simp) hc.1.2
      have hlt : falses (upd a.1 s.2.toNat true) n < falses a.1 n := falses_lt (by omega) hc.2
      dsimp only at h1
      exact ⟨by omega, fun _ => .inr (by omega)⟩
    · have e : useS h a s = a := by unfold useS; rw [if_neg hc]
      rw [e] at h1 h3 ⊢
      exact ⟨h1, h3⟩
/-- What Used answers. -/
def UsedR (C : CnfD) (fr : List Int) (q : HP) (r : Value) (Q : List HP) : Prop :=
  (okC C = true ∧ inAll C.nts.toNat fr = true ∧ ∃ b o, r = .tuple [.slice (some ⟨b, 0, none⟩) C.nts.toNat C.nts.toNat, i64 0].toArray ∧ Reach useStep C.prods (setOf fr) o ∧ (∀ p ∈ C.prods, (useStep o p).2 = false) ∧ Q = [pt b (row (boolsV o C.nts.toNat) 4), q]) ∨
  (okC C = true ∧ inAll C.nts.toNat fr = false ∧ r = .tuple [.slice none 0 0, i64 2].toArray ∧ Q = [q]) ∨
  (okC C = false ∧ r = .tuple [.slice none 0 0, i64 220].toArray ∧ Q = [q])
set_option maxHeartbeats 4000000 in
set_option maxRecDepth 20000 in
theorem used0_spec (q : HP) (v fv : Value) (C : CnfD) (fr : List Int) (n : Nat) (hv : CnfR q v C) (hz : Fits C) (hfr : IntsR q fv fr) (hfl : fr.length ≤ 9223372036854775807) (hok : okC C = true) (hn : C.nts = n) (hn2 : n ≤ 1024) (hin : ∀ p ∈ C.prods, prodIn n p) :
    Fn Try.prog 35 #[v, fv] [q] (UsedR C fr q) := by
  have hv0 := hv
  obtain ⟨pv, rfl, hp⟩ := hv
  obtain ⟨a0, cap0, rfl⟩ := hp.form
  obtain ⟨af, capf, rfl⟩ := hfr.form
  have hnn : C.nts.toNat = n := by omega
  unfold UsedR
  rw [hn, hok]
  simp only [Int.toNat_natCast, true_and]
  rw [hn] at hv0
  refine Fn.mk Try.func35 rfl rfl fun w0 F => ?_
  (refine G.seq ?_; refine G.region ?_; refine GO.box rfl rfl rfl fun b2 => ?_; refine GO.assign rfl rfl ?_; refine GO.assign rfl rfl ?_; refine GO.nil ?_; refine kthen_n ?_; refine G.seq ?_; refine G.region ?_; refine GO.fieldAddr rfl rfl ?_; refine GO.load1 rfl rfl rfl Tk.h rfl ?_)
  refine GO.make1 (n := n) rfl rfl rfl ⟨rfl, rfl⟩ ⟨by omega, by omega⟩ fun bo => ?_
  rw [rowV_const (f := Value.bool)]
  (refine GO.alloc rfl fun b6 => ?_; refine GO.store1 rfl rfl rfl Tk.h (by decide) ?_; refine GO.nil ?_; refine kthen_n ?_; refine G.seq ?_; refine G.seq ?_; refine G.region ?_; refine GO.move rfl rfl ?_; refine GO.lenS rfl rfl ?_; refine GO.move rfl rfl ?_; refine GO.nil ?_; refine kthen_n ?_; refine G.block ?_)
  have h0 : (fun _ : Nat => false) = setOf (fr.take 0) := rfl
  rw [h0]
  refine G.loop (fun k : Nat => [(2, .pointer (some ⟨b2, 0, none⟩)), (6, .pointer (some ⟨b6, 0, none⟩)), (12, .slice af fr.length capf), (13, i64 fr.length), (14, i64 k)])
    (fun k => pt b6 (row [.slice (some ⟨bo, 0, none⟩) n n] 25) :: pt bo (row (boolsV (setOf (fr.take k)) n) 4) :: pt b2 (row [i64 n, .slice a0 C.prods.length cap0] 24) :: q :: F) (fun k => k ≤ fr.length ∧ inAll n (fr.take k) = true) (fun k => fr.length - k) 0 ⟨by omega, rfl⟩ ?_ ?_ ?_
  · (refine SubE.c rfl rfl ?_; refine SubE.c rfl rfl ?_; refine SubE.c rfl rfl ?_; refine SubE.c rfl rfl ?_; refine SubE.c rfl rfl ?_; exact SubE.n)
  · ((refine Sb.c Tk.h ?_; refine Sb.c Tk.h ?_; refine Sb.c Tk.h ?_; refine Sb.c Tk.h ?_); (exact Sb.r))
  rintro k ⟨hk, hall⟩
  (refine G.seq ?_; refine G.region ?_; refine GO.lti rfl rfl rfl ?_; refine GO.nil ?_; refine kthen_n ?_; refine G.seq ?_)
  refine G.condD rfl (fun hlt => ?_) (fun hge => ?_)
  · have hkl : k < fr.length := by omega
    obtain ⟨x, hx⟩ : ∃ x : Int, fr[k]? = some x := ⟨fr[k], by simp [hkl]⟩
    obtain ⟨b, o', rfl, _, r1⟩ := hfr.at hx
    (refine G.skip ?_; refine kthen_n ?_; refine G.seq ?_; refine G.block ?_; refine G.seq ?_; refine G.region ?_; refine GO.idxS rfl rfl rfl ⟨rfl, by omega⟩ ?_; refine GO.loadQ rfl rfl rfl (Tk.t (Tk.t (Tk.t Tk.h))) (by assumption) ?_; refine GO.assign rfl rfl ?_; refine GO.nil ?_; refine kthen_n ?_; refine G.seq ?_; refine G.seq ?_; refine G.region ?_; refine GO.move rfl rfl ?_; refine GO.lti rfl rfl rfl ?_; refine GO.move rfl rfl ?_)
    refine GO.cut1 25 (.bool (decide (x < 0) || decide ((n : Int) ≤ x))) ?_ ?_
    · refine GO.splitD 20 rfl (fun h => ?_) (fun h => ?_)
      · (refine GO.gF rfl rfl rfl rfl ?_; refine GO.gF rfl rfl rfl rfl ?_; refine GO.gF rfl rfl rfl rfl ?_; refine GO.gF rfl rfl rfl rfl ?_; refine GO.pickT rfl rfl rfl ?_; refine GO.nil ?_; refine kthen_n ?_)
        (refine ⟨?_, ImpS.sb ?_⟩; (focus (((refine SubE.c rfl ?_ ?_; focus (simp; omega)); (refine SubE.c rfl ?_ ?_; focus (simp; omega)); refine SubE.c rfl rfl ?_; refine SubE.c rfl rfl ?_; refine SubE.c rfl rfl ?_; refine SubE.c rfl rfl ?_; refine SubE.c rfl rfl ?_; refine SubE.c rfl rfl ?_; refine SubE.c rfl rfl ?_; refine SubE.c rfl rfl ?_; refine SubE.c rfl rfl ?_; refine SubE.c rfl rfl ?_; refine SubE.c rfl rfl ?_; exact SubE.n))); (focus (((refine Sb.c Tk.h ?_; refine Sb.c Tk.h ?_; refine Sb.c Tk.h ?_; refine Sb.c Tk.h ?_); (exact Sb.r)))))
      · (refine GO.gT rfl rfl rfl ?_; refine GO.move rfl rfl ?_; refine GO.gT rfl rfl rfl ?_; refine GO.fieldAddr rfl rfl ?_; refine GO.gT rfl rfl rfl ?_; refine GO.load1 rfl rfl rfl (Tk.t (Tk.t Tk.h)) rfl ?_; refine GO.gT rfl rfl rfl ?_; refine GO.gei rfl rfl rfl ?_; refine GO.pickF rfl rfl rfl ?_; refine GO.nil ?_; refine kthen_n ?_)
        (refine ⟨?_, ImpS.sb ?_⟩; (focus (((refine SubE.c rfl ?_ ?_; focus (simp; omega)); (refine SubE.c rfl ?_ ?_; focus (simp; omega)); refine SubE.c rfl rfl ?_; refine SubE.c rfl rfl ?_; refine SubE.c rfl rfl ?_; refine SubE.c rfl rfl ?_; refine SubE.c rfl rfl ?_; refine SubE.c rfl rfl ?_; refine SubE.c rfl rfl ?_; refine SubE.c rfl rfl ?_; refine SubE.c rfl rfl ?_; refine SubE.c rfl rfl ?_; refine SubE.c rfl rfl ?_; exact SubE.n))); (focus (((refine Sb.c Tk.h ?_; refine Sb.c Tk.h ?_; refine Sb.c Tk.h ?_; refine Sb.c Tk.h ?_); (exact Sb.r)))))
    refine G.cond rfl (fun hb => ?_) (fun hb => ?_)
    · (refine G.seq ?_; refine G.region ?_; refine GO.assign rfl rfl ?_; refine GO.assign rfl rfl ?_; refine GO.nil ?_; refine kthen_n ?_; refine G.ret ?_; refine kthen_r ?_; refine kblock_r ?_; refine kthen_r ?_; refine kthen_r ?_; refine kblock_r ?_; refine kthen_r ?_)
      refine KF.r2 rfl (RV.t rfl) (RV.t rfl) (.inr (.inl ⟨inAll_not hx (by simp at hb; omega), rfl, rfl⟩)) ?_
      ((refine Sb.c (Tk.t (Tk.t (Tk.t Tk.h))) ?_); (refine Sb.s ?_; refine Sb.s ?_; refine Sb.s ?_; exact Sb.r))
    · simp only [Bool.or_eq_false_iff, decide_eq_false_iff_not] at hb
      obtain ⟨x, rfl⟩ := Int.eq_ofNat_of_zero_le (show 0 ≤ x by omega)
      have hxn : x < n := by omega
      (refine G.skip ?_; refine kthen_n ?_; refine G.region ?_; refine GO.load1 rfl rfl rfl Tk.h rfl ?_; refine GO.move rfl rfl ?_; refine GO.idxS rfl rfl rfl ⟨rfl, by omega⟩ ?_)
      refine GO.store1 rfl rfl rfl (Tk.t Tk.h) (by rw [rowV_len]; omega) ?_
      rw [rowV_set]
      have e1 : upd (setOf (fr.take k)) x true = setOf (fr.take (k + 1)) := by
        unfold setOf; rw [foldl_take hx, Int.toNat_natCast]
      rw [e1]
      (refine GO.nil ?_; refine kblock_n ?_; refine kthen_n ?_; refine G.region ?_; refine GO.addi rfl rfl rfl (by omega) ?_; refine GO.move rfl rfl ?_; refine GO.nil ?_; refine kthen_n ?_)
      refine ⟨k + 1, ⟨by omega, ?_⟩, by omega, ?_, ?_⟩
      · unfold inAll at hall ⊢
        rw [List.take_add_one, hx]
        simp only [Option.toList, List.all_append, hall]
        simp; omega
      · (refine SubE.c rfl rfl ?_; refine SubE.c rfl rfl ?_; refine SubE.c rfl rfl ?_; refine SubE.c rfl rfl ?_; refine SubE.c rfl rfl ?_; exact SubE.n)
      · ((refine Sb.c (Tk.t Tk.h) ?_; refine Sb.c Tk.h ?_; refine Sb.c Tk.h ?_; refine Sb.c Tk.h ?_); (exact Sb.r))
  · have : k = fr.length := by omega
    subst this
    rw [List.take_length] at hall ⊢
    (refine G.exit ?_; refine kthen_x ?_; refine kthen_x ?_; refine kblock_x ?_; refine kthen_n ?_; refine G.seq ?_; refine G.region ?_; refine GO.loadW rfl rfl rfl (Tk.t (Tk.t Tk.h)) rfl ?_; refine GO.makeFunc1 rfl rfl ?_)
    refine GO.call2 rfl rfl rfl (grow_spec q _ _ C hv0 hz (useM n bo b6) (fun _ => True) useStep (fun o => falses o n) (fun o p _ hpm bv hb => FnV.of (caps := [.pointer (some ⟨b6, 0, none⟩)]) (usep_spec q o n bo b6 p bv hb (hin p hpm) (by have := hz.2 p hpm; omega))) (fun _ _ _ _ => trivial) (fun o p _ hpm h => ((useF_less (n := n) (hin p hpm).2).2 h).resolve_left (by simp)) (fun o p h => congrArg Prod.fst (useF_keep.2 h)) (setOf fr) trivial) (Tks.c (Tk.t (Tk.t (Tk.t Tk.h))) (Tks.c Tk.h (Tks.c Tk.h Tks.n))) ?_
    rintro _ _ ⟨o, _, hR, hst, rfl⟩
    (refine GO.nil ?_; refine kthen_n ?_; refine G.seq ?_; refine G.region ?_; refine GO.load1 rfl rfl rfl (Tk.t Tk.h) rfl ?_; refine GO.assign rfl rfl ?_; refine GO.assign rfl rfl ?_; refine GO.nil ?_; refine kthen_n ?_; refine G.ret ?_)
    refine KF.r2 rfl (RV.t rfl) (RV.t rfl) (.inl ⟨hall, bo, o, rfl, hR, hst, rfl⟩) ?_
    ((refine Sb.c (Tk.t (Tk.t Tk.h)) ?_; refine Sb.c Tk.h ?_); (refine Sb.s ?_; refine Sb.s ?_; exact Sb.r))
theorem used_spec (q : HP) (v fv : Value) (C : CnfD) (fr : List Int) (hv : CnfR q v C) (hz : Fits C) (hfr : IntsR q fv fr) (hfl : fr.length ≤ 9223372036854775807) : Fn Try.prog 21 #[v, fv] [q] (UsedR C fr q) := by
  have hv0 := hv
  obtain ⟨pv, rfl, hp⟩ := hv
  obtain ⟨a0, cap0, rfl⟩ := hp.form
  refine Fn.mk Try.func21 rfl rfl fun w0 F => ?_
  (refine G.seq ?_; refine G.region ?_; refine GO.box rfl rfl rfl fun b2 => ?_; refine GO.assign rfl rfl ?_; refine GO.assign rfl rfl ?_; refine GO.nil ?_; refine kthen_n ?_; refine G.seq ?_; refine G.seq ?_; refine G.region ?_; refine GO.loadW rfl rfl rfl Tk.h rfl ?_)
  refine GO.call1 rfl rfl (check_spec q _ C hv0 hz) (Tks.c (Tk.t Tk.h) Tks.n) ?_
  rintro _ _ ⟨rfl, rfl⟩
  cases hok : okC C with
  | false =>
    have hcv : (if false = true then (0 : Int) else 220) = 220 := rfl
    rw [hcv]
    (refine GO.assign rfl rfl ?_; refine GO.nil ?_; refine kthen_n ?_; refine G.seq ?_; refine G.region ?_; refine GO.move rfl rfl ?_; refine GO.nei rfl rfl rfl ?_; refine GO.nil ?_; refine kthen_n ?_; refine G.condT rfl rfl ?_; refine G.seq ?_; refine G.region ?_; refine GO.move rfl rfl ?_; refine GO.assign rfl rfl ?_; refine GO.assign rfl rfl ?_; refine GO.nil ?_; refine kthen_n ?_; refine G.ret ?_; refine kthen_r ?_)
    refine KF.r2 rfl (RV.t rfl) (RV.t rfl) (.inr (.inr ⟨hok, rfl, rfl⟩)) ?_
    ((refine Sb.c Tk.h ?_); (refine Sb.s ?_; exact Sb.r))
  | true =>
    have hcv : (if true = true then (0 : Int) else 220) = 0 := rfl
    rw [hcv]
    obtain ⟨⟨hn1, hn2⟩, hin⟩ := okC_in hok
    obtain ⟨n, hn⟩ := Int.eq_ofNat_of_zero_le (show 0 ≤ C.nts by omega)
    rw [hn] at hin
    (refine GO.assign rfl rfl ?_; refine GO.nil ?_; refine kthen_n ?_; refine G.seq ?_; refine G.region ?_; refine GO.move rfl rfl ?_; refine GO.neF rfl rfl rfl rfl ?_; refine GO.nil ?_; refine kthen_n ?_; refine G.condF rfl rfl ?_; refine G.skip ?_; refine kthen_n ?_; refine G.seq ?_; refine G.region ?_; refine GO.loadW rfl rfl rfl (Tk.t Tk.h) rfl ?_; refine GO.move rfl rfl ?_)
    refine GO.call2 rfl rfl rfl (used0_spec q _ _ C fr n hv0 hz hfr hfl hok hn (by omega) hin) (Tks.c Tk.h Tks.n) ?_
    rintro _ _ (⟨h1, h2, b, o, rfl, hR, hst, rfl⟩ | ⟨h1, h2, rfl, rfl⟩ | ⟨h1, rfl, rfl⟩)
    · (refine GO.extract rfl rfl rfl ?_; refine GO.extract rfl rfl rfl ?_; refine GO.assign rfl rfl ?_; refine GO.assign rfl rfl ?_; refine GO.nil ?_; refine kthen_n ?_; refine G.ret ?_)
      refine KF.r2 rfl (RV.t rfl) (RV.t rfl) (.inl ⟨h1, h2, b, o, rfl, hR, hst, rfl⟩) ?_
      ((refine Sb.c Tk.h ?_; refine Sb.c Tk.h ?_); (refine Sb.s ?_; exact Sb.r))
    · (refine GO.extract rfl rfl rfl ?_; refine GO.extract rfl rfl rfl ?_; refine GO.assign rfl rfl ?_; refine GO.assign rfl rfl ?_; refine GO.nil ?_; refine kthen_n ?_; refine G.ret ?_)
      refine KF.r2 rfl (RV.t rfl) (RV.t rfl) (.inr (.inl ⟨h1, h2, rfl, rfl⟩)) ?_
      ((refine Sb.c Tk.h ?_); (refine Sb.s ?_; exact Sb.r))
    · rw [hok] at h1; cases h1
end Go.Proofs.Ytcemehocbemfmaa
namespace Go.Proofs.Ytcemehocbemfmaa
open Go
attribute [local irreducible] G GO GR GT Fn FnV pt init exs pur sat own ImpS
set_option maxHeartbeats 2000000 in
theorem cloneS_spec (q : HP) (v : Value) (ss : List SymD) (hv : SymsR q v ss) (hz : ss.length * 16 ≤ 140737488355328) : Fn Try.prog 37 #[v] [q] (fun r Q => ∃ z, SymsR z r ss ∧ Q = [z, q]) := by
  obtain ⟨a, cap, rfl⟩ := hv.form
  refine Fn.mk Try.func37 rfl rfl fun w0 F => ?_
  (refine G.seq ?_; refine G.region ?_; refine GO.assign rfl rfl ?_; refine GO.nil ?_; refine kthen_n ?_; refine G.seq ?_; refine G.seq ?_; refine G.region ?_; refine GO.move rfl rfl ?_)
  refine GO.eqNilS rfl rfl ?_
  cases a with
  | none =>
    have hss : ss = [] := by
      obtain ⟨a', cap', e, _, hr⟩ := hv
      injection e with e1 _ _
      subst e1
      cases ss with
      | nil => rfl
      | cons s ss => obtain ⟨b, o, h, _⟩ := hr (by simp); cases h
    subst hss
    refine GO.imp (H' := pur True :: _) (fun l w s => sat_pur.2 ⟨trivial, s⟩) ?_
    (refine GO.nil ?_; refine kthen_n ?_; refine G.condT rfl rfl ?_; refine G.seq ?_; refine G.region ?_; refine GO.assign rfl rfl ?_; refine GO.nil ?_; refine kthen_n ?_; refine G.ret ?_; refine kthen_r ?_)
    refine KF.r1 rfl (RV.t rfl) ⟨pur True, ⟨none, 0, rfl, rfl, fun h => by simp at h⟩, rfl⟩ ?_
    ((refine Sb.c Tk.h ?_; refine Sb.c Tk.h ?_); (exact Sb.r))
  | some a =>
    (refine GO.nil ?_; refine kthen_n ?_; refine G.condF rfl rfl ?_; refine G.skip ?_; refine kthen_n ?_; refine G.seq ?_; refine G.region ?_)
    refine GO.buildSlice0 rfl fun v5 => ?_
    (refine GO.move rfl rfl ?_)
    refine GO.appendFrom (m := ss.length) (q := q) rfl rfl rfl Tk.h Tk.h hv (symsV_one _) ⟨by decide, rfl⟩ (by unfold maxLen; omega) (by omega) fun v7 => ?_
    rw [List.nil_append, Nat.zero_add ss.length]
    refine GO.ownRd Tk.h fun q5 h5 => ?_
    (refine GO.assign rfl rfl ?_; refine GO.nil ?_; refine kthen_n ?_; refine G.ret ?_)
    refine KF.r1 rfl (RV.t rfl) ⟨q5, h5, rfl⟩ ?_
    ((refine Sb.c Tk.h ?_; refine Sb.c Tk.h ?_); (exact Sb.r))
abbrev cleM (n bo bp : Nat) (o : Nat → Bool) : List HP := [pt bp (row [.slice (some ⟨bo, 0, none⟩) n n] 25), pt bo (row (boolsV o n) 4)]
theorem cleanp_spec (o : Nat → Bool) (n bo bp : Nat) (x : Int × Value) (hx : 0 ≤ x.1 ∧ x.1 < n) :
    Fn Try.prog 39 #[pvV x, .pointer (some ⟨bp, 0, none⟩)] (cleM n bo bp o) (fun r Q => r = .bool (!o x.1.toNat) ∧ Q = cleM n bo bp o) := by
  obtain ⟨h, u⟩ := x
  obtain ⟨h1, h2⟩ := hx
  dsimp only at h1 h2
  obtain ⟨h, rfl⟩ := Int.eq_ofNat_of_zero_le h1
  have hkn : h < n := by omega
  refine Fn.mk Try.func39 rfl rfl fun w0 F => ?_
  (refine G.seq ?_; refine G.region ?_; refine GO.box rfl rfl rfl fun b2 => ?_; refine GO.assign rfl rfl ?_; refine GO.nil ?_; refine kthen_n ?_; refine G.seq ?_; refine G.region ?_; refine GO.load1 rfl rfl rfl (Tk.t Tk.h) rfl ?_; refine GO.fieldAddr rfl rfl ?_; refine GO.load1 rfl rfl rfl Tk.h rfl ?_; refine GO.idxS rfl rfl rfl ⟨rfl, by omega⟩ ?_; refine GO.load1 rfl rfl rfl (Tk.t (Tk.t Tk.h)) (rowV_get1 (by assumption)) ?_; refine GO.not rfl rfl ?_; refine GO.assign rfl rfl ?_; refine GO.nil ?_; refine kthen_n ?_; refine G.ret ?_)
  refine KF.r1 rfl (RV.t rfl) ⟨rfl, rfl⟩ ?_
  ((refine Sb.c (Tk.t Tk.h) ?_; refine Sb.c (Tk.t Tk.h) ?_); (refine Sb.s ?_; exact Sb.r))
/-- Which productions have a word, by a set. -/
def keepF (o : Nat → Bool) (p : ProdD) : Bool := p.2.all (symHas o true)
theorem okC_filter {C : CnfD} (f : ProdD → Bool) (h : okC C = true) : okC ⟨C.nts, C.prods.filter f⟩ = true := by
  unfold okC at h ⊢
  simp only [Bool.and_eq_true, List.all_eq_true] at h ⊢
  exact ⟨h.1, fun p hp => h.2 p (List.mem_filter.1 hp).1⟩
theorem fits_filter {C : CnfD} (f : ProdD → Bool) (h : Fits C) : Fits ⟨C.nts, C.prods.filter f⟩ :=
  ⟨by have := List.length_filter_le f C.prods; have := h.1; show (C.prods.filter f).length * 32 ≤ _; omega, fun p hp => h.2 p (List.mem_filter.1 hp).1⟩
theorem filter_take {α : Type} {f : α → Bool} {l : List α} {k : Nat} {x : α} (h : l[k]? = some x) : (l.take (k + 1)).filter f = (l.take k).filter f ++ if f x then [x] else [] := by
  rw [List.take_add_one, h, List.filter_append]
  cases hf : f x <;> simp [hf]
def CleanR (C : CnfD) (fr : List Int) (q : HP) (r : Value) (Q : List HP) : Prop :=
  (okC C = true ∧ inAll C.nts.toNat fr = true ∧ ∃ o1 o2 cs z, Reach (cloStep true) C.prods (fun _ => false) o1 ∧ (∀ p ∈ C.prods, (cloStep true o1 p).2 = false) ∧
      Reach useStep (C.prods.filter (keepF o1)) (setOf fr) o2 ∧ (∀ p ∈ C.prods.filter (keepF o1), (useStep o2 p).2 = false) ∧
      r = .tuple [cs, i64 0].toArray ∧ CnfR z cs ⟨C.nts, (C.prods.filter (keepF o1)).filter fun p => o2 p.1.toNat⟩ ∧ Q = [z, q]) ∨
  (okC C = true ∧ inAll C.nts.toNat fr = false ∧ r = .tuple [.agg [i64 0, .slice none 0 0].toArray, i64 2].toArray ∧ Q = [q]) ∨
  (okC C = false ∧ r = .tuple [.agg [i64 0, .slice none 0 0].toArray, i64 220].toArray ∧ Q = [q])
set_option maxHeartbeats 8000000 in
set_option maxRecDepth 20000 in
theorem clean_spec (q : HP) (v fv : Value) (C : CnfD) (fr : List Int) (hv : CnfR q v C) (hz : Fits C) (hfr : IntsR q fv fr) (hfl : fr.length ≤ 9223372036854775807) : Fn Try.prog 23 #[v, fv] [q] (CleanR C fr q) := by
  have hv0 := hv
  have hz1 := hz.1
  obtain ⟨pv, rfl, hp⟩ := hv
  obtain ⟨a0, cap0, rfl⟩ := hp.form
  refine Fn.mk Try.func23 rfl rfl fun w0 F => ?_
  (refine G.seq ?_; refine G.region ?_; refine GO.box rfl rfl rfl fun b2 => ?_; refine GO.alloc rfl fun b4 => ?_; refine GO.assign rfl rfl ?_; refine GO.nil ?_; refine kthen_n ?_; refine G.seq ?_; refine G.region ?_; refine GO.loadW rfl rfl rfl (Tk.t Tk.h) rfl ?_)
  refine GO.call1 rfl rfl (fruitful_spec q _ C hv0 hz) (Tks.c (Tk.t (Tk.t Tk.h)) Tks.n) ?_
  rintro _ _ (⟨hok, x1, o1, rfl, hR1, hS1, rfl⟩ | ⟨hok, rfl, rfl⟩)
  · obtain ⟨⟨hn1, hn2⟩, hin⟩ := okC_in hok
    obtain ⟨n, hn⟩ := Int.eq_ofNat_of_zero_le (show 0 ≤ C.nts by omega)
    have hnn : C.nts.toNat = n := by omega
    rw [hn] at hin
    rw [hnn]
    (refine GO.move rfl rfl ?_; refine GO.extract rfl rfl rfl ?_; refine GO.extract rfl rfl rfl ?_; refine GO.assign rfl rfl ?_; refine GO.assign rfl rfl ?_; refine GO.nil ?_; refine kthen_n ?_; refine G.seq ?_; refine G.seq ?_; refine G.region ?_; refine GO.move rfl rfl ?_; refine GO.neF rfl rfl rfl rfl ?_; refine GO.nil ?_; refine kthen_n ?_; refine G.condF rfl rfl ?_; refine G.skip ?_; refine kthen_n ?_; refine G.seq ?_; refine G.region ?_; refine GO.fieldAddr rfl rfl ?_; refine GO.load1 rfl rfl rfl (Tk.t (Tk.t (Tk.t Tk.h))) rfl ?_)
    refine GO.buildPart1 (built_cnf _) rfl rfl ?_
    (refine GO.alloc rfl fun b8 => ?_; refine GO.storeW rfl rfl Tk.h ⟨rfl, rfl⟩ (by simp [Value.oneCell']) ?_; refine GO.nil ?_; refine kthen_n ?_; refine G.seq ?_; refine G.seq ?_; refine G.region ?_; refine GO.fieldAddr rfl rfl ?_; refine GO.load1 rfl rfl rfl (Tk.t (Tk.t (Tk.t (Tk.t Tk.h)))) rfl ?_; refine GO.lenS rfl rfl ?_; refine GO.move rfl rfl ?_; refine GO.nil ?_; refine kthen_n ?_; refine G.block ?_)
    refine G.ownNil (T := 42) (sz := 2) ?_
    refine G.imp (H' := pur True :: _) (fun l w s => sat_pur.2 ⟨trivial, s⟩) ?_
    refine G.loop4 (fun (k : Nat) (_ : Value) (_ : List (Int × Value)) (_ : HP) => [(1, fv), (2, .pointer (some ⟨b2, 0, none⟩)), (4, .pointer (some ⟨b4, 0, none⟩)), (6, .slice (some ⟨x1, 0, none⟩) n n), (8, .pointer (some ⟨b8, 0, none⟩)), (25, .slice a0 C.prods.length cap0), (26, i64 C.prods.length), (27, i64 k)])
      (fun k pv xs z => own 42 2 xs.length pv (pvs xs) :: pt b8 (row [i64 C.nts, pv] 24) :: z :: q :: pt x1 (row (boolsV o1 n) 4) :: pt b4 (row [i64 0, .slice none 0 0] 24) :: F)
      (fun k pv xs z => k ≤ C.prods.length ∧ xs.length ≤ k ∧ Cp z ((C.prods.take k).filter (keepF o1)) xs) (fun k _ _ _ => C.prods.length - k) 0 (.slice none 0 0) [] (pur True) ⟨by omega, by simp, trivial⟩ ?_ ?_ ?_
    · (refine SubE.c rfl rfl ?_; refine SubE.c rfl rfl ?_; refine SubE.c rfl rfl ?_; refine SubE.c rfl rfl ?_; refine SubE.c rfl rfl ?_; refine SubE.c rfl rfl ?_; refine SubE.c rfl rfl ?_; refine SubE.c rfl rfl ?_; exact SubE.n)
    · ((refine Sb.c (Tk.t Tk.h) ?_; refine Sb.c (Tk.t Tk.h) ?_; refine Sb.c Tk.h ?_; refine Sb.c (Tk.t Tk.h) ?_; refine Sb.c Tk.h ?_; refine Sb.c Tk.h ?_); (refine Sb.s ?_; exact Sb.r))
    rintro k pv xs z ⟨hk, hxk, hc⟩
    (refine G.seq ?_; refine G.region ?_; refine GO.lti rfl rfl rfl ?_; refine GO.nil ?_; refine kthen_n ?_; refine G.seq ?_)
    refine G.condD rfl (fun hlt => ?_) (fun hge => ?_)
    · have hkl : k < C.prods.length := by omega
      obtain ⟨p, hpk⟩ : ∃ p, C.prods[k]? = some p := ⟨C.prods[k], by simp [hkl]⟩
      have hpm := List.mem_of_getElem? hpk
      have hz2 := hz.2 p hpm
      obtain ⟨b, o, bv, rfl, _, r1, r2, hs⟩ := hp.at hpk
      obtain ⟨ab, capb, rfl⟩ := hs.form
      have hft := filter_take (f := keepF o1) hpk
      refine G.ownOne Tk.h fun hone => ?_
      (refine G.skip ?_; refine kthen_n ?_; refine G.seq ?_; refine G.block ?_; refine G.seq ?_; refine G.region ?_; refine GO.idxS rfl rfl rfl ⟨rfl, by omega⟩ ?_; refine GO.load2 rfl rfl rfl (Tk.t (Tk.t (Tk.t Tk.h))) (by assumption) (by assumption) ?_; refine GO.alloc rfl fun b10 => ?_; refine GO.storeW rfl rfl Tk.h ⟨rfl, rfl⟩ (by simp [Value.oneCell']) ?_; refine GO.nil ?_; refine kthen_n ?_; refine G.seq ?_; refine G.region ?_; refine GO.fieldAddr rfl rfl ?_; refine GO.load1 rfl rfl rfl Tk.h rfl ?_; refine GO.move rfl rfl ?_)
      refine GO.call3 rfl rfl rfl rfl (all_spec q _ o1 true n x1 p.2 hs (hin p hpm).2 (by omega)) (Tks.c (Tk.t (Tk.t (Tk.t (Tk.t Tk.h)))) (Tks.c (Tk.t (Tk.t (Tk.t (Tk.t Tk.h)))) Tks.n)) ?_
      rintro _ _ ⟨rfl, rfl⟩
      (refine GO.nil ?_; refine kthen_n ?_)
      refine G.cond rfl (fun hkp => ?_) (fun hkp => ?_)
      · rw [show keepF o1 p = true from hkp, if_pos rfl] at hft
        refine G.drawT 11 960 [pt b8 (row [i64 C.nts, pv] 24), pt b10 (row [i64 p.1, .slice ab p.2.length capb] 42), q] (own 42 2 xs.length pv (pvs xs) :: z :: pt x1 (row (boolsV o1 n) 4) :: pt b4 (row [i64 0, .slice none 0 0] 24) :: F) (by kernel_rfl) (keys_of rfl) (ImpS.sb (by ((refine Sb.c (Tk.t (Tk.t (Tk.t (Tk.t Tk.h)))) ?_; refine Sb.c (Tk.t (Tk.t Tk.h)) ?_; refine Sb.c Tk.h ?_; refine Sb.c (Tk.t Tk.h) ?_; refine Sb.c (Tk.t Tk.h) ?_; refine Sb.c Tk.h ?_; refine Sb.c Tk.h ?_); (exact Sb.r)))) ?_
        ((apply GR.step rfl; focus (intro Z; refine GO.fieldAddr rfl rfl ?_; exact KQ.z)); (apply GR.step rfl; focus (intro Z; refine GO.load1 rfl rfl rfl Tk.h rfl ?_; exact KQ.z)); (apply GR.step rfl; focus (intro Z; refine GO.fieldAddr rfl rfl ?_; exact KQ.z)); (apply GR.step rfl; focus (intro Z; refine GO.load1 rfl rfl rfl (Tk.t Tk.h) rfl ?_; exact KQ.z)); (apply GR.step rfl; focus (intro Z; refine GO.fieldAddr rfl rfl ?_; exact KQ.z)); (apply GR.step rfl; focus (intro Z; refine GO.load1 rfl rfl rfl (Tk.t Tk.h) rfl ?_; exact KQ.z)))
        (repeat refine GR.skip rfl ?_)
        ((apply GR.step rfl; focus (intro Z; refine GO.fieldAddr rfl rfl ?_; exact KQ.z)))
        refine GR.nil ?_
        (repeat refine GT.skip rfl ?_)
        refine GT.step rfl ?_
        refine GO.call1 rfl rfl (cloneS_spec q _ p.2 hs hz2) (Tks.c (Tk.t (Tk.t Tk.h)) Tks.n) ?_
        rintro bv5 _ ⟨z5, h5, rfl⟩
        obtain ⟨a5, cap5, rfl⟩ := h5.form
        refine GO.nil ⟨rfl, _, z5 :: own 42 2 xs.length pv (pvs xs) :: z :: pt x1 (row (boolsV o1 n) 4) :: pt b4 (row [i64 0, .slice none 0 0] 24) :: F, rfl, ImpS.sb (by ((refine Sb.c (Tk.t (Tk.t Tk.h)) ?_; refine Sb.c (Tk.t (Tk.t Tk.h)) ?_; refine Sb.c (Tk.t Tk.h) ?_; refine Sb.c Tk.h ?_; refine Sb.c Tk.h ?_; refine Sb.c Tk.h ?_; refine Sb.c Tk.h ?_; refine Sb.c Tk.h ?_); (exact Sb.r))), ?_⟩
        refine GT.step rfl ?_
        refine GO.build2 rfl rfl rfl rfl ?_
        refine GO.nil ⟨rfl, _, _, rfl, ImpS.refl, ?_⟩
        refine GT.step rfl ?_
        refine GO.buildSlice1 rfl rfl (by simp; rfl) rfl ⟨by omega, by omega⟩ fun b6 => ?_
        refine GO.nil ⟨rfl, _, pt b6 (row [i64 p.1, .slice a5 p.2.length cap5] 42) :: z5 :: own 42 2 xs.length pv (pvs xs) :: z :: pt x1 (row (boolsV o1 n) 4) :: pt b4 (row [i64 0, .slice none 0 0] 24) :: F, rfl, ImpS.sb (by ((refine Sb.c (Tk.t Tk.h) ?_; refine Sb.c (Tk.t Tk.h) ?_; refine Sb.c (Tk.t Tk.h) ?_; refine Sb.c Tk.h ?_; refine Sb.c Tk.h ?_; refine Sb.c Tk.h ?_; refine Sb.c Tk.h ?_; refine Sb.c Tk.h ?_; refine Sb.c Tk.h ?_); (exact Sb.r))), ?_⟩
        refine GT.step rfl ?_
        refine GO.appendOwn (m := 1) (news := [i64 p.1, .slice a5 p.2.length cap5]) rfl rfl rfl (Tk.t (Tk.t (Tk.t (Tk.t (Tk.t Tk.h))))) (Tk.t (Tk.t (Tk.t Tk.h))) rfl (by simp [Value.oneCell']) ⟨by decide, rfl⟩ Nat.one_pos (by unfold maxLen; omega) (by omega) fun v2 => ?_
        refine GO.ownOne Tk.h fun hone2 => ?_
        rw [show pvs xs ++ [i64 p.1, .slice a5 p.2.length cap5] = pvs (xs ++ [(p.1, .slice a5 p.2.length cap5)]) from (duo_append xs [(p.1, Value.slice a5 p.2.length cap5)]).symm, show xs.length + 1 = (xs ++ [(p.1, Value.slice a5 p.2.length cap5)]).length by simp]
        have hc2 := Cp.snoc (z := star [z5, z]) (p := p) (x := (p.1, .slice a5 p.2.length cap5)) rfl (h5.sup (Sup.left _ _)) (hc.sup (Sup.right z5 z))
        have hxl : (xs ++ [(p.1, Value.slice a5 p.2.length cap5)]).length ≤ k + 1 := by simp; exact hxk
        generalize xs ++ [(p.1, Value.slice a5 p.2.length cap5)] = xs2 at hc2 hxl ⊢
        refine GO.nil ⟨rfl, _, own 42 2 xs2.length v2 (pvs xs2) :: z5 :: z :: pt x1 (row (boolsV o1 n) 4) :: pt b4 (row [i64 0, .slice none 0 0] 24) :: F, rfl, ImpS.sb (by ((refine Sb.c (Tk.t Tk.h) ?_; refine Sb.c (Tk.t Tk.h) ?_; refine Sb.c (Tk.t Tk.h) ?_; refine Sb.c Tk.h ?_; refine Sb.c (Tk.t Tk.h) ?_; refine Sb.c (Tk.t Tk.h) ?_; refine Sb.c (Tk.t Tk.h) ?_; refine Sb.c (Tk.t Tk.h) ?_); (refine Sb.s ?_; exact Sb.r))), ?_⟩
        (repeat refine GT.skip rfl ?_)
        refine GT.nil ?_
        refine GO.store1 rfl rfl hone2 Tk.h (by simp) ?_
        refine GO.merge (x := z5) (y := z) (Tks.c (Tk.t (Tk.t (Tk.t (Tk.t Tk.h)))) (Tks.c (Tk.t (Tk.t (Tk.t (Tk.t Tk.h)))) Tks.n)) ?_
        (refine GO.nil ?_; refine kblock_n ?_; refine kthen_n ?_; refine G.region ?_; refine GO.addi rfl rfl rfl (by omega) ?_; refine GO.move rfl rfl ?_; refine GO.nil ?_; refine kthen_n ?_)
        refine ⟨k + 1, v2, xs2, star [z5, z], ⟨by omega, hxl, by rw [hft]; exact hc2⟩, by omega, ?_, ?_⟩
        · (refine SubE.c rfl rfl ?_; refine SubE.c rfl rfl ?_; refine SubE.c rfl rfl ?_; refine SubE.c rfl rfl ?_; refine SubE.c rfl rfl ?_; refine SubE.c rfl rfl ?_; refine SubE.c rfl rfl ?_; refine SubE.c rfl rfl ?_; exact SubE.n)
        · ((refine Sb.c (Tk.t (Tk.t (Tk.t (Tk.t Tk.h)))) ?_; refine Sb.c (Tk.t Tk.h) ?_; refine Sb.c Tk.h ?_; refine Sb.c (Tk.t Tk.h) ?_; refine Sb.c (Tk.t Tk.h) ?_; refine Sb.c (Tk.t Tk.h) ?_); (refine Sb.s ?_; exact Sb.r))
      · (refine G.skip ?_; refine kblock_n ?_; refine kthen_n ?_; refine G.region ?_; refine GO.addi rfl rfl rfl (by omega) ?_; refine GO.move rfl rfl ?_; refine GO.nil ?_; refine kthen_n ?_)
        rw [show keepF o1 p = false from hkp, if_neg (by simp), List.append_nil] at hft
        refine ⟨k + 1, pv, xs, z, ⟨by omega, by omega, by rw [hft]; exact hc⟩, by omega, ?_, ?_⟩
        · (refine SubE.c rfl rfl ?_; refine SubE.c rfl rfl ?_; refine SubE.c rfl rfl ?_; refine SubE.c rfl rfl ?_; refine SubE.c rfl rfl ?_; refine SubE.c rfl rfl ?_; refine SubE.c rfl rfl ?_; refine SubE.c rfl rfl ?_; exact SubE.n)
        · ((refine Sb.c (Tk.t (Tk.t (Tk.t Tk.h))) ?_; refine Sb.c (Tk.t (Tk.t (Tk.t Tk.h))) ?_; refine Sb.c (Tk.t (Tk.t (Tk.t Tk.h))) ?_; refine Sb.c Tk.h ?_; refine Sb.c Tk.h ?_; refine Sb.c (Tk.t Tk.h) ?_); (refine Sb.s ?_; exact Sb.r))
    · have : k = C.prods.length := by omega
      subst this
      rw [List.take_length] at hc
      have hxl : xs.length = (C.prods.filter (keepF o1)).length := hc.len
      refine G.ownOne Tk.h fun hone => ?_
      refine G.ownSl Tk.h fun hsl => ?_
      have hC2 : CnfR (star [star [own 42 2 xs.length pv (pvs xs), z], q]) (.agg [i64 C.nts, pv].toArray) ⟨C.nts, C.prods.filter (keepF o1)⟩ :=
        ⟨pv, rfl, hc.prs ((Sup.right _ _).trans (Sup.left _ _)) (hsl.sup ((Sup.left _ _).trans (Sup.left _ _)))⟩
      (refine G.exit ?_; refine kthen_x ?_; refine kthen_x ?_; refine kblock_x ?_; refine kthen_n ?_; refine G.seq ?_; refine G.region ?_; refine GO.loadW rfl rfl rfl (Tk.t Tk.h) rfl ?_; refine GO.move rfl rfl ?_)
      refine GO.merge (x := own 42 2 xs.length pv (pvs xs)) (y := z) (Tks.c Tk.h (Tks.c (Tk.t Tk.h) Tks.n)) ?_
      refine GO.merge (x := star [own 42 2 xs.length pv (pvs xs), z]) (y := q) (Tks.c Tk.h (Tks.c (Tk.t Tk.h) Tks.n)) ?_
      refine GO.call2 rfl rfl rfl (used0_spec _ _ fv ⟨C.nts, C.prods.filter (keepF o1)⟩ fr n hC2 (fits_filter _ hz) (hfr.sup (Sup.right _ _)) hfl (okC_filter _ hok) hn (by omega) (fun p hp => hin p (List.mem_filter.1 hp).1)) (Tks.c Tk.h Tks.n) ?_
      rintro _ _ (⟨h1, hall, b, o2, rfl, hR2, hS2, rfl⟩ | ⟨h1, hall, rfl, rfl⟩ | ⟨h1, rfl, rfl⟩)
      · dsimp only at hall hR2 hS2 ⊢
        rw [hnn] at hall ⊢
        refine GO.mem (H' := star [star [own 42 2 xs.length pv (pvs xs), z], q] :: pt b (row (boolsV o2 n) 4) :: pt b8 (row [i64 C.nts, pv] 24) :: pt b4 (row [i64 0, .slice none 0 0] 24) :: F) (by ((refine Sb.c (Tk.t Tk.h) ?_; refine Sb.c Tk.h ?_; refine Sb.c Tk.h ?_; refine Sb.c (Tk.t Tk.h) ?_); (refine Sb.s ?_; exact Sb.r))) ?_
        refine GO.flat ?_
        refine GO.flat ?_
        have hx0 : ∀ x ∈ xs, 0 ≤ x.1 ∧ x.1 < n := fun x hx => by
          obtain ⟨p, hpm, e, _⟩ := hc.mem hx
          rw [e]
          exact (hin p (List.mem_filter.1 hpm).1).1
        (refine GO.move rfl rfl ?_; refine GO.extract rfl rfl rfl ?_; refine GO.extract rfl rfl rfl ?_; refine GO.alloc rfl fun b11 => ?_; refine GO.store1 rfl rfl rfl Tk.h (by decide) ?_; refine GO.assign rfl rfl ?_; refine GO.nil ?_; refine kthen_n ?_; refine G.seq ?_; refine G.seq ?_; refine G.region ?_; refine GO.move rfl rfl ?_; refine GO.neF rfl rfl rfl rfl ?_; refine GO.nil ?_; refine kthen_n ?_; refine G.condF rfl rfl ?_; refine G.skip ?_; refine kthen_n ?_; refine G.seq ?_; refine G.region ?_; refine GO.fieldAddr rfl rfl ?_; refine GO.load1 rfl rfl rfl (Tk.t (Tk.t (Tk.t (Tk.t (Tk.t Tk.h))))) rfl ?_; refine GO.makeFunc1 rfl rfl ?_)
        refine GO.call2 rfl rfl rfl (deleteP_spec pv _ xs (fun x => !o2 x.1.toNat) (cleM n b b11 o2) (fun q' x hx => FnV.of (caps := [.pointer (some ⟨b11, 0, none⟩)]) (Fn.framed (Rv := fun r => r = .bool (!o2 x.1.toNat)) (cleanp_spec o2 n b b11 x (hx0 x hx)) [q'])) (by omega) hc.one) (Tks.c (Tk.t Tk.h) (Tks.c Tk.h (Tks.c (Tk.t (Tk.t Tk.h)) Tks.n))) ?_
        rintro v2 _ rfl
        have hc2 := hc.filter (fun h => o2 h.toNat)
        have he : (xs.filter fun x => !!o2 x.1.toNat) = xs.filter fun x => o2 x.1.toNat := by simp only [Bool.not_not]
        simp only [he]
        generalize (xs.filter fun x => o2 x.1.toNat) = xs2 at hc2 ⊢
        refine GO.ownOne Tk.h fun hone2 => ?_
        refine GO.ownRd Tk.h fun q6 h6 => ?_
        (refine GO.fieldAddr rfl rfl ?_)
        refine GO.store1 rfl rfl hone2 (Tk.t (Tk.t (Tk.t (Tk.t (Tk.t Tk.h))))) (by simp) ?_
        refine GO.merge (x := q6) (y := z) (Tks.c (Tk.t Tk.h) (Tks.c (Tk.t (Tk.t (Tk.t Tk.h))) Tks.n)) ?_
        (refine GO.nil ?_; refine kthen_n ?_; refine G.seq ?_; refine G.region ?_; refine GO.loadW rfl rfl rfl (Tk.t Tk.h) rfl ?_; refine GO.storeW rfl rfl (Tk.t (Tk.t (Tk.t (Tk.t (Tk.t Tk.h))))) ⟨rfl, rfl⟩ (by simp [Value.oneCell']; assumption) ?_; refine GO.assign rfl rfl ?_; refine GO.nil ?_; refine kthen_n ?_; refine G.ret ?_)
        refine KF.r2 rfl (RV.cW rfl rfl Tk.h rfl) (RV.t rfl) (.inl ⟨hok, by rw [hnn]; exact hall, o1, o2, _, star [q6, z], hR1, hS1, hR2, hS2, rfl, ⟨v2, rfl, hc2.prs (Sup.right _ _) (h6.sup (Sup.left _ _))⟩, rfl⟩) ?_
        ((refine Sb.c (Tk.t Tk.h) ?_; refine Sb.c (Tk.t (Tk.t (Tk.t (Tk.t Tk.h)))) ?_); (refine Sb.s ?_; refine Sb.s ?_; refine Sb.s ?_; refine Sb.s ?_; exact Sb.r))
      · dsimp only at hall ⊢
        refine GO.mem (H' := star [star [own 42 2 xs.length pv (pvs xs), z], q] :: pt b4 (row [i64 0, .slice none 0 0] 24) :: F) (by ((refine Sb.c Tk.h ?_; refine Sb.c (Tk.t (Tk.t Tk.h)) ?_); (refine Sb.s ?_; refine Sb.s ?_; exact Sb.r))) ?_
        refine GO.flat ?_
        refine GO.flat ?_
        (refine GO.move rfl rfl ?_; refine GO.extract rfl rfl rfl ?_; refine GO.extract rfl rfl rfl ?_; refine GO.alloc rfl fun b11 => ?_; refine GO.store1 rfl rfl rfl Tk.h (by decide) ?_; refine GO.assign rfl rfl ?_; refine GO.nil ?_; refine kthen_n ?_; refine G.seq ?_; refine G.seq ?_; refine G.region ?_; refine GO.move rfl rfl ?_; refine GO.nei rfl rfl rfl ?_; refine GO.nil ?_; refine kthen_n ?_; refine G.condT rfl rfl ?_; refine G.seq ?_; refine G.region ?_; refine GO.build0 rfl ?_; refine GO.move rfl rfl ?_; refine GO.storeW rfl rfl (Tk.t (Tk.t (Tk.t (Tk.t Tk.h)))) ⟨rfl, rfl⟩ (by simp [Value.oneCell']) ?_; refine GO.assign rfl rfl ?_; refine GO.nil ?_; refine kthen_n ?_; refine G.ret ?_; refine kthen_r ?_)
        refine KF.r2 rfl (RV.cW rfl rfl Tk.h rfl) (RV.t rfl) (.inr (.inl ⟨hok, hall, rfl, rfl⟩)) ?_
        ((refine Sb.c (Tk.t (Tk.t (Tk.t (Tk.t Tk.h)))) ?_); (refine Sb.s ?_; refine Sb.s ?_; refine Sb.s ?_; refine Sb.s ?_; exact Sb.r))
      · rw [okC_filter _ hok] at h1; cases h1
  · (refine GO.move rfl rfl ?_; refine GO.extract rfl rfl rfl ?_; refine GO.extract rfl rfl rfl ?_; refine GO.assign rfl rfl ?_; refine GO.assign rfl rfl ?_; refine GO.nil ?_; refine kthen_n ?_; refine G.seq ?_; refine G.seq ?_; refine G.region ?_; refine GO.move rfl rfl ?_; refine GO.nei rfl rfl rfl ?_; refine GO.nil ?_; refine kthen_n ?_; refine G.condT rfl rfl ?_; refine G.seq ?_; refine G.region ?_; refine GO.build0 rfl ?_; refine GO.move rfl rfl ?_; refine GO.storeW rfl rfl (Tk.t Tk.h) ⟨rfl, rfl⟩ (by simp [Value.oneCell']) ?_; refine GO.assign rfl rfl ?_; refine GO.nil ?_; refine kthen_n ?_; refine G.ret ?_; refine kthen_r ?_)
    refine KF.r2 rfl (RV.cW rfl rfl Tk.h rfl) (RV.t rfl) (.inr (.inr ⟨hok, rfl, rfl⟩)) ?_
    ((refine Sb.c (Tk.t Tk.h) ?_); (refine Sb.s ?_; refine Sb.s ?_; exact Sb.r))
end Go.Proofs.Ytcemehocbemfmaa
namespace Go.Proofs.Ytcemehocbemfmaa
open Go
attribute [local irreducible] G GO GR GT Fn FnV pt init exs pur sat own ImpS
theorem EqR.symT {b : Bool} {m : Int} : EqR Try.prog 10000 63 (.agg [.bool b, i64 m].toArray) (.agg [.bool b, i64 m].toArray) true :=
  EqR.struct (P := Try.prog) (d := 9999) (t := 63) (l := [.bool b, i64 m]) (l' := [.bool b, i64 m])
    ⟨.bool b, .bool b, true, true, by decide, PartR.one rfl rfl, PartR.one rfl rfl, by have := (EqR.bool : EqR Try.prog 9999 4 (.bool b) (.bool b) _); rw [beq_self_eq_true] at this; exact this,
      ⟨i64 m, i64 m, true, true, by decide, PartR.one rfl rfl, PartR.one rfl rfl, by have := (EqR.int : EqR Try.prog 9999 3 (i64 m) (i64 m) _); rw [decide_eq_true rfl] at this; exact this, rfl, rfl⟩, rfl⟩
theorem GO.neqAF {P : Program} {c : Cx} {A : Array Oper} {rest : List Oper} {K : Kont} {L : Env} {H : List HP} {t : TypeId} {p : String} {e : Array Edge} {d : Nat} {ty ty' : TypeId} {x y : Operand} {l l' : Array Value} [hg : EG P ty] (h : EqR P 10000 ty (.agg l) (.agg l') true) (hN : Nat.blt d c.N = true) (hx : evl L x = some (.agg l)) (hy : evl L y = some (.agg l'))
    (k : GO P c A rest K ((d, .bool false) :: L) H) : GO P c A (⟨some d, .binOp .neq ty x y ty', t, p, e, none⟩ :: rest) K L H := GO.neqA h hN hx hy k
set_option maxHeartbeats 2000000 in
theorem sameBody_spec (qa qb : HP) (va vb : Value) (ss : List SymD) (ha : SymsR qa va ss) (hb : SymsR qb vb ss) (hn : ss.length ≤ 9223372036854775806) : Fn Try.prog 40 #[va, vb] [qa, qb] (fun r Q => r = .bool true ∧ Q = [qa, qb]) := by
  obtain ⟨a, cap, rfl⟩ := ha.form
  obtain ⟨a2, cap2, rfl⟩ := hb.form
  refine Fn.mk Try.func40 rfl rfl fun w0 F => ?_
  (refine G.seq ?_; refine G.region ?_; refine GO.assign rfl rfl ?_; refine GO.nil ?_; refine kthen_n ?_; refine G.seq ?_; refine G.seq ?_; refine G.region ?_; refine GO.move rfl rfl ?_; refine GO.lenS rfl rfl ?_; refine GO.move rfl rfl ?_; refine GO.lenS rfl rfl ?_; refine GO.neF rfl rfl rfl rfl ?_; refine GO.nil ?_; refine kthen_n ?_; refine G.condF rfl rfl ?_; refine G.skip ?_; refine kthen_n ?_; refine G.seq ?_; refine G.seq ?_; refine G.region ?_; refine GO.assign rfl rfl ?_; refine GO.nil ?_; refine kthen_n ?_; refine G.block ?_)
  refine G.loop (fun k : Nat => [(0, .slice a ss.length cap), (1, .slice a2 ss.length cap2), (5, i64 k)]) (fun _ => qa :: qb :: F) (fun k => k ≤ ss.length) (fun k => ss.length - k) 0 (by omega) ?_ ?_ ?_
  · (refine SubE.c rfl rfl ?_; refine SubE.c rfl rfl ?_; refine SubE.c rfl rfl ?_; exact SubE.n)
  · ((refine Sb.c Tk.h ?_; refine Sb.c Tk.h ?_); (exact Sb.r))
  rintro k hk
  (refine G.seq ?_; refine G.seq ?_; refine G.region ?_; refine GO.move rfl rfl ?_; refine GO.move rfl rfl ?_; refine GO.lenS rfl rfl ?_; refine GO.lti rfl rfl rfl ?_; refine GO.nil ?_; refine kthen_n ?_)
  refine G.condD rfl (fun hlt => ?_) (fun hge => ?_)
  · have hlt' : k < ss.length := by omega
    obtain ⟨s, hs⟩ : ∃ s : SymD, ss[k]? = some s := ⟨ss[k], by simp [hlt']⟩
    obtain ⟨b, o, rfl, _, r1, r2⟩ := ha.at hs
    obtain ⟨b', o', rfl, _, r3, r4⟩ := hb.at hs
    (refine G.skip ?_; refine kthen_n ?_; refine G.seq ?_; refine G.block ?_; refine G.seq ?_)
    refine G.draw 9 (by kernel_rfl) ?_
    ((apply GQ.step; focus (intro Z; refine GO.move rfl rfl ?_; exact KQ.z)); (apply GQ.step; focus (intro Z; refine GO.move rfl rfl ?_; exact KQ.z)); (apply GQ.step; focus (intro Z; refine GO.idxS rfl rfl rfl ⟨rfl, by omega⟩ ?_; exact KQ.z)); (apply GQ.step; focus (intro Z; refine GO.load2 rfl rfl rfl Tk.h (by assumption) (by assumption) ?_; exact KQ.z)); (apply GQ.step; focus (intro Z; refine GO.move rfl rfl ?_; exact KQ.z)); (apply GQ.step; focus (intro Z; refine GO.move rfl rfl ?_; exact KQ.z)); (apply GQ.step; focus (intro Z; refine GO.idxS rfl rfl rfl ⟨rfl, by omega⟩ ?_; exact KQ.z)); (apply GQ.step; focus (intro Z; refine GO.load2 rfl rfl rfl (Tk.t Tk.h) (by assumption) (by assumption) ?_; exact KQ.z)))
    apply GQ.step; focus (intro Z; refine GO.neqAF EqR.symT rfl rfl rfl ?_; exact KQ.z)
    (refine GQ.nil ?_)
    (refine GO.nil ?_; refine kthen_n ?_; refine G.condF rfl rfl ?_; refine G.skip ?_; refine kblock_n ?_; refine kthen_n ?_; refine G.region ?_; refine GO.move rfl rfl ?_; refine GO.addi rfl rfl rfl (by omega) ?_; refine GO.assign rfl rfl ?_; refine GO.nil ?_; refine kthen_n ?_)
    refine ⟨k + 1, by omega, by omega, ?_, ?_⟩
    · (refine SubE.c rfl rfl ?_; refine SubE.c rfl rfl ?_; refine SubE.c rfl rfl ?_; exact SubE.n)
    · ((refine Sb.c Tk.h ?_; refine Sb.c Tk.h ?_); (exact Sb.r))
  · (refine G.exit ?_; refine kthen_x ?_; refine kthen_x ?_; refine kblock_x ?_; refine kthen_n ?_; refine G.seq ?_; refine G.region ?_; refine GO.assign rfl rfl ?_; refine GO.nil ?_; refine kthen_n ?_; refine G.ret ?_)
    refine KF.r1 rfl (RV.t rfl) ⟨rfl, rfl⟩ ?_
    ((refine Sb.c Tk.h ?_; refine Sb.c Tk.h ?_); (exact Sb.r))
set_option maxHeartbeats 4000000 in
set_option maxRecDepth 20000 in
theorem same_spec (qa qb : HP) (va vb : Value) (C : CnfD) (ha : CnfR qa va C) (hb : CnfR qb vb C) (hz : Fits C) : Fn Try.prog 25 #[va, vb] [qa, qb] (fun r Q => r = .bool true ∧ Q = [qa, qb]) := by
  obtain ⟨pa, rfl, hpa⟩ := ha
  obtain ⟨pb, rfl, hpb⟩ := hb
  obtain ⟨a, cap, rfl⟩ := hpa.form
  obtain ⟨a2, cap2, rfl⟩ := hpb.form
  have hz1 := hz.1
  refine Fn.mk Try.func25 rfl rfl fun w0 F => ?_
  (refine G.seq ?_; refine G.region ?_; refine GO.box rfl rfl rfl fun b2 => ?_; refine GO.box rfl rfl rfl fun b3 => ?_; refine GO.assign rfl rfl ?_; refine GO.nil ?_; refine kthen_n ?_; refine G.seq ?_; refine G.seq ?_; refine G.region ?_; refine GO.fieldAddr rfl rfl ?_; refine GO.load1 rfl rfl rfl (Tk.t Tk.h) rfl ?_; refine GO.fieldAddr rfl rfl ?_; refine GO.load1 rfl rfl rfl Tk.h rfl ?_; refine GO.neF rfl rfl rfl rfl ?_; refine GO.move rfl rfl ?_; refine GO.gT rfl rfl rfl ?_; refine GO.fieldAddr rfl rfl ?_; refine GO.gT rfl rfl rfl ?_; refine GO.load1 rfl rfl rfl (Tk.t Tk.h) rfl ?_; refine GO.gT rfl rfl rfl ?_; refine GO.lenS rfl rfl ?_; refine GO.gT rfl rfl rfl ?_; refine GO.fieldAddr rfl rfl ?_; refine GO.gT rfl rfl rfl ?_; refine GO.load1 rfl rfl rfl Tk.h rfl ?_; refine GO.gT rfl rfl rfl ?_; refine GO.lenS rfl rfl ?_; refine GO.gT rfl rfl rfl ?_; refine GO.neF rfl rfl rfl rfl ?_; refine GO.pickF rfl rfl rfl ?_; refine GO.nil ?_; refine kthen_n ?_; refine G.condF rfl rfl ?_; refine G.skip ?_; refine kthen_n ?_; refine G.seq ?_; refine G.seq ?_; refine G.region ?_; refine GO.assign rfl rfl ?_; refine GO.nil ?_; refine kthen_n ?_; refine G.block ?_)
  refine G.loop (fun k : Nat => [(2, .pointer (some ⟨b2, 0, none⟩)), (3, .pointer (some ⟨b3, 0, none⟩)), (5, i64 k)]) (fun _ => pt b3 (row [i64 C.nts, .slice a2 C.prods.length cap2] 24) :: pt b2 (row [i64 C.nts, .slice a C.prods.length cap] 24) :: qa :: qb :: F) (fun k => k ≤ C.prods.length) (fun k => C.prods.length - k) 0 (by omega) ?_ ?_ ?_
  · (refine SubE.c rfl rfl ?_; refine SubE.c rfl rfl ?_; refine SubE.c rfl rfl ?_; exact SubE.n)
  · ((refine Sb.c Tk.h ?_; refine Sb.c Tk.h ?_; refine Sb.c Tk.h ?_; refine Sb.c Tk.h ?_); (exact Sb.r))
  rintro k hk
  (refine G.seq ?_; refine G.seq ?_; refine G.region ?_; refine GO.move rfl rfl ?_; refine GO.fieldAddr rfl rfl ?_; refine GO.load1 rfl rfl rfl (Tk.t Tk.h) rfl ?_; refine GO.lenS rfl rfl ?_; refine GO.lti rfl rfl rfl ?_; refine GO.nil ?_; refine kthen_n ?_)
  refine G.condD rfl (fun hlt => ?_) (fun hge => ?_)
  · have hlt' : k < C.prods.length := by omega
    obtain ⟨p, hpk⟩ : ∃ p, C.prods[k]? = some p := ⟨C.prods[k], by simp [hlt']⟩
    have hz2 := hz.2 p (List.mem_of_getElem? hpk)
    obtain ⟨b, o, bv, rfl, _, r1, r2, hs⟩ := hpa.at hpk
    obtain ⟨b', o', bv', rfl, _, r3, r4, hs'⟩ := hpb.at hpk
    (refine G.skip ?_; refine kthen_n ?_; refine G.seq ?_; refine G.block ?_; refine G.seq ?_)
    refine G.draw 29 (by kernel_rfl) ?_
    ((apply GQ.step; focus (intro Z; refine GO.fieldAddr rfl rfl ?_; exact KQ.z)); (apply GQ.step; focus (intro Z; refine GO.load1 rfl rfl rfl (Tk.t Tk.h) rfl ?_; exact KQ.z)); (apply GQ.step; focus (intro Z; refine GO.move rfl rfl ?_; exact KQ.z)); (apply GQ.step; focus (intro Z; refine GO.idxS rfl rfl rfl ⟨rfl, by omega⟩ ?_; exact KQ.z)); (apply GQ.step; focus (intro Z; refine GO.fieldAddr rfl rfl ?_; exact KQ.z)); (apply GQ.step; focus (intro Z; refine GO.loadQ rfl rfl rfl (Tk.t (Tk.t Tk.h)) (by assumption) ?_; exact KQ.z)); (apply GQ.step; focus (intro Z; refine GO.fieldAddr rfl rfl ?_; exact KQ.z)); (apply GQ.step; focus (intro Z; refine GO.load1 rfl rfl rfl Tk.h rfl ?_; exact KQ.z)); (apply GQ.step; focus (intro Z; refine GO.move rfl rfl ?_; exact KQ.z)); (apply GQ.step; focus (intro Z; refine GO.idxS rfl rfl rfl ⟨rfl, by omega⟩ ?_; exact KQ.z)); (apply GQ.step; focus (intro Z; refine GO.fieldAddr rfl rfl ?_; exact KQ.z)); (apply GQ.step; focus (intro Z; refine GO.loadQ rfl rfl rfl (Tk.t (Tk.t (Tk.t Tk.h))) (by assumption) ?_; exact KQ.z)); (apply GQ.step; focus (intro Z; refine GO.neF rfl rfl rfl rfl ?_; exact KQ.z)); (apply GQ.step; focus (intro Z; refine GO.move rfl rfl ?_; exact KQ.z)); (apply GQ.step; focus (intro Z; refine GO.gT rfl rfl rfl ?_; refine GO.fieldAddr rfl rfl ?_; exact KQ.z)); (apply GQ.step; focus (intro Z; refine GO.gT rfl rfl rfl ?_; refine GO.load1 rfl rfl rfl (Tk.t Tk.h) rfl ?_; exact KQ.z)); (apply GQ.step; focus (intro Z; refine GO.gT rfl rfl rfl ?_; refine GO.move rfl rfl ?_; exact KQ.z)); (apply GQ.step; focus (intro Z; refine GO.gT rfl rfl rfl ?_; refine GO.idxS rfl rfl rfl ⟨rfl, by omega⟩ ?_; exact KQ.z)); (apply GQ.step; focus (intro Z; refine GO.gT rfl rfl rfl ?_; refine GO.fieldAddr rfl rfl ?_; exact KQ.z)); (apply GQ.step; focus (intro Z; refine GO.gT rfl rfl rfl ?_; refine GO.loadQ rfl rfl rfl (Tk.t (Tk.t Tk.h)) (by assumption) ?_; exact KQ.z)); (apply GQ.step; focus (intro Z; refine GO.gT rfl rfl rfl ?_; refine GO.fieldAddr rfl rfl ?_; exact KQ.z)); (apply GQ.step; focus (intro Z; refine GO.gT rfl rfl rfl ?_; refine GO.load1 rfl rfl rfl Tk.h rfl ?_; exact KQ.z)); (apply GQ.step; focus (intro Z; refine GO.gT rfl rfl rfl ?_; refine GO.move rfl rfl ?_; exact KQ.z)); (apply GQ.step; focus (intro Z; refine GO.gT rfl rfl rfl ?_; refine GO.idxS rfl rfl rfl ⟨rfl, by omega⟩ ?_; exact KQ.z)); (apply GQ.step; focus (intro Z; refine GO.gT rfl rfl rfl ?_; refine GO.fieldAddr rfl rfl ?_; exact KQ.z)); (apply GQ.step; focus (intro Z; refine GO.gT rfl rfl rfl ?_; refine GO.loadQ rfl rfl rfl (Tk.t (Tk.t (Tk.t Tk.h))) (by assumption) ?_; exact KQ.z)))
    apply GQ.step; focus (intro Z; refine GO.gT rfl rfl rfl ?_; refine GO.call2 rfl rfl rfl (sameBody_spec qa qb _ _ p.2 hs hs' (by omega)) (Tks.c (Tk.t (Tk.t Tk.h)) (Tks.c (Tk.t (Tk.t Tk.h)) Tks.n)) ?_; rintro _ _ ⟨rfl, rfl⟩; refine GO.nil (KQ.s ?_); ((refine Sb.c (Tk.t (Tk.t Tk.h)) ?_; refine Sb.c (Tk.t (Tk.t Tk.h)) ?_; refine Sb.c Tk.h ?_; refine Sb.c Tk.h ?_); (exact Sb.r)))
    ((apply GQ.step; focus (intro Z; refine GO.gT rfl rfl rfl ?_; refine GO.not rfl rfl ?_; exact KQ.z)); (apply GQ.step; focus (intro Z; refine GO.pickF rfl rfl rfl ?_; exact KQ.z)); refine GQ.nil ?_)
    (refine GO.nil ?_; refine kthen_n ?_; refine G.condF rfl rfl ?_; refine G.skip ?_; refine kblock_n ?_; refine kthen_n ?_; refine G.region ?_; refine GO.move rfl rfl ?_; refine GO.addi rfl rfl rfl (by omega) ?_; refine GO.assign rfl rfl ?_; refine GO.nil ?_; refine kthen_n ?_)
    refine ⟨k + 1, by omega, by omega, ?_, ?_⟩
    · (refine SubE.c rfl rfl ?_; refine SubE.c rfl rfl ?_; refine SubE.c rfl rfl ?_; exact SubE.n)
    · ((refine Sb.c Tk.h ?_; refine Sb.c Tk.h ?_; refine Sb.c Tk.h ?_; refine Sb.c Tk.h ?_); (exact Sb.r))
  · (refine G.exit ?_; refine kthen_x ?_; refine kthen_x ?_; refine kblock_x ?_; refine kthen_n ?_; refine G.seq ?_; refine G.region ?_; refine GO.assign rfl rfl ?_; refine GO.nil ?_; refine kthen_n ?_; refine G.ret ?_)
    refine KF.r1 rfl (RV.t rfl) ⟨rfl, rfl⟩ ?_
    ((refine Sb.c (Tk.t (Tk.t Tk.h)) ?_; refine Sb.c (Tk.t (Tk.t Tk.h)) ?_); (refine Sb.s ?_; refine Sb.s ?_; exact Sb.r))
end Go.Proofs.Ytcemehocbemfmaa
namespace Go.Proofs.Ytcemehocbemfmaa
open Go
theorem EqR.sym2 (x y : SymD) : EqR Try.prog 10000 63 (.agg [.bool x.1, i64 x.2].toArray) (.agg [.bool y.1, i64 y.2].toArray) (decide (x = y)) := by
  have h : EqR Try.prog 10000 63 (.agg [.bool x.1, i64 x.2].toArray) (.agg [.bool y.1, i64 y.2].toArray) ((x.1 == y.1) && decide (x.2 = y.2)) :=
    EqR.struct (P := Try.prog) (d := 9999) (t := 63) (l := [.bool x.1, i64 x.2]) (l' := [.bool y.1, i64 y.2])
      ⟨.bool x.1, .bool y.1, (x.1 == y.1), decide (x.2 = y.2), by decide, PartR.one rfl rfl, PartR.one rfl rfl, (EqR.bool : EqR Try.prog 9999 4 (.bool x.1) (.bool y.1) _),
        ⟨i64 x.2, i64 y.2, decide (x.2 = y.2), true, by decide, PartR.one rfl rfl, PartR.one rfl rfl, (EqR.int : EqR Try.prog 9999 3 (i64 x.2) (i64 y.2) _), rfl, by simp⟩, rfl⟩
  rwa [show ((x.1 == y.1) && decide (x.2 = y.2)) = decide (x = y) by
    rw [Bool.eq_iff_iff]; simp only [Bool.and_eq_true, beq_iff_eq, decide_eq_true_iff]; exact ⟨fun h => Prod.ext h.1 h.2, fun h => by rw [h]; exact ⟨rfl, rfl⟩⟩] at h
attribute [local irreducible] G GO GR GT Fn FnV pt init exs pur sat own ImpS symsV
set_option maxHeartbeats 4000000 in
theorem rsymLess_spec (x y : SymD) : Fn Try.prog 72 #[.agg #[.bool x.1, i64 x.2], .agg #[.bool y.1, i64 y.2]] [] (fun r Q => r = .bool (symLt x y) ∧ Q = []) := by
  obtain ⟨a, m⟩ := x
  obtain ⟨b, n⟩ := y
  refine Fn.mk2 Try.func72 rfl rfl fun w0 F => ?_
  cases a <;> cases b
  · (refine G.seq ?_; refine G.region ?_; refine GO.box rfl rfl rfl fun b2 => ?_; refine GO.box rfl rfl rfl fun b3 => ?_; refine GO.assign rfl rfl ?_; refine GO.nil ?_; refine kthen_n ?_; refine G.seq ?_; refine G.seq ?_; refine G.region ?_; refine GO.fieldAddr rfl rfl ?_; refine GO.load1 rfl rfl rfl (Tk.t Tk.h) rfl ?_; refine GO.fieldAddr rfl rfl ?_; refine GO.load1 rfl rfl rfl Tk.h rfl ?_; refine GO.neqB rfl rfl rfl ?_; refine GO.nil ?_; refine kthen_n ?_; refine G.condF rfl rfl ?_; refine G.skip ?_; refine kthen_n ?_; refine G.seq ?_; refine G.region ?_; refine GO.fieldAddr rfl rfl ?_; refine GO.load1 rfl rfl rfl (Tk.t Tk.h) rfl ?_; refine GO.fieldAddr rfl rfl ?_; refine GO.load1 rfl rfl rfl Tk.h rfl ?_; refine GO.lti rfl rfl rfl ?_; refine GO.assign rfl rfl ?_; refine GO.nil ?_; refine kthen_n ?_; refine G.ret ?_)
    refine KF2.r1 rfl (RV.t rfl) ⟨rfl, rfl⟩ (ImpS.sb ?_)
    (skip; (refine Sb.s ?_; refine Sb.s ?_; exact Sb.r))
  · (refine G.seq ?_; refine G.region ?_; refine GO.box rfl rfl rfl fun b2 => ?_; refine GO.box rfl rfl rfl fun b3 => ?_; refine GO.assign rfl rfl ?_; refine GO.nil ?_; refine kthen_n ?_; refine G.seq ?_; refine G.seq ?_; refine G.region ?_; refine GO.fieldAddr rfl rfl ?_; refine GO.load1 rfl rfl rfl (Tk.t Tk.h) rfl ?_; refine GO.fieldAddr rfl rfl ?_; refine GO.load1 rfl rfl rfl Tk.h rfl ?_; refine GO.neqB rfl rfl rfl ?_; refine GO.nil ?_; refine kthen_n ?_; refine G.condT rfl rfl ?_; refine G.seq ?_; refine G.region ?_; refine GO.fieldAddr rfl rfl ?_; refine GO.load1 rfl rfl rfl Tk.h rfl ?_; refine GO.assign rfl rfl ?_; refine GO.nil ?_; refine kthen_n ?_; refine G.ret ?_; refine kthen_r ?_)
    refine KF2.r1 rfl (RV.t rfl) ⟨rfl, rfl⟩ (ImpS.sb ?_)
    (skip; (refine Sb.s ?_; refine Sb.s ?_; exact Sb.r))
  · (refine G.seq ?_; refine G.region ?_; refine GO.box rfl rfl rfl fun b2 => ?_; refine GO.box rfl rfl rfl fun b3 => ?_; refine GO.assign rfl rfl ?_; refine GO.nil ?_; refine kthen_n ?_; refine G.seq ?_; refine G.seq ?_; refine G.region ?_; refine GO.fieldAddr rfl rfl ?_; refine GO.load1 rfl rfl rfl (Tk.t Tk.h) rfl ?_; refine GO.fieldAddr rfl rfl ?_; refine GO.load1 rfl rfl rfl Tk.h rfl ?_; refine GO.neqB rfl rfl rfl ?_; refine GO.nil ?_; refine kthen_n ?_; refine G.condT rfl rfl ?_; refine G.seq ?_; refine G.region ?_; refine GO.fieldAddr rfl rfl ?_; refine GO.load1 rfl rfl rfl Tk.h rfl ?_; refine GO.assign rfl rfl ?_; refine GO.nil ?_; refine kthen_n ?_; refine G.ret ?_; refine kthen_r ?_)
    refine KF2.r1 rfl (RV.t rfl) ⟨rfl, rfl⟩ (ImpS.sb ?_)
    (skip; (refine Sb.s ?_; refine Sb.s ?_; exact Sb.r))
  · (refine G.seq ?_; refine G.region ?_; refine GO.box rfl rfl rfl fun b2 => ?_; refine GO.box rfl rfl rfl fun b3 => ?_; refine GO.assign rfl rfl ?_; refine GO.nil ?_; refine kthen_n ?_; refine G.seq ?_; refine G.seq ?_; refine G.region ?_; refine GO.fieldAddr rfl rfl ?_; refine GO.load1 rfl rfl rfl (Tk.t Tk.h) rfl ?_; refine GO.fieldAddr rfl rfl ?_; refine GO.load1 rfl rfl rfl Tk.h rfl ?_; refine GO.neqB rfl rfl rfl ?_; refine GO.nil ?_; refine kthen_n ?_; refine G.condF rfl rfl ?_; refine G.skip ?_; refine kthen_n ?_; refine G.seq ?_; refine G.region ?_; refine GO.fieldAddr rfl rfl ?_; refine GO.load1 rfl rfl rfl (Tk.t Tk.h) rfl ?_; refine GO.fieldAddr rfl rfl ?_; refine GO.load1 rfl rfl rfl Tk.h rfl ?_; refine GO.lti rfl rfl rfl ?_; refine GO.assign rfl rfl ?_; refine GO.nil ?_; refine kthen_n ?_; refine G.ret ?_)
    refine KF2.r1 rfl (RV.t rfl) ⟨rfl, rfl⟩ (ImpS.sb ?_)
    (skip; (refine Sb.s ?_; refine Sb.s ?_; exact Sb.r))
set_option maxHeartbeats 8000000 in
theorem rless_spec (z : HP) (p q : ProdD) (pv qv : Value) (hp : SymsR z pv p.2) (hq : SymsR z qv q.2) (hn : ¬ 140737488355328 < p.2.length) :
    Fn Try.prog 65 #[.agg #[i64 p.1, pv], .agg #[i64 q.1, qv]] [z] (fun r Q => r = .bool (prodLt p q) ∧ Q = [z]) := by
  obtain ⟨h, a⟩ := p
  obtain ⟨k, b⟩ := q
  dsimp only at hp hq hn
  obtain ⟨aa, ca, rfl⟩ := hp.form
  obtain ⟨ab, cb, rfl⟩ := hq.form
  refine Fn.mk2 Try.func65 rfl rfl fun w0 F => ?_
  unfold prodLt
  dsimp only
  (refine G.seq ?_; refine G.region ?_; refine GO.box rfl rfl rfl fun b2 => ?_; refine GO.box rfl rfl rfl fun b3 => ?_; refine GO.assign rfl rfl ?_; refine GO.nil ?_; refine kthen_n ?_; refine G.seq ?_; refine G.seq ?_; refine G.region ?_; refine GO.fieldAddr rfl rfl ?_; refine GO.load1 rfl rfl rfl (Tk.t Tk.h) rfl ?_; refine GO.fieldAddr rfl rfl ?_; refine GO.load1 rfl rfl rfl Tk.h rfl ?_; refine GO.nei rfl rfl rfl ?_; refine GO.nil ?_; refine kthen_n ?_)
  refine G.condD rfl (fun hne => ?_) (fun heq => ?_)
  · rw [if_neg hne]
    (refine G.seq ?_; refine G.region ?_; refine GO.fieldAddr rfl rfl ?_; refine GO.load1 rfl rfl rfl (Tk.t Tk.h) rfl ?_; refine GO.fieldAddr rfl rfl ?_; refine GO.load1 rfl rfl rfl Tk.h rfl ?_; refine GO.lti rfl rfl rfl ?_; refine GO.assign rfl rfl ?_; refine GO.nil ?_; refine kthen_n ?_; refine G.ret ?_; refine kthen_r ?_)
    refine KF2.r1 rfl (RV.t rfl) ⟨rfl, rfl⟩ (ImpS.sb ?_)
    ((refine Sb.c (Tk.t (Tk.t Tk.h)) ?_); (refine Sb.s ?_; refine Sb.s ?_; exact Sb.r))
  · rw [if_pos (Decidable.not_not.1 heq)]
    (refine G.skip ?_; refine kthen_n ?_; refine G.seq ?_; refine G.seq ?_; refine G.region ?_; refine GO.fieldAddr rfl rfl ?_; refine GO.load1 rfl rfl rfl (Tk.t Tk.h) rfl ?_; refine GO.lenS rfl rfl ?_; refine GO.fieldAddr rfl rfl ?_; refine GO.load1 rfl rfl rfl Tk.h rfl ?_; refine GO.lenS rfl rfl ?_; refine GO.nei rfl rfl rfl ?_; refine GO.nil ?_; refine kthen_n ?_)
    refine G.condD rfl (fun hne2 => ?_) (fun heq2 => ?_)
    · rw [if_neg (by omega)]
      (refine G.seq ?_; refine G.region ?_; refine GO.fieldAddr rfl rfl ?_; refine GO.load1 rfl rfl rfl (Tk.t Tk.h) rfl ?_; refine GO.lenS rfl rfl ?_; refine GO.fieldAddr rfl rfl ?_; refine GO.load1 rfl rfl rfl Tk.h rfl ?_; refine GO.lenS rfl rfl ?_; refine GO.lti rfl rfl rfl ?_; refine GO.assign rfl rfl ?_; refine GO.nil ?_; refine kthen_n ?_; refine G.ret ?_; refine kthen_r ?_)
      refine KF2.r1 rfl (RV.t rfl) ⟨?_, rfl⟩ (ImpS.sb ?_)
      · congr 1
        rw [decide_eq_decide]; omega
      · ((refine Sb.c (Tk.t (Tk.t Tk.h)) ?_); (refine Sb.s ?_; refine Sb.s ?_; exact Sb.r))
    · have hlen : a.length = b.length := by omega
      rw [if_pos hlen]
      (refine G.skip ?_; refine kthen_n ?_; refine G.seq ?_; refine G.seq ?_; refine G.region ?_; refine GO.assign rfl rfl ?_; refine GO.nil ?_; refine kthen_n ?_; refine G.block ?_)
      refine G.loop (fun i : Nat => [(2, .pointer (some ⟨b2, 0, none⟩)), (3, .pointer (some ⟨b3, 0, none⟩)), (5, i64 (i : Nat))]) (fun _ => pt b2 (row [i64 h, .slice aa a.length ca] 42) :: pt b3 (row [i64 k, .slice ab b.length cb] 42) :: z :: F) (fun i => i ≤ a.length ∧ bodyLt a b = bodyLt (a.drop i) (b.drop i)) (fun i => a.length - i) 0 ⟨Nat.zero_le _, by rw [List.drop_zero, List.drop_zero]⟩ ?_ ?_ ?_
      · (refine SubE.c rfl rfl ?_; refine SubE.c rfl rfl ?_; refine SubE.c rfl rfl ?_; exact SubE.n)
      · ((refine Sb.c (Tk.t Tk.h) ?_; refine Sb.c Tk.h ?_; refine Sb.c Tk.h ?_); (exact Sb.r))
      · rintro i ⟨hi, hC⟩
        (refine G.seq ?_; refine G.seq ?_; refine G.region ?_; refine GO.move rfl rfl ?_; refine GO.fieldAddr rfl rfl ?_; refine GO.load1 rfl rfl rfl Tk.h rfl ?_; refine GO.lenS rfl rfl ?_; refine GO.lti rfl rfl rfl ?_; refine GO.nil ?_; refine kthen_n ?_)
        refine G.condD rfl (fun hlt => ?_) (fun hge => ?_)
        · obtain ⟨s, hs⟩ : ∃ s, a[i]? = some s := ⟨_, List.getElem?_eq_getElem (by omega)⟩
          obtain ⟨t, ht⟩ : ∃ t, b[i]? = some t := ⟨_, List.getElem?_eq_getElem (by omega)⟩
          have hda := drop_at hs
          have hdb := drop_at ht
          rw [hda, hdb, show bodyLt (s :: a.drop (i + 1)) (t :: b.drop (i + 1)) = if s = t then bodyLt (a.drop (i + 1)) (b.drop (i + 1)) else symLt s t from rfl] at hC
          have heqr := EqR.sym2 s t
          have hsl := rsymLess_spec s t
          obtain ⟨ba, oa, rfl, _, r1, r2⟩ := hp.at hs
          obtain ⟨bb, ob, rfl, _, r3, r4⟩ := hq.at ht
          have hib : i < b.length := by omega
          (refine G.skip ?_; refine kthen_n ?_; refine G.seq ?_; refine G.block ?_; refine G.seq ?_)
          refine G.draw 10 (by kernel_rfl) ?_
          ((apply GQ.step; focus (intro Z; refine GO.fieldAddr rfl rfl ?_; exact KQ.z)); (apply GQ.step; focus (intro Z; refine GO.load1 rfl rfl rfl Tk.h rfl ?_; exact KQ.z)); (apply GQ.step; focus (intro Z; refine GO.move rfl rfl ?_; exact KQ.z)); (apply GQ.step; focus (intro Z; refine GO.idxS rfl rfl rfl ⟨rfl, by omega⟩ ?_; exact KQ.z)); (apply GQ.step; focus (intro Z; refine GO.load2 rfl rfl rfl (Tk.t (Tk.t Tk.h)) (by assumption) (by assumption) ?_; exact KQ.z)); (apply GQ.step; focus (intro Z; refine GO.fieldAddr rfl rfl ?_; exact KQ.z)); (apply GQ.step; focus (intro Z; refine GO.load1 rfl rfl rfl (Tk.t Tk.h) rfl ?_; exact KQ.z)); (apply GQ.step; focus (intro Z; refine GO.move rfl rfl ?_; exact KQ.z)); (apply GQ.step; focus (intro Z; refine GO.idxS rfl rfl rfl ⟨rfl, by omega⟩ ?_; exact KQ.z)); (apply GQ.step; focus (intro Z; refine GO.load2 rfl rfl rfl (Tk.t (Tk.t Tk.h)) (by assumption) (by assumption) ?_; exact KQ.z)); refine GQ.nil ?_)
          skip
          refine GO.neqA heqr rfl rfl rfl ?_
          by_cases est : s = t
          · rw [decide_eq_true est]
            rw [if_pos est] at hC
            (refine GO.nil ?_; refine kthen_n ?_; refine G.condF rfl rfl ?_; refine G.skip ?_; refine kblock_n ?_; refine kthen_n ?_; refine G.region ?_; refine GO.move rfl rfl ?_; refine GO.addi rfl rfl rfl (by omega) ?_; refine GO.assign rfl rfl ?_; refine GO.nil ?_; refine kthen_n ?_)
            refine ⟨i + 1, ⟨by omega, hC⟩, by omega, ?_, ?_⟩
            · (refine SubE.c rfl rfl ?_; refine SubE.c rfl rfl ?_; refine SubE.c rfl rfl ?_; exact SubE.n)
            · ((refine Sb.c Tk.h ?_; refine Sb.c Tk.h ?_; refine Sb.c Tk.h ?_); (exact Sb.r))
          · rw [decide_eq_false est]
            rw [if_neg est] at hC
            (refine GO.nil ?_; refine kthen_n ?_; refine G.condT rfl rfl ?_; refine G.seq ?_)
            refine G.draw 10 (by kernel_rfl) ?_
            ((apply GQ.step; focus (intro Z; refine GO.fieldAddr rfl rfl ?_; exact KQ.z)); (apply GQ.step; focus (intro Z; refine GO.load1 rfl rfl rfl Tk.h rfl ?_; exact KQ.z)); (apply GQ.step; focus (intro Z; refine GO.move rfl rfl ?_; exact KQ.z)); (apply GQ.step; focus (intro Z; refine GO.idxS rfl rfl rfl ⟨rfl, by omega⟩ ?_; exact KQ.z)); (apply GQ.step; focus (intro Z; refine GO.load2 rfl rfl rfl (Tk.t (Tk.t Tk.h)) (by assumption) (by assumption) ?_; exact KQ.z)); (apply GQ.step; focus (intro Z; refine GO.fieldAddr rfl rfl ?_; exact KQ.z)); (apply GQ.step; focus (intro Z; refine GO.load1 rfl rfl rfl (Tk.t Tk.h) rfl ?_; exact KQ.z)); (apply GQ.step; focus (intro Z; refine GO.move rfl rfl ?_; exact KQ.z)); (apply GQ.step; focus (intro Z; refine GO.idxS rfl rfl rfl ⟨rfl, by omega⟩ ?_; exact KQ.z)); (apply GQ.step; focus (intro Z; refine GO.load2 rfl rfl rfl (Tk.t (Tk.t Tk.h)) (by assumption) (by assumption) ?_; exact KQ.z)); refine GQ.nil ?_)
            skip
            refine GO.call2 rfl rfl rfl (hsl) Tks.n ?_
            rintro _ _ ⟨rfl, rfl⟩
            (refine GO.assign rfl rfl ?_; refine GO.nil ?_; refine kthen_n ?_; refine G.ret ?_; refine kblock_r ?_; refine kthen_r ?_; refine kthen_r ?_; refine kblock_r ?_; refine kthen_r ?_)
            refine KF2.r1 rfl (RV.t rfl) ⟨by rw [hC], rfl⟩ (ImpS.sb ?_)
            ((refine Sb.c (Tk.t (Tk.t Tk.h)) ?_); (refine Sb.s ?_; refine Sb.s ?_; exact Sb.r))
        · have e : i = a.length := by omega
          subst e
          rw [List.drop_length] at hC
          (refine G.exit ?_; refine kthen_x ?_; refine kthen_x ?_; refine kblock_x ?_; refine kthen_n ?_; refine G.seq ?_; refine G.region ?_; refine GO.assign rfl rfl ?_; refine GO.nil ?_; refine kthen_n ?_; refine G.ret ?_)
          refine KF2.r1 rfl (RV.t rfl) ⟨by rw [hC]; rfl, rfl⟩ (ImpS.sb ?_)
          ((refine Sb.c (Tk.t (Tk.t Tk.h)) ?_); (refine Sb.s ?_; refine Sb.s ?_; exact Sb.r))
end Go.Proofs.Ytcemehocbemfmaa
namespace Go.Proofs.Ytcemehocbemfmaa
open Go
def cmpI (m n : Int) : Int := if m < n then -1 else if n < m then 1 else 0
theorem cmpI_neg {m n : Int} : cmpI m n < 0 ↔ m < n := by
  unfold cmpI; split <;> (try split) <;> omega
theorem cmpI_zero {m n : Int} : cmpI m n = 0 ↔ m = n := by
  unfold cmpI; split <;> (try split) <;> omega
def symC (x y : SymD) : Int := if x.1 = y.1 then cmpI x.2 y.2 else if x.1 then 1 else -1
theorem symC_neg {x y : SymD} : symC x y < 0 ↔ symLt x y = true := by
  obtain ⟨a, m⟩ := x
  obtain ⟨b, n⟩ := y
  unfold symC symLt
  dsimp only
  by_cases e : a = b
  · rw [if_pos e, if_pos e, cmpI_neg, decide_eq_true_iff]
  · rw [if_neg e, if_neg e]
    cases a <;> cases b <;> simp_all
theorem symC_zero {x y : SymD} : symC x y = 0 ↔ x = y := by
  obtain ⟨a, m⟩ := x
  obtain ⟨b, n⟩ := y
  unfold symC
  dsimp only
  by_cases e : a = b
  · rw [if_pos e, cmpI_zero, Prod.mk.injEq]
    exact ⟨fun h => ⟨e, h⟩, fun h => h.2⟩
  · rw [if_neg e]
    constructor
    · intro h; split at h <;> omega
    · intro h; injection h with h1 _; exact absurd h1 e
def bodyC : List SymD → List SymD → Int
  | [], [] => 0
  | [], _ :: _ => -1
  | _ :: _, [] => 1
  | s :: a, t :: b => if symC s t = 0 then bodyC a b else symC s t
theorem bodyC_neg : ∀ {a b : List SymD}, a.length = b.length → (bodyC a b < 0 ↔ bodyLt a b = true)
  | [], [], _ => by unfold bodyC bodyLt; simp
  | [], _ :: _, h => by simp at h
  | _ :: _, [], h => by simp at h
  | s :: a, t :: b, h => by
    have ih := bodyC_neg (a := a) (b := b) (by simpa using h)
    unfold bodyC bodyLt
    by_cases e : s = t
    · rw [if_pos (symC_zero.2 e), if_pos e]; exact ih
    · rw [if_neg (fun h => e (symC_zero.1 h)), if_neg e]; exact symC_neg
theorem bodyC_zero : ∀ {a b : List SymD}, bodyC a b = 0 ↔ a = b
  | [], [] => by unfold bodyC; simp
  | [], _ :: _ => by unfold bodyC; simp
  | _ :: _, [] => by unfold bodyC; simp
  | s :: a, t :: b => by
    have ih := bodyC_zero (a := a) (b := b)
    unfold bodyC
    by_cases e : s = t
    · rw [if_pos (symC_zero.2 e), ih, e]; simp
    · rw [if_neg (fun h => e (symC_zero.1 h))]
      constructor
      · intro h; exact absurd (symC_zero.1 h) e
      · intro h; injection h with h _; exact absurd h e
def orderC (p q : ProdD) : Int := if cmpI p.1 q.1 ≠ 0 then cmpI p.1 q.1 else if cmpI p.2.length q.2.length ≠ 0 then cmpI p.2.length q.2.length else bodyC p.2 q.2
theorem orderC_neg {p q : ProdD} : orderC p q < 0 ↔ prodLt p q = true := by
  unfold orderC prodLt
  by_cases e : p.1 = q.1
  · rw [if_neg (by rw [cmpI_zero.2 e]; simp), if_pos e]
    by_cases e2 : p.2.length = q.2.length
    · rw [if_neg (by rw [cmpI_zero.2 (by omega)]; simp), if_pos e2]; exact bodyC_neg e2
    · rw [if_pos (fun h => e2 (by have := cmpI_zero.1 h; omega)), if_neg e2, cmpI_neg, decide_eq_true_iff]; omega
  · rw [if_pos (fun h => e (cmpI_zero.1 h)), if_neg e, cmpI_neg, decide_eq_true_iff]
theorem orderC_zero {p q : ProdD} : orderC p q = 0 ↔ p = q := by
  obtain ⟨h, a⟩ := p
  obtain ⟨k, b⟩ := q
  unfold orderC
  dsimp only
  by_cases e : h = k
  · rw [if_neg (by rw [cmpI_zero.2 e]; simp)]
    by_cases e2 : a.length = b.length
    · rw [if_neg (by rw [cmpI_zero.2 (by omega)]; simp), bodyC_zero, Prod.mk.injEq]
      exact ⟨fun h => ⟨e, h⟩, fun h => h.2⟩
    · rw [if_pos (fun h => e2 (by have := cmpI_zero.1 h; omega))]
      constructor
      · intro h; exact absurd (cmpI_zero.1 h) (by omega)
      · intro h; injection h with _ h; exact absurd (by rw [h]) e2
  · rw [if_pos (fun h => e (cmpI_zero.1 h))]
    constructor
    · intro h; exact absurd (cmpI_zero.1 h) e
    · intro h; injection h with h _; exact absurd h e
attribute [local irreducible] G GO GR GT Fn FnV pt init exs pur sat own ImpS symsV
set_option maxHeartbeats 4000000 in
theorem isNaN_spec (m : Int) : Fn Try.prog 83 #[i64 m] [] (fun r Q => r = .bool false ∧ Q = []) := by
  have d : decide (m ≠ m) = false := decide_eq_false (fun h => h rfl)
  refine Fn.mk2 Try.func83 rfl rfl fun w0 F => ?_
  (refine G.seq ?_; refine G.region ?_; refine GO.assign rfl rfl ?_; refine GO.nil ?_; refine kthen_n ?_; refine G.seq ?_; refine G.region ?_; refine GO.move rfl rfl ?_; refine GO.move rfl rfl ?_; refine GO.neF rfl rfl rfl rfl ?_; refine GO.assign rfl rfl ?_; refine GO.nil ?_; refine kthen_n ?_; refine G.ret ?_)
  refine KF2.r1 rfl (RV.t rfl) ⟨rfl, rfl⟩ (ImpS.sb ?_)
  (skip; (exact Sb.r))
set_option maxHeartbeats 4000000 in
theorem compare_spec (m n : Int) : Fn Try.prog 69 #[i64 m, i64 n] [] (fun r Q => r = i64 (cmpI m n) ∧ Q = []) := by
  refine Fn.mk2 Try.func69 rfl rfl fun w0 F => ?_
  (refine G.seq ?_; refine G.region ?_; refine GO.assign rfl rfl ?_; refine GO.nil ?_; refine kthen_n ?_; refine G.seq ?_; refine G.region ?_; refine GO.move rfl rfl ?_)
  refine GO.call1 rfl rfl (isNaN_spec m) Tks.n ?_
  rintro _ _ ⟨rfl, rfl⟩
  (refine GO.assign rfl rfl ?_; refine GO.nil ?_; refine kthen_n ?_; refine G.seq ?_; refine G.region ?_; refine GO.move rfl rfl ?_)
  refine GO.call1 rfl rfl (isNaN_spec n) Tks.n ?_
  rintro _ _ ⟨rfl, rfl⟩
  (refine GO.assign rfl rfl ?_; refine GO.nil ?_; refine kthen_n ?_; refine G.seq ?_; refine G.seq ?_; refine G.region ?_; refine GO.move rfl rfl ?_; refine GO.nil ?_; refine kthen_n ?_; refine G.condF rfl rfl ?_; refine G.skip ?_; refine kthen_n ?_; refine G.seq ?_; refine G.seq ?_; refine G.region ?_; refine GO.move rfl rfl ?_; refine GO.nil ?_; refine kthen_n ?_; refine G.condF rfl rfl ?_; refine G.skip ?_; refine kthen_n ?_; refine G.seq ?_; refine G.seq ?_; refine G.region ?_; refine GO.move rfl rfl ?_; refine GO.move rfl rfl ?_; refine GO.lti rfl rfl rfl ?_; refine GO.nil ?_; refine kthen_n ?_)
  refine G.condD rfl (fun h1 => ?_) (fun h1 => ?_)
  · (refine G.seq ?_; refine G.region ?_; refine GO.assign rfl rfl ?_; refine GO.nil ?_; refine kthen_n ?_; refine G.ret ?_; refine kthen_r ?_)
    refine KF2.r1 rfl (RV.t rfl) ⟨by unfold cmpI; rw [if_pos h1], rfl⟩ (ImpS.sb ?_)
    (skip; (exact Sb.r))
  · (refine G.skip ?_; refine kthen_n ?_; refine G.seq ?_; refine G.seq ?_; refine G.region ?_; refine GO.move rfl rfl ?_; refine GO.move rfl rfl ?_; refine GO.gti rfl rfl rfl ?_; refine GO.nil ?_; refine kthen_n ?_)
    refine G.condD rfl (fun h2 => ?_) (fun h2 => ?_)
    · (refine G.seq ?_; refine G.region ?_; refine GO.assign rfl rfl ?_; refine GO.nil ?_; refine kthen_n ?_; refine G.ret ?_; refine kthen_r ?_)
      refine KF2.r1 rfl (RV.t rfl) ⟨by unfold cmpI; rw [if_neg h1, if_pos h2], rfl⟩ (ImpS.sb ?_)
      (skip; (exact Sb.r))
    · (refine G.skip ?_; refine kthen_n ?_; refine G.seq ?_; refine G.region ?_; refine GO.assign rfl rfl ?_; refine GO.nil ?_; refine kthen_n ?_; refine G.ret ?_)
      refine KF2.r1 rfl (RV.t rfl) ⟨by unfold cmpI; rw [if_neg h1, if_neg h2], rfl⟩ (ImpS.sb ?_)
      (skip; (exact Sb.r))
set_option maxHeartbeats 4000000 in
theorem bySym_spec (x y : SymD) : Fn Try.prog 71 #[.agg #[.bool x.1, i64 x.2], .agg #[.bool y.1, i64 y.2]] [] (fun r Q => r = i64 (symC x y) ∧ Q = []) := by
  obtain ⟨a, m⟩ := x
  obtain ⟨b, n⟩ := y
  refine Fn.mk2 Try.func71 rfl rfl fun w0 F => ?_
  cases a <;> cases b
  · (refine G.seq ?_; refine G.region ?_; refine GO.box rfl rfl rfl fun b2 => ?_; refine GO.box rfl rfl rfl fun b3 => ?_; refine GO.assign rfl rfl ?_; refine GO.nil ?_; refine kthen_n ?_; refine G.seq ?_; refine G.seq ?_; refine G.region ?_; refine GO.fieldAddr rfl rfl ?_; refine GO.load1 rfl rfl rfl (Tk.t Tk.h) rfl ?_; refine GO.fieldAddr rfl rfl ?_; refine GO.load1 rfl rfl rfl Tk.h rfl ?_; refine GO.neqB rfl rfl rfl ?_; refine GO.nil ?_; refine kthen_n ?_; refine G.condF rfl rfl ?_; refine G.skip ?_; refine kthen_n ?_; refine G.seq ?_; refine G.region ?_; refine GO.fieldAddr rfl rfl ?_; refine GO.load1 rfl rfl rfl (Tk.t Tk.h) rfl ?_; refine GO.fieldAddr rfl rfl ?_; refine GO.load1 rfl rfl rfl Tk.h rfl ?_)
    refine GO.call2 rfl rfl rfl (compare_spec m n) Tks.n ?_
    rintro _ _ ⟨rfl, rfl⟩
    (refine GO.assign rfl rfl ?_; refine GO.nil ?_; refine kthen_n ?_; refine G.ret ?_)
    refine KF2.r1 rfl (RV.t rfl) ⟨rfl, rfl⟩ (ImpS.sb ?_)
    (skip; (refine Sb.s ?_; refine Sb.s ?_; exact Sb.r))
  · (refine G.seq ?_; refine G.region ?_; refine GO.box rfl rfl rfl fun b2 => ?_; refine GO.box rfl rfl rfl fun b3 => ?_; refine GO.assign rfl rfl ?_; refine GO.nil ?_; refine kthen_n ?_; refine G.seq ?_; refine G.seq ?_; refine G.region ?_; refine GO.fieldAddr rfl rfl ?_; refine GO.load1 rfl rfl rfl (Tk.t Tk.h) rfl ?_; refine GO.fieldAddr rfl rfl ?_; refine GO.load1 rfl rfl rfl Tk.h rfl ?_; refine GO.neqB rfl rfl rfl ?_; refine GO.nil ?_; refine kthen_n ?_; refine G.condT rfl rfl ?_; refine G.seq ?_; refine G.seq ?_; refine G.region ?_; refine GO.fieldAddr rfl rfl ?_; refine GO.load1 rfl rfl rfl (Tk.t Tk.h) rfl ?_; refine GO.nil ?_; refine kthen_n ?_; refine G.condF rfl rfl ?_; refine G.skip ?_; refine kthen_n ?_; refine G.seq ?_; refine G.region ?_; refine GO.assign rfl rfl ?_; refine GO.nil ?_; refine kthen_n ?_; refine G.ret ?_; refine kthen_r ?_)
    refine KF2.r1 rfl (RV.t rfl) ⟨rfl, rfl⟩ (ImpS.sb ?_)
    (skip; (refine Sb.s ?_; refine Sb.s ?_; exact Sb.r))
  · (refine G.seq ?_; refine G.region ?_; refine GO.box rfl rfl rfl fun b2 => ?_; refine GO.box rfl rfl rfl fun b3 => ?_; refine GO.assign rfl rfl ?_; refine GO.nil ?_; refine kthen_n ?_; refine G.seq ?_; refine G.seq ?_; refine G.region ?_; refine GO.fieldAddr rfl rfl ?_; refine GO.load1 rfl rfl rfl (Tk.t Tk.h) rfl ?_; refine GO.fieldAddr rfl rfl ?_; refine GO.load1 rfl rfl rfl Tk.h rfl ?_; refine GO.neqB rfl rfl rfl ?_; refine GO.nil ?_; refine kthen_n ?_; refine G.condT rfl rfl ?_; refine G.seq ?_; refine G.seq ?_; refine G.region ?_; refine GO.fieldAddr rfl rfl ?_; refine GO.load1 rfl rfl rfl (Tk.t Tk.h) rfl ?_; refine GO.nil ?_; refine kthen_n ?_; refine G.condT rfl rfl ?_; refine G.seq ?_; refine G.region ?_; refine GO.assign rfl rfl ?_; refine GO.nil ?_; refine kthen_n ?_; refine G.ret ?_; refine kthen_r ?_; refine kthen_r ?_)
    refine KF2.r1 rfl (RV.t rfl) ⟨rfl, rfl⟩ (ImpS.sb ?_)
    (skip; (refine Sb.s ?_; refine Sb.s ?_; exact Sb.r))
  · (refine G.seq ?_; refine G.region ?_; refine GO.box rfl rfl rfl fun b2 => ?_; refine GO.box rfl rfl rfl fun b3 => ?_; refine GO.assign rfl rfl ?_; refine GO.nil ?_; refine kthen_n ?_; refine G.seq ?_; refine G.seq ?_; refine G.region ?_; refine GO.fieldAddr rfl rfl ?_; refine GO.load1 rfl rfl rfl (Tk.t Tk.h) rfl ?_; refine GO.fieldAddr rfl rfl ?_; refine GO.load1 rfl rfl rfl Tk.h rfl ?_; refine GO.neqB rfl rfl rfl ?_; refine GO.nil ?_; refine kthen_n ?_; refine G.condF rfl rfl ?_; refine G.skip ?_; refine kthen_n ?_; refine G.seq ?_; refine G.region ?_; refine GO.fieldAddr rfl rfl ?_; refine GO.load1 rfl rfl rfl (Tk.t Tk.h) rfl ?_; refine GO.fieldAddr rfl rfl ?_; refine GO.load1 rfl rfl rfl Tk.h rfl ?_)
    refine GO.call2 rfl rfl rfl (compare_spec m n) Tks.n ?_
    rintro _ _ ⟨rfl, rfl⟩
    (refine GO.assign rfl rfl ?_; refine GO.nil ?_; refine kthen_n ?_; refine G.ret ?_)
    refine KF2.r1 rfl (RV.t rfl) ⟨rfl, rfl⟩ (ImpS.sb ?_)
    (skip; (refine Sb.s ?_; refine Sb.s ?_; exact Sb.r))
theorem drop_two {α : Type} {l : List α} {k : Nat} {a : α} (h : l[k]? = some a) : l.drop k = a :: l.drop (k + 1) := by
  obtain ⟨hk, e⟩ := List.getElem?_eq_some_iff.1 h
  rw [List.drop_eq_getElem_cons hk, e]
set_option maxHeartbeats 8000000 in
theorem compareBody_spec (z : HP) (av bv : Value) (a b : List SymD) (ha : SymsR z av a) (hb : SymsR z bv b) (hn : ¬ 140737488355328 < a.length) :
    Fn Try.prog 70 #[av, bv, .func (.func 71) #[] #[]] [z] (fun r Q => r = i64 (bodyC a b) ∧ Q = [z]) := by
  obtain ⟨aa, ca, rfl⟩ := ha.form
  obtain ⟨ab, cb, rfl⟩ := hb.form
  refine Fn.mk2 Try.func70 rfl rfl fun w0 F => ?_
  (refine G.seq ?_; refine G.region ?_; refine GO.assign rfl rfl ?_; refine GO.nil ?_; refine kthen_n ?_; refine G.seq ?_; refine G.seq ?_; refine G.region ?_; refine GO.move rfl rfl ?_; refine GO.lenS rfl rfl ?_; refine GO.move rfl rfl ?_; refine GO.nil ?_; refine kthen_n ?_; refine G.block ?_)
  refine G.loop (fun k : Nat => [(0, .slice aa a.length ca), (1, .slice ab b.length cb), (2, .func (.func 71) #[] #[]), (11, .slice aa a.length ca), (12, i64 (a.length : Nat)), (13, i64 (k : Nat))]) (fun _ => z :: F) (fun k => k ≤ a.length ∧ k ≤ b.length ∧ bodyC a b = bodyC (a.drop k) (b.drop k)) (fun k => a.length - k) 0 ⟨Nat.zero_le _, Nat.zero_le _, by rw [List.drop_zero, List.drop_zero]⟩ ?_ ?_ ?_
  · (refine SubE.c rfl rfl ?_; refine SubE.c rfl rfl ?_; refine SubE.c rfl rfl ?_; refine SubE.c rfl rfl ?_; refine SubE.c rfl rfl ?_; refine SubE.c rfl rfl ?_; exact SubE.n)
  · ((refine Sb.c Tk.h ?_); (exact Sb.r))
  · rintro k ⟨hk, hkb, hC⟩
    (refine G.seq ?_; refine G.region ?_; refine GO.lti rfl rfl rfl ?_; refine GO.nil ?_; refine kthen_n ?_; refine G.seq ?_)
    refine G.condD rfl (fun hlt => ?_) (fun hge => ?_)
    · obtain ⟨s, hs⟩ : ∃ s, a[k]? = some s := ⟨_, List.getElem?_eq_getElem (by omega)⟩
      have hda := drop_two hs
      obtain ⟨ba, oa, rfl, _, r1, r2⟩ := ha.at hs
      (refine G.skip ?_; refine kthen_n ?_; refine G.seq ?_; refine G.block ?_; refine G.seq ?_; refine G.region ?_; refine GO.move rfl rfl ?_; refine GO.idxS rfl rfl rfl ⟨rfl, by omega⟩ ?_; refine GO.load2 rfl rfl rfl Tk.h (by assumption) (by assumption) ?_; refine GO.alloc rfl fun b8 => ?_; refine GO.assign rfl rfl ?_; refine GO.storeW rfl rfl Tk.h ⟨rfl, rfl⟩ (by simp [Value.oneCell']) ?_; refine GO.nil ?_; refine kthen_n ?_; refine G.seq ?_; refine G.seq ?_; refine G.region ?_; refine GO.move rfl rfl ?_; refine GO.move rfl rfl ?_; refine GO.lenS rfl rfl ?_; refine GO.gei rfl rfl rfl ?_; refine GO.nil ?_; refine kthen_n ?_)
      refine G.condD rfl (fun hle => ?_) (fun hnle => ?_)
      · (refine G.seq ?_; refine G.region ?_; refine GO.assign rfl rfl ?_; refine GO.nil ?_; refine kthen_n ?_; refine G.ret ?_; refine kthen_r ?_; refine kblock_r ?_; refine kthen_r ?_; refine kthen_r ?_; refine kblock_r ?_; refine kthen_r ?_)
        refine KF2.r1 rfl (RV.t rfl) ⟨?_, rfl⟩ (ImpS.sb ?_)
        · have hb0 : b.drop k = [] := List.drop_eq_nil_of_le (by omega)
          rw [hC, hda, hb0]; rfl
        · ((refine Sb.c (Tk.t Tk.h) ?_); (refine Sb.s ?_; exact Sb.r))
      · obtain ⟨t, ht⟩ : ∃ t, b[k]? = some t := ⟨_, List.getElem?_eq_getElem (by omega)⟩
        have hdb := drop_two ht
        obtain ⟨bb, ob, rfl, _, r3, r4⟩ := hb.at ht
        have hcall := FnV.of (args := [.agg #[.bool s.1, i64 s.2], .agg #[.bool t.1, i64 t.2]]) (caps := []) (bySym_spec s t)
        rw [hda, hdb] at hC
        rw [show bodyC (s :: a.drop (k + 1)) (t :: b.drop (k + 1)) = if symC s t = 0 then bodyC (a.drop (k + 1)) (b.drop (k + 1)) else symC s t from rfl] at hC
        (refine G.skip ?_; refine kthen_n ?_; refine G.seq ?_; refine G.region ?_; refine GO.move rfl rfl ?_; refine GO.move rfl rfl ?_; refine GO.idxS rfl rfl rfl ⟨rfl, by omega⟩ ?_; refine GO.load2 rfl rfl rfl (Tk.t Tk.h) (by assumption) (by assumption) ?_; refine GO.alloc rfl fun b9 => ?_; refine GO.storeW rfl rfl Tk.h ⟨rfl, rfl⟩ (by simp [Value.oneCell']) ?_; refine GO.nil ?_; refine kthen_n ?_; refine G.seq ?_; refine G.region ?_; refine GO.move rfl rfl ?_; refine GO.loadW rfl rfl rfl (Tk.t Tk.h) rfl ?_; refine GO.loadW rfl rfl rfl Tk.h rfl ?_)
        refine GO.callV2 rfl rfl rfl rfl hcall Tks.n ?_
        rintro _ _ ⟨rfl, rfl⟩
        (refine GO.assign rfl rfl ?_; refine GO.nil ?_; refine kthen_n ?_; refine G.seq ?_; refine G.region ?_; refine GO.move rfl rfl ?_; refine GO.nei rfl rfl rfl ?_; refine GO.nil ?_; refine kthen_n ?_)
        refine G.condD rfl (fun hne => ?_) (fun heq => ?_)
        · rw [if_neg hne] at hC
          (refine G.seq ?_; refine G.region ?_; refine GO.move rfl rfl ?_; refine GO.assign rfl rfl ?_; refine GO.nil ?_; refine kthen_n ?_; refine G.ret ?_; refine kblock_r ?_; refine kthen_r ?_; refine kthen_r ?_; refine kblock_r ?_; refine kthen_r ?_)
          refine KF2.r1 rfl (RV.t rfl) ⟨by rw [hC], rfl⟩ (ImpS.sb ?_)
          ((refine Sb.c (Tk.t (Tk.t Tk.h)) ?_); (refine Sb.s ?_; refine Sb.s ?_; exact Sb.r))
        · rw [if_pos (Decidable.not_not.1 heq)] at hC
          (refine G.skip ?_; refine kblock_n ?_; refine kthen_n ?_; refine G.region ?_; refine GO.addi rfl rfl rfl (by omega) ?_; refine GO.move rfl rfl ?_; refine GO.nil ?_; refine kthen_n ?_)
          refine ⟨k + 1, ⟨by omega, by omega, hC⟩, by omega, ?_, ?_⟩
          · (refine SubE.c rfl rfl ?_; refine SubE.c rfl rfl ?_; refine SubE.c rfl rfl ?_; refine SubE.c rfl rfl ?_; refine SubE.c rfl rfl ?_; refine SubE.c rfl rfl ?_; exact SubE.n)
          · ((refine Sb.c (Tk.t (Tk.t Tk.h)) ?_); (refine Sb.s ?_; refine Sb.s ?_; exact Sb.r))
    · have e : k = a.length := by omega
      subst e
      rw [List.drop_length] at hC
      (refine G.exit ?_; refine kthen_x ?_; refine kthen_x ?_; refine kblock_x ?_; refine kthen_n ?_; refine G.seq ?_; refine G.seq ?_; refine G.region ?_; refine GO.move rfl rfl ?_; refine GO.lenS rfl rfl ?_; refine GO.move rfl rfl ?_; refine GO.lenS rfl rfl ?_; refine GO.lti rfl rfl rfl ?_; refine GO.nil ?_; refine kthen_n ?_)
      refine G.condD rfl (fun hlt => ?_) (fun hge2 => ?_)
      · obtain ⟨t, ht⟩ : ∃ t, b[a.length]? = some t := ⟨_, List.getElem?_eq_getElem (by omega)⟩
        rw [drop_two ht] at hC
        (refine G.seq ?_; refine G.region ?_; refine GO.assign rfl rfl ?_; refine GO.nil ?_; refine kthen_n ?_; refine G.ret ?_; refine kthen_r ?_)
        refine KF2.r1 rfl (RV.t rfl) ⟨by rw [hC]; rfl, rfl⟩ (ImpS.sb ?_)
        ((refine Sb.c Tk.h ?_); (exact Sb.r))
      · rw [List.drop_eq_nil_of_le (by omega)] at hC
        (refine G.skip ?_; refine kthen_n ?_; refine G.seq ?_; refine G.region ?_; refine GO.assign rfl rfl ?_; refine GO.nil ?_; refine kthen_n ?_; refine G.ret ?_)
        refine KF2.r1 rfl (RV.t rfl) ⟨by rw [hC]; rfl, rfl⟩ (ImpS.sb ?_)
        ((refine Sb.c Tk.h ?_); (exact Sb.r))
/-- The first of three that is not 0. -/
def or3 (x y w : Int) : Int := if x ≠ 0 then x else if y ≠ 0 then y else w
set_option maxHeartbeats 8000000 in
theorem or_spec (b : Nat) (x y w : Int) : Fn Try.prog 68 #[.slice (some ⟨b, 0, none⟩) 3 3] [pt b (row [i64 x, i64 y, i64 w] 3)] (fun r Q => r = i64 (or3 x y w) ∧ Q = [pt b (row [i64 x, i64 y, i64 w] 3)]) := by
  have nth : ∀ k, k < 3 → ∃ u, [x, y, w][k]? = some u := fun k hk => ⟨_, List.getElem?_eq_getElem (by simpa using hk)⟩
  refine Fn.mk2 Try.func68 rfl rfl fun w0 F => ?_
  (refine G.seq ?_; refine G.region ?_; refine GO.assign rfl rfl ?_; refine GO.nil ?_; refine kthen_n ?_; refine G.seq ?_; refine G.region ?_; refine GO.assign rfl rfl ?_; refine GO.nil ?_; refine kthen_n ?_; refine G.seq ?_; refine G.seq ?_; refine G.region ?_; refine GO.move rfl rfl ?_; refine GO.lenS rfl rfl ?_; refine GO.move rfl rfl ?_; refine GO.nil ?_; refine kthen_n ?_; refine G.block ?_)
  refine G.loop (fun k : Nat => [(3, i64 0), (6, .slice (some ⟨b, 0, none⟩) 3 3), (7, i64 3), (8, i64 (k : Nat))]) (fun _ => pt b (row [i64 x, i64 y, i64 w] 3) :: F) (fun k => k ≤ 3 ∧ (1 ≤ k → x = 0) ∧ (2 ≤ k → y = 0) ∧ (3 ≤ k → w = 0)) (fun k => 3 - k) 0 ⟨by omega, by omega, by omega, by omega⟩ ?_ ?_ ?_
  · (refine SubE.c rfl rfl ?_; refine SubE.c rfl rfl ?_; refine SubE.c rfl rfl ?_; refine SubE.c rfl rfl ?_; exact SubE.n)
  · ((refine Sb.c Tk.h ?_); (exact Sb.r))
  · rintro k ⟨hk, h1, h2, h3⟩
    match k, hk, h1, h2, h3 with
    | 0, _, _, _, _ =>
      (refine G.seq ?_; refine G.region ?_; refine GO.lti rfl rfl rfl ?_; refine GO.nil ?_; refine kthen_n ?_; refine G.seq ?_; refine G.condT rfl rfl ?_; refine G.skip ?_; refine kthen_n ?_; refine G.seq ?_; refine G.block ?_; refine G.seq ?_; refine G.region ?_; refine GO.idxS rfl rfl rfl ⟨rfl, by omega⟩ ?_; refine GO.load1 rfl rfl rfl Tk.h rfl ?_; refine GO.assign rfl rfl ?_; refine GO.nil ?_; refine kthen_n ?_; refine G.seq ?_; refine G.region ?_; refine GO.move rfl rfl ?_; refine GO.move rfl rfl ?_; refine GO.nei rfl rfl rfl ?_; refine GO.nil ?_; refine kthen_n ?_)
      refine G.condD rfl (fun hne => ?_) (fun heq => ?_)
      · (refine G.seq ?_; refine G.region ?_; refine GO.move rfl rfl ?_; refine GO.assign rfl rfl ?_; refine GO.nil ?_; refine kthen_n ?_; refine G.ret ?_; refine kblock_r ?_; refine kthen_r ?_; refine kthen_r ?_; refine kblock_r ?_; refine kthen_r ?_)
        refine KF2.r1 rfl (RV.t rfl) ⟨by unfold or3; rw [if_pos hne], rfl⟩ (ImpS.sb ?_)
        ((refine Sb.c Tk.h ?_); (exact Sb.r))
      · (refine G.skip ?_; refine kblock_n ?_; refine kthen_n ?_; refine G.region ?_; refine GO.addi rfl rfl rfl (by omega) ?_; refine GO.move rfl rfl ?_; refine GO.nil ?_; refine kthen_n ?_)
        refine ⟨1, ⟨by omega, fun _ => Decidable.not_not.1 heq, by omega, by omega⟩, by omega, ?_, ?_⟩
        · (refine SubE.c rfl rfl ?_; refine SubE.c rfl rfl ?_; refine SubE.c rfl rfl ?_; refine SubE.c rfl rfl ?_; exact SubE.n)
        · ((refine Sb.c Tk.h ?_); (exact Sb.r))
    | 1, _, h1, _, _ =>
      (refine G.seq ?_; refine G.region ?_; refine GO.lti rfl rfl rfl ?_; refine GO.nil ?_; refine kthen_n ?_; refine G.seq ?_; refine G.condT rfl rfl ?_; refine G.skip ?_; refine kthen_n ?_; refine G.seq ?_; refine G.block ?_; refine G.seq ?_; refine G.region ?_; refine GO.idxS rfl rfl rfl ⟨rfl, by omega⟩ ?_; refine GO.load1 rfl rfl rfl Tk.h rfl ?_; refine GO.assign rfl rfl ?_; refine GO.nil ?_; refine kthen_n ?_; refine G.seq ?_; refine G.region ?_; refine GO.move rfl rfl ?_; refine GO.move rfl rfl ?_; refine GO.nei rfl rfl rfl ?_; refine GO.nil ?_; refine kthen_n ?_)
      refine G.condD rfl (fun hne => ?_) (fun heq => ?_)
      · (refine G.seq ?_; refine G.region ?_; refine GO.move rfl rfl ?_; refine GO.assign rfl rfl ?_; refine GO.nil ?_; refine kthen_n ?_; refine G.ret ?_; refine kblock_r ?_; refine kthen_r ?_; refine kthen_r ?_; refine kblock_r ?_; refine kthen_r ?_)
        refine KF2.r1 rfl (RV.t rfl) ⟨by unfold or3; rw [if_neg (by simp [h1]), if_pos hne], rfl⟩ (ImpS.sb ?_)
        ((refine Sb.c Tk.h ?_); (exact Sb.r))
      · (refine G.skip ?_; refine kblock_n ?_; refine kthen_n ?_; refine G.region ?_; refine GO.addi rfl rfl rfl (by omega) ?_; refine GO.move rfl rfl ?_; refine GO.nil ?_; refine kthen_n ?_)
        refine ⟨2, ⟨by omega, fun _ => h1 (by omega), fun _ => Decidable.not_not.1 heq, by omega⟩, by omega, ?_, ?_⟩
        · (refine SubE.c rfl rfl ?_; refine SubE.c rfl rfl ?_; refine SubE.c rfl rfl ?_; refine SubE.c rfl rfl ?_; exact SubE.n)
        · ((refine Sb.c Tk.h ?_); (exact Sb.r))
    | 2, _, h1, h2, _ =>
      (refine G.seq ?_; refine G.region ?_; refine GO.lti rfl rfl rfl ?_; refine GO.nil ?_; refine kthen_n ?_; refine G.seq ?_; refine G.condT rfl rfl ?_; refine G.skip ?_; refine kthen_n ?_; refine G.seq ?_; refine G.block ?_; refine G.seq ?_; refine G.region ?_; refine GO.idxS rfl rfl rfl ⟨rfl, by omega⟩ ?_; refine GO.load1 rfl rfl rfl Tk.h rfl ?_; refine GO.assign rfl rfl ?_; refine GO.nil ?_; refine kthen_n ?_; refine G.seq ?_; refine G.region ?_; refine GO.move rfl rfl ?_; refine GO.move rfl rfl ?_; refine GO.nei rfl rfl rfl ?_; refine GO.nil ?_; refine kthen_n ?_)
      refine G.condD rfl (fun hne => ?_) (fun heq => ?_)
      · (refine G.seq ?_; refine G.region ?_; refine GO.move rfl rfl ?_; refine GO.assign rfl rfl ?_; refine GO.nil ?_; refine kthen_n ?_; refine G.ret ?_; refine kblock_r ?_; refine kthen_r ?_; refine kthen_r ?_; refine kblock_r ?_; refine kthen_r ?_)
        refine KF2.r1 rfl (RV.t rfl) ⟨by unfold or3; rw [if_neg (by simp [h1]), if_neg (by simp [h2])], rfl⟩ (ImpS.sb ?_)
        ((refine Sb.c Tk.h ?_); (exact Sb.r))
      · (refine G.skip ?_; refine kblock_n ?_; refine kthen_n ?_; refine G.region ?_; refine GO.addi rfl rfl rfl (by omega) ?_; refine GO.move rfl rfl ?_; refine GO.nil ?_; refine kthen_n ?_)
        refine ⟨3, ⟨by omega, fun _ => h1 (by omega), fun _ => h2 (by omega), fun _ => Decidable.not_not.1 heq⟩, by omega, ?_, ?_⟩
        · (refine SubE.c rfl rfl ?_; refine SubE.c rfl rfl ?_; refine SubE.c rfl rfl ?_; refine SubE.c rfl rfl ?_; exact SubE.n)
        · ((refine Sb.c Tk.h ?_); (exact Sb.r))
    | 3, _, h1, h2, h3 =>
      (refine G.seq ?_; refine G.region ?_; refine GO.lti rfl rfl rfl ?_; refine GO.nil ?_; refine kthen_n ?_; refine G.seq ?_; refine G.condF rfl rfl ?_; refine G.exit ?_; refine kthen_x ?_; refine kthen_x ?_; refine kblock_x ?_; refine kthen_n ?_; refine G.seq ?_; refine G.region ?_; refine GO.move rfl rfl ?_; refine GO.assign rfl rfl ?_; refine GO.nil ?_; refine kthen_n ?_; refine G.ret ?_)
      refine KF2.r1 rfl (RV.t rfl) ⟨by unfold or3; rw [if_neg (by simp [h1]), if_neg (by simp [h2]), h3 (by omega)], rfl⟩ (ImpS.sb ?_)
      ((refine Sb.c Tk.h ?_); (exact Sb.r))
    | k + 4, hk, _, _, _ => exact absurd hk (by omega)
theorem or_order (p q : ProdD) : or3 (cmpI p.1 q.1) (cmpI p.2.length q.2.length) (bodyC p.2 q.2) = orderC p q := rfl
set_option maxHeartbeats 8000000 in
theorem order_spec (z : HP) (p q : ProdD) (pv qv : Value) (hp : SymsR z pv p.2) (hq : SymsR z qv q.2) (hn : ¬ 140737488355328 < p.2.length) :
    Fn Try.prog 62 #[.agg #[i64 p.1, pv], .agg #[i64 q.1, qv]] [z] (fun r Q => r = i64 (orderC p q) ∧ Q = [z]) := by
  have hbody := compareBody_spec z pv qv p.2 q.2 hp hq hn
  have hor := fun b => or_spec b (cmpI p.1 q.1) (cmpI p.2.length q.2.length) (bodyC p.2 q.2)
  simp only [or_order] at hor
  have hc1 := compare_spec p.1 q.1
  have hc2 := compare_spec (p.2.length : Nat) (q.2.length : Nat)
  generalize cmpI p.1 q.1 = c1 at hor hc1
  generalize cmpI (p.2.length : Nat) (q.2.length : Nat) = c2 at hor hc2
  generalize bodyC p.2 q.2 = c3 at hor hbody
  obtain ⟨ap, cp, rfl⟩ := hp.form
  obtain ⟨aq, cq, rfl⟩ := hq.form
  refine Fn.mk2 Try.func62 rfl rfl fun w0 F => ?_
  (refine G.seq ?_; refine G.region ?_; refine GO.box rfl rfl rfl fun b2 => ?_; refine GO.box rfl rfl rfl fun b3 => ?_; refine GO.assign rfl rfl ?_; refine GO.nil ?_; refine kthen_n ?_; refine G.seq ?_)
  refine G.draw 17 (by kernel_rfl) ?_
  ((apply GQ.step; focus (intro Z; refine GO.fieldAddr rfl rfl ?_; exact KQ.z)); (apply GQ.step; focus (intro Z; refine GO.load1 rfl rfl rfl (Tk.t Tk.h) rfl ?_; exact KQ.z)); (apply GQ.step; focus (intro Z; refine GO.fieldAddr rfl rfl ?_; exact KQ.z)); (apply GQ.step; focus (intro Z; refine GO.load1 rfl rfl rfl Tk.h rfl ?_; exact KQ.z)))
  apply GQ.step; focus (intro Z; refine GO.call2 rfl rfl rfl (hc1) Tks.n ?_; rintro _ _ ⟨rfl, rfl⟩; refine GO.nil (KQ.s ?_); ((refine Sb.c Tk.h ?_; refine Sb.c Tk.h ?_; refine Sb.c Tk.h ?_); (exact Sb.r)))
  ((apply GQ.step; focus (intro Z; refine GO.fieldAddr rfl rfl ?_; exact KQ.z)); (apply GQ.step; focus (intro Z; refine GO.load1 rfl rfl rfl (Tk.t Tk.h) rfl ?_; exact KQ.z)); (apply GQ.step; focus (intro Z; refine GO.lenS rfl rfl ?_; exact KQ.z)); (apply GQ.step; focus (intro Z; refine GO.fieldAddr rfl rfl ?_; exact KQ.z)); (apply GQ.step; focus (intro Z; refine GO.load1 rfl rfl rfl Tk.h rfl ?_; exact KQ.z)); (apply GQ.step; focus (intro Z; refine GO.lenS rfl rfl ?_; exact KQ.z)))
  apply GQ.step; focus (intro Z; refine GO.call2 rfl rfl rfl (hc2) Tks.n ?_; rintro _ _ ⟨rfl, rfl⟩; refine GO.nil (KQ.s ?_); ((refine Sb.c Tk.h ?_; refine Sb.c Tk.h ?_; refine Sb.c Tk.h ?_); (exact Sb.r)))
  ((apply GQ.step; focus (intro Z; refine GO.fieldAddr rfl rfl ?_; exact KQ.z)); (apply GQ.step; focus (intro Z; refine GO.load1 rfl rfl rfl (Tk.t Tk.h) rfl ?_; exact KQ.z)); (apply GQ.step; focus (intro Z; refine GO.fieldAddr rfl rfl ?_; exact KQ.z)); (apply GQ.step; focus (intro Z; refine GO.load1 rfl rfl rfl Tk.h rfl ?_; exact KQ.z)))
  apply GQ.step; focus (intro Z; refine GO.call3 rfl rfl rfl rfl (hbody) (Tks.c (Tk.t (Tk.t Tk.h)) Tks.n) ?_; rintro _ _ ⟨rfl, rfl⟩; refine GO.nil (KQ.s ?_); ((refine Sb.c (Tk.t Tk.h) ?_; refine Sb.c (Tk.t Tk.h) ?_; refine Sb.c Tk.h ?_); (exact Sb.r)))
  (refine GQ.nil ?_)
  skip
  refine GO.buildSlice3 (n := 1) rfl rfl rfl rfl (by intro v hv; simp only [List.mem_cons, List.not_mem_nil, or_false] at hv; rcases hv with rfl | rfl | rfl <;> rfl) rfl ⟨by omega, by omega⟩ fun bs => ?_
  skip
  refine GO.call1 rfl rfl (hor bs) (Tks.c Tk.h Tks.n) ?_
  rintro _ _ ⟨rfl, rfl⟩
  (refine GO.assign rfl rfl ?_; refine GO.nil ?_; refine kthen_n ?_; refine G.ret ?_)
  refine KF2.r1 rfl (RV.t rfl) ⟨rfl, rfl⟩ (ImpS.sb ?_)
  ((refine Sb.c (Tk.t (Tk.t (Tk.t Tk.h))) ?_); (refine Sb.s ?_; refine Sb.s ?_; refine Sb.s ?_; exact Sb.r))
set_option maxHeartbeats 8000000 in
theorem sameP_spec (z : HP) (p q : ProdD) (pv qv : Value) (hp : SymsR z pv p.2) (hq : SymsR z qv q.2) (hn : ¬ 140737488355328 < p.2.length) :
    Fn Try.prog 64 #[.agg #[i64 p.1, pv], .agg #[i64 q.1, qv]] [z] (fun r Q => r = .bool (decide (p = q)) ∧ Q = [z]) := by
  have ho := order_spec z p q pv qv hp hq hn
  have he : decide (orderC p q = 0) = decide (p = q) := by rw [decide_eq_decide]; exact orderC_zero
  obtain ⟨ap, cp, rfl⟩ := hp.form
  obtain ⟨aq, cq, rfl⟩ := hq.form
  generalize orderC p q = c at ho he
  refine Fn.mk2 Try.func64 rfl rfl fun w0 F => ?_
  (refine G.seq ?_; refine G.region ?_; refine GO.box rfl rfl rfl fun b2 => ?_; refine GO.box rfl rfl rfl fun b3 => ?_; refine GO.assign rfl rfl ?_; refine GO.nil ?_; refine kthen_n ?_; refine G.seq ?_; refine G.region ?_; refine GO.loadW rfl rfl rfl (Tk.t Tk.h) rfl ?_; refine GO.loadW rfl rfl rfl Tk.h rfl ?_)
  refine GO.call2 rfl rfl rfl (ho) (Tks.c (Tk.t (Tk.t Tk.h)) Tks.n) ?_
  rintro _ _ ⟨rfl, rfl⟩
  (refine GO.eqi rfl rfl rfl ?_; refine GO.assign rfl rfl ?_; refine GO.nil ?_; refine kthen_n ?_; refine G.ret ?_)
  refine KF2.r1 rfl (RV.t rfl) ⟨by rw [← he], rfl⟩ (ImpS.sb ?_)
  ((refine Sb.c Tk.h ?_); (refine Sb.s ?_; refine Sb.s ?_; exact Sb.r))
end Go.Proofs.Ytcemehocbemfmaa
namespace Go.Proofs.Ytcemehocbemfmaa
open Go
/-- Productions in their order, maybe some more than once. -/
def Srt (ps : List ProdD) : Prop := ps.Pairwise fun p q => prodLt q p = false
theorem Srt.le {ps : List ProdD} (h : Srt ps) {i j : Nat} {p q : ProdD} (hp : ps[i]? = some p) (hq : ps[j]? = some q) (hij : i ≤ j) : p = q ∨ prodLt p q = true := by
  by_cases e : i = j
  · subst e
    rw [hp] at hq
    injection hq with hq
    exact .inl hq
  · obtain ⟨h1, e1⟩ := List.getElem?_eq_some_iff.1 hp
    obtain ⟨h2, e2⟩ := List.getElem?_eq_some_iff.1 hq
    have := (List.pairwise_iff_getElem.1 h) i j h1 h2 (by omega)
    rw [e1, e2] at this
    by_cases e3 : p = q
    · exact .inl e3
    · have h4 := prodLt_tri e3
      rw [this] at h4
      exact .inr h4
theorem Srt.snoc {ps : List ProdD} (h : Srt ps) {t : Nat} {x y : ProdD} (hx : ps[t + 1]? = some x) (hy : ps[t]? = some y) (hne : x ≠ y) {zs : List ProdD} (hz : Ups zs) (hm : ∀ p, p ∈ zs ↔ p ∈ ps.take (t + 1)) : Ups (zs ++ [x]) := by
  have hyx : prodLt y x = true := (h.le hy hx (by omega)).resolve_left (fun e => hne e.symm)
  refine List.pairwise_append.2 ⟨hz, List.pairwise_singleton .., fun p hp q hq => ?_⟩
  rw [List.mem_singleton.1 hq]
  obtain ⟨j, hj⟩ := List.getElem?_of_mem ((hm p).1 hp)
  have hjl := (List.getElem?_eq_some_iff.1 hj).1
  rw [List.length_take] at hjl
  rw [List.getElem?_take, if_pos (by omega)] at hj
  rcases h.le hj hy (by omega) with e | e
  · rw [e]; exact hyx
  · exact prodLt_trans e hyx
theorem take_mem {ps : List ProdD} {t : Nat} {x : ProdD} (hx : ps[t]? = some x) (p : ProdD) : p ∈ ps.take (t + 1) ↔ p ∈ ps.take t ∨ p = x := by
  rw [List.take_add_one, hx, List.mem_append]
  simp
theorem Ups.one (p : ProdD) : Ups [p] := List.pairwise_singleton ..
theorem Cp.cut {z : HP} : ∀ {ps : List ProdD} {xs : List (Int × Value)} (k : Nat), Cp z ps xs → Cp z (ps.take k) (xs.take k)
  | _, _, 0, _ => by rw [List.take_zero, List.take_zero]; trivial
  | [], [], k + 1, _ => trivial
  | _ :: _, _ :: _, k + 1, h => ⟨h.1, Cp.cut k h.2⟩
  | [], _ :: _, _ + 1, h => h.elim
  | _ :: _, [], _ + 1, h => h.elim
attribute [local irreducible] G GO GR GT Fn FnV pt init exs pur sat own ImpS symsV
theorem sameV (z : HP) {p q : ProdD} {x y : Int × Value} (hx1 : x.1 = p.1) (hx2 : SymsR z x.2 p.2) (hy1 : y.1 = q.1) (hy2 : SymsR z y.2 q.2) (hn : ¬ 140737488355328 < p.2.length) :
    FnV Try.prog (.func (.func 64) #[] #[]) [.agg #[i64 x.1, x.2], .agg #[i64 y.1, y.2]] [z] (fun r Q => r = .bool (decide (p = q)) ∧ Q = [z]) := by
  rw [hx1, hy1]
  exact FnV.of (args := [.agg #[i64 p.1, x.2], .agg #[i64 q.1, y.2]]) (caps := []) (sameP_spec z p q x.2 y.2 hx2 hy2 hn)
theorem row_duo {b : Nat} {ys : List (Int × Value)} {rst : List Value} {T : TypeId} {j : Nat} {y : Int × Value} (h : ys[j]? = some y) : Rd (pt b (row (pvs ys ++ rst) T)) ⟨b, 0 + j * 2, none⟩ (i64 y.1) ∧ Rd (pt b (row (pvs ys ++ rst) T)) ⟨b, 0 + j * 2 + 1, none⟩ y.2 := by
  obtain ⟨c1, c2⟩ := duo_get (f := i64) (g := id) h
  have hlen : (pvs ys).length = ys.length * 2 := duo_len ys
  have hl := (List.getElem?_eq_some_iff.1 h).1
  exact ⟨Rd.row (by rw [Nat.zero_add, List.getElem?_append_left (by omega)]; exact c1), Rd.row (by rw [Nat.zero_add, List.getElem?_append_left (by omega)]; exact c2)⟩
set_option maxRecDepth 40000 in
set_option maxHeartbeats 16000000 in
theorem compactP_spec (z : HP) (v : Value) (xs : List (Int × Value)) (ps : List ProdD) (hc : Cp z ps xs) (hs : Srt ps) (hn : ¬ 1152921504606846976 < xs.length) (hb : ∀ p ∈ ps, ¬ 140737488355328 < p.2.length) :
    Fn Try.prog 63 #[v, .func (.func 64) #[] #[]] [own 42 2 xs.length v (pvs xs), z]
      (fun r Q => ∃ zs ys, Cp z zs ys ∧ Ups zs ∧ (∀ p, p ∈ zs ↔ p ∈ ps) ∧ ys.length ≤ xs.length ∧ Q = [own 42 2 ys.length r (pvs ys), z]) := by
  have hcl := hc.len
  have h1 := hc.one
  refine Fn.mk2 Try.func63 rfl rfl fun w0 F => ?_
  (refine G.seq ?_; refine G.region ?_; refine GO.assign rfl rfl ?_; refine GO.nil ?_; refine kthen_n ?_; refine G.seq ?_; refine G.seq ?_; refine G.region ?_; refine GO.move rfl rfl ?_; refine GO.lenOwn rfl rfl Tk.h ?_; refine GO.lti rfl rfl rfl ?_; refine GO.nil ?_; refine kthen_n ?_)
  refine G.condD rfl (fun hlt => ?_) (fun hge => ?_)
  · (refine G.seq ?_; refine G.region ?_; refine GO.move rfl rfl ?_; refine GO.assign rfl rfl ?_; refine GO.nil ?_; refine kthen_n ?_; refine G.ret ?_; refine kthen_r ?_)
    refine KF2.r1 rfl (RV.t rfl) ⟨ps, xs, hc, ?_, fun p => Iff.rfl, Nat.le_refl _, rfl⟩ (ImpS.sb ?_)
    · match ps, hcl with
      | [], _ => exact List.Pairwise.nil
      | [p], _ => exact Ups.one p
      | _ :: _ :: _, hcl => exact absurd hcl (by simp only [List.length_cons]; omega)
    · ((refine Sb.c Tk.h ?_; refine Sb.c Tk.h ?_); (exact Sb.r))
  · refine G.own_open (F := z :: F) Tk.h (fun _ h _ => ?_) (fun b cap rst hv g1 g2 g3 g4 => ?_)
    · exfalso; omega
    subst hv
    unfold maxLen at g3
    (refine G.skip ?_; refine kthen_n ?_; refine G.seq ?_; refine G.seq ?_; refine G.region ?_; refine GO.assign rfl rfl ?_; refine GO.nil ?_; refine kthen_n ?_; refine G.block ?_)
    refine G.loop (fun k : Nat => [(0, .slice (some ⟨b, 0, none⟩) xs.length cap), (1, .func (.func 64) #[] #[]), (5, i64 ((k + 1 : Nat) : Int))]) (fun _ => pt b (row (pvs xs ++ rst) 42) :: z :: F) (fun k => k + 1 ≤ xs.length ∧ Ups (ps.take (k + 1))) (fun k => xs.length - k) 0 ⟨by omega, ?_⟩ ?_ ?_ ?_
    · match ps, hcl with
      | p :: ps, _ => rw [List.take_succ_cons, List.take_zero]; exact Ups.one p
      | [], hcl => exact absurd hcl (by simp only [List.length_nil]; omega)
    · (refine SubE.c rfl rfl ?_; refine SubE.c rfl rfl ?_; refine SubE.c rfl rfl ?_; exact SubE.n)
    · ((refine Sb.c Tk.h ?_; refine Sb.c Tk.h ?_); (exact Sb.r))
    · rintro k ⟨hk, hU⟩
      (refine G.seq ?_; refine G.seq ?_; refine G.region ?_; refine GO.move rfl rfl ?_; refine GO.move rfl rfl ?_; refine GO.lenS rfl rfl ?_; refine GO.lti rfl rfl rfl ?_; refine GO.nil ?_; refine kthen_n ?_)
      refine G.condD rfl (fun hlt => ?_) (fun hge2 => ?_)
      · have hkl : k + 1 < xs.length := by omega
        obtain ⟨px, hpx⟩ : ∃ p, ps[k + 1]? = some p := ⟨_, List.getElem?_eq_getElem (by omega)⟩
        obtain ⟨py, hpy⟩ : ∃ p, ps[k]? = some p := ⟨_, List.getElem?_eq_getElem (by omega)⟩
        obtain ⟨x, hx, hx1, hx2⟩ := hc.get hpx
        obtain ⟨y, hy, hy1, hy2⟩ := hc.get hpy
        obtain ⟨a1, a2⟩ := row_duo (b := b) (rst := rst) (T := 42) hx
        obtain ⟨a3, a4⟩ := row_duo (b := b) (rst := rst) (T := 42) hy
        have hcall := sameV z hx1 hx2 hy1 hy2 (hb _ (List.mem_of_getElem? hpx))
        (refine G.skip ?_; refine kthen_n ?_; refine G.seq ?_; refine G.block ?_; refine G.seq ?_)
        refine G.draw 10 (by kernel_rfl) ?_
        ((apply GQ.step; focus (intro Z; refine GO.move rfl rfl ?_; exact KQ.z)); (apply GQ.step; focus (intro Z; refine GO.move rfl rfl ?_; exact KQ.z)); (apply GQ.step; focus (intro Z; refine GO.move rfl rfl ?_; exact KQ.z)); (apply GQ.step; focus (intro Z; refine GO.idxS rfl rfl rfl ⟨rfl, by omega⟩ ?_; exact KQ.z)); (apply GQ.step; focus (intro Z; refine GO.load2 rfl rfl rfl Tk.h (by assumption) (by assumption) ?_; exact KQ.z)); (apply GQ.step; focus (intro Z; refine GO.move rfl rfl ?_; exact KQ.z)); (apply GQ.step; focus (intro Z; refine GO.move rfl rfl ?_; exact KQ.z)); (apply GQ.step; focus (intro Z; refine GO.subi rfl rfl rfl (by omega) ?_; exact KQ.z)))
        apply GQ.step; focus (intro Z; refine GO.idxS (j := k) rfl rfl rfl ⟨by omega, by omega⟩ ?_; exact KQ.z)
        ((apply GQ.step; focus (intro Z; refine GO.load2 rfl rfl rfl Tk.h (by assumption) (by assumption) ?_; exact KQ.z)); refine GQ.nil ?_)
        skip
        refine GO.callV2 rfl rfl rfl rfl hcall (Tks.c (Tk.t Tk.h) Tks.n) ?_
        rintro _ _ ⟨rfl, rfl⟩
        (refine GO.nil ?_; refine kthen_n ?_)
        refine G.condD rfl (fun heq => ?_) (fun hne => ?_)
        · subst heq
          (refine G.seq ?_; refine G.region ?_; refine GO.move rfl rfl ?_; refine GO.move rfl rfl ?_)
          refine GO.sliceLo (l := k + 1) rfl rfl rfl ⟨rfl, by omega, by omega⟩ ?_
          (refine GO.assign rfl rfl ?_; refine GO.nil ?_; refine kthen_n ?_; refine G.seq ?_; refine G.seq ?_; refine G.region ?_; refine GO.assign rfl rfl ?_; refine GO.nil ?_; refine kthen_n ?_; refine G.block ?_)
          refine G.loop3 (fun (i j : Nat) (_ : List (Int × Value)) => [(0, .slice (some ⟨b, 0, none⟩) xs.length cap), (1, .func (.func 64) #[] #[]), (5, i64 (i : Nat)), (6, .slice (some ⟨b, 0 + (k + 1) * 2, none⟩) (xs.length - (k + 1)) (cap - (k + 1))), (7, i64 ((j + 1 : Nat) : Int))]) (fun _ _ ys => pt b (row (pvs ys ++ rst) 42) :: z :: F)
            (fun i j ys => k + 1 + j + 1 ≤ xs.length ∧ ys.length = xs.length ∧ 1 ≤ i ∧ i ≤ k + 1 + j ∧ ys.drop (k + 1 + j) = xs.drop (k + 1 + j) ∧ ∃ zs, zs.length = i ∧ Cp z zs (ys.take i) ∧ Ups zs ∧ ∀ p, p ∈ zs ↔ p ∈ ps.take (k + 1 + j + 1)) (fun _ j _ => xs.length - j) (k + 1) 0 xs
            ⟨by omega, rfl, by omega, by omega, rfl, ps.take (k + 1), by rw [List.length_take]; omega, hc.cut _, hU, fun p => ?_⟩ ?_ ?_ ?_
          · rw [Nat.add_zero, take_mem hpx, take_mem hpy]
            constructor
            · intro h; exact .inl h
            · rintro (h | h)
              · exact h
              · exact .inr h
          · (refine SubE.c rfl rfl ?_; refine SubE.c rfl rfl ?_; refine SubE.c rfl rfl ?_; refine SubE.c rfl rfl ?_; refine SubE.c rfl rfl ?_; exact SubE.n)
          · ((refine Sb.c (Tk.t Tk.h) ?_; refine Sb.c Tk.h ?_); (exact Sb.r))
          · rintro i j ys ⟨hj, hyl, hi1, hij, hdr, zs, hzl, hzc, hzu, hzm⟩
            (refine G.seq ?_; refine G.seq ?_; refine G.region ?_; refine GO.move rfl rfl ?_; refine GO.move rfl rfl ?_; refine GO.lenS rfl rfl ?_; refine GO.lti rfl rfl rfl ?_; refine GO.nil ?_; refine kthen_n ?_)
            refine G.condD rfl (fun hlt3 => ?_) (fun hge3 => ?_)
            · have hjl : k + 1 + j + 1 < xs.length := by omega
              obtain ⟨qx, hqx⟩ : ∃ p, ps[k + 1 + j + 1]? = some p := ⟨_, List.getElem?_eq_getElem (by omega)⟩
              obtain ⟨qy, hqy⟩ : ∃ p, ps[k + 1 + j]? = some p := ⟨_, List.getElem?_eq_getElem (by omega)⟩
              obtain ⟨u, hu, hu1, hu2⟩ := hc.get hqx
              obtain ⟨t, ht, ht1, ht2⟩ := hc.get hqy
              have hat : ∀ m, k + 1 + j ≤ m → ys[m]? = xs[m]? := fun m hm => by
                have := congrArg (fun l => l[m - (k + 1 + j)]?) hdr
                simp only [List.getElem?_drop] at this
                rwa [show k + 1 + j + (m - (k + 1 + j)) = m by omega] at this
              have hu' := hu
              have ht' := ht
              rw [← hat _ (by omega)] at hu' ht'
              obtain ⟨a5, a6⟩ := row_duo (b := b) (rst := rst) (T := 42) hu'
              obtain ⟨a7, a8⟩ := row_duo (b := b) (rst := rst) (T := 42) ht'
              have e1 : 0 + (k + 1) * 2 + (j + 1) * 2 = 0 + (k + 1 + j + 1) * 2 := by omega
              have e2 : 0 + (k + 1) * 2 + j * 2 = 0 + (k + 1 + j) * 2 := by omega
              have hcall2 := sameV z hu1 hu2 ht1 ht2 (hb _ (List.mem_of_getElem? hqx))
              have h1u : Value.oneCell' u.2 = true := h1 u (List.mem_of_getElem? hu)
              (refine G.skip ?_; refine kthen_n ?_; refine G.seq ?_; refine G.block ?_; refine G.seq ?_)
              rw [← e1] at a5 a6
              rw [← e2] at a7 a8
              refine G.draw 10 (by kernel_rfl) ?_
              ((apply GQ.step; focus (intro Z; refine GO.move rfl rfl ?_; exact KQ.z)); (apply GQ.step; focus (intro Z; refine GO.move rfl rfl ?_; exact KQ.z)); (apply GQ.step; focus (intro Z; refine GO.move rfl rfl ?_; exact KQ.z)); (apply GQ.step; focus (intro Z; refine GO.idxS rfl rfl rfl ⟨rfl, by omega⟩ ?_; exact KQ.z)); (apply GQ.step; focus (intro Z; refine GO.load2 rfl rfl rfl Tk.h (by assumption) (by assumption) ?_; exact KQ.z)); (apply GQ.step; focus (intro Z; refine GO.move rfl rfl ?_; exact KQ.z)); (apply GQ.step; focus (intro Z; refine GO.move rfl rfl ?_; exact KQ.z)); (apply GQ.step; focus (intro Z; refine GO.subi rfl rfl rfl (by omega) ?_; exact KQ.z)))
              apply GQ.step; focus (intro Z; refine GO.idxS (j := j) rfl rfl rfl ⟨by omega, by omega⟩ ?_; exact KQ.z)
              ((apply GQ.step; focus (intro Z; refine GO.load2 rfl rfl rfl Tk.h (by assumption) (by assumption) ?_; exact KQ.z)); refine GQ.nil ?_)
              skip
              refine GO.callV2 rfl rfl rfl rfl hcall2 (Tks.c (Tk.t Tk.h) Tks.n) ?_
              rintro _ _ ⟨rfl, rfl⟩
              have hdr1 : ys.drop (k + 1 + (j + 1)) = xs.drop (k + 1 + (j + 1)) := by
                have := congrArg (fun l => l.drop 1) hdr
                simpa [List.drop_drop, Nat.add_assoc] using this
              cases hqq : decide (qx = qy) with
              | true =>
                have eqq := of_decide_eq_true hqq
                (refine GO.not rfl rfl ?_; refine GO.nil ?_; refine kthen_n ?_; refine G.condF rfl rfl ?_; refine G.skip ?_; refine kblock_n ?_; refine kthen_n ?_; refine G.region ?_; refine GO.move rfl rfl ?_; refine GO.addi rfl rfl rfl (by omega) ?_; refine GO.assign rfl rfl ?_; refine GO.nil ?_; refine kthen_n ?_)
                refine ⟨i, j + 1, ys, ⟨by omega, hyl, hi1, by omega, hdr1, zs, hzl, hzc, hzu, fun p => ?_⟩, by omega, ?_, ?_⟩
                · rw [hzm, show k + 1 + (j + 1) + 1 = k + 1 + j + 1 + 1 by omega, take_mem hqx, take_mem hqy, eqq]
                  constructor
                  · intro h; exact .inl h
                  · rintro (h | h)
                    · exact h
                    · exact .inr h
                · (refine SubE.c rfl rfl ?_; refine SubE.c rfl rfl ?_; refine SubE.c rfl rfl ?_; refine SubE.c rfl rfl ?_; refine SubE.c rfl rfl ?_; exact SubE.n)
                · ((refine Sb.c (Tk.t Tk.h) ?_; refine Sb.c Tk.h ?_); (exact Sb.r))
              | false =>
                have nqq := of_decide_eq_false hqq
                have hil : i < ys.length := by omega
                have hset : (pvs ys ++ rst).take (0 + i * 2) ++ [i64 u.1, u.2] ++ (pvs ys ++ rst).drop (0 + i * 2 + 2) = pvs (ys.set i u) ++ rst := duo_setR (s := u) hil
                have hlen : (pvs ys).length = ys.length * 2 := duo_len ys
                (refine GO.not rfl rfl ?_; refine GO.nil ?_; refine kthen_n ?_; refine G.condT rfl rfl ?_; refine G.seq ?_; refine G.region ?_; refine GO.move rfl rfl ?_; refine GO.move rfl rfl ?_; refine GO.move rfl rfl ?_; refine GO.move rfl rfl ?_; refine GO.idxS rfl rfl rfl ⟨rfl, by omega⟩ ?_; refine GO.load2 rfl rfl rfl (Tk.t Tk.h) (by assumption) (by assumption) ?_; refine GO.idxS rfl rfl rfl ⟨rfl, by omega⟩ ?_)
                refine GO.storeG (l := pvs ys ++ rst) (vs := [i64 u.1, u.2]) rfl rfl rfl rfl (Tk.t Tk.h) (by rw [List.length_append]; simp only [List.length_cons, List.length_nil]; omega) (by simp [Value.oneCell']; exact h1u) ?_
                simp only [List.length_cons, List.length_nil, Nat.zero_add 1, Nat.reduceAdd]
                rw [hset]
                (refine GO.nil ?_; refine kthen_n ?_; refine G.region ?_; refine GO.move rfl rfl ?_; refine GO.addi rfl rfl rfl (by omega) ?_; refine GO.assign rfl rfl ?_; refine GO.nil ?_; refine kblock_n ?_; refine kthen_n ?_; refine G.region ?_; refine GO.move rfl rfl ?_; refine GO.addi rfl rfl rfl (by omega) ?_; refine GO.assign rfl rfl ?_; refine GO.nil ?_; refine kthen_n ?_)
                have hys : (ys.set i u).length = ys.length := List.length_set
                refine ⟨i + 1, j + 1, ys.set i u, ⟨by omega, by omega, by omega, by omega, ?_, zs ++ [qx], by rw [List.length_append, hzl]; rfl, ?_, ?_, fun p => ?_⟩, by omega, ?_, ?_⟩
                · rw [List.drop_set_of_lt (by omega)]; exact hdr1
                · rw [List.take_add_one, List.getElem?_set_self hil, List.take_set_of_le (Nat.le_refl _)]
                  exact Cp.snoc hu1 hu2 hzc
                · exact hs.snoc hqx hqy nqq hzu hzm
                · rw [List.mem_append, List.mem_singleton, hzm, show k + 1 + (j + 1) + 1 = k + 1 + j + 1 + 1 by omega, take_mem hqx]
                · (refine SubE.c rfl rfl ?_; refine SubE.c rfl rfl ?_; refine SubE.c rfl rfl ?_; refine SubE.c rfl rfl ?_; refine SubE.c rfl rfl ?_; exact SubE.n)
                · ((refine Sb.c Tk.h ?_; refine Sb.c Tk.h ?_); (exact Sb.r))
            · have e : k + 1 + j + 1 = xs.length := by omega
              have hlen : (pvs ys).length = ys.length * 2 := duo_len ys
              rw [List.length_append] at g4
              have htl : (ys.take i).length = i := by rw [List.length_take]; omega
              have hlen2 : (pvs (ys.take i)).length = (ys.take i).length * 2 := duo_len _
              rw [e, ← hcl.symm, List.take_length] at hzm
              (refine G.exit ?_; refine kthen_x ?_; refine kthen_x ?_; refine kblock_x ?_; refine kthen_n ?_; refine G.seq ?_; refine G.region ?_; refine GO.move rfl rfl ?_; refine GO.move rfl rfl ?_)
              refine GO.sliceLo (l := i) rfl rfl rfl ⟨rfl, by omega, by omega⟩ ?_
              refine GO.clear (l := pvs ys ++ rst) rfl Tk.h (by omega) (by rw [List.length_append]; simp only [List.length_cons, List.length_nil]; omega) (by simp [Value.oneCell']) fun vs hvs => ?_
              simp only [List.length_cons, List.length_nil] at hvs
              have e1 : (pvs ys ++ rst).take (0 + i * 2) = pvs (ys.take i) := by
                rw [Nat.zero_add, List.take_append_of_le_length (by omega), ← duo_take]
              rw [e1, List.append_assoc]
              (refine GO.nil ?_; refine kthen_n ?_; refine G.seq ?_; refine G.region ?_; refine GO.move rfl rfl ?_; refine GO.move rfl rfl ?_)
              refine GO.sliceHi (l := i) rfl rfl rfl ⟨rfl, by omega⟩ ?_
              refine GO.ownShut (sz := 2) (n := i) (cap := cap) rfl (by rw [hlen2, htl]) (by omega) (by unfold maxLen; omega) (by rw [List.length_append, List.length_append, List.length_drop, List.length_append, hlen2, htl]; omega) ?_
              (refine GO.assign rfl rfl ?_; refine GO.nil ?_; refine kthen_n ?_; refine G.ret ?_; refine kblock_r ?_; refine kthen_r ?_; refine kthen_r ?_; refine kblock_r ?_; refine kthen_r ?_)
              refine KF2.r1 rfl (RV.t rfl) ⟨zs, ys.take i, hzc, hzu, hzm, by omega, rfl⟩ (ImpS.sb ?_)
              rw [htl]
              ((refine Sb.c Tk.h ?_; refine Sb.c Tk.h ?_); (exact Sb.r))
        · (refine G.skip ?_; refine kblock_n ?_; refine kthen_n ?_; refine G.region ?_; refine GO.move rfl rfl ?_; refine GO.addi rfl rfl rfl (by omega) ?_; refine GO.assign rfl rfl ?_; refine GO.nil ?_; refine kthen_n ?_)
          refine ⟨k + 1, ⟨by omega, ?_⟩, by omega, ?_, ?_⟩
          · rw [show ps.take (k + 1 + 1) = ps.take (k + 1) ++ [px] by rw [List.take_add_one, hpx]; rfl]
            exact hs.snoc hpx hpy hne hU fun p => Iff.rfl
          · (refine SubE.c rfl rfl ?_; refine SubE.c rfl rfl ?_; refine SubE.c rfl rfl ?_; exact SubE.n)
          · ((refine Sb.c (Tk.t Tk.h) ?_; refine Sb.c Tk.h ?_); (exact Sb.r))
      · have e : k + 1 = xs.length := by omega
        rw [e, ← hcl.symm, List.take_length] at hU
        (refine G.exit ?_; refine kthen_x ?_; refine kthen_x ?_; refine kblock_x ?_; refine kthen_n ?_; refine G.seq ?_; refine G.region ?_; refine GO.move rfl rfl ?_; refine GO.assign rfl rfl ?_; refine GO.nil ?_; refine kthen_n ?_; refine G.ret ?_)
        refine KF2.r1 rfl (RV.t rfl) ⟨ps, xs, hc, hU, fun p => Iff.rfl, Nat.le_refl _, rfl⟩ ?_
        refine ImpS.own (rest' := rst) rfl g1 g2 (by unfold maxLen; omega) g4 (ImpS.sb ?_)
        ((refine Sb.c Tk.h ?_; refine Sb.c Tk.h ?_); (exact Sb.r))
end Go.Proofs.Ytcemehocbemfmaa
namespace Go.Proofs.Ytcemehocbemfmaa
open Go Go.Sort Go.Shelf Go.RowKit

theorem grown_of {W w' : World} (h : Below W.heap.size W w') (hd : W.drawn ≤ w'.drawn) : ∃ q os', w' = grow (W.drewN q) os' := by
  obtain ⟨e1, e2, e3, e4, e5⟩ := h
  refine ⟨w'.drawn - W.drawn, w'.heap.extract W.heap.size w'.heap.size, ?_⟩
  have hh : w'.heap = W.heap ++ w'.heap.extract W.heap.size w'.heap.size := by
    apply Array.ext_getElem?
    intro k
    by_cases hk : k < W.heap.size
    · rw [e5 k hk, Array.getElem?_append_left hk]
    · rw [Array.getElem?_append_right (by omega), Array.getElem?_extract]
      by_cases h2 : k < w'.heap.size
      · rw [if_pos (by omega)]; congr 1; omega
      · rw [if_neg (by omega)]; exact Array.getElem?_eq_none (by omega)
  generalize w'.heap.extract W.heap.size w'.heap.size = os at hh
  obtain ⟨h1, h2, h3, h4, h5⟩ := w'
  obtain ⟨g1, g2, g3, g4, g5⟩ := W
  simp only at e1 e2 e3 hh hd
  subst e1 e2 e3 hh
  show World.mk (g1 ++ os) h2 h3 h4 h5 = World.mk (g1 ++ os) h2 (g3 + (h3 - g3)) h4 h5
  rw [Nat.add_sub_cancel' hd]
theorem sat_grow {l : List HP} {w : World} (h : sat l w) (os : Array Obj) : sat l (grow w os) := sat_keep h fun b o e => by
  show (w.heap ++ os)[b]? = some o
  rw [Array.getElem?_append_left (Array.getElem?_eq_some_iff.1 e).1]; exact e
section
variable {α : Type}
theorem flat_get {enc : α → List Value} {k : Nat} (hk : ∀ x, (enc x).length = k) {j : Nat} (hj : j < k) : ∀ (l : List α) (i : Nat), (l.flatMap enc)[i * k + j]? = (l[i]?).bind fun x => (enc x)[j]?
  | [], i => by simp
  | x :: l, 0 => by rw [List.flatMap_cons, Nat.zero_mul, Nat.zero_add, List.getElem?_append_left (by rw [hk]; exact hj)]; rfl
  | x :: l, i + 1 => by
    rw [List.flatMap_cons, List.getElem?_append_right (by rw [hk, Nat.add_mul]; omega), hk, show (i + 1) * k + j - k = i * k + j by rw [Nat.add_mul]; omega, flat_get hk hj l i]
    rfl
theorem flat_len {enc : α → List Value} {k : Nat} (hk : ∀ x, (enc x).length = k) : ∀ (l : List α), (l.flatMap enc).length = l.length * k
  | [] => by simp
  | x :: l => by rw [List.flatMap_cons, List.length_append, hk, flat_len hk l, List.length_cons, Nat.add_mul]; omega
variable [Inhabited α]
theorem flatK_list {enc : α → List Value} {k : Nat} (hk : ∀ x, (enc x).length = k) (d : Array α) : (flatK enc k d).toList = d.toList.flatMap enc := by
  apply List.ext_getElem?
  intro t
  by_cases ht : t < d.size * k
  · have hk0 : 0 < k := by rcases Nat.eq_zero_or_pos k with h | h; · subst h; simp at ht
                           · exact h
    have e1 : t / k * k + t % k = t := by rw [Nat.mul_comm]; exact Nat.div_add_mod t k
    have h1 : t / k < d.size := Nat.div_lt_of_lt_mul (by rwa [Nat.mul_comm] at ht)
    have h2 : t % k < k := Nat.mod_lt _ hk0
    have a1 := get_flatK enc k d t ht
    rw [getElem!_pos (flatK enc k d) t (by simpa using ht), getElem!_pos d (t / k) h1, getElem!_pos (enc d[t / k]) (t % k) (by rw [hk]; exact h2)] at a1
    have a2 := flat_get hk h2 d.toList (t / k)
    rw [e1] at a2
    rw [a2, List.getElem?_eq_getElem (by simpa using ht), List.getElem?_eq_getElem (by simpa using h1)]
    simp only [Option.bind_some]
    rw [List.getElem?_eq_getElem (by rw [hk]; exact h2)]
    exact congrArg some a1
  · rw [List.getElem?_eq_none (by simpa using ht), List.getElem?_eq_none (by rw [flat_len hk]; simpa using ht)]
theorem putCells_row (F : Array Value) (l rest : List Value) (h : F.size = l.length) : putCells id 0 F (l ++ rest).toArray = (F.toList ++ rest).toArray := by
  apply Array.ext_getElem?
  intro k
  simp only [putCells, Array.getElem?_mapIdx, List.getElem?_toArray]
  by_cases hk : k < F.size
  · rw [List.getElem?_append_left (by omega), List.getElem?_append_left (by simpa using hk), List.getElem?_eq_getElem (by omega), List.getElem?_eq_getElem (by simpa using hk), Option.map_some, if_pos ⟨by omega, by omega⟩, Nat.sub_zero, getElem!_pos F k hk]
    rfl
  · have e1 : (l ++ rest)[k]? = rest[k - F.size]? := by rw [List.getElem?_append_right (by omega), h]
    have e2 : (F.toList ++ rest)[k]? = rest[k - F.size]? := by rw [List.getElem?_append_right (by simpa using hk)]; simp
    rw [e1, e2]
    cases rest[k - F.size]? with
    | none => rfl
    | some y => rw [Option.map_some, if_neg (by omega)]
theorem perm_list {d d' : Array α} (h : PermIn 0 d.size d d') : d'.toList.Perm d.toList := by
  obtain ⟨h1, _, h3⟩ := h
  have e1 : d.extract 0 d.size = d := by simp
  have e2 : d'.extract 0 d.size = d' := by rw [← h1]; simp
  rwa [e1, e2] at h3
theorem sorted_list {lt : α → α → Bool} {d d' : Array α} (hs : d'.size = d.size) (h : SortedIn lt 0 d.size d') : d'.toList.Pairwise (fun x y => lt y x = false) := by
  rw [List.pairwise_iff_getElem]
  intro i j hi hj hij
  simp only [Array.length_toList] at hi hj
  have := h i j (Nat.zero_le _) hij (by omega)
  rw [getElem!_pos d' i hi, getElem!_pos d' j hj] at this
  simpa using this
theorem sort_fn2 {P : Program} {ρ : Ren} (L : SlLaysF0.n6 P ρ) (k : Nat) (aE : ∀ w, (isAgg (ρ.t 24)).run P w = .ok true w) (zE : ∀ w, (Go.sizeOf (ρ.t 24)).run P w = .ok k w) (enc : α → List Value) (hk : ∀ x, (enc x).length = k) (h1 : ∀ x, ∀ v ∈ enc x, v.oneCell' = true) (cf : α → α → Int) (hO : SWO (Go.Proofs.ltOf cf)) (g : Nat) (cb : Array Value)
    (eg : ∀ args w, (callFunc g args).run P w = .ok (.enter g args) w) (z : HP) (ok : World → α → Prop) (hok : ∀ x W l, sat (z :: l) W → ok W x)
    (hg : ∀ x y W, ok W x → ok W y → Fn P g (#[.agg (enc x).toArray, .agg (enc y).toArray] ++ cb) [init W] (fun r Q => r = .int .i64 (cf x y) ∧ Q = [init W])) (el : TypeId) (xs : List α) (b n cap : Nat) (hn : n = xs.length) (hsz : n < 4611686018427387904) (rest : List Value) :
    Fn P (ρ.f 6) #[.slice (some ⟨b, 0, none⟩) n cap, .func (.func g) #[] cb] [pt b (row (xs.flatMap enc ++ rest) el), z] (fun r Q => r = .tuple #[] ∧ ∃ ys : List α, ys.Perm xs ∧ ys.Pairwise (fun x y => Go.Proofs.ltOf cf y x = false) ∧ Q = [pt b (row (ys.flatMap enc ++ rest) el), z]) := by
  intro F w s
  subst hn
  have s : sat (pt b (row (xs.flatMap enc ++ rest) el) :: z :: F) w := s
  have hb := sat_pt s
  have hlt := (Array.getElem?_eq_some_iff.1 hb).1
  have hfl : (flatK enc k xs.toArray).toList = xs.flatMap enc := flatK_list hk xs.toArray
  have hH : HoldsK enc k w b 0 xs.toArray := by
    intro j hj
    have hj' : j < (xs.flatMap enc).length := by rw [← hfl]; simpa using hj
    have e1 : (flatK enc k xs.toArray)[j]! = (xs.flatMap enc)[j] := by
      rw [getElem!_pos _ j hj]
      have : (flatK enc k xs.toArray).toList[j]? = (xs.flatMap enc)[j]? := by rw [hfl]
      rw [List.getElem?_eq_getElem (by simpa using hj), List.getElem?_eq_getElem hj'] at this
      exact Option.some.inj this
    constructor
    · simp only [World.cell?, hb, row, Nat.zero_add, List.getElem?_toArray]
      rw [List.getElem?_append_left hj', List.getElem?_eq_getElem hj', e1]; rfl
    · simp [World.frozen?, hb, row]
  have key : ∀ (m : Nat) (os : Array Obj) (d' : Array α), d'.size = xs.toArray.size → sat (pt b (row (d'.toList.flatMap enc ++ rest) el) :: z :: F) (sortWorldK enc k w b 0 m d' os) := by
    intro m os d' hsz'
    refine sat_grow (w := putRowK enc k (Sort.ahead w m) b 0 d') (sat_upd (w := w) s ?_ ?_) os
    · show ((w.heap.modify b (onCells (putCells id 0 (flatK enc k d')))))[b]? = _
      rw [Array.getElem?_modify, if_pos rfl, hb]
      simp only [Option.map_some, row, onCells]
      rw [putCells_row _ _ _ (by rw [size_flatK, hsz', flat_len hk]; simp), flatK_list hk]
    · intro j hj
      show ((w.heap.modify b (onCells (putCells id 0 (flatK enc k d')))))[j]? = _
      rw [Array.getElem?_modify, if_neg (Ne.symm hj)]
  have hc : Go.Proofs.CmpLays P g cb enc k cf b 0 xs.toArray.size w := fun m os dk hdk x y => by
    have sk := sat_perm (List.Perm.swap z _ F) (key m os dk hdk)
    exact (callsIn_wide (n := 0)).1 ((hg x y _ (hok x _ _ sk) (hok y _ _ sk) [] _ (sat_init _)).mono fun e w' ⟨v, Q, e1, sm, ⟨e2, e3⟩, q⟩ => by
      subst e1 e2 e3
      exact ⟨rfl, grown_of (init_below sm q) sm.draws⟩)
  have h := Go.Proofs.AnyQ.slices_SortFunc L k aE zE enc hk h1 cf hO g cb b 0 cap xs.toArray w eg hc hH hlt (by simpa using hsz)
  rw [show xs.toArray.size = xs.length by simp] at h
  refine callsIn_wide.2 (h.mono ?_)
  rintro e w' ⟨rfl, d', m, os, hp, hs, rfl⟩
  have hsz' : d'.size = xs.toArray.size := hp.1
  refine ⟨_, _, rfl, ?_, ⟨rfl, d'.toList, by simpa using perm_list hp, sorted_list hsz' (by simpa using hs), rfl⟩, key m os d' hsz'⟩
  refine ⟨rfl, rfl, rfl, ?_, ?_⟩
  · show w.heap.size ≤ (Array.append _ _).size
    simp [putRowK, putRow, mapBlock]
  · show w.drawn ≤ w.drawn + m
    omega
end
end Go.Proofs.Ytcemehocbemfmaa
namespace Go.Proofs.Ytcemehocbemfmaa
open Go Go.Sort Go.Shelf Go.RowKit
/-- A production that lies in memory: its head, a slice for its body. -/
abbrev PV (z : HP) := { x : ProdD × Value // SymsR z x.2 x.1.2 ∧ ¬ 140737488355328 < x.1.2.length }
instance (z : HP) : Inhabited (PV z) := ⟨⟨((0, []), .slice none 0 0), ⟨none, 0, rfl, rfl, fun h => absurd h (by simp)⟩, by simp⟩⟩
def encPV {z : HP} (x : PV z) : List Value := [i64 x.1.1.1, x.1.2]
theorem encPV_one {z : HP} (x : PV z) : ∀ v ∈ encPV x, v.oneCell' = true := by
  intro v hv
  simp only [encPV, List.mem_cons, List.not_mem_nil, or_false] at hv
  rcases hv with rfl | rfl
  · rfl
  · obtain ⟨a, cap, e⟩ := x.2.1.form
    rw [e]; rfl
def cmpPV {z : HP} (x y : PV z) : Int := orderC x.1.1 y.1.1
theorem cmpPV_lt {z : HP} (x y : PV z) : Go.Proofs.ltOf cmpPV x y = prodLt x.1.1 y.1.1 := by
  unfold Go.Proofs.ltOf cmpPV
  rw [Bool.eq_iff_iff, decide_eq_true_iff]
  exact orderC_neg
theorem swoPV (z : HP) : SWO (Go.Proofs.ltOf (cmpPV (z := z))) where
  irrefl x := by rw [cmpPV_lt]; exact prodLt_irr _
  trans x y w h k := by rw [cmpPV_lt] at *; exact prodLt_trans h k
  ntrans x y w h k := by
    rw [cmpPV_lt] at *
    by_cases e1 : x.1.1 = y.1.1
    · rw [e1]; exact k
    · by_cases e2 : y.1.1 = w.1.1
      · rw [← e2]; exact h
      · have h1 := prodLt_tri e1
        have h2 := prodLt_tri e2
        rw [h] at h1
        rw [k] at h2
        have h3 := prodLt_trans (p := w.1.1) (q := y.1.1) (r := x.1.1) (by simpa using h2) (by simpa using h1)
        by_cases e3 : x.1.1 = w.1.1
        · rw [e3]; exact prodLt_irr _
        · rw [prodLt_tri e3, h3]; rfl
theorem SymsR.init {z : HP} {v : Value} {ss : List SymD} (h : SymsR z v ss) {l : List HP} {W : World} (s : sat (z :: l) W) : SymsR (Go.Proofs.Ytcemehocbemfmaa.init W) v ss := by
  obtain ⟨a, cap, e, hl, hr⟩ := h
  exact ⟨a, cap, e, hl, fun h0 => let ⟨b, o, e1, h1⟩ := hr h0; ⟨b, o, e1, fun j u hj => Rd.init (h1 j u hj l W s)⟩⟩
/-- Productions as they lie, out of cells that say them. -/
theorem Cp.pv {z : HP} : ∀ {ps : List ProdD} {xs : List (Int × Value)}, Cp z ps xs → (∀ p ∈ ps, ¬ 140737488355328 < p.2.length) → ∃ ys : List (PV z), ys.flatMap encPV = pvs xs ∧ ys.map (fun y => y.1.1) = ps ∧ ys.length = xs.length
  | [], [], _, _ => ⟨[], rfl, rfl, rfl⟩
  | p :: ps, x :: xs, h, hb => by
    obtain ⟨ys, h1, h2, h3⟩ := Cp.pv h.2 fun q hq => hb q (List.mem_cons_of_mem _ hq)
    refine ⟨⟨(p, x.2), h.1.2, hb p (List.mem_cons_self ..)⟩ :: ys, ?_, by rw [List.map_cons, h2], by rw [List.length_cons, List.length_cons, h3]⟩
    rw [List.flatMap_cons, h1]
    show [i64 p.1, x.2] ++ pvs xs = _
    rw [← h.1.1]; rfl
  | [], _ :: _, h, _ => h.elim
  | _ :: _, [], h, _ => h.elim
theorem pv_cells {z : HP} : ∀ ys : List (PV z), ∃ xs, Cp z (ys.map fun y => y.1.1) xs ∧ ys.flatMap encPV = pvs xs ∧ xs.length = ys.length
  | [] => ⟨[], trivial, rfl, rfl⟩
  | y :: ys => by
    obtain ⟨xs, h1, h2, h3⟩ := pv_cells ys
    exact ⟨(y.1.1.1, y.1.2) :: xs, ⟨⟨rfl, y.2.1⟩, h1⟩, by rw [List.flatMap_cons, h2]; rfl, by rw [List.length_cons, List.length_cons, h3]⟩
attribute [local irreducible] pt Go.Proofs.Ytcemehocbemfmaa.init exs pur sat own ImpS symsV
theorem sortP_row (z : HP) (xs : List (PV z)) (b n cap : Nat) (hn : n = xs.length) (hsz : n < 4611686018427387904) (rest : List Value) :
    Fn Try.prog 61 #[.slice (some ⟨b, 0, none⟩) n cap, .func (.func 62) #[] #[]] [pt b (row (xs.flatMap encPV ++ rest) 42), z]
      (fun r Q => r = .tuple #[] ∧ ∃ ys : List (PV z), ys.Perm xs ∧ ys.Pairwise (fun x y => Go.Proofs.ltOf cmpPV y x = false) ∧ Q = [pt b (row (ys.flatMap encPV ++ rest) 42), z]) :=
  sort_fn2 sortP 2 (fun w => run_isAgg_UL (P := Try.prog) (t := 42) w) (fun w => run_sizeOf_SZ (P := Try.prog) (t := 42) w) encPV (fun _ => rfl) encPV_one cmpPV (swoPV z) 62 #[] (Cal.out (P := Try.prog)) z
    (fun W x => SymsR (Go.Proofs.Ytcemehocbemfmaa.init W) x.1.2 x.1.1.2) (fun x W l s => x.2.1.init s) (fun x y W hx hy => order_spec (Go.Proofs.Ytcemehocbemfmaa.init W) x.1.1 y.1.1 x.1.2 y.1.2 hx hy x.2.2) 42 xs b n cap hn hsz rest
/-- The sort over cells. -/
theorem sortP_own (z : HP) (v : Value) (ps : List ProdD) (xs : List (Int × Value)) (hc : Cp z ps xs) (hb : ∀ p ∈ ps, ¬ 140737488355328 < p.2.length) (hsz : xs.length < 4611686018427387904) :
    Fn Try.prog 61 #[v, .func (.func 62) #[] #[]] [own 42 2 xs.length v (pvs xs), z]
      (fun r Q => r = .tuple #[] ∧ ∃ qs ys, Cp z qs ys ∧ Srt qs ∧ (∀ p, p ∈ qs ↔ p ∈ ps) ∧ ys.length = xs.length ∧ Q = [own 42 2 ys.length v (pvs ys), z]) := by
  intro F w s
  obtain ⟨as_, e1, e2, e3⟩ := hc.pv hb
  have s : sat (own 42 2 xs.length v (pvs xs) :: z :: F) w := s
  rcases own_shape s with ⟨rfl, hx0, hx, s'⟩ | ⟨b, cap, rest, rfl, hx, h1, h2, h3, s'⟩
  · have hxn : xs = [] := List.eq_nil_of_length_eq_zero hx0
    subst hxn
    have hpn : ps = [] := List.eq_nil_of_length_eq_zero hc.len.symm
    subst hpn
    refine callsIn_wide.2 ((Go.Proofs.AnyF.slices_SortFunc_none sortP none 0 _ w).mono ?_)
    rintro e w' ⟨rfl, rfl⟩
    exact ⟨_, _, rfl, Same.refl _, ⟨rfl, [], [], trivial, List.Pairwise.nil, fun p => Iff.rfl, rfl, rfl⟩, s⟩
  · rw [← e1] at s'
    refine (sortP_row z as_ b xs.length cap e3.symm hsz rest F w s').mono ?_
    rintro e w' ⟨_, _, rfl, sm, ⟨rfl, ys, hp, hs, rfl⟩, q⟩
    obtain ⟨zs, g1, g2, g3⟩ := pv_cells ys
    have hzl : zs.length = xs.length := by rw [g3, hp.length_eq, e3]
    have q : sat (pt b (row (ys.flatMap encPV ++ rest) 42) :: z :: F) w' := q
    rw [g2] at q
    have hl2 : (pvs zs).length = zs.length * 2 := duo_len zs
    refine ⟨_, _, rfl, sm, ⟨rfl, ys.map (fun y => y.1.1), zs, g1, ?_, fun p => ?_, hzl, rfl⟩, ?_⟩
    · refine List.pairwise_map.2 (hs.imp fun {x y} h => ?_)
      rw [cmpPV_lt] at h; exact h
    · rw [← e2]
      exact (hp.map _).mem_iff
    · rw [hzl]
      exact own_in rfl (by rw [hl2, hzl]) h1 h2 (by rw [List.length_append, hl2, hzl, ← h3, List.length_append, hx]) q
end Go.Proofs.Ytcemehocbemfmaa
namespace Go.Proofs.Ytcemehocbemfmaa
open Go
attribute [local irreducible] G GO GR GT Fn FnV pt init exs pur sat own ImpS symsV
theorem sorted1_spec (v : Value) : Fn Try.prog 60 #[v] [] (fun r Q => r = .tuple #[] ∧ Q = []) := by
  refine Fn.mk2 Try.func60 rfl rfl fun w0 F => ?_
  (refine G.skip ?_)
  refine KF2.n0 rfl ⟨rfl, rfl⟩ (ImpS.sb ?_)
  (skip; (exact Sb.r))
set_option maxRecDepth 40000 in
set_option maxHeartbeats 16000000 in
theorem with_spec (q : HP) (v : Value) (C : CnfD) (hv : CnfR q v C) (hz : Fits C) :
    Fn Try.prog 59 #[v, .func (.func 60) #[] #[]] [q] (fun r Q => ∃ pv' xs z, r = .agg #[i64 C.nts, pv'] ∧ pv'.oneCell' = true ∧ Cp z C.prods xs ∧ Q = [own 42 2 xs.length pv' (pvs xs), z, q]) := by
  have hz1 := hz.1
  obtain ⟨pv, rfl, hp⟩ := hv
  obtain ⟨a0, cap0, rfl⟩ := hp.form
  refine Fn.mk2 Try.func59 rfl rfl fun w0 F => ?_
  (refine G.seq ?_; refine G.region ?_; refine GO.box rfl rfl rfl fun b2 => ?_; refine GO.alloc rfl fun b4 => ?_; refine GO.nil ?_; refine kthen_n ?_; refine G.seq ?_; refine G.region ?_; refine GO.fieldAddr rfl rfl ?_; refine GO.load1 rfl rfl rfl (Tk.t Tk.h) rfl ?_)
  refine GO.buildPart1 (built_cnf _) rfl rfl ?_
  (refine GO.alloc rfl fun b5 => ?_; refine GO.storeW rfl rfl Tk.h ⟨rfl, rfl⟩ (by simp [Value.oneCell']) ?_; refine GO.nil ?_; refine kthen_n ?_; refine G.seq ?_; refine G.seq ?_; refine G.region ?_; refine GO.fieldAddr rfl rfl ?_; refine GO.load1 rfl rfl rfl (Tk.t (Tk.t Tk.h)) rfl ?_; refine GO.lenS rfl rfl ?_; refine GO.move rfl rfl ?_; refine GO.nil ?_; refine kthen_n ?_; refine G.block ?_)
  refine G.ownNil (T := 42) (sz := 2) ?_
  refine G.imp (H' := pur True :: _) (fun l w s => sat_pur.2 ⟨trivial, s⟩) ?_
  refine G.loop4 (fun (k : Nat) (_ : Value) (_ : List (Int × Value)) (_ : HP) => [(1, .func (.func 60) #[] #[]), (2, .pointer (some ⟨b2, 0, none⟩)), (4, .pointer (some ⟨b4, 0, none⟩)), (5, .pointer (some ⟨b5, 0, none⟩)), (13, .slice a0 C.prods.length cap0), (14, i64 (C.prods.length : Nat)), (15, i64 (k : Nat))])
    (fun k pv xs z => own 42 2 xs.length pv (pvs xs) :: pt b5 (row [i64 C.nts, pv] 24) :: z :: q :: pt b4 (row [i64 0, .slice none 0 0] 24) :: F)
    (fun k pv xs z => k ≤ C.prods.length ∧ xs.length = k ∧ Cp z (C.prods.take k) xs) (fun k _ _ _ => C.prods.length - k) 0 (.slice none 0 0) [] (pur True) ⟨Nat.zero_le _, rfl, by rw [List.take_zero]; trivial⟩ ?_ ?_ ?_
  · (refine SubE.c rfl rfl ?_; refine SubE.c rfl rfl ?_; refine SubE.c rfl rfl ?_; refine SubE.c rfl rfl ?_; refine SubE.c rfl rfl ?_; refine SubE.c rfl rfl ?_; refine SubE.c rfl rfl ?_; exact SubE.n)
  · ((refine Sb.c (Tk.t Tk.h) ?_; refine Sb.c (Tk.t Tk.h) ?_; refine Sb.c Tk.h ?_; refine Sb.c (Tk.t (Tk.t Tk.h)) ?_; refine Sb.c Tk.h ?_); (refine Sb.s ?_; exact Sb.r))
  · rintro k pv xs z ⟨hk, hxk, hc⟩
    (refine G.seq ?_; refine G.region ?_; refine GO.lti rfl rfl rfl ?_; refine GO.nil ?_; refine kthen_n ?_; refine G.seq ?_)
    refine G.condD rfl (fun hlt => ?_) (fun hge => ?_)
    · obtain ⟨p, hpk⟩ : ∃ p, C.prods[k]? = some p := ⟨_, List.getElem?_eq_getElem (by omega)⟩
      have hz2 := hz.2 p (List.mem_of_getElem? hpk)
      obtain ⟨b, o, bv, rfl, _, r1, r2, hs⟩ := hp.at hpk
      obtain ⟨ab, capb, rfl⟩ := hs.form
      have htk : C.prods.take (k + 1) = C.prods.take k ++ [p] := by rw [List.take_add_one, hpk]; rfl
      (refine G.skip ?_; refine kthen_n ?_; refine G.seq ?_; refine G.block ?_; refine G.seq ?_; refine G.region ?_; refine GO.idxS rfl rfl rfl ⟨rfl, by omega⟩ ?_; refine GO.load2 rfl rfl rfl (Tk.t (Tk.t (Tk.t Tk.h))) (by assumption) (by assumption) ?_; refine GO.alloc rfl fun b7 => ?_; refine GO.storeW rfl rfl Tk.h ⟨rfl, rfl⟩ (by simp [Value.oneCell']) ?_; refine GO.nil ?_; refine kthen_n ?_; refine G.seq ?_; refine G.region ?_; refine GO.fieldAddr rfl rfl ?_; refine GO.load1 rfl rfl rfl Tk.h rfl ?_)
      refine GO.call1 rfl rfl (cloneS_spec q _ p.2 hs hz2) (Tks.c (Tk.t (Tk.t (Tk.t (Tk.t Tk.h)))) Tks.n) ?_
      rintro bv5 _ ⟨z5, h5, rfl⟩
      obtain ⟨a5, cap5, rfl⟩ := h5.form
      have hcall := FnV.of (args := [.slice a5 p.2.length cap5]) (caps := []) (sorted1_spec (.slice a5 p.2.length cap5))
      (refine GO.assign rfl rfl ?_; refine GO.nil ?_; refine kthen_n ?_; refine G.seq ?_; refine G.region ?_; refine GO.move rfl rfl ?_; refine GO.move rfl rfl ?_)
      refine GO.callV1 rfl rfl rfl hcall Tks.n ?_
      rintro _ _ ⟨rfl, rfl⟩
      refine GO.mem (H' := own 42 2 xs.length pv (pvs xs) :: pt b5 (row [i64 C.nts, pv] 24) :: z5 :: z :: pt b7 (row [i64 p.1, .slice ab p.2.length capb] 42) :: q :: pt b4 (row [i64 0, .slice none 0 0] 24) :: F) (by ((refine Sb.c (Tk.t (Tk.t (Tk.t Tk.h))) ?_; refine Sb.c (Tk.t (Tk.t (Tk.t Tk.h))) ?_; refine Sb.c Tk.h ?_; refine Sb.c (Tk.t (Tk.t Tk.h)) ?_; refine Sb.c (Tk.t Tk.h) ?_; refine Sb.c Tk.h ?_; refine Sb.c Tk.h ?_); (exact Sb.r))) ?_
      refine GO.ownOne Tk.h fun hone => ?_
      (refine GO.nil ?_; refine kthen_n ?_; refine G.region ?_; refine GO.fieldAddr rfl rfl ?_; refine GO.load1 rfl rfl rfl (Tk.t Tk.h) rfl ?_; refine GO.fieldAddr rfl rfl ?_; refine GO.load1 rfl rfl rfl (Tk.t (Tk.t (Tk.t (Tk.t Tk.h)))) rfl ?_; refine GO.move rfl rfl ?_; refine GO.build2 rfl rfl rfl rfl ?_)
      refine GO.buildSlice1 (n := 2) (v1 := .agg #[i64 p.1, .slice a5 p.2.length cap5]) rfl rfl (fun v hv => by rw [List.mem_singleton.1 hv]; rfl) rfl ⟨by omega, by omega⟩ fun b6 => ?_
      refine GO.appendOwn (m := 1) (news := [i64 p.1, .slice a5 p.2.length cap5]) rfl rfl rfl (Tk.t Tk.h) Tk.h rfl (by simp [Value.oneCell']) ⟨by decide, rfl⟩ Nat.one_pos (by unfold maxLen; omega) (by omega) fun v2 => ?_
      refine GO.ownOne Tk.h fun hone2 => ?_
      rw [show pvs xs ++ [i64 p.1, .slice a5 p.2.length cap5] = pvs (xs ++ [(p.1, .slice a5 p.2.length cap5)]) from (duo_append xs [(p.1, Value.slice a5 p.2.length cap5)]).symm, show xs.length + 1 = (xs ++ [(p.1, Value.slice a5 p.2.length cap5)]).length by simp]
      have hc2 := Cp.snoc (z := star [z5, z]) (p := p) (x := (p.1, .slice a5 p.2.length cap5)) rfl (h5.sup (Sup.left _ _)) (hc.sup (Sup.right z5 z))
      have hxl : (xs ++ [(p.1, Value.slice a5 p.2.length cap5)]).length = k + 1 := by simp; exact hxk
      generalize xs ++ [(p.1, Value.slice a5 p.2.length cap5)] = xs2 at hc2 hxl ⊢
      refine GO.merge (x := z5) (y := z) (Tks.c (Tk.t (Tk.t (Tk.t Tk.h))) (Tks.c (Tk.t (Tk.t (Tk.t Tk.h))) Tks.n)) ?_
      (refine GO.fieldAddr rfl rfl ?_; refine GO.store1 rfl rfl (by assumption) (Tk.t (Tk.t (Tk.t Tk.h))) (by simp) ?_; refine GO.nil ?_; refine kblock_n ?_; refine kthen_n ?_; refine G.region ?_; refine GO.addi rfl rfl rfl (by omega) ?_; refine GO.move rfl rfl ?_; refine GO.nil ?_; refine kthen_n ?_)
      refine ⟨k + 1, v2, xs2, star [z5, z], ⟨by omega, hxl, by rw [htk]; exact hc2⟩, by omega, ?_, ?_⟩
      · (refine SubE.c rfl rfl ?_; refine SubE.c rfl rfl ?_; refine SubE.c rfl rfl ?_; refine SubE.c rfl rfl ?_; refine SubE.c rfl rfl ?_; refine SubE.c rfl rfl ?_; refine SubE.c rfl rfl ?_; exact SubE.n)
      · ((refine Sb.c (Tk.t (Tk.t Tk.h)) ?_; refine Sb.c Tk.h ?_; refine Sb.c Tk.h ?_; refine Sb.c (Tk.t (Tk.t Tk.h)) ?_; refine Sb.c (Tk.t (Tk.t Tk.h)) ?_); (refine Sb.s ?_; refine Sb.s ?_; exact Sb.r))
    · have e : k = C.prods.length := by omega
      rw [e, List.take_length] at hc
      refine G.ownOne Tk.h fun hone => ?_
      (refine G.exit ?_; refine kthen_x ?_; refine kthen_x ?_; refine kblock_x ?_; refine kthen_n ?_; refine G.seq ?_; refine G.region ?_; refine GO.loadW rfl rfl rfl (Tk.t Tk.h) rfl ?_; refine GO.storeW rfl rfl (Tk.t (Tk.t (Tk.t (Tk.t Tk.h)))) ⟨rfl, rfl⟩ (by simp [Value.oneCell']; assumption) ?_; refine GO.nil ?_; refine kthen_n ?_; refine G.ret ?_)
      refine KF2.r1 rfl (RV.cW rfl rfl Tk.h rfl) ⟨pv, xs, z, rfl, hone, hc, rfl⟩ (ImpS.sb ?_)
      ((refine Sb.c (Tk.t Tk.h) ?_; refine Sb.c (Tk.t (Tk.t Tk.h)) ?_; refine Sb.c (Tk.t (Tk.t Tk.h)) ?_); (refine Sb.s ?_; refine Sb.s ?_; exact Sb.r))
theorem okC_body {C : CnfD} (hz : Fits C) : ∀ p ∈ C.prods, ¬ 140737488355328 < p.2.length := fun p hp => by
  have := hz.2 p hp
  omega
set_option maxRecDepth 40000 in
set_option maxHeartbeats 16000000 in
theorem sorted_spec (q : HP) (v : Value) (C : CnfD) (hv : CnfR q v C) (hz : Fits C) :
    Fn Try.prog 54 #[v] [q] (fun r Q => ∃ pv' xs z zs, r = .agg #[i64 C.nts, pv'] ∧ Cp z zs xs ∧ Ups zs ∧ (∀ p, p ∈ zs ↔ p ∈ C.prods) ∧ Q = [own 42 2 xs.length pv' (pvs xs), z, q]) := by
  have hz1 := hz.1
  have hw := with_spec q v C hv hz
  obtain ⟨pv, rfl, hp⟩ := hv
  obtain ⟨a0, cap0, rfl⟩ := hp.form
  refine Fn.mk2 Try.func54 rfl rfl fun w0 F => ?_
  (refine G.seq ?_; refine G.region ?_; refine GO.box rfl rfl rfl fun b1 => ?_; refine GO.alloc rfl fun b2 => ?_; refine GO.nil ?_; refine kthen_n ?_; refine G.seq ?_; refine G.region ?_; refine GO.loadW rfl rfl rfl (Tk.t Tk.h) rfl ?_)
  refine GO.call2 rfl rfl rfl (hw) (Tks.c (Tk.t (Tk.t Tk.h)) Tks.n) ?_
  rintro _ _ ⟨pv', xs, z, rfl, hone, hc, rfl⟩
  have hcl := hc.len
  (refine GO.alloc rfl fun b3 => ?_; refine GO.storeW rfl rfl Tk.h ⟨rfl, rfl⟩ (by simp [Value.oneCell']; assumption) ?_; refine GO.nil ?_; refine kthen_n ?_; refine G.seq ?_; refine G.region ?_; refine GO.fieldAddr rfl rfl ?_; refine GO.load1 rfl rfl rfl Tk.h rfl ?_)
  refine GO.call2 rfl rfl rfl (sortP_own z pv' C.prods xs hc (okC_body hz) (by omega)) (Tks.c (Tk.t Tk.h) (Tks.c (Tk.t Tk.h) Tks.n)) ?_
  rintro _ _ ⟨rfl, qs, ys, hq, hs, hqm, hyl, rfl⟩
  (refine GO.nil ?_; refine kthen_n ?_; refine G.seq ?_; refine G.region ?_; refine GO.fieldAddr rfl rfl ?_; refine GO.load1 rfl rfl rfl (Tk.t (Tk.t Tk.h)) rfl ?_)
  refine GO.call2 rfl rfl rfl (compactP_spec z pv' ys qs hq hs (by omega) (fun p hp => okC_body hz p ((hqm p).1 hp))) (Tks.c Tk.h (Tks.c Tk.h Tks.n)) ?_
  rintro pv2 _ ⟨zs, us, hzc, hzu, hzm, hul, rfl⟩
  refine GO.ownOne Tk.h fun hone2 => ?_
  (refine GO.fieldAddr rfl rfl ?_; refine GO.store1 rfl rfl (by assumption) (Tk.t (Tk.t Tk.h)) (by simp) ?_; refine GO.nil ?_; refine kthen_n ?_; refine G.seq ?_; refine G.region ?_; refine GO.loadW rfl rfl rfl Tk.h rfl ?_; refine GO.storeW rfl rfl (Tk.t (Tk.t (Tk.t (Tk.t Tk.h)))) ⟨rfl, rfl⟩ (by simp [Value.oneCell']; assumption) ?_; refine GO.nil ?_; refine kthen_n ?_; refine G.ret ?_)
  refine KF2.r1 rfl (RV.cW rfl rfl Tk.h rfl) ⟨pv2, us, z, zs, rfl, hzc, hzu, fun p => (hzm p).trans (hqm p), rfl⟩ (ImpS.sb ?_)
  ((refine Sb.c (Tk.t (Tk.t Tk.h)) ?_; refine Sb.c (Tk.t (Tk.t Tk.h)) ?_; refine Sb.c (Tk.t (Tk.t Tk.h)) ?_); (refine Sb.s ?_; refine Sb.s ?_; refine Sb.s ?_; exact Sb.r))
/-- What Sort answers. -/
def SortR (C : CnfD) (q : HP) (r : Value) (Q : List HP) : Prop :=
  (okC C = true ∧ ∃ pv' xs z zs, r = .tuple #[.agg #[i64 C.nts, pv'], i64 0] ∧ Cp z zs xs ∧ Ups zs ∧ (∀ p, p ∈ zs ↔ p ∈ C.prods) ∧ Q = [own 42 2 xs.length pv' (pvs xs), z, q]) ∨
  (okC C = false ∧ r = .tuple #[.agg #[i64 0, .slice none 0 0], i64 220] ∧ Q = [q])
set_option maxRecDepth 40000 in
set_option maxHeartbeats 16000000 in
theorem sort_spec (q : HP) (v : Value) (C : CnfD) (hv : CnfR q v C) (hz : Fits C) :
    Fn Try.prog 42 #[v] [q] (SortR C q) := by
  have hck := check_spec q v C hv hz
  have hso := sorted_spec q v C hv hz
  obtain ⟨pv, rfl, hp⟩ := hv
  obtain ⟨a0, cap0, rfl⟩ := hp.form
  cases hok : okC C with
  | true =>
    rw [hok, if_pos rfl] at hck
    refine Fn.mk2 Try.func42 rfl rfl fun w0 F => ?_
    (refine G.seq ?_; refine G.region ?_; refine GO.box rfl rfl rfl fun b1 => ?_; refine GO.alloc rfl fun b2 => ?_; refine GO.assign rfl rfl ?_; refine GO.nil ?_; refine kthen_n ?_; refine G.seq ?_; refine G.seq ?_; refine G.region ?_; refine GO.loadW rfl rfl rfl (Tk.t Tk.h) rfl ?_)
    refine GO.call1 rfl rfl (hck) (Tks.c (Tk.t (Tk.t Tk.h)) Tks.n) ?_
    rintro _ _ ⟨rfl, rfl⟩
    (refine GO.assign rfl rfl ?_; refine GO.nil ?_; refine kthen_n ?_; refine G.seq ?_; refine G.region ?_; refine GO.move rfl rfl ?_; refine GO.neF rfl rfl rfl rfl ?_; refine GO.nil ?_; refine kthen_n ?_; refine G.condF rfl rfl ?_; refine G.skip ?_; refine kthen_n ?_; refine G.seq ?_; refine G.region ?_; refine GO.loadW rfl rfl rfl (Tk.t (Tk.t Tk.h)) rfl ?_)
    refine GO.call1 rfl rfl (hso) (Tks.c Tk.h Tks.n) ?_
    rintro _ _ ⟨pv', xs, z, zs, rfl, hc, hu, hm, rfl⟩
    refine GO.ownOne Tk.h fun hone => ?_
    (refine GO.storeW rfl rfl (Tk.t (Tk.t (Tk.t Tk.h))) ⟨rfl, rfl⟩ (by simp [Value.oneCell']; assumption) ?_; refine GO.assign rfl rfl ?_; refine GO.nil ?_; refine kthen_n ?_; refine G.ret ?_)
    refine KF2.r2 rfl (RV.cW rfl rfl Tk.h rfl) (RV.t rfl) (.inl ⟨hok, pv', xs, z, zs, rfl, hc, hu, hm, rfl⟩) (ImpS.sb ?_)
    ((refine Sb.c (Tk.t Tk.h) ?_; refine Sb.c (Tk.t Tk.h) ?_; refine Sb.c (Tk.t Tk.h) ?_); (refine Sb.s ?_; refine Sb.s ?_; exact Sb.r))
  | false =>
    rw [hok, if_neg (by simp)] at hck
    refine Fn.mk2 Try.func42 rfl rfl fun w0 F => ?_
    (refine G.seq ?_; refine G.region ?_; refine GO.box rfl rfl rfl fun b1 => ?_; refine GO.alloc rfl fun b2 => ?_; refine GO.assign rfl rfl ?_; refine GO.nil ?_; refine kthen_n ?_; refine G.seq ?_; refine G.seq ?_; refine G.region ?_; refine GO.loadW rfl rfl rfl (Tk.t Tk.h) rfl ?_)
    refine GO.call1 rfl rfl (hck) (Tks.c (Tk.t (Tk.t Tk.h)) Tks.n) ?_
    rintro _ _ ⟨rfl, rfl⟩
    (refine GO.assign rfl rfl ?_; refine GO.nil ?_; refine kthen_n ?_; refine G.seq ?_; refine G.region ?_; refine GO.move rfl rfl ?_; refine GO.nei rfl rfl rfl ?_; refine GO.nil ?_; refine kthen_n ?_; refine G.condT rfl rfl ?_; refine G.seq ?_; refine G.region ?_; refine GO.build0 rfl ?_; refine GO.move rfl rfl ?_; refine GO.storeW rfl rfl (Tk.t Tk.h) ⟨rfl, rfl⟩ (by simp [Value.oneCell']) ?_; refine GO.assign rfl rfl ?_; refine GO.nil ?_; refine kthen_n ?_; refine G.ret ?_; refine kthen_r ?_)
    refine KF2.r2 rfl (RV.cW rfl rfl Tk.h rfl) (RV.t rfl) (.inr ⟨hok, rfl, rfl⟩) (ImpS.sb ?_)
    ((refine Sb.c (Tk.t Tk.h) ?_); (refine Sb.s ?_; refine Sb.s ?_; exact Sb.r))
end Go.Proofs.Ytcemehocbemfmaa
namespace Go.Proofs.Ytcemehocbemfmaa
open Go
/-- g hands to yield n times what Val tells (values, and pieces that go with them), till that says no more. J i: what memory has when i are over; X i: when yield has said no more at the i-th. -/
def SeqV (P : Program) (g : Value) (n : Nat) (Val : Nat → List Value → List HP → Prop) (Sh Gm : List HP) : Prop :=
  ∃ gf caps, g = .func (.func gf) #[] caps ∧ Cal P gf ∧ ∀ (y : Value) (J X : Nat → HP),
    (∀ i u Y, i < n → Val i u Y → FnV P y u (J i :: (Y ++ Sh)) (fun v Q => (v = .bool true ∧ Q = J (i + 1) :: Sh) ∨ (v = .bool false ∧ Q = X i :: Sh))) →
    Fn P gf (#[y] ++ caps) (J 0 :: (Sh ++ Gm)) (fun _ Q => Q = J n :: (Sh ++ Gm) ∨ ∃ i, i < n ∧ Q = X i :: (Sh ++ Gm))
theorem FnV.starY {P : Program} {y : Value} {u : List Value} {p s : HP} {J J' Y Sh : List HP} (h : FnV P y u ((p :: (J ++ Y)) ++ Sh) (fun v Q => (v = .bool true ∧ Q = (p :: J') ++ Sh) ∨ (v = .bool false ∧ Q = [s] ++ Sh))) :
    FnV P y u (star (p :: J) :: (Y ++ Sh)) (fun v Q => (v = .bool true ∧ Q = star (p :: J') :: Sh) ∨ (v = .bool false ∧ Q = s :: Sh)) := by
  obtain ⟨fn, caps, hv, h⟩ := h
  refine ⟨fn, caps, hv, fun F w s0 => ?_⟩
  have s1 : sat (((p :: (J ++ Y)) ++ Sh) ++ F) w := by
    rw [List.cons_append] at s0
    have := sat_flat.1 s0
    simpa only [List.cons_append, List.append_assoc] using this
  obtain ⟨nx, h1, h2⟩ := h F w s1
  refine ⟨nx, h1, h2.mono fun e w' => ?_⟩
  rintro ⟨v, Q, a, b, x | x, d⟩
  · obtain ⟨rfl, rfl⟩ := x
    refine ⟨_, star (p :: J') :: Sh, a, b, .inl ⟨rfl, rfl⟩, by rw [List.cons_append]; exact sat_flat.2 (by simpa only [List.cons_append, List.append_assoc] using d)⟩
  · obtain ⟨rfl, rfl⟩ := x
    exact ⟨_, s :: Sh, a, b, .inr ⟨rfl, rfl⟩, d⟩
/-- The statement 'for .. := range g { .. }'. -/
theorem G.rangeV {P : Program} {c : Cx} {K : Kont} {L : Env} {H F : List HP} {g : Operand} {psl : List Nat} {x y : Code} {v : Value} {n : Nat} {Val : Nat → List Value → List HP → Prop} {Sh Gm : List HP} (J : Nat → List HP) (X : Nat → Code → List HP)
    (hX : ∀ l0, c.r = some l0 → ∃ r0 X', c.X = pt l0 (.loop r0) :: X') (hN : (psl.all fun p => Nat.blt p c.N) = true) (hlen : ∀ i u Y, i < n → Val i u Y → u.length = psl.length)
    (hg : evl L g = some v) (seq : SeqV P v n Val Sh Gm) (tk : Tks (J 0 ++ (Sh ++ Gm)) H F)
    (round : ∀ l Lr Lb w0 F i u Y, i < n → Val i u Y → G P ⟨some l, c.N, w0, [pt l (.loop Lr)]⟩ x (KA P ⟨some l, c.N, w0, [pt l (.loop Lb)]⟩ y (KB (J (i + 1)) (X i) Sh F)) (envP psl u L) ((J i ++ Y) ++ Sh ++ F))
    (done : K .normal L (J n ++ (Sh ++ Gm) ++ F))
    (stop : ∀ i jc, i < n → G P c jc K L (X i jc ++ (Sh ++ Gm) ++ F)) : G P c (.rangeFunc g psl.toArray x y) K L H := by
  rintro a w ⟨h1, h2, ds, h3, h4, h5⟩
  obtain ⟨gf, caps, rfl, hcal, seq⟩ := seq
  have tk : H.Perm (J 0 ++ (Sh ++ Gm) ++ F) := tk
  refine wpIn_rangeFunc fun fn _ => ?_
  have hge := h1.eval hg
  have main : ∀ (l D : Nat) (ms : List Nat) (w1 : World), (Instr.enterLoop fn a.tmps psl.toArray x y (fen c.r).round).run P w = .ok (l, ms.map mark) w1 → Same w w1 → (c.r.isSome = true → ms = []) →
      sat (pt l (.loop (lrec fn a.tmps psl.toArray x y D .ready none)) :: (H ++ (c.X ++ (ms ++ ds).map dblk))) w1 →
      ∃ (l : Nat) (mark : List Deferred) (w₁ : World) (d : Deferred) (w₁' : World) (f : FuncId) (args : Array Value) (w₂ : World),
      (Instr.enterLoop fn a.tmps psl.toArray x y (fen c.r).round).run P w = .ok (l, mark) w₁ ∧
      (resolve a.eval (rangeCall g l) 0).run P w₁ = .ok d w₁' ∧
      (∀ f', Target.leads P w₁' d.target d.args = some f' → (fen c.r).fn f') ∧
      (invoke d.target d.args).run P w₁' = .ok (.enter f args) w₂ ∧
      ((fen c.r).depth.isSome = true → 1 ≤ 0) ∧
      CallsIn (fen c.r) (0 - 1) P f args w₂ (rangePost (fen c.r) 0 P l (Post c K) { a with defers := mark ++ a.defers }) := by
    intro l D ms w1 hent hsame hms hsat
    refine ⟨l, ms.map mark, w1, { target := .fn (.func gf) caps, args := #[.func (.yield l) #[] #[]] }, w1, gf, #[.func (.yield l) #[] #[]] ++ caps, w1, hent, ?_, fun _ _ => trivial, ?_, fun h => by simp [fen, Fence.wide] at h, ?_⟩
    · have hcv : a.eval (.const (.func (.yield l) #[] #[])) = .func (.yield l) #[] #[] := rfl
      simp [resolve, hge, Deferred.ofValue, hcv]
    · simp [invoke, hcal.out]
    · have hd2 : ms.map mark ++ a.defers = (ms ++ ds).map mark := by rw [h3, List.map_append]
      have hr2 : c.r.isSome = true → ms ++ ds = [] := fun h => by rw [hms h, h4 h]; rfl
      have s0 : sat (star (pt l (.loop (lrec fn a.tmps psl.toArray x y D .ready none)) :: J 0) :: (Sh ++ Gm) ++ (F ++ (c.X ++ (ms ++ ds).map dblk))) w1 := by
        rw [List.cons_append]
        refine sat_flat.2 (sat_perm ?_ hsat)
        simp only [List.cons_append]
        refine List.Perm.cons _ ?_
        have := List.Perm.append_right (c.X ++ (ms ++ ds).map dblk) tk
        simpa only [List.append_assoc] using this
      have hc := seq (.func (.yield l) #[] #[]) (fun i => star (pt l (.loop (lrec fn a.tmps psl.toArray x y D .ready none)) :: J i)) (fun i => Go.Proofs.Ytcemehocbemfmaa.exs fun jc => star (pt l (.loop (lrec fn a.tmps psl.toArray x y D .done (some jc))) :: X i jc))
        (fun i u Y hi hu => FnV.starY (FnV.yield (J := J i ++ Y) (J' := J (i + 1)) (X := X i) hN (hlen i u Y hi hu) (fun ds => h1.defs (ds := ds)) (fun w0 F => round l _ _ w0 F i u Y hi hu)))
      refine calls_round ((hc _ w1 s0).mono ?_)
      rintro en w2 ⟨r, Q, rfl, hsm, hQ, hq⟩
      rcases hQ with rfl | ⟨i, hi, rfl⟩
      · rw [List.cons_append] at hq
        have hq := sat_flat.1 hq
        have hl2 := sat_pt hq
        refine ⟨none, _, run_endLoop hl2 (by simp [lrec]), L, J n ++ (Sh ++ Gm) ++ F, ⟨h1.defs, (h2.trans hsame).trans (hsm.trans (Same.putObj _ _ _)), ms ++ ds, hd2, hr2, ?_⟩, done⟩
        have s5 := sat_upd hq (World.putObj_heap_same (o := .loop { (lrec fn a.tmps psl.toArray x y D .ready none) with state := .exhausted }) (Array.getElem?_eq_some_iff.1 hl2).1) (fun k hk => World.putObj_heap_other hk)
        have := sat_right (l := [pt l _]) s5
        simpa using this
      · obtain ⟨jc, hq⟩ := sat_exs.1 (by simpa using hq)
        have hq := sat_flat.1 hq
        have hl2 := sat_pt hq
        refine ⟨some jc, _, run_endLoop hl2 (by simp [lrec]), ?_⟩
        refine stop i jc hi _ _ ⟨h1.defs, (h2.trans hsame).trans (hsm.trans (Same.putObj _ _ _)), ms ++ ds, hd2, hr2, ?_⟩
        have s5 := sat_upd hq (World.putObj_heap_same (o := .loop { (lrec fn a.tmps psl.toArray x y D .done (some jc)) with state := .exhausted }) (Array.getElem?_eq_some_iff.1 hl2).1) (fun k hk => World.putObj_heap_other hk)
        have := sat_right (l := [pt l _]) s5
        simpa using this
  cases hr : c.r with
  | none =>
    rw [hr] at main
    refine main (w.heap.size + 1) w.heap.size [w.heap.size] _ (run_enterLoop_outer _ _ _ _ _) ((Same.alloc _ _).trans (Same.alloc _ _)) (fun h => by simp at h) ?_
    have s1 := sat_alloc h5 (.deferred (some []))
    have s2 := sat_alloc s1 (.loop (lrec fn a.tmps psl.toArray x y w.heap.size .ready none))
    rw [World.size_alloc] at s2
    refine sat_perm (List.Perm.cons _ ?_) s2
    simp only [List.cons_append, List.nil_append, List.map_cons]
    have e1 : (dblk w.heap.size :: (H ++ (c.X ++ ds.map dblk))).Perm (H ++ (dblk w.heap.size :: (c.X ++ ds.map dblk))) := List.perm_middle.symm
    exact e1.trans (List.Perm.append_left H List.perm_middle.symm)
  | some l0 =>
    obtain ⟨r0, X', hX'⟩ := hX l0 hr
    rw [hr] at main
    have hl0 : w.heap[l0]? = some (.loop r0) := by
      rw [hX'] at h5
      have : sat (pt l0 (.loop r0) :: (H ++ (X' ++ ds.map dblk))) w := sat_perm (by simp only [List.cons_append]; exact List.perm_middle) h5
      exact sat_pt this
    refine main w.heap.size r0.defers [] _ (run_enterLoop_inner hl0 _ _ _ _ _) (Same.alloc _ _) (fun _ => rfl) ?_
    exact sat_alloc h5 _
end Go.Proofs.Ytcemehocbemfmaa
namespace Go.Proofs.Ytcemehocbemfmaa
open Go
section
variable {P : Program} {b : Frame} {a : Act} {k : List Item} {cs : List Frame} {w : World} {Q : Exit → Act → World → Prop} {F : Fence} {n : Nat}
theorem stepR_scope {c : Code} : step P (lone (b.atR a (.code (.scope c) :: k)) cs w) = .next (lone (b.atR a (.code c :: .inScope c :: k)) cs w) :=
  step_lone_go (by simp [stepG, stepG.exec, Frame.atR])
theorem stepR_inScope {c : Code} : step P (lone (b.atR a (.inScope c :: k)) cs w) = .next (lone (b.atR a k) cs w) :=
  step_lone_go (by simp [stepG, stepG.exec, Frame.atR])
theorem wpIn_scope {c : Code} (h : c.wpIn F n P (Exit.noGoto Q) a w) : (Code.scope c).wpIn F n P Q a w := by
  intro b k cs hro hb hr
  have h0 : (lone (b.atR a (.code (.scope c) :: k)) cs w).fenced P F := fenced_calm hb hr rfl
  obtain ⟨e, a₁, w₁, hq, harr⟩ := h b (.inScope c :: k) cs hro hb hr
  cases e with
  | normal => exact ⟨.normal, a₁, w₁, hq, .head h0 stepR_scope (StepsIn.trans harr (.one (fenced_calm hb hr rfl) stepR_inScope))⟩
  | exit id =>
    have hx : exitTo id (.inScope c :: k) = exitTo id k := by simp [exitTo]
    exact ⟨.exit id, a₁, w₁, hq, fun k' hk => .head h0 stepR_scope (harr.1 k' (by rw [hx]; exact hk)), fun hr' hk => let ⟨k₁, h1, h2⟩ := harr.2 hr' (by rw [hx]; exact hk); ⟨k₁, h1, .head h0 stepR_scope h2⟩⟩
  | goto l => exact hq.elim
  | ret => exact ⟨_, a₁, w₁, hq, .of_steps (.one h0 stepR_scope) harr⟩
  | panic ch => exact ⟨_, a₁, w₁, hq, .of_steps (.one h0 stepR_scope) harr⟩
  | outgrown => exact ⟨_, a₁, w₁, hq, .of_steps (.one h0 stepR_scope) harr⟩
end
def kscope (K : Kont) : Kont
  | .goto _, _, _ => False
  | e, L, H => K e L H
section
variable {P : Program} {c : Cx} {K : Kont} {L : Env} {H : List HP}
theorem G.scope {x : Code} (k : G P c x (kscope K) L H) : G P c (.scope x) K L H := by
  intro a w h
  refine wpIn_scope (wpIn_mono (k a w h) ?_)
  rintro e a' w' ⟨L', H', s, q⟩
  cases e with
  | goto l => exact q.elim
  | normal => exact ⟨L', H', s, q⟩
  | exit id => exact ⟨L', H', s, q⟩
  | ret => exact ⟨L', H', s, q⟩
  | panic ch => exact ⟨L', H', s, q⟩
  | outgrown => exact ⟨L', H', s, q⟩
theorem kscope_n (k : K .normal L H) : kscope K .normal L H := k
theorem kscope_r (k : K .ret L H) : kscope K .ret L H := k
theorem kscope_x {id : Nat} (k : K (.exit id) L H) : kscope K (.exit id) L H := k
end
end Go.Proofs.Ytcemehocbemfmaa
namespace Go.Proofs.Ytcemehocbemfmaa
open Go
/-- The places of what may be left out, from i on. -/
def plE (E : Int → Bool) : List SymD → Nat → List Int
  | [], _ => []
  | s :: r, i => (if nulS E s then [(i : Int)] else []) ++ plE E r (i + 1)
theorem plE_snoc (E : Int → Bool) (s : SymD) : ∀ (l : List SymD) (i : Nat), plE E (l ++ [s]) i = plE E l i ++ (if nulS E s then [((i + l.length : Nat) : Int)] else [])
  | [], i => by simp [plE]
  | t :: l, i => by
    rw [List.cons_append]
    unfold plE
    rw [plE_snoc E s l (i + 1), List.append_assoc, List.length_cons, show i + 1 + l.length = i + (l.length + 1) by omega]
theorem plE_len (E : Int → Bool) : ∀ (l : List SymD) (i : Nat), (plE E l i).length = cntE E l
  | [], _ => rfl
  | t :: l, i => by
    unfold plE cntE
    rw [List.length_append, plE_len E l (i + 1)]
    split <;> rfl
theorem plE_lt (E : Int → Bool) : ∀ (l : List SymD) (i : Nat) (x : Int), x ∈ plE E l i → (i : Int) ≤ x ∧ x < ((i + l.length : Nat) : Int)
  | [], _, _, h => by cases h
  | t :: l, i, x, h => by
    unfold plE at h
    rw [List.length_cons]
    rcases List.mem_append.1 h with h | h
    · split at h
      · rw [List.mem_singleton.1 h]; omega
      · cases h
    · have := plE_lt E l (i + 1) x h; omega
theorem plE_app (E : Int → Bool) : ∀ (l m : List SymD) (i : Nat), plE E (l ++ m) i = plE E l i ++ plE E m (i + l.length)
  | [], m, i => by simp [plE]
  | t :: l, m, i => by
    rw [List.cons_append, show plE E (t :: (l ++ m)) i = (if nulS E t then [(i : Int)] else []) ++ plE E (l ++ m) (i + 1) from rfl, show plE E (t :: l) i = (if nulS E t then [(i : Int)] else []) ++ plE E l (i + 1) from rfl]
    rw [plE_app E l m (i + 1), List.append_assoc, List.length_cons, show i + 1 + l.length = i + (l.length + 1) by omega]
/-- What Index answers. -/
def IdxR (l : List Int) (x k : Int) : Prop := (k = -1 ∧ x ∉ l) ∨ ∃ j : Nat, k = (j : Nat) ∧ l[j]? = some x ∧ ∀ i, i < j → l[i]? ≠ some x
theorem idx_place {E : Int → Bool} {ss : List SymD} {i : Nat} {s : SymD} (hs : ss[i]? = some s) {k : Int} (h : IdxR (plE E ss 0) (i : Nat) k) : k = if nulS E s then ((cntE E (ss.take i) : Nat) : Int) else -1 := by
  obtain ⟨hi, e⟩ := List.getElem?_eq_some_iff.1 hs
  have hsp : ss = ss.take i ++ (s :: ss.drop (i + 1)) := by rw [← e, List.getElem_cons_drop, List.take_append_drop]
  have hlt : (ss.take i).length = i := by rw [List.length_take]; omega
  have hpl : plE E ss 0 = plE E (ss.take i) 0 ++ ((if nulS E s then [(i : Int)] else []) ++ plE E (ss.drop (i + 1)) (i + 1)) := by
    conv => lhs; rw [hsp, plE_app, hlt, Nat.zero_add]
    rfl
  have h1 := plE_lt E (ss.take i) 0
  have h2 := plE_lt E (ss.drop (i + 1)) (i + 1)
  have hl := plE_len E (ss.take i) 0
  rw [hlt] at h1
  by_cases hn : nulS E s = true
  · rw [if_pos hn] at hpl ⊢
    have hat : (plE E ss 0)[cntE E (ss.take i)]? = some ((i : Nat) : Int) := by
      rw [hpl, List.getElem?_append_right (by omega), hl, Nat.sub_self]; rfl
    rcases h with ⟨_, hno⟩ | ⟨j, rfl, hj, hfirst⟩
    · exact absurd (List.mem_of_getElem? hat) hno
    · have hjc : ¬ cntE E (ss.take i) < j := fun hlt => hfirst _ hlt hat
      have hcj : ¬ j < cntE E (ss.take i) := fun hlt => by
        rw [hpl, List.getElem?_append_left (by omega)] at hj
        have := h1 _ (List.mem_of_getElem? hj)
        omega
      omega
  · rw [if_neg hn] at hpl ⊢
    rcases h with ⟨h, _⟩ | ⟨j, rfl, hj, _⟩
    · exact h
    · have hm := List.mem_of_getElem? hj
      rw [hpl, List.nil_append] at hm
      rcases List.mem_append.1 hm with hm | hm
      · have := h1 _ hm; omega
      · have := h2 _ hm; omega
theorem bit_left (m c : Nat) (hm : m < 2 ^ 64) : (BitVec.ofNat 64 m >>> c) &&& 1#64 = 1#64 ↔ (m / 2 ^ c) % 2 = 1 := by
  rw [← BitVec.toNat_inj, BitVec.toNat_and, BitVec.toNat_ushiftRight, BitVec.toNat_ofNat, Nat.mod_eq_of_lt hm, Nat.shiftRight_eq_div_pow, show (1#64).toNat = 1 from rfl, Nat.and_one_is_mod]
attribute [local irreducible] G GO GR GT Fn FnV pt init exs pur sat own ImpS symsV intsV
set_option maxHeartbeats 4000000 in
theorem index_spec (q : HP) (lv : Value) (l : List Int) (x : Int) (hv : IntsR q lv l) (hl : ¬ 140737488355328 < l.length) :
    Fn Try.prog 53 #[lv, i64 x] [q] (fun r Q => ∃ k, r = i64 k ∧ IdxR l x k ∧ Q = [q]) := by
  obtain ⟨a, cap, rfl⟩ := hv.form
  refine Fn.mk2 Try.func53 rfl rfl fun w0 F => ?_
  (refine G.seq ?_; refine G.region ?_; refine GO.assign rfl rfl ?_; refine GO.nil ?_; refine kthen_n ?_; refine G.seq ?_; refine G.seq ?_; refine G.region ?_; refine GO.move rfl rfl ?_; refine GO.lenS rfl rfl ?_; refine GO.move rfl rfl ?_; refine GO.nil ?_; refine kthen_n ?_; refine G.block ?_)
  refine G.loop (fun k : Nat => [(0, .slice a l.length cap), (1, i64 x), (7, i64 (l.length : Nat)), (8, i64 (k : Nat))]) (fun _ => q :: F) (fun k => k ≤ l.length ∧ ∀ i, i < k → l[i]? ≠ some x) (fun k => l.length - k) 0 ⟨Nat.zero_le _, fun i h => absurd h (Nat.not_lt_zero _)⟩ ?_ ?_ ?_
  · (refine SubE.c rfl rfl ?_; refine SubE.c rfl rfl ?_; refine SubE.c rfl rfl ?_; refine SubE.c rfl rfl ?_; exact SubE.n)
  · ((refine Sb.c Tk.h ?_); (exact Sb.r))
  · rintro k ⟨hk, hall⟩
    (refine G.seq ?_; refine G.region ?_; refine GO.lti rfl rfl rfl ?_; refine GO.nil ?_; refine kthen_n ?_; refine G.seq ?_)
    refine G.condD rfl (fun hlt => ?_) (fun hge => ?_)
    · obtain ⟨y, hy⟩ : ∃ y, l[k]? = some y := ⟨_, List.getElem?_eq_getElem (by omega)⟩
      obtain ⟨b, o, rfl, _, r1⟩ := hv.at hy
      (refine G.skip ?_; refine kthen_n ?_; refine G.seq ?_; refine G.block ?_; refine G.seq ?_; refine G.region ?_; refine GO.move rfl rfl ?_; refine GO.assign rfl rfl ?_; refine GO.nil ?_; refine kthen_n ?_; refine G.seq ?_; refine G.region ?_; refine GO.move rfl rfl ?_; refine GO.move rfl rfl ?_; refine GO.move rfl rfl ?_; refine GO.idxS rfl rfl rfl ⟨rfl, by omega⟩ ?_; refine GO.loadQ rfl rfl rfl Tk.h (by assumption) ?_; refine GO.eqi rfl rfl rfl ?_; refine GO.nil ?_; refine kthen_n ?_)
      refine G.condD rfl (fun heq => ?_) (fun hne => ?_)
      · (refine G.seq ?_; refine G.region ?_; refine GO.move rfl rfl ?_; refine GO.assign rfl rfl ?_; refine GO.nil ?_; refine kthen_n ?_; refine G.ret ?_; refine kblock_r ?_; refine kthen_r ?_; refine kthen_r ?_; refine kblock_r ?_; refine kthen_r ?_)
        refine KF2.r1 rfl (RV.t rfl) ⟨_, rfl, .inr ⟨k, rfl, by rw [hy, heq], hall⟩, rfl⟩ (ImpS.sb ?_)
        ((refine Sb.c Tk.h ?_); (exact Sb.r))
      · (refine G.skip ?_; refine kblock_n ?_; refine kthen_n ?_; refine G.region ?_; refine GO.addi rfl rfl rfl (by omega) ?_; refine GO.move rfl rfl ?_; refine GO.nil ?_; refine kthen_n ?_)
        refine ⟨k + 1, ⟨by omega, fun i hi => ?_⟩, by omega, ?_, ?_⟩
        · by_cases e : i = k
          · subst e
            rw [hy]
            exact fun e => hne (by injection e with e; exact e.symm)
          · exact hall i (by omega)
        · (refine SubE.c rfl rfl ?_; refine SubE.c rfl rfl ?_; refine SubE.c rfl rfl ?_; refine SubE.c rfl rfl ?_; exact SubE.n)
        · ((refine Sb.c Tk.h ?_); (exact Sb.r))
    · (refine G.exit ?_; refine kthen_x ?_; refine kthen_x ?_; refine kblock_x ?_; refine kthen_n ?_; refine G.seq ?_; refine G.region ?_; refine GO.assign rfl rfl ?_; refine GO.nil ?_; refine kthen_n ?_; refine G.ret ?_)
      refine KF2.r1 rfl (RV.t rfl) ⟨-1, rfl, .inl ⟨rfl, fun hm => ?_⟩, rfl⟩ (ImpS.sb ?_)
      · obtain ⟨i, hi⟩ := List.getElem?_of_mem hm
        exact hall i (by have := (List.getElem?_eq_some_iff.1 hi).1; omega) hi
      · ((refine Sb.c Tk.h ?_); (exact Sb.r))
theorem mask_nil (E : Int → Bool) (m : Nat) (ss : List SymD) (T : TypeId) (v : Value) : own T 2 (maskF E m (ss.take 0)).length v (symsV (maskF E m (ss.take 0))) = own T 2 0 v [] := by
  rw [List.take_zero]
  unfold maskF symsV; rfl
theorem syms_snoc (l : List SymD) (s : SymD) : symsV (l ++ [s]) = symsV l ++ [.bool s.1, i64 s.2] := by
  unfold symsV; simp
/-- What bodies hands over. -/
def BodyV (E : Int → Bool) (ss : List SymD) (i : Nat) (u : List Value) (Y : List HP) : Prop := ∃ v, u = [v] ∧ Y = [own 63 2 (maskF E i ss).length v (symsV (maskF E i ss))]
set_option maxHeartbeats 8000000 in
theorem bodies1_spec (q : HP) (E : Int → Bool) (bv lv : Value) (ss : List SymD) (hb : SymsR q bv ss) (hp : IntsR q lv (plE E ss 0)) (hl : ¬ 1048576 < ss.length) (hc : cntE E ss ≤ 12) (b2 b3 : Nat) :
    SeqV Try.prog (.func (.func 52) #[] #[.pointer (some ⟨b3, 0, none⟩), .pointer (some ⟨b2, 0, none⟩)]) (2 ^ cntE E ss) (BodyV E ss) [q] [pt b3 (row [lv] 30), pt b2 (row [bv] 40)] := by
  refine ⟨_, _, rfl, inferInstance, fun y J X hy => ?_⟩
  have hp12 : 2 ^ cntE E ss ≤ 4096 := Nat.pow_le_pow_right (by omega) hc
  obtain ⟨ab, cb, rfl⟩ := hb.form
  obtain ⟨al, cl, rfl⟩ := hp.form
  have hidx := fun (i : Nat) => index_spec q _ _ (i : Nat) hp (by rw [plE_len]; omega)
  refine Fn.mk2 Try.func52 rfl rfl fun w0 F => ?_
  (refine G.seq ?_; refine G.region ?_; refine GO.load1 rfl rfl rfl (Tk.t (Tk.t Tk.h)) rfl ?_; refine GO.lenS rfl rfl ?_; refine GO.shlu rfl rfl rfl ?_; refine GO.move rfl rfl ?_; refine GO.nil ?_; refine kthen_n ?_; refine G.block ?_)
  have hlen : (plE E ss 0).length = cntE E ss := plE_len E ss 0
  have hsh : (1#64 <<< (plE E ss 0).length).toNat = 2 ^ cntE E ss := by
    rw [hlen, BitVec.toNat_shiftLeft, show (1#64).toNat = 1 from rfl, Nat.shiftLeft_eq, Nat.one_mul, Nat.mod_eq_of_lt]
    omega
  have hof : ∀ m : Nat, m ≤ 4096 → (BitVec.ofNat 64 m).toNat = m := fun m hm => by rw [BitVec.toNat_ofNat, Nat.mod_eq_of_lt]; omega
  refine G.loop (fun m : Nat => [(0, y), (1, .pointer (some ⟨b3, 0, none⟩)), (2, .pointer (some ⟨b2, 0, none⟩)), (11, u64 (1#64 <<< (plE E ss 0).length)), (12, u64 (BitVec.ofNat 64 m))]) (fun m => J m :: q :: pt b3 (row [.slice al (plE E ss 0).length cl] 30) :: pt b2 (row [.slice ab ss.length cb] 40) :: F)
    (fun m => m ≤ 2 ^ cntE E ss) (fun m => 2 ^ cntE E ss - m) 0 (Nat.zero_le _) ?_ ?_ ?_
  · (refine SubE.c rfl rfl ?_; refine SubE.c rfl rfl ?_; refine SubE.c rfl rfl ?_; refine SubE.c rfl rfl ?_; refine SubE.c rfl rfl ?_; exact SubE.n)
  · ((refine Sb.c Tk.h ?_; refine Sb.c Tk.h ?_; refine Sb.c Tk.h ?_; refine Sb.c Tk.h ?_); (exact Sb.r))
  · rintro m hm
    have hadd : BitVec.ofNat 64 m + 1#64 = BitVec.ofNat 64 (m + 1) := (BitVec.ofNat_add m 1).symm
    (refine G.seq ?_; refine G.region ?_; refine GO.lti rfl rfl rfl ?_; refine GO.nil ?_; refine kthen_n ?_; refine G.seq ?_)
    rw [hsh, hof m (by omega)]
    refine G.condD rfl (fun hlt => ?_) (fun hge => ?_)
    · have hml : m < 2 ^ cntE E ss := by omega
      (refine G.skip ?_; refine kthen_n ?_; refine G.seq ?_; refine G.block ?_; refine G.seq ?_; refine G.region ?_; refine GO.move rfl rfl ?_; refine GO.assign rfl rfl ?_; refine GO.nil ?_; refine kthen_n ?_)
      refine G.scope ?_
      (refine G.seq ?_; refine G.region ?_; refine GO.assign rfl rfl ?_; refine GO.nil ?_; refine kthen_n ?_; refine G.seq ?_)
      refine G.label ?_
      refine G.ownNil (T := 63) (sz := 2) ?_
      (refine G.seq ?_; refine G.seq ?_; refine G.region ?_; refine GO.load1 rfl rfl rfl (Tk.t (Tk.t (Tk.t (Tk.t Tk.h)))) rfl ?_; refine GO.lenS rfl rfl ?_; refine GO.move rfl rfl ?_; refine GO.nil ?_; refine kthen_n ?_; refine G.block ?_)
      refine G.loop2 (fun (i : Nat) (v : Value) => [(0, y), (1, .pointer (some ⟨b3, 0, none⟩)), (2, .pointer (some ⟨b2, 0, none⟩)), (4, u64 (BitVec.ofNat 64 m)), (5, v), (11, u64 (1#64 <<< (plE E ss 0).length)), (12, u64 (BitVec.ofNat 64 m)), (15, .slice ab ss.length cb), (16, i64 (ss.length : Nat)), (17, i64 (i : Nat))])
        (fun i v => own 63 2 (maskF E m (ss.take i)).length v (symsV (maskF E m (ss.take i))) :: J m :: q :: pt b3 (row [.slice al (plE E ss 0).length cl] 30) :: pt b2 (row [.slice ab ss.length cb] 40) :: F) (fun i _ => i ≤ ss.length) (fun i _ => ss.length - i) 0 (.slice none 0 0) (Nat.zero_le _) ?_ ?_ ?_
      · (refine SubE.c rfl rfl ?_; refine SubE.c rfl rfl ?_; refine SubE.c rfl rfl ?_; refine SubE.c rfl rfl ?_; refine SubE.c rfl rfl ?_; refine SubE.c rfl rfl ?_; refine SubE.c rfl rfl ?_; refine SubE.c rfl rfl ?_; refine SubE.c rfl rfl ?_; refine SubE.c rfl rfl ?_; exact SubE.n)
      · rw [mask_nil]
        ((refine Sb.c Tk.h ?_; refine Sb.c Tk.h ?_; refine Sb.c Tk.h ?_; refine Sb.c Tk.h ?_; refine Sb.c Tk.h ?_); (exact Sb.r))
      · rintro i v hi
        have hml2 := mask_len E (ss.take i) m
        rw [List.length_take] at hml2
        (refine G.seq ?_; refine G.region ?_; refine GO.lti rfl rfl rfl ?_; refine GO.nil ?_; refine kthen_n ?_; refine G.seq ?_)
        refine G.condD rfl (fun hlt2 => ?_) (fun hge2 => ?_)
        · obtain ⟨s, hs⟩ : ∃ s, ss[i]? = some s := ⟨_, List.getElem?_eq_getElem (by omega)⟩
          have htk : ss.take (i + 1) = ss.take i ++ [s] := by rw [List.take_add_one, hs]; rfl
          have hsn := mask_snoc E s (ss.take i) m
          rw [← htk] at hsn
          have hplace := fun k => idx_place (E := E) hs (k := k)
          have hcn : cntE E (ss.take i) ≤ 12 := by
            have := plE_len E (ss.take i) 0
            have h2 := plE_app E (ss.take i) (ss.drop i) 0
            rw [List.take_append_drop] at h2
            have h3 := congrArg List.length h2
            rw [List.length_append] at h3
            omega
          have hbit := bit_left m (cntE E (ss.take i)) (by omega)
          have hsy := syms_snoc (maskF E m (ss.take i)) s
          obtain ⟨bb, ob, rfl, _, r1, r2⟩ := hb.at hs
          obtain ⟨sl, sn⟩ := s
          dsimp only at r1 r2 hsy
          (refine G.skip ?_; refine kthen_n ?_; refine G.seq ?_; refine G.block ?_; refine G.seq ?_; refine G.region ?_; refine GO.move rfl rfl ?_; refine GO.idxS rfl rfl rfl ⟨rfl, by omega⟩ ?_; refine GO.load2 rfl rfl rfl (Tk.t (Tk.t Tk.h)) (by assumption) (by assumption) ?_; refine GO.alloc rfl fun b7 => ?_; refine GO.assign rfl rfl ?_; refine GO.storeW rfl rfl Tk.h ⟨rfl, rfl⟩ (by simp [Value.oneCell']) ?_; refine GO.nil ?_; refine kthen_n ?_; refine G.seq ?_; refine G.seq ?_; refine G.region ?_; refine GO.load1 rfl rfl rfl (Tk.t (Tk.t (Tk.t (Tk.t Tk.h)))) rfl ?_; refine GO.move rfl rfl ?_)
          refine GO.call2 rfl rfl rfl (hidx i) (Tks.c (Tk.t (Tk.t (Tk.t Tk.h))) Tks.n) ?_
          rintro _ _ ⟨k, rfl, hk, rfl⟩
          have hkk := hplace k hk
          by_cases hn : nulS E (sl, sn) = true
          · rw [if_pos hn] at hkk hsn
            subst hkk
            cases d1 : decide ((BitVec.ofNat 64 m >>> cntE E (ss.take i)) &&& 1#64 = 1#64) with
            | true =>
              rw [if_pos (hbit.1 (of_decide_eq_true d1)), List.append_nil] at hsn
              rw [← hsn]
              (refine GO.assign rfl rfl ?_; refine GO.nil ?_; refine kthen_n ?_; refine G.seq ?_; refine G.region ?_; refine GO.move rfl rfl ?_; refine GO.gei rfl rfl rfl ?_; refine GO.move rfl rfl ?_; refine GO.gT rfl rfl rfl ?_; refine GO.move rfl rfl ?_; refine GO.gT rfl rfl rfl ?_; refine GO.move rfl rfl ?_; refine GO.gT rfl rfl rfl ?_; refine GO.shru rfl rfl rfl ?_; refine GO.gT rfl rfl rfl ?_; refine GO.andu rfl rfl rfl ?_; refine GO.gT rfl rfl rfl ?_; refine GO.equ rfl rfl rfl ?_; refine GO.pickT rfl rfl rfl ?_; refine GO.nil ?_; refine kthen_n ?_; refine G.condT rfl (by assumption) ?_; refine G.exit ?_; refine kthen_x ?_; refine kblock_x ?_; refine kthen_n ?_; refine G.region ?_; refine GO.addi rfl rfl rfl (by omega) ?_; refine GO.move rfl rfl ?_; refine GO.nil ?_; refine kthen_n ?_)
              refine ⟨i + 1, v, by omega, by omega, ?_, ?_⟩
              · (refine SubE.c rfl rfl ?_; refine SubE.c rfl rfl ?_; refine SubE.c rfl rfl ?_; refine SubE.c rfl rfl ?_; refine SubE.c rfl rfl ?_; refine SubE.c rfl rfl ?_; refine SubE.c rfl rfl ?_; refine SubE.c rfl rfl ?_; refine SubE.c rfl rfl ?_; refine SubE.c rfl rfl ?_; exact SubE.n)
              · ((refine Sb.c (Tk.t (Tk.t Tk.h)) ?_; refine Sb.c (Tk.t (Tk.t Tk.h)) ?_; refine Sb.c Tk.h ?_; refine Sb.c (Tk.t Tk.h) ?_; refine Sb.c (Tk.t Tk.h) ?_); (refine Sb.s ?_; exact Sb.r))
            | false =>
              rw [if_neg (fun h => of_decide_eq_false d1 (hbit.2 h))] at hsn
              (refine GO.assign rfl rfl ?_; refine GO.nil ?_; refine kthen_n ?_; refine G.seq ?_; refine G.region ?_; refine GO.move rfl rfl ?_; refine GO.gei rfl rfl rfl ?_; refine GO.move rfl rfl ?_; refine GO.gT rfl rfl rfl ?_; refine GO.move rfl rfl ?_; refine GO.gT rfl rfl rfl ?_; refine GO.move rfl rfl ?_; refine GO.gT rfl rfl rfl ?_; refine GO.shru rfl rfl rfl ?_; refine GO.gT rfl rfl rfl ?_; refine GO.andu rfl rfl rfl ?_; refine GO.gT rfl rfl rfl ?_; refine GO.equ rfl rfl rfl ?_; refine GO.pickT rfl rfl rfl ?_; refine GO.nil ?_; refine kthen_n ?_; refine G.condF rfl (by assumption) ?_; refine G.skip ?_; refine kthen_n ?_; refine G.region ?_; refine GO.move rfl rfl ?_; refine GO.loadW rfl rfl rfl (Tk.t Tk.h) rfl ?_)
              refine GO.buildSlice1 (n := 2) (v1 := .agg #[.bool sl, i64 sn]) rfl rfl (fun v hv => by rw [List.mem_singleton.1 hv]; rfl) rfl ⟨by omega, by omega⟩ fun bs => ?_
              refine GO.appendOwn (m := 1) (news := [.bool sl, i64 sn]) rfl rfl rfl (Tk.t (Tk.t (Tk.t Tk.h))) Tk.h rfl (by simp [Value.oneCell']) ⟨by decide, rfl⟩ Nat.one_pos (by unfold maxLen; omega) (by omega) fun v4 => ?_
              rw [← hsy, show (maskF E m (ss.take i)).length + 1 = (maskF E m (ss.take i) ++ [(sl, sn)]).length by rw [List.length_append]; rfl, ← hsn]
              (refine GO.assign rfl rfl ?_; refine GO.nil ?_; refine kblock_n ?_; refine kthen_n ?_; refine G.region ?_; refine GO.addi rfl rfl rfl (by omega) ?_; refine GO.move rfl rfl ?_; refine GO.nil ?_; refine kthen_n ?_)
              refine ⟨i + 1, v4, by omega, by omega, ?_, ?_⟩
              · (refine SubE.c rfl rfl ?_; refine SubE.c rfl rfl ?_; refine SubE.c rfl rfl ?_; refine SubE.c rfl rfl ?_; refine SubE.c rfl rfl ?_; refine SubE.c rfl rfl ?_; refine SubE.c rfl rfl ?_; refine SubE.c rfl rfl ?_; refine SubE.c rfl rfl ?_; refine SubE.c rfl rfl ?_; exact SubE.n)
              · ((refine Sb.c Tk.h ?_; refine Sb.c (Tk.t (Tk.t (Tk.t Tk.h))) ?_; refine Sb.c (Tk.t Tk.h) ?_; refine Sb.c (Tk.t (Tk.t Tk.h)) ?_; refine Sb.c (Tk.t (Tk.t Tk.h)) ?_); (refine Sb.s ?_; refine Sb.s ?_; exact Sb.r))
          · rw [if_neg hn] at hkk hsn
            subst hkk
            (refine GO.assign rfl rfl ?_; refine GO.nil ?_; refine kthen_n ?_; refine G.seq ?_; refine G.region ?_; refine GO.move rfl rfl ?_; refine GO.gei rfl rfl rfl ?_; refine GO.move rfl rfl ?_; refine GO.gF rfl rfl rfl rfl ?_; refine GO.gF rfl rfl rfl rfl ?_; refine GO.gF rfl rfl rfl rfl ?_; refine GO.gF rfl rfl rfl rfl ?_; refine GO.gF rfl rfl rfl rfl ?_; refine GO.pickF rfl rfl rfl ?_; refine GO.nil ?_; refine kthen_n ?_; refine G.condF rfl rfl ?_; refine G.skip ?_; refine kthen_n ?_; refine G.region ?_; refine GO.move rfl rfl ?_; refine GO.loadW rfl rfl rfl (Tk.t Tk.h) rfl ?_)
            refine GO.buildSlice1 (n := 2) (v1 := .agg #[.bool sl, i64 sn]) rfl rfl (fun v hv => by rw [List.mem_singleton.1 hv]; rfl) rfl ⟨by omega, by omega⟩ fun bs => ?_
            refine GO.appendOwn (m := 1) (news := [.bool sl, i64 sn]) rfl rfl rfl (Tk.t (Tk.t (Tk.t Tk.h))) Tk.h rfl (by simp [Value.oneCell']) ⟨by decide, rfl⟩ Nat.one_pos (by unfold maxLen; omega) (by omega) fun v4 => ?_
            rw [← hsy, show (maskF E m (ss.take i)).length + 1 = (maskF E m (ss.take i) ++ [(sl, sn)]).length by rw [List.length_append]; rfl, ← hsn]
            (refine GO.assign rfl rfl ?_; refine GO.nil ?_; refine kblock_n ?_; refine kthen_n ?_; refine G.region ?_; refine GO.addi rfl rfl rfl (by omega) ?_; refine GO.move rfl rfl ?_; refine GO.nil ?_; refine kthen_n ?_)
            refine ⟨i + 1, v4, by omega, by omega, ?_, ?_⟩
            · (refine SubE.c rfl rfl ?_; refine SubE.c rfl rfl ?_; refine SubE.c rfl rfl ?_; refine SubE.c rfl rfl ?_; refine SubE.c rfl rfl ?_; refine SubE.c rfl rfl ?_; refine SubE.c rfl rfl ?_; refine SubE.c rfl rfl ?_; refine SubE.c rfl rfl ?_; refine SubE.c rfl rfl ?_; exact SubE.n)
            · ((refine Sb.c Tk.h ?_; refine Sb.c (Tk.t (Tk.t (Tk.t Tk.h))) ?_; refine Sb.c (Tk.t Tk.h) ?_; refine Sb.c (Tk.t (Tk.t Tk.h)) ?_; refine Sb.c (Tk.t (Tk.t Tk.h)) ?_); (refine Sb.s ?_; refine Sb.s ?_; exact Sb.r))
        · have e : i = ss.length := by omega
          subst e
          rw [List.take_length]
          have hyv := hy m [v] _ hml ⟨v, rfl, rfl⟩
          (refine G.exit ?_; refine kthen_x ?_; refine kthen_x ?_; refine kblock_x ?_; refine kthen_n ?_; refine G.seq ?_; refine G.region ?_; refine GO.move rfl rfl ?_; refine GO.move rfl rfl ?_)
          refine GO.callV1 rfl rfl rfl hyv (Tks.c (Tk.t Tk.h) (Tks.c Tk.h (Tks.c Tk.h Tks.n))) ?_
          rintro _ _ (⟨rfl, rfl⟩ | ⟨rfl, rfl⟩)
          · (refine GO.not rfl rfl ?_; refine GO.nil ?_; refine kthen_n ?_; refine G.condF rfl rfl ?_; refine G.skip ?_)
            refine kscope_n ?_
            (refine kblock_n ?_; refine kthen_n ?_; refine G.region ?_; refine GO.addu rfl rfl rfl ?_; refine GO.move rfl rfl ?_; refine GO.nil ?_; refine kthen_n ?_)
            rw [hadd]
            refine ⟨m + 1, by omega, by omega, ?_, ?_⟩
            · (refine SubE.c rfl rfl ?_; refine SubE.c rfl rfl ?_; refine SubE.c rfl rfl ?_; refine SubE.c rfl rfl ?_; refine SubE.c rfl rfl ?_; exact SubE.n)
            · ((refine Sb.c Tk.h ?_; refine Sb.c Tk.h ?_; refine Sb.c Tk.h ?_; refine Sb.c Tk.h ?_); (exact Sb.r))
          · (refine GO.not rfl rfl ?_; refine GO.nil ?_; refine kthen_n ?_; refine G.condT rfl rfl ?_; refine G.ret ?_)
            refine kscope_r (KF2.r0 rfl (.inr ⟨m, hml, rfl⟩) (ImpS.sb ?_))
            ((refine Sb.c Tk.h ?_; refine Sb.c Tk.h ?_; refine Sb.c Tk.h ?_; refine Sb.c Tk.h ?_); (exact Sb.r))
    · have e : m = 2 ^ cntE E ss := by omega
      subst e
      (refine G.exit ?_; refine kthen_x ?_; refine kthen_x ?_; refine kblock_x ?_)
      refine KF2.n0 rfl (.inl rfl) (ImpS.sb ?_)
      ((refine Sb.c Tk.h ?_; refine Sb.c Tk.h ?_; refine Sb.c Tk.h ?_; refine Sb.c Tk.h ?_); (exact Sb.r))
/-- The iterator that bodies makes. -/
def bodF (b2 b3 : Nat) : Value := .func (.func 52) #[] #[.pointer (some ⟨b3, 0, none⟩), .pointer (some ⟨b2, 0, none⟩)]
theorem bodies_spec (bv lv : Value) (ab al : Option Addr) (n1 c1 n2 c2 : Nat) (hb : bv = .slice ab n1 c1) (hl : lv = .slice al n2 c2) : Fn Try.prog 41 #[bv, lv] [] (fun r Q => ∃ b2 b3, r = bodF b2 b3 ∧ Q = [pt b3 (row [lv] 30), pt b2 (row [bv] 40)]) := by
  subst hb hl
  refine Fn.mk2 Try.func41 rfl rfl fun w0 F => ?_
  (refine G.seq ?_; refine G.region ?_; refine GO.box rfl rfl rfl fun b2 => ?_; refine GO.box rfl rfl rfl fun b3 => ?_; refine GO.assign rfl rfl ?_; refine GO.nil ?_; refine kthen_n ?_; refine G.seq ?_; refine G.region ?_; refine GO.makeFunc2 rfl rfl rfl ?_; refine GO.assign rfl rfl ?_; refine GO.nil ?_; refine kthen_n ?_; refine G.ret ?_)
  refine KF2.r1 rfl (RV.t rfl) ⟨_, _, rfl, rfl⟩ (ImpS.sb ?_)
  ((refine Sb.c Tk.h ?_; refine Sb.c Tk.h ?_); (exact Sb.r))
end Go.Proofs.Ytcemehocbemfmaa
