/-
  The reference's Long, SameInts, SameBools.
-/
import Derived.Test.YtcemehocbemfmaaLL
namespace Go.Proofs.Ytcemehocbemfmaa
open Go
attribute [local irreducible] G GO GR GT Fn FnV pt init exs pur sat own ImpS
set_option maxHeartbeats 4000000 in
set_option maxRecDepth 20000 in
theorem rlong_spec (q : HP) (v : Value) (ss : List SymD) (s : Nat → Int) (n bs : Nat) (hv : SymsR q v ss) (hs : ∀ x ∈ ss, symIn n x) (hn : ss.length ≤ 9223372036854775806) (hsh : Shorts s n) :
    Fn Try.prog 20 #[v, .slice (some ⟨bs, 0, none⟩) n n] [q, pt bs (row (numsV s n) 3)] (fun r Q => r = i64 ((lenF s ss 0).getD (-1)) ∧ Q = [q, pt bs (row (numsV s n) 3)]) := by
  obtain ⟨a, cap, rfl⟩ := hv.form
  refine Fn.mk Try.func20 rfl rfl fun w0 F => ?_
  (refine G.seq ?_; refine G.region ?_; refine GO.assign rfl rfl ?_; refine GO.nil ?_; refine kthen_n ?_; refine G.seq ?_; refine G.region ?_; refine GO.assign rfl rfl ?_; refine GO.nil ?_; refine kthen_n ?_; refine G.seq ?_; refine G.seq ?_; refine G.region ?_; refine GO.assign rfl rfl ?_; refine GO.nil ?_; refine kthen_n ?_; refine G.block ?_)
  refine G.loop2 (fun (k : Nat) (m : Int) => [(0, .slice a ss.length cap), (1, .slice (some ⟨bs, 0, none⟩) n n), (5, i64 m), (6, i64 k)]) (fun _ _ => q :: pt bs (row (numsV s n) 3) :: F)
    (fun k m => k ≤ ss.length ∧ (0 ≤ m ∧ m ≤ 65) ∧ lenF s (ss.drop k) m = lenF s ss 0) (fun k _ => ss.length - k) 0 0 ⟨by omega, by omega, rfl⟩ ?_ ?_ ?_
  · (refine SubE.c rfl rfl ?_; refine SubE.c rfl rfl ?_; refine SubE.c rfl rfl ?_; refine SubE.c rfl rfl ?_; exact SubE.n)
  · ((refine Sb.c Tk.h ?_; refine Sb.c Tk.h ?_); (exact Sb.r))
  rintro k m ⟨hk, hm, hF⟩
  (refine G.seq ?_; refine G.seq ?_; refine G.region ?_; refine GO.move rfl rfl ?_; refine GO.move rfl rfl ?_; refine GO.lenS rfl rfl ?_; refine GO.lti rfl rfl rfl ?_; refine GO.nil ?_; refine kthen_n ?_)
  refine G.condD rfl (fun hlt => ?_) (fun hge => ?_)
  · have hlt' : k < ss.length := by omega
    obtain ⟨⟨lb, i⟩, hx⟩ : ∃ x : SymD, ss[k]? = some x := ⟨ss[k], by simp [hlt']⟩
    have hin := hs _ (List.mem_of_getElem? hx)
    obtain ⟨b, o, rfl, _, r1, r2⟩ := hv.at hx
    dsimp only at r1 r2
    rw [drop_at hx] at hF
    (refine G.skip ?_; refine kthen_n ?_; refine G.seq ?_; refine G.block ?_; refine G.seq ?_; refine G.region ?_; refine GO.move rfl rfl ?_; refine GO.move rfl rfl ?_; refine GO.idxS rfl rfl rfl ⟨rfl, by omega⟩ ?_)
    refine GO.load2 (q := q) rfl rfl rfl Tk.h r1 r2 ?_
    refine GO.alloc rfl fun b8 => ?_
    refine GO.storeW rfl rfl Tk.h ⟨rfl, rfl⟩ (by simp [Value.oneCell']) ?_
    (refine GO.nil ?_; refine kthen_n ?_; refine G.seq ?_; refine G.seq ?_; refine G.region ?_; refine GO.fieldAddr rfl rfl ?_; refine GO.load1 rfl rfl rfl Tk.h rfl ?_; refine GO.nil ?_; refine kthen_n ?_)
    cases lb with
    | true =>
      have e1 : lenF s ((true, i) :: ss.drop (k + 1)) m = lenF s (ss.drop (k + 1)) (min 65 (m + 1)) := rfl
      rw [e1] at hF
      have hm2 : 0 ≤ min 65 (m + 1) ∧ min 65 (m + 1) ≤ 65 := by omega
      (refine G.condT rfl rfl ?_; refine G.region ?_; refine GO.move rfl rfl ?_; refine GO.addi rfl rfl rfl (by omega) ?_; refine GO.assign rfl rfl ?_; refine GO.nil ?_; refine kthen_n ?_; refine G.seq ?_; refine G.region ?_; refine GO.move rfl rfl ?_; refine GO.gti rfl rfl rfl ?_; refine GO.nil ?_; refine kthen_n ?_)
      refine G.condD rfl (fun hgt => ?_) (fun hgt => ?_)
      · (refine G.region ?_; refine GO.assign rfl rfl ?_; refine GO.nil ?_; refine kblock_n ?_; refine kthen_n ?_; refine G.region ?_; refine GO.move rfl rfl ?_; refine GO.addi rfl rfl rfl (by omega) ?_; refine GO.assign rfl rfl ?_; refine GO.nil ?_; refine kthen_n ?_)
        refine ⟨k + 1, min 65 (m + 1), ⟨by omega, hm2, hF⟩, by omega, ?_, ?_⟩
        · rw [show min 65 (m + 1) = 65 by omega]; (refine SubE.c rfl rfl ?_; refine SubE.c rfl rfl ?_; refine SubE.c rfl rfl ?_; refine SubE.c rfl rfl ?_; exact SubE.n)
        · ((refine Sb.c (Tk.t Tk.h) ?_; refine Sb.c (Tk.t Tk.h) ?_); (refine Sb.s ?_; exact Sb.r))
      · (refine G.skip ?_; refine kblock_n ?_; refine kthen_n ?_; refine G.region ?_; refine GO.move rfl rfl ?_; refine GO.addi rfl rfl rfl (by omega) ?_; refine GO.assign rfl rfl ?_; refine GO.nil ?_; refine kthen_n ?_)
        refine ⟨k + 1, min 65 (m + 1), ⟨by omega, hm2, hF⟩, by omega, ?_, ?_⟩
        · rw [show min 65 (m + 1) = m + 1 by omega]; (refine SubE.c rfl rfl ?_; refine SubE.c rfl rfl ?_; refine SubE.c rfl rfl ?_; refine SubE.c rfl rfl ?_; exact SubE.n)
        · ((refine Sb.c (Tk.t Tk.h) ?_; refine Sb.c (Tk.t Tk.h) ?_); (refine Sb.s ?_; exact Sb.r))
    | false =>
      obtain ⟨h1, h2⟩ := hin rfl
      dsimp only at h1 h2
      obtain ⟨j, rfl⟩ := Int.eq_ofNat_of_zero_le h1
      have hjn : j < n := by omega
      have hsj := hsh j hjn
      have e1 : lenF s ((false, (j : Int)) :: ss.drop (k + 1)) m = if s j = -1 then none else lenF s (ss.drop (k + 1)) (min 65 (m + s j)) := rfl
      rw [e1] at hF
      (refine G.condF rfl rfl ?_; refine G.seq ?_; refine G.region ?_; refine GO.move rfl rfl ?_; refine GO.fieldAddr rfl rfl ?_; refine GO.load1 rfl rfl rfl Tk.h rfl ?_; refine GO.idxS rfl rfl rfl ⟨rfl, by omega⟩ ?_)
      refine GO.load1 rfl rfl rfl (by (exact (Tk.t (Tk.t Tk.h)))) (rowV_get1 hjn) ?_
      (refine GO.lti rfl rfl rfl ?_; refine GO.nil ?_; refine kthen_n ?_)
      refine G.condD rfl (fun he => ?_) (fun he => ?_)
      · rw [if_pos (by omega)] at hF
        (refine G.seq ?_; refine G.region ?_; refine GO.assign rfl rfl ?_; refine GO.nil ?_; refine kthen_n ?_; refine G.ret ?_; refine kthen_r ?_; refine kblock_r ?_; refine kthen_r ?_; refine kthen_r ?_; refine kblock_r ?_; refine kthen_r ?_)
        refine KF.r1 rfl (RV.t rfl) ⟨by rw [← hF]; rfl, rfl⟩ ?_
        ((refine Sb.c (Tk.t Tk.h) ?_; refine Sb.c (Tk.t Tk.h) ?_); (refine Sb.s ?_; exact Sb.r))
      · rw [if_neg (by omega)] at hF
        have hm2 : 0 ≤ min 65 (m + s j) ∧ min 65 (m + s j) ≤ 65 := by omega
        (refine G.region ?_; refine GO.move rfl rfl ?_; refine GO.move rfl rfl ?_; refine GO.fieldAddr rfl rfl ?_; refine GO.load1 rfl rfl rfl Tk.h rfl ?_; refine GO.idxS rfl rfl rfl ⟨rfl, by omega⟩ ?_)
        refine GO.load1 rfl rfl rfl (by (exact (Tk.t (Tk.t Tk.h)))) (rowV_get1 hjn) ?_
        (refine GO.addi rfl rfl rfl (by omega) ?_; refine GO.assign rfl rfl ?_; refine GO.nil ?_; refine kthen_n ?_; refine G.seq ?_; refine G.region ?_; refine GO.move rfl rfl ?_; refine GO.gti rfl rfl rfl ?_; refine GO.nil ?_; refine kthen_n ?_)
        refine G.condD rfl (fun hgt => ?_) (fun hgt => ?_)
        · (refine G.region ?_; refine GO.assign rfl rfl ?_; refine GO.nil ?_; refine kblock_n ?_; refine kthen_n ?_; refine G.region ?_; refine GO.move rfl rfl ?_; refine GO.addi rfl rfl rfl (by omega) ?_; refine GO.assign rfl rfl ?_; refine GO.nil ?_; refine kthen_n ?_)
          refine ⟨k + 1, min 65 (m + s j), ⟨by omega, hm2, hF⟩, by omega, ?_, ?_⟩
          · rw [show min 65 (m + s j) = 65 by omega]; (refine SubE.c rfl rfl ?_; refine SubE.c rfl rfl ?_; refine SubE.c rfl rfl ?_; refine SubE.c rfl rfl ?_; exact SubE.n)
          · ((refine Sb.c (Tk.t Tk.h) ?_; refine Sb.c (Tk.t Tk.h) ?_); (refine Sb.s ?_; exact Sb.r))
        · (refine G.skip ?_; refine kblock_n ?_; refine kthen_n ?_; refine G.region ?_; refine GO.move rfl rfl ?_; refine GO.addi rfl rfl rfl (by omega) ?_; refine GO.assign rfl rfl ?_; refine GO.nil ?_; refine kthen_n ?_)
          refine ⟨k + 1, min 65 (m + s j), ⟨by omega, hm2, hF⟩, by omega, ?_, ?_⟩
          · rw [show min 65 (m + s j) = m + s j by omega]; (refine SubE.c rfl rfl ?_; refine SubE.c rfl rfl ?_; refine SubE.c rfl rfl ?_; refine SubE.c rfl rfl ?_; exact SubE.n)
          · ((refine Sb.c (Tk.t Tk.h) ?_; refine Sb.c (Tk.t Tk.h) ?_); (refine Sb.s ?_; exact Sb.r))
  · have : k = ss.length := by omega
    subst this
    rw [List.drop_length] at hF
    (refine G.exit ?_; refine G.seq ?_; refine G.region ?_; refine GO.move rfl rfl ?_; refine GO.assign rfl rfl ?_; refine GO.nil ?_; refine kthen_n ?_; refine G.ret ?_)
    refine KF.r1 rfl (RV.t rfl) ⟨by rw [← hF]; rfl, rfl⟩ ?_
    ((refine Sb.c Tk.h ?_; refine Sb.c Tk.h ?_); (exact Sb.r))
/-- Are two functions the same below n? -/
def sameB {α : Type} [DecidableEq α] (o p : Nat → α) (n : Nat) : Bool := (List.range n).all fun i => decide (o i = p i)
theorem sameB_iff {α : Type} [DecidableEq α] {o p : Nat → α} {n : Nat} : sameB o p n = true ↔ ∀ i, i < n → o i = p i := by
  unfold sameB; simp
set_option maxHeartbeats 4000000 in
set_option maxRecDepth 20000 in
theorem sameInts_spec (s t : Nat → Int) (n bs bt : Nat) (hn : n ≤ 1048576) : Fn Try.prog 19 #[.slice (some ⟨bs, 0, none⟩) n n, .slice (some ⟨bt, 0, none⟩) n n] [pt bs (row (numsV s n) 3), pt bt (row (numsV t n) 3)]
    (fun r Q => r = .bool (sameB s t n) ∧ Q = [pt bs (row (numsV s n) 3), pt bt (row (numsV t n) 3)]) := by
  refine Fn.mk Try.func19 rfl rfl fun w0 F => ?_
  (refine G.seq ?_; refine G.region ?_; refine GO.assign rfl rfl ?_; refine GO.nil ?_; refine kthen_n ?_; refine G.seq ?_; refine G.seq ?_; refine G.region ?_; refine GO.assign rfl rfl ?_; refine GO.nil ?_; refine kthen_n ?_; refine G.block ?_)
  refine G.loop (fun k : Nat => [(0, .slice (some ⟨bs, 0, none⟩) n n), (1, .slice (some ⟨bt, 0, none⟩) n n), (5, i64 k)]) (fun _ => pt bs (row (numsV s n) 3) :: pt bt (row (numsV t n) 3) :: F) (fun k => k ≤ n ∧ ∀ i, i < k → s i = t i) (fun k => n - k) 0 ⟨by omega, fun i hi => by omega⟩ ?_ ?_ ?_
  · (refine SubE.c rfl rfl ?_; refine SubE.c rfl rfl ?_; refine SubE.c rfl rfl ?_; exact SubE.n)
  · ((refine Sb.c Tk.h ?_; refine Sb.c Tk.h ?_); (exact Sb.r))
  rintro k ⟨hk, heq⟩
  (refine G.seq ?_; refine G.seq ?_; refine G.region ?_; refine GO.move rfl rfl ?_; refine GO.move rfl rfl ?_; refine GO.lenS rfl rfl ?_; refine GO.lti rfl rfl rfl ?_; refine GO.move rfl rfl ?_)
  refine GO.splitD 10 rfl (fun hlt => ?_) (fun hge => ?_)
  · have hlt' : k < n := by omega
    have ed : decide ((k : Int) < (n : Int)) = true := decide_eq_true hlt
    (refine GO.gT rfl rfl rfl ?_; refine GO.move rfl rfl ?_; refine GO.gT rfl rfl rfl ?_; refine GO.move rfl rfl ?_; refine GO.gT rfl rfl rfl ?_; refine GO.lenS rfl rfl ?_; refine GO.gT rfl rfl rfl ?_; refine GO.lti rfl rfl rfl ?_; refine GO.pickT rfl rfl rfl ?_; refine GO.nil ?_; refine kthen_n ?_)
    refine G.condD rfl (fun _ => ?_) (fun h => absurd hlt h)
    (refine G.skip ?_; refine kthen_n ?_; refine G.seq ?_; refine G.block ?_; refine G.seq ?_)
    refine G.draw 9 (by kernel_rfl) ?_
    ((apply GQ.step; focus (intro Z; refine GO.move rfl rfl ?_; exact KQ.z)); (apply GQ.step; focus (intro Z; refine GO.move rfl rfl ?_; exact KQ.z)); (apply GQ.step; focus (intro Z; refine GO.idxS rfl rfl rfl ⟨rfl, by omega⟩ ?_; exact KQ.z)))
    apply GQ.step; focus (intro Z; refine GO.load1 rfl rfl rfl (by (exact Tk.h)) (rowV_get1 hlt') ?_; exact KQ.z)
    ((apply GQ.step; focus (intro Z; refine GO.move rfl rfl ?_; exact KQ.z)); (apply GQ.step; focus (intro Z; refine GO.move rfl rfl ?_; exact KQ.z)); (apply GQ.step; focus (intro Z; refine GO.idxS rfl rfl rfl ⟨rfl, by omega⟩ ?_; exact KQ.z)))
    apply GQ.step; focus (intro Z; refine GO.load1 rfl rfl rfl (by (exact (Tk.t Tk.h))) (rowV_get1 hlt') ?_; exact KQ.z)
    ((apply GQ.step; focus (intro Z; refine GO.nei rfl rfl rfl ?_; exact KQ.z)))
    refine GQ.nil ?_
    (refine GO.nil ?_; refine kthen_n ?_)
    refine G.condD rfl (fun hne => ?_) (fun he => ?_)
    · (refine G.seq ?_; refine G.region ?_; refine GO.assign rfl rfl ?_; refine GO.nil ?_; refine kthen_n ?_; refine G.ret ?_; refine kblock_r ?_; refine kthen_r ?_; refine kthen_r ?_; refine kblock_r ?_; refine kthen_r ?_)
      refine KF.r1 rfl (RV.t rfl) ⟨?_, rfl⟩ ?_
      · have : sameB s t n = false := by
          cases h : sameB s t n with
          | false => rfl
          | true => exact absurd (sameB_iff.1 h k hlt') hne
        rw [this]
      · ((refine Sb.c Tk.h ?_; refine Sb.c Tk.h ?_); (exact Sb.r))
    · (refine G.skip ?_; refine kblock_n ?_; refine kthen_n ?_; refine G.region ?_; refine GO.move rfl rfl ?_; refine GO.addi rfl rfl rfl (by omega) ?_; refine GO.assign rfl rfl ?_; refine GO.nil ?_; refine kthen_n ?_)
      refine ⟨k + 1, ⟨by omega, fun i hi => ?_⟩, by omega, ?_, ?_⟩
      · by_cases e : i = k
        · subst e; exact Classical.byContradiction fun h => he h
        · exact heq i (by omega)
      · (refine SubE.c rfl rfl ?_; refine SubE.c rfl rfl ?_; refine SubE.c rfl rfl ?_; exact SubE.n)
      · ((refine Sb.c Tk.h ?_; refine Sb.c Tk.h ?_); (exact Sb.r))
  · have : k = n := by omega
    subst this
    (refine GO.gF rfl rfl rfl rfl ?_; refine GO.gF rfl rfl rfl rfl ?_; refine GO.gF rfl rfl rfl rfl ?_; refine GO.gF rfl rfl rfl rfl ?_; refine GO.pickF rfl rfl rfl ?_; refine GO.nil ?_; refine kthen_n ?_; refine G.condF rfl rfl ?_; refine G.exit ?_; refine G.seq ?_; refine G.region ?_; refine GO.move rfl rfl ?_; refine GO.lenS rfl rfl ?_; refine GO.move rfl rfl ?_; refine GO.lenS rfl rfl ?_; refine GO.eqT rfl rfl rfl rfl ?_; refine GO.assign rfl rfl ?_; refine GO.nil ?_; refine kthen_n ?_; refine G.ret ?_)
    refine KF.r1 rfl (RV.t rfl) ⟨?_, rfl⟩ ?_
    · rw [sameB_iff.2 heq]
    · ((refine Sb.c Tk.h ?_; refine Sb.c Tk.h ?_); (exact Sb.r))
set_option maxHeartbeats 4000000 in
set_option maxRecDepth 20000 in
theorem sameBools_spec (s t : Nat → Bool) (n bs bt : Nat) (hn : n ≤ 1048576) : Fn Try.prog 16 #[.slice (some ⟨bs, 0, none⟩) n n, .slice (some ⟨bt, 0, none⟩) n n] [pt bs (row (boolsV s n) 4), pt bt (row (boolsV t n) 4)]
    (fun r Q => r = .bool (sameB s t n) ∧ Q = [pt bs (row (boolsV s n) 4), pt bt (row (boolsV t n) 4)]) := by
  refine Fn.mk Try.func16 rfl rfl fun w0 F => ?_
  (refine G.seq ?_; refine G.region ?_; refine GO.assign rfl rfl ?_; refine GO.nil ?_; refine kthen_n ?_; refine G.seq ?_; refine G.seq ?_; refine G.region ?_; refine GO.move rfl rfl ?_; refine GO.lenS rfl rfl ?_; refine GO.move rfl rfl ?_; refine GO.lenS rfl rfl ?_; refine GO.neF rfl rfl rfl rfl ?_; refine GO.nil ?_; refine kthen_n ?_; refine G.condF rfl rfl ?_; refine G.skip ?_; refine kthen_n ?_; refine G.seq ?_; refine G.seq ?_; refine G.region ?_; refine GO.assign rfl rfl ?_; refine GO.nil ?_; refine kthen_n ?_; refine G.block ?_)
  refine G.loop (fun k : Nat => [(0, .slice (some ⟨bs, 0, none⟩) n n), (1, .slice (some ⟨bt, 0, none⟩) n n), (5, i64 k)]) (fun _ => pt bs (row (boolsV s n) 4) :: pt bt (row (boolsV t n) 4) :: F) (fun k => k ≤ n ∧ ∀ i, i < k → s i = t i) (fun k => n - k) 0 ⟨by omega, fun i hi => by omega⟩ ?_ ?_ ?_
  · (refine SubE.c rfl rfl ?_; refine SubE.c rfl rfl ?_; refine SubE.c rfl rfl ?_; exact SubE.n)
  · ((refine Sb.c Tk.h ?_; refine Sb.c Tk.h ?_); (exact Sb.r))
  rintro k ⟨hk, heq⟩
  (refine G.seq ?_; refine G.seq ?_; refine G.region ?_; refine GO.move rfl rfl ?_; refine GO.move rfl rfl ?_; refine GO.lenS rfl rfl ?_; refine GO.lti rfl rfl rfl ?_; refine GO.nil ?_; refine kthen_n ?_)
  refine G.condD rfl (fun hlt => ?_) (fun hge => ?_)
  · have hlt' : k < n := by omega
    (refine G.skip ?_; refine kthen_n ?_; refine G.seq ?_; refine G.block ?_; refine G.seq ?_)
    refine G.draw 9 (by kernel_rfl) ?_
    ((apply GQ.step; focus (intro Z; refine GO.move rfl rfl ?_; exact KQ.z)); (apply GQ.step; focus (intro Z; refine GO.move rfl rfl ?_; exact KQ.z)); (apply GQ.step; focus (intro Z; refine GO.idxS rfl rfl rfl ⟨rfl, by omega⟩ ?_; exact KQ.z)))
    apply GQ.step; focus (intro Z; refine GO.load1 rfl rfl rfl (by (exact Tk.h)) (rowV_get1 hlt') ?_; exact KQ.z)
    ((apply GQ.step; focus (intro Z; refine GO.move rfl rfl ?_; exact KQ.z)); (apply GQ.step; focus (intro Z; refine GO.move rfl rfl ?_; exact KQ.z)); (apply GQ.step; focus (intro Z; refine GO.idxS rfl rfl rfl ⟨rfl, by omega⟩ ?_; exact KQ.z)))
    apply GQ.step; focus (intro Z; refine GO.load1 rfl rfl rfl (by (exact (Tk.t Tk.h))) (rowV_get1 hlt') ?_; exact KQ.z)
    apply GQ.step; focus (intro Z; refine GO.neqB rfl rfl rfl ?_; exact KQ.z)
    refine GQ.nil ?_
    (refine GO.nil ?_; refine kthen_n ?_)
    refine G.cond rfl (fun hne => ?_) (fun he => ?_)
    · (refine G.seq ?_; refine G.region ?_; refine GO.assign rfl rfl ?_; refine GO.nil ?_; refine kthen_n ?_; refine G.ret ?_; refine kblock_r ?_; refine kthen_r ?_; refine kthen_r ?_; refine kblock_r ?_; refine kthen_r ?_)
      refine KF.r1 rfl (RV.t rfl) ⟨?_, rfl⟩ ?_
      · have : sameB s t n = false := by
          cases h : sameB s t n with
          | false => rfl
          | true => rw [sameB_iff.1 h k hlt'] at hne; simp at hne
        rw [this]
      · ((refine Sb.c Tk.h ?_; refine Sb.c Tk.h ?_); (exact Sb.r))
    · (refine G.skip ?_; refine kblock_n ?_; refine kthen_n ?_; refine G.region ?_; refine GO.move rfl rfl ?_; refine GO.addi rfl rfl rfl (by omega) ?_; refine GO.assign rfl rfl ?_; refine GO.nil ?_; refine kthen_n ?_)
      refine ⟨k + 1, ⟨by omega, fun i hi => ?_⟩, by omega, ?_, ?_⟩
      · by_cases e : i = k
        · subst e; simpa using he
        · exact heq i (by omega)
      · (refine SubE.c rfl rfl ?_; refine SubE.c rfl rfl ?_; refine SubE.c rfl rfl ?_; exact SubE.n)
      · ((refine Sb.c Tk.h ?_; refine Sb.c Tk.h ?_); (exact Sb.r))
  · have : k = n := by omega
    subst this
    (refine G.exit ?_; refine G.seq ?_; refine G.region ?_; refine GO.assign rfl rfl ?_; refine GO.nil ?_; refine kthen_n ?_; refine G.ret ?_)
    refine KF.r1 rfl (RV.t rfl) ⟨?_, rfl⟩ ?_
    · rw [sameB_iff.2 heq]
    · ((refine Sb.c Tk.h ?_; refine Sb.c Tk.h ?_); (exact Sb.r))
end Go.Proofs.Ytcemehocbemfmaa
