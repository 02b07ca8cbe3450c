/-
  The reference's Least, Shortest, Empty, Fruitful.
-/
import Derived.Test.YtcemehocbemfmaaLM
namespace Go.Proofs.Ytcemehocbemfmaa
open Go
attribute [local irreducible] G GO GR GT Fn FnV pt init exs pur sat own ImpS
/-- One round: the least that a production gives, by what is known. -/
def rndStep (s t : Nat → Int) (p : ProdD) : Nat → Int :=
  match lenF s p.2 0 with
  | none => t
  | some m => if t p.1.toNat < 0 ∨ m < t p.1.toNat then upd t p.1.toNat m else t
def rnd (ps : List ProdD) (s : Nat → Int) : Nat → Int := ps.foldl (rndStep s) (fun _ => -1)
/-- The rounds, till two are the same. -/
def leastS (ps : List ProdD) (n : Nat) : Nat → (Nat → Int) → (Nat → Int)
  | 0, s => s
  | k + 1, s => if sameB s (rnd ps s) n then rnd ps s else leastS ps n k (rnd ps s)
theorem rndStep_in {s t : Nat → Int} {n : Nat} {p : ProdD} (hs : Shorts s n) (ht : Shorts t n) (hp : prodIn n p) : Shorts (rndStep s t p) n := by
  unfold rndStep
  cases h : lenF s p.2 0 with
  | none => exact ht
  | some m =>
    simp only
    split
    · intro i hi
      have := lenF_in hs hp.2 (by omega) h
      simp only [upd]
      split
      · omega
      · exact ht i hi
    · exact ht
theorem foldl_take {α β : Type} {f : β → α → β} {l : List α} {k : Nat} {a : α} {b : β} (h : l[k]? = some a) : (l.take (k + 1)).foldl f b = f ((l.take k).foldl f b) a := by
  rw [List.take_add_one, h, List.foldl_append]; rfl
set_option maxHeartbeats 8000000 in
set_option maxRecDepth 20000 in
theorem least_spec (q : HP) (v : Value) (C : CnfD) (n lv : Nat) (hv : CnfR q v C) (hz : Fits C) (hn : C.nts = n) (hn1 : n ≤ 1024) (hlv : lv ≤ 1048576) (hin : ∀ p ∈ C.prods, prodIn n p) : Fn Try.prog 34 #[v, i64 lv] [q]
    (fun r Q => ∃ b, r = .slice (some ⟨b, 0, none⟩) n n ∧ Q = [pt b (row (numsV (leastS C.prods n lv (fun _ => -1)) n) 3), q]) := by
  obtain ⟨pv, rfl, hp⟩ := hv
  obtain ⟨a0, cap0, rfl⟩ := hp.form
  have hz1 := hz.1
  rw [hn]
  refine Fn.mk Try.func34 rfl rfl fun w0 F => ?_
  (refine G.seq ?_; refine G.region ?_)
  refine GO.box rfl rfl rfl fun b2 => ?_
  (refine GO.assign rfl rfl ?_; refine GO.nil ?_; refine kthen_n ?_; refine G.seq ?_; refine G.region ?_; refine GO.fieldAddr rfl rfl ?_; refine GO.load1 rfl rfl rfl Tk.h rfl ?_)
  refine GO.make1 (n := n) rfl rfl rfl ⟨rfl, rfl⟩ ⟨by omega, by omega⟩ fun bo => ?_
  rw [rowV_const (f := i64)]
  (refine GO.assign rfl rfl ?_; refine GO.nil ?_; refine kthen_n ?_; refine G.seq ?_; refine G.seq ?_; refine G.region ?_; refine GO.assign rfl rfl ?_; refine GO.nil ?_; refine kthen_n ?_; refine G.block ?_)
  refine G.loop2 (fun (k : Nat) (_ : Nat → Int) => [(1, i64 lv), (2, .pointer (some ⟨b2, 0, none⟩)), (5, .slice (some ⟨bo, 0, none⟩) n n), (6, i64 k)]) (fun _ s => pt bo (row (numsV s n) 3) :: pt b2 (row [i64 n, .slice a0 C.prods.length cap0] 24) :: q :: F)
    (fun k s => k ≤ n ∧ ∀ i, i < k → s i = -1) (fun k _ => n - k) 0 (fun _ => 0) ⟨by omega, fun i hi => by omega⟩ ?_ ?_ ?_
  · (refine SubE.c rfl rfl ?_; refine SubE.c rfl rfl ?_; refine SubE.c rfl rfl ?_; refine SubE.c rfl rfl ?_; exact SubE.n)
  · ((refine Sb.c Tk.h ?_; refine Sb.c Tk.h ?_; refine Sb.c Tk.h ?_); (exact Sb.r))
  rintro k s ⟨hk, hs⟩
  (refine G.seq ?_; refine G.seq ?_; refine G.region ?_; refine GO.move rfl rfl ?_; refine GO.fieldAddr rfl rfl ?_; refine GO.load1 rfl rfl rfl (Tk.t Tk.h) rfl ?_; refine GO.lti rfl rfl rfl ?_; refine GO.nil ?_; refine kthen_n ?_)
  refine G.condD rfl (fun hlt => ?_) (fun hge => ?_)
  · have hlt' : k < n := by omega
    (refine G.skip ?_; refine kthen_n ?_; refine G.seq ?_; refine G.block ?_; refine G.region ?_; refine GO.move rfl rfl ?_; refine GO.move rfl rfl ?_; refine GO.idxS rfl rfl rfl ⟨rfl, by omega⟩ ?_)
    refine GO.store1 rfl rfl rfl (by (exact Tk.h)) (by rw [rowV_len]; omega) ?_
    rw [rowV_set]
    (refine GO.nil ?_; refine kblock_n ?_; refine kthen_n ?_; refine G.region ?_; refine GO.move rfl rfl ?_; refine GO.addi rfl rfl rfl (by omega) ?_; refine GO.assign rfl rfl ?_; refine GO.nil ?_; refine kthen_n ?_)
    refine ⟨k + 1, upd s k (-1), ⟨by omega, fun i hi => ?_⟩, by omega, ?_, ?_⟩
    · by_cases e : i = k
      · subst e; exact upd_at _ _ _
      · rw [upd_ne _ _ e]; exact hs i (by omega)
    · (refine SubE.c rfl rfl ?_; refine SubE.c rfl rfl ?_; refine SubE.c rfl rfl ?_; refine SubE.c rfl rfl ?_; exact SubE.n)
    · ((refine Sb.c Tk.h ?_; refine Sb.c Tk.h ?_; refine Sb.c Tk.h ?_); (exact Sb.r))
  have hkn : n = k := by omega
  subst hkn
  have hnums : numsV s n = numsV (fun _ => -1) n := by
    unfold numsV rowV
    apply List.map_congr_left
    intro i hi
    rw [hs i (by simpa using hi)]
  rw [hnums]
  clear hs hnums s hge hk
  (refine G.exit ?_; refine G.seq ?_; refine G.seq ?_; refine G.region ?_; refine GO.assign rfl rfl ?_; refine GO.nil ?_; refine kthen_n ?_; refine G.block ?_)
  refine G.loop3 (fun (j : Nat) (_ : Nat → Int) (bo : Nat) => [(1, i64 lv), (2, .pointer (some ⟨b2, 0, none⟩)), (5, .slice (some ⟨bo, 0, none⟩) n n), (7, i64 j)]) (fun _ s bo => pt bo (row (numsV s n) 3) :: pt b2 (row [i64 n, .slice a0 C.prods.length cap0] 24) :: q :: F)
    (fun j s _ => j ≤ lv ∧ Shorts s n ∧ leastS C.prods n (lv - j) s = leastS C.prods n lv (fun _ => -1)) (fun j _ _ => lv - j) 0 (fun _ => -1) bo ⟨by omega, fun i _ => by show (-1 : Int) ≤ -1 ∧ (-1 : Int) ≤ 65; decide, rfl⟩ ?_ ?_ ?_
  · (refine SubE.c rfl rfl ?_; refine SubE.c rfl rfl ?_; refine SubE.c rfl rfl ?_; refine SubE.c rfl rfl ?_; exact SubE.n)
  · ((refine Sb.c Tk.h ?_; refine Sb.c Tk.h ?_; refine Sb.c Tk.h ?_); (exact Sb.r))
  clear bo
  rintro j s bo ⟨hj, hsh, hL⟩
  (refine G.seq ?_; refine G.seq ?_; refine G.region ?_; refine GO.move rfl rfl ?_; refine GO.move rfl rfl ?_; refine GO.lti rfl rfl rfl ?_; refine GO.nil ?_; refine kthen_n ?_)
  refine G.condD rfl (fun hlt => ?_) (fun hge => ?_)
  · have hj' : j < lv := by omega
    rw [show lv - j = (lv - (j + 1)) + 1 by omega] at hL
    (refine G.skip ?_; refine kthen_n ?_; refine G.seq ?_; refine G.block ?_; refine G.seq ?_; refine G.region ?_; refine GO.fieldAddr rfl rfl ?_; refine GO.load1 rfl rfl rfl (Tk.t Tk.h) rfl ?_)
    refine GO.make1 (n := n) rfl rfl rfl ⟨rfl, rfl⟩ ⟨by omega, by omega⟩ fun b8 => ?_
    rw [rowV_const (f := i64)]
    (refine GO.assign rfl rfl ?_; refine GO.nil ?_; refine kthen_n ?_; refine G.seq ?_; refine G.seq ?_; refine G.region ?_; refine GO.assign rfl rfl ?_; refine GO.nil ?_; refine kthen_n ?_; refine G.block ?_)
    refine G.loop2 (fun (k : Nat) (_ : Nat → Int) => [(1, i64 lv), (2, .pointer (some ⟨b2, 0, none⟩)), (5, .slice (some ⟨bo, 0, none⟩) n n), (7, i64 j), (8, .slice (some ⟨b8, 0, none⟩) n n), (9, i64 k)]) (fun _ t => pt b8 (row (numsV t n) 3) :: pt bo (row (numsV s n) 3) :: pt b2 (row [i64 n, .slice a0 C.prods.length cap0] 24) :: q :: F)
      (fun k t => k ≤ n ∧ ∀ i, i < k → t i = -1) (fun k _ => n - k) 0 (fun _ => 0) ⟨by omega, fun i hi => by omega⟩ ?_ ?_ ?_
    · (refine SubE.c rfl rfl ?_; refine SubE.c rfl rfl ?_; refine SubE.c rfl rfl ?_; refine SubE.c rfl rfl ?_; refine SubE.c rfl rfl ?_; refine SubE.c rfl rfl ?_; exact SubE.n)
    · ((refine Sb.c Tk.h ?_; refine Sb.c Tk.h ?_; refine Sb.c Tk.h ?_; refine Sb.c Tk.h ?_); (exact Sb.r))
    rintro k t ⟨hk, ht⟩
    (refine G.seq ?_; refine G.seq ?_; refine G.region ?_; refine GO.move rfl rfl ?_; refine GO.fieldAddr rfl rfl ?_; refine GO.load1 rfl rfl rfl (Tk.t (Tk.t Tk.h)) rfl ?_; refine GO.lti rfl rfl rfl ?_; refine GO.nil ?_; refine kthen_n ?_)
    refine G.condD rfl (fun hlt2 => ?_) (fun hge2 => ?_)
    · have hlt' : k < n := by omega
      (refine G.skip ?_; refine kthen_n ?_; refine G.seq ?_; refine G.block ?_; refine G.region ?_; refine GO.move rfl rfl ?_; refine GO.move rfl rfl ?_; refine GO.idxS rfl rfl rfl ⟨rfl, by omega⟩ ?_)
      refine GO.store1 rfl rfl rfl (by (exact Tk.h)) (by rw [rowV_len]; omega) ?_
      rw [rowV_set]
      (refine GO.nil ?_; refine kblock_n ?_; refine kthen_n ?_; refine G.region ?_; refine GO.move rfl rfl ?_; refine GO.addi rfl rfl rfl (by omega) ?_; refine GO.assign rfl rfl ?_; refine GO.nil ?_; refine kthen_n ?_)
      refine ⟨k + 1, upd t k (-1), ⟨by omega, fun i hi => ?_⟩, by omega, ?_, ?_⟩
      · by_cases e : i = k
        · subst e; exact upd_at _ _ _
        · rw [upd_ne _ _ e]; exact ht i (by omega)
      · (refine SubE.c rfl rfl ?_; refine SubE.c rfl rfl ?_; refine SubE.c rfl rfl ?_; refine SubE.c rfl rfl ?_; refine SubE.c rfl rfl ?_; refine SubE.c rfl rfl ?_; exact SubE.n)
      · ((refine Sb.c Tk.h ?_; refine Sb.c Tk.h ?_; refine Sb.c Tk.h ?_; refine Sb.c Tk.h ?_); (exact Sb.r))
    have hkn : n = k := by omega
    subst hkn
    have hnums : numsV t n = numsV (fun _ => -1) n := by
      unfold numsV rowV
      apply List.map_congr_left
      intro i hi
      rw [ht i (by simpa using hi)]
    rw [hnums]
    clear ht hnums t hge2 hk
    (refine G.exit ?_; refine G.seq ?_; refine G.seq ?_; refine G.region ?_; refine GO.assign rfl rfl ?_; refine GO.nil ?_; refine kthen_n ?_; refine G.block ?_)
    refine G.loop (fun i : Nat => [(1, i64 lv), (2, .pointer (some ⟨b2, 0, none⟩)), (5, .slice (some ⟨bo, 0, none⟩) n n), (7, i64 j), (8, .slice (some ⟨b8, 0, none⟩) n n), (10, i64 i)]) (fun i => pt b8 (row (numsV ((C.prods.take i).foldl (rndStep s) (fun _ => -1)) n) 3) :: pt bo (row (numsV s n) 3) :: pt b2 (row [i64 n, .slice a0 C.prods.length cap0] 24) :: q :: F)
      (fun i => i ≤ C.prods.length ∧ Shorts ((C.prods.take i).foldl (rndStep s) (fun _ => -1)) n) (fun i => C.prods.length - i) 0 ⟨by omega, fun i _ => by show (-1 : Int) ≤ -1 ∧ (-1 : Int) ≤ 65; decide⟩ ?_ ?_ ?_
    · (refine SubE.c rfl rfl ?_; refine SubE.c rfl rfl ?_; refine SubE.c rfl rfl ?_; refine SubE.c rfl rfl ?_; refine SubE.c rfl rfl ?_; refine SubE.c rfl rfl ?_; exact SubE.n)
    · ((refine Sb.c Tk.h ?_; refine Sb.c Tk.h ?_; refine Sb.c Tk.h ?_; refine Sb.c Tk.h ?_); (exact Sb.r))
    rintro i ⟨hi, hti⟩
    (refine G.seq ?_; refine G.seq ?_; refine G.region ?_; refine GO.move rfl rfl ?_; refine GO.fieldAddr rfl rfl ?_; refine GO.load1 rfl rfl rfl (Tk.t (Tk.t Tk.h)) rfl ?_; refine GO.lenS rfl rfl ?_; refine GO.lti rfl rfl rfl ?_; refine GO.nil ?_; refine kthen_n ?_)
    refine G.condD rfl (fun hlt2 => ?_) (fun hge2 => ?_)
    · have hil : i < C.prods.length := by omega
      obtain ⟨⟨h, ss⟩, hpk⟩ : ∃ p : ProdD, C.prods[i]? = some p := ⟨C.prods[i], by simp [hil]⟩
      have hpin := hin _ (List.mem_of_getElem? hpk)
      have hpl := hz.2 _ (List.mem_of_getElem? hpk)
      obtain ⟨b, o, bv, rfl, _, r1, r2, hss⟩ := hp.at hpk
      have hnext := foldl_take (f := rndStep s) (b := fun _ => -1) hpk
      have hnin := rndStep_in hsh hti hpin
      rw [← hnext] at hnin
      generalize hT : (C.prods.take i).foldl (rndStep s) (fun _ => -1) = t at *
      obtain ⟨⟨h1, h2⟩, hsin⟩ := hpin
      dsimp only at h1 h2 r1 r2 hss hsin hpl
      obtain ⟨k, rfl⟩ := Int.eq_ofNat_of_zero_le h1
      have hkn : k < n := by omega
      (refine G.skip ?_; refine kthen_n ?_; refine G.seq ?_; refine G.block ?_; refine G.seq ?_; refine G.region ?_; refine GO.fieldAddr rfl rfl ?_; refine GO.load1 rfl rfl rfl (Tk.t (Tk.t Tk.h)) rfl ?_; refine GO.move rfl rfl ?_; refine GO.idxS rfl rfl rfl ⟨rfl, by omega⟩ ?_; refine GO.fieldAddr rfl rfl ?_)
      refine GO.loadQ (q := q) rfl rfl rfl (Tk.t (Tk.t (Tk.t Tk.h))) r1 ?_
      (refine GO.assign rfl rfl ?_; refine GO.nil ?_; refine kthen_n ?_; refine G.seq ?_; refine G.region ?_; refine GO.fieldAddr rfl rfl ?_; refine GO.load1 rfl rfl rfl (Tk.t (Tk.t Tk.h)) rfl ?_; refine GO.move rfl rfl ?_; refine GO.idxS rfl rfl rfl ⟨rfl, by omega⟩ ?_; refine GO.fieldAddr rfl rfl ?_)
      refine GO.loadQ (q := q) rfl rfl rfl (Tk.t (Tk.t (Tk.t Tk.h))) r2 ?_
      (refine GO.move rfl rfl ?_)
      refine GO.call2 rfl rfl rfl (rlong_spec q bv ss s n bo hss hsin (by omega) hsh) (Tks.c (Tk.t (Tk.t (Tk.t Tk.h))) (Tks.c (Tk.t Tk.h) Tks.n)) ?_
      rintro _ _ ⟨rfl, rfl⟩
      cases hl : lenF s ss 0 with
      | none =>
        have er : rndStep s t ((k : Int), ss) = t := by unfold rndStep; simp only [hl]
        rw [er] at hnext
        (refine GO.assign rfl rfl ?_; refine GO.nil ?_; refine kthen_n ?_; refine G.seq ?_; refine G.region ?_; refine GO.move rfl rfl ?_; refine GO.gei rfl rfl rfl ?_; refine GO.move rfl rfl ?_; refine GO.gF rfl rfl rfl rfl ?_; refine GO.gF rfl rfl rfl rfl ?_; refine GO.gF rfl rfl rfl rfl ?_; refine GO.gF rfl rfl rfl rfl ?_; refine GO.gF rfl rfl rfl rfl ?_; refine GO.gF rfl rfl rfl rfl ?_; refine GO.gU rfl rfl rfl ?_; refine GO.gU rfl rfl rfl ?_; refine GO.gU rfl rfl rfl ?_; refine GO.gU rfl rfl rfl ?_; refine GO.gU rfl rfl rfl ?_; refine GO.gU rfl rfl rfl ?_; refine GO.gF rfl rfl rfl rfl ?_; refine GO.pickF rfl rfl rfl ?_; refine GO.nil ?_; refine kthen_n ?_; refine G.condF rfl rfl ?_; refine G.skip ?_; refine kblock_n ?_; refine kthen_n ?_; refine G.region ?_; refine GO.move rfl rfl ?_; refine GO.addi rfl rfl rfl (by omega) ?_; refine GO.assign rfl rfl ?_; refine GO.nil ?_; refine kthen_n ?_)
        refine ⟨i + 1, ⟨by omega, hnin⟩, by omega, ?_, ?_⟩
        · (refine SubE.c rfl rfl ?_; refine SubE.c rfl rfl ?_; refine SubE.c rfl rfl ?_; refine SubE.c rfl rfl ?_; refine SubE.c rfl rfl ?_; refine SubE.c rfl rfl ?_; exact SubE.n)
        · rw [hnext]; ((refine Sb.c (Tk.t (Tk.t Tk.h)) ?_; refine Sb.c (Tk.t Tk.h) ?_; refine Sb.c (Tk.t Tk.h) ?_; refine Sb.c Tk.h ?_); (exact Sb.r))
      | some m =>
        have hm := lenF_in hsh hsin (by omega) hl
        have ed : decide ((0 : Int) ≤ (some m).getD (-1)) = true := decide_eq_true hm.1
        (refine GO.assign rfl rfl ?_; refine GO.nil ?_; refine kthen_n ?_; refine G.seq ?_; refine G.region ?_; refine GO.move rfl rfl ?_; refine GO.gei rfl rfl rfl ?_; refine GO.move rfl rfl ?_)
        rw [ed]
        (refine GO.gT rfl rfl rfl ?_; refine GO.move rfl rfl ?_; refine GO.gT rfl rfl rfl ?_; refine GO.move rfl rfl ?_; refine GO.gT rfl rfl rfl ?_; refine GO.idxS rfl rfl rfl ⟨rfl, by omega⟩ ?_; refine GO.gT rfl rfl rfl ?_)
        refine GO.load1 rfl rfl rfl (by (exact (Tk.t (Tk.t Tk.h)))) (rowV_get1 hkn) ?_
        (refine GO.gT rfl rfl rfl ?_; refine GO.lti rfl rfl rfl ?_; refine GO.gT rfl rfl rfl ?_; refine GO.move rfl rfl ?_)
        by_cases hneg : t k < 0
        · have ed2 : decide (t k < 0) = true := decide_eq_true hneg
          have er : rndStep s t ((k : Int), ss) = upd t k m := by unfold rndStep; simp [hl, hneg]
          rw [er] at hnext
          rw [ed2]
          (refine GO.gF rfl rfl rfl rfl ?_; refine GO.gF rfl rfl rfl rfl ?_; refine GO.gF rfl rfl rfl rfl ?_; refine GO.gF rfl rfl rfl rfl ?_; refine GO.gF rfl rfl rfl rfl ?_; refine GO.gF rfl rfl rfl rfl ?_; refine GO.gT rfl rfl rfl ?_; refine GO.pickT rfl rfl rfl ?_; refine GO.pickT rfl rfl rfl ?_; refine GO.nil ?_; refine kthen_n ?_; refine G.condT rfl rfl ?_; refine G.region ?_; refine GO.move rfl rfl ?_; refine GO.move rfl rfl ?_; refine GO.move rfl rfl ?_; refine GO.idxS rfl rfl rfl ⟨rfl, by omega⟩ ?_)
          refine GO.store1 rfl rfl rfl (by (exact (Tk.t (Tk.t Tk.h)))) (by rw [rowV_len]; omega) ?_
          rw [show (some m).getD (-1) = m from rfl, rowV_set]
          (refine GO.nil ?_; refine kblock_n ?_; refine kthen_n ?_; refine G.region ?_; refine GO.move rfl rfl ?_; refine GO.addi rfl rfl rfl (by omega) ?_; refine GO.assign rfl rfl ?_; refine GO.nil ?_; refine kthen_n ?_)
          refine ⟨i + 1, ⟨by omega, hnin⟩, by omega, ?_, ?_⟩
          · (refine SubE.c rfl rfl ?_; refine SubE.c rfl rfl ?_; refine SubE.c rfl rfl ?_; refine SubE.c rfl rfl ?_; refine SubE.c rfl rfl ?_; refine SubE.c rfl rfl ?_; exact SubE.n)
          · rw [hnext]; ((refine Sb.c Tk.h ?_; refine Sb.c (Tk.t Tk.h) ?_; refine Sb.c (Tk.t Tk.h) ?_; refine Sb.c Tk.h ?_); (exact Sb.r))
        · have ed2 : decide (t k < 0) = false := decide_eq_false hneg
          rw [ed2]
          (refine GO.gT rfl rfl rfl ?_; refine GO.move rfl rfl ?_; refine GO.gT rfl rfl rfl ?_; refine GO.move rfl rfl ?_; refine GO.gT rfl rfl rfl ?_; refine GO.move rfl rfl ?_; refine GO.gT rfl rfl rfl ?_; refine GO.idxS rfl rfl rfl ⟨rfl, by omega⟩ ?_; refine GO.gT rfl rfl rfl ?_)
          refine GO.load1 rfl rfl rfl (by (exact (Tk.t (Tk.t Tk.h)))) (rowV_get1 hkn) ?_
          (refine GO.gT rfl rfl rfl ?_; refine GO.lti rfl rfl rfl ?_; refine GO.gT rfl rfl rfl ?_; refine GO.pickF rfl rfl rfl ?_; refine GO.pickT rfl rfl rfl ?_; refine GO.nil ?_; refine kthen_n ?_)
          refine G.condD rfl (fun hlm => ?_) (fun hlm => ?_)
          · have hlm' : m < t k := hlm
            have er : rndStep s t ((k : Int), ss) = upd t k m := by unfold rndStep; simp [hl, hlm']
            rw [er] at hnext
            (refine G.region ?_; refine GO.move rfl rfl ?_; refine GO.move rfl rfl ?_; refine GO.move rfl rfl ?_; refine GO.idxS rfl rfl rfl ⟨rfl, by omega⟩ ?_)
            refine GO.store1 rfl rfl rfl (by (exact (Tk.t (Tk.t Tk.h)))) (by rw [rowV_len]; omega) ?_
            rw [show (some m).getD (-1) = m from rfl, rowV_set]
            (refine GO.nil ?_; refine kblock_n ?_; refine kthen_n ?_; refine G.region ?_; refine GO.move rfl rfl ?_; refine GO.addi rfl rfl rfl (by omega) ?_; refine GO.assign rfl rfl ?_; refine GO.nil ?_; refine kthen_n ?_)
            refine ⟨i + 1, ⟨by omega, hnin⟩, by omega, ?_, ?_⟩
            · (refine SubE.c rfl rfl ?_; refine SubE.c rfl rfl ?_; refine SubE.c rfl rfl ?_; refine SubE.c rfl rfl ?_; refine SubE.c rfl rfl ?_; refine SubE.c rfl rfl ?_; exact SubE.n)
            · rw [hnext]; ((refine Sb.c Tk.h ?_; refine Sb.c (Tk.t Tk.h) ?_; refine Sb.c (Tk.t Tk.h) ?_; refine Sb.c Tk.h ?_); (exact Sb.r))
          · have hlm' : ¬ m < t k := hlm
            have er : rndStep s t ((k : Int), ss) = t := by unfold rndStep; simp [hl, hlm', hneg]
            rw [er] at hnext
            (refine G.skip ?_; refine kblock_n ?_; refine kthen_n ?_; refine G.region ?_; refine GO.move rfl rfl ?_; refine GO.addi rfl rfl rfl (by omega) ?_; refine GO.assign rfl rfl ?_; refine GO.nil ?_; refine kthen_n ?_)
            refine ⟨i + 1, ⟨by omega, hnin⟩, by omega, ?_, ?_⟩
            · (refine SubE.c rfl rfl ?_; refine SubE.c rfl rfl ?_; refine SubE.c rfl rfl ?_; refine SubE.c rfl rfl ?_; refine SubE.c rfl rfl ?_; refine SubE.c rfl rfl ?_; exact SubE.n)
            · rw [hnext]; ((refine Sb.c (Tk.t (Tk.t Tk.h)) ?_; refine Sb.c (Tk.t Tk.h) ?_; refine Sb.c (Tk.t Tk.h) ?_; refine Sb.c Tk.h ?_); (exact Sb.r))
    · have : i = C.prods.length := by omega
      subst this
      rw [List.take_length] at hti ⊢
      change Shorts (rnd C.prods s) n at hti
      rw [show C.prods.foldl (rndStep s) (fun _ => -1) = rnd C.prods s from rfl]
      simp only [leastS] at hL
      (refine G.exit ?_; refine G.seq ?_; refine G.seq ?_; refine G.region ?_; refine GO.move rfl rfl ?_; refine GO.move rfl rfl ?_)
      refine GO.call2 rfl rfl rfl (sameInts_spec s (rnd C.prods s) n bo b8 (by omega)) (Tks.c (Tk.t Tk.h) (Tks.c Tk.h Tks.n)) ?_
      rintro _ _ ⟨rfl, rfl⟩
      (refine GO.nil ?_; refine kthen_n ?_)
      refine G.cond rfl (fun hb => ?_) (fun hb => ?_)
      · rw [if_pos hb] at hL
        (refine G.seq ?_; refine G.region ?_; refine GO.move rfl rfl ?_; refine GO.assign rfl rfl ?_; refine GO.nil ?_; refine kthen_n ?_; refine G.ret ?_; refine kthen_r ?_; refine kblock_r ?_; refine kthen_r ?_; refine kthen_r ?_; refine kblock_r ?_; refine kthen_r ?_)
        refine KF.r1 rfl (RV.t rfl) ⟨b8, rfl, rfl⟩ ?_
        rw [← hL]; ((refine Sb.c (Tk.t Tk.h) ?_; refine Sb.c (Tk.t (Tk.t Tk.h)) ?_); (refine Sb.s ?_; refine Sb.s ?_; exact Sb.r))
      · rw [if_neg (by rw [hb]; simp)] at hL
        (refine G.skip ?_; refine kthen_n ?_; refine G.region ?_; refine GO.move rfl rfl ?_; refine GO.assign rfl rfl ?_; refine GO.nil ?_; refine kblock_n ?_; refine kthen_n ?_; refine G.region ?_; refine GO.move rfl rfl ?_; refine GO.addi rfl rfl rfl (by omega) ?_; refine GO.assign rfl rfl ?_; refine GO.nil ?_; refine kthen_n ?_)
        refine ⟨j + 1, rnd C.prods s, b8, ⟨by omega, hti, hL⟩, by omega, ?_, ?_⟩
        · (refine SubE.c rfl rfl ?_; refine SubE.c rfl rfl ?_; refine SubE.c rfl rfl ?_; refine SubE.c rfl rfl ?_; exact SubE.n)
        · ((refine Sb.c (Tk.t Tk.h) ?_; refine Sb.c (Tk.t Tk.h) ?_; refine Sb.c (Tk.t Tk.h) ?_); (refine Sb.s ?_; exact Sb.r))
  · have : j = lv := by omega
    subst this
    rw [Nat.sub_self] at hL
    simp only [leastS] at hL
    (refine G.exit ?_; refine G.seq ?_; refine G.region ?_; refine GO.move rfl rfl ?_; refine GO.assign rfl rfl ?_; refine GO.nil ?_; refine kthen_n ?_; refine G.ret ?_)
    refine KF.r1 rfl (RV.t rfl) ⟨bo, rfl, rfl⟩ ?_
    rw [← hL]; ((refine Sb.c Tk.h ?_; refine Sb.c (Tk.t Tk.h) ?_); (refine Sb.s ?_; exact Sb.r))
end Go.Proofs.Ytcemehocbemfmaa
