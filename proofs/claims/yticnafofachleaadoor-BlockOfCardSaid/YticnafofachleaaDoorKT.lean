/-
  The reference's Cells and Of.
-/
import Derived.Test.YticnafofachleaaDoorKS
namespace Go.Proofs.YticnafofachleaaDoor
open Go
attribute [local irreducible] G GO GQ Fn pt init exs pur sat own
def castL (l : List (Nat × Nat)) : List (Int × Int) := l.map fun p => ((p.1 : Int), (p.2 : Int))
def partL (r : Nat) (x : BitVec 64) (c : Nat) : List (Nat × Nat) := ((List.range c).filter fun c => x.getLsbD c).map fun c => (r, c)
def uptoL (B : Blk) (r : Nat) : List (Nat × Nat) := (List.range r).flatMap fun i => rowL i (B i)
theorem partL_on {r c : Nat} {x : BitVec 64} (h : x.getLsbD c = true) : partL r x (c + 1) = partL r x c ++ [(r, c)] := by
  unfold partL; rw [List.range_succ, List.filter_append, List.map_append]; simp [h]
theorem partL_off {r c : Nat} {x : BitVec 64} (h : x.getLsbD c = false) : partL r x (c + 1) = partL r x c := by
  unfold partL; rw [List.range_succ, List.filter_append, List.map_append]; simp [h]
theorem uptoL_succ (B : Blk) (r : Nat) : uptoL B (r + 1) = uptoL B r ++ partL r (B r) 64 := by
  unfold uptoL; rw [List.range_succ, List.flatMap_append]; simp [partL, rowL]
theorem uptoL_all (B : Blk) : uptoL B 64 = cellsL B := by unfold uptoL cellsL rowsL; rw [List.range_eq_range']
theorem partL_len (r : Nat) (x : BitVec 64) (c : Nat) : (partL r x c).length ≤ c := by
  unfold partL; rw [List.length_map]; exact Nat.le_trans (List.length_filter_le _ _) (by simp)
theorem uptoL_len (B : Blk) : ∀ r, (uptoL B r).length ≤ 64 * r
  | 0 => by simp [uptoL]
  | r + 1 => by
    have := uptoL_len B r
    have := partL_len r (B r) 64
    rw [uptoL_succ, List.length_append]; omega
theorem cellsV_app (a b : List (Int × Int)) : cellsV (a ++ b) = cellsV a ++ cellsV b := by simp [cellsV]
theorem castL_app (a b : List (Nat × Nat)) : castL (a ++ b) = castL a ++ castL b := by simp [castL]
theorem castL_len (a : List (Nat × Nat)) : (castL a).length = a.length := by simp [castL]
set_option maxHeartbeats 2000000 in
theorem rcells_spec (B : Blk) : Fn Tryd.prog 10 #[blk B] [] (fun v Q => Q = [own 31 2 (cellsL B).length v (cellsV (castL (cellsL B)))]) := by
  refine Fn.mk Tryd.func10 rfl rfl fun w0 F => ?_
  (refine G.seq ?_; refine G.region ?_)
  refine GO.box rfl rfl rfl fun b1 => ?_
  (refine GO.assign rfl rfl ?_; refine GO.nil ?_; refine kthen_n ?_; refine G.seq ?_; refine G.region ?_; refine GO.assign rfl rfl ?_; refine GO.nil ?_; refine kthen_n ?_; refine G.seq ?_; refine G.seq ?_; refine G.region ?_; refine GO.assign rfl rfl ?_; refine GO.nil ?_; refine kthen_n ?_; refine G.block ?_)
  refine G.ownNil (T := 31) (sz := 2) ?_
  refine G.loop2 (fun (r : Nat) (v : Value) => [(1, .pointer (some ⟨b1, 0, none⟩)), (3, v), (4, i64 r)])
    (fun r v => own 31 2 (uptoL B r).length v (cellsV (castL (uptoL B r))) :: pt b1 (row (cells B) 25) :: F) (fun r _ => r ≤ 64) (fun r _ => 64 - r) 0 (.slice none 0 0) (by omega) ?_ ?_ ?_
  · (refine SubE.c rfl rfl ?_; refine SubE.c rfl rfl ?_; refine SubE.c rfl rfl ?_; exact SubE.n)
  · ((refine Sb.c Tk.h ?_; refine Sb.c Tk.h ?_); (exact Sb.r))
  intro r v hr
  (refine G.seq ?_; refine G.seq ?_; refine G.region ?_; refine GO.move rfl rfl ?_; refine GO.lti rfl rfl rfl ?_; refine GO.nil ?_; refine kthen_n ?_)
  refine G.condD rfl (fun hlt => ?_) (fun hge => ?_)
  · have hr64 : r < 64 := by omega
    (refine G.skip ?_; refine kthen_n ?_; refine G.seq ?_; refine G.block ?_; refine G.seq ?_; refine G.region ?_; refine GO.assign rfl rfl ?_; refine GO.nil ?_; refine kthen_n ?_; refine G.block ?_)
    refine G.loop2 (fun (c : Nat) (v : Value) => [(1, .pointer (some ⟨b1, 0, none⟩)), (3, v), (4, i64 r), (5, i64 c)])
      (fun c v => own 31 2 (uptoL B r ++ partL r (B r) c).length v (cellsV (castL (uptoL B r ++ partL r (B r) c))) :: pt b1 (row (cells B) 25) :: F) (fun c _ => c ≤ 64) (fun c _ => 64 - c) 0 v (by omega) ?_ ?_ ?_
    · (refine SubE.c rfl rfl ?_; refine SubE.c rfl rfl ?_; refine SubE.c rfl rfl ?_; refine SubE.c rfl rfl ?_; exact SubE.n)
    · rw [show partL r (B r) 0 = [] from rfl, List.append_nil]; ((refine Sb.c Tk.h ?_; refine Sb.c Tk.h ?_); (exact Sb.r))
    intro c v hc
    (refine G.seq ?_; refine G.seq ?_; refine G.region ?_; refine GO.move rfl rfl ?_; refine GO.lti rfl rfl rfl ?_; refine GO.nil ?_; refine kthen_n ?_)
    refine G.condD rfl (fun hlt2 => ?_) (fun hge2 => ?_)
    · have hc64 : c < 64 := by omega
      (refine G.skip ?_; refine kthen_n ?_; refine G.seq ?_; refine G.block ?_; refine G.seq ?_; refine G.region ?_)
      refine GO.loadW rfl rfl rfl (by (exact (Tk.t Tk.h))) (cells_len _) ?_
      (refine GO.move rfl rfl ?_; refine GO.move rfl rfl ?_)
      refine GO.call3 rfl rfl rfl rfl (has_spec B r c hr64 hc64) Tks.n ?_
      rintro _ _ ⟨rfl, rfl⟩
      (refine GO.nil ?_; refine kthen_n ?_)
      refine G.cond rfl (fun hb => ?_) (fun hb => ?_)
      · have h1 := uptoL_len B r
        have h2 := partL_len r (B r) c
        have hl : (uptoL B r ++ partL r (B r) c).length = (uptoL B r).length + (partL r (B r) c).length := List.length_append
        (refine G.region ?_; refine GO.move rfl rfl ?_; refine GO.move rfl rfl ?_; refine GO.move rfl rfl ?_; refine GO.build2 rfl rfl rfl rfl ?_)
        refine GO.buildSlice1 rfl rfl (by simp; rfl) rfl ⟨by omega, by omega⟩ fun b6 => ?_
        refine GO.appendOwn (m := 1) rfl rfl rfl (by (exact (Tk.t Tk.h))) (by (exact Tk.h)) rfl (by intro u hu; simp [putParts, Value.cells] at hu; rcases hu with rfl | rfl <;> rfl) ⟨by decide, rfl⟩ Nat.one_pos (by unfold maxLen; omega) (by omega) fun v2 => ?_
        rw [show cellsV (castL (uptoL B r ++ partL r (B r) c)) ++ putParts [.agg (putParts [i64 (r : Int), i64 (c : Int)]).toArray] = cellsV (castL (uptoL B r ++ partL r (B r) (c + 1))) by
          rw [partL_on hb, ← List.append_assoc, castL_app _ [(r, c)], cellsV_app]; rfl]
        (refine GO.assign rfl rfl ?_; refine GO.nil ?_; refine kblock_n ?_; refine kthen_n ?_; refine G.region ?_; refine GO.move rfl rfl ?_; refine GO.addi rfl rfl rfl (by omega) ?_; refine GO.assign rfl rfl ?_; refine GO.nil ?_; refine kthen_n ?_)
        refine ⟨c + 1, v2, by omega, by omega, ?_, ?_⟩
        · (refine SubE.c rfl rfl ?_; refine SubE.c rfl rfl ?_; refine SubE.c rfl rfl ?_; refine SubE.c rfl rfl ?_; exact SubE.n)
        · rw [show (uptoL B r ++ partL r (B r) (c + 1)).length = (uptoL B r ++ partL r (B r) c).length + 1 by rw [partL_on hb, ← List.append_assoc, List.length_append]; rfl]; ((refine Sb.c Tk.h ?_; refine Sb.c (Tk.t Tk.h) ?_); (refine Sb.s ?_; exact Sb.r))
      · (refine G.skip ?_; refine kblock_n ?_; refine kthen_n ?_; refine G.region ?_; refine GO.move rfl rfl ?_; refine GO.addi rfl rfl rfl (by omega) ?_; refine GO.assign rfl rfl ?_; refine GO.nil ?_; refine kthen_n ?_)
        refine ⟨c + 1, v, by omega, by omega, ?_, ?_⟩
        · (refine SubE.c rfl rfl ?_; refine SubE.c rfl rfl ?_; refine SubE.c rfl rfl ?_; refine SubE.c rfl rfl ?_; exact SubE.n)
        · rw [partL_off hb]; ((refine Sb.c Tk.h ?_; refine Sb.c Tk.h ?_); (exact Sb.r))
    · have : c = 64 := by omega
      subst this
      rw [← uptoL_succ]
      (refine G.exit ?_; refine G.region ?_; refine GO.move rfl rfl ?_; refine GO.addi rfl rfl rfl (by omega) ?_; refine GO.assign rfl rfl ?_; refine GO.nil ?_; refine kthen_n ?_)
      refine ⟨r + 1, v, by omega, by omega, ?_, ?_⟩
      · (refine SubE.c rfl rfl ?_; refine SubE.c rfl rfl ?_; refine SubE.c rfl rfl ?_; exact SubE.n)
      · ((refine Sb.c Tk.h ?_; refine Sb.c Tk.h ?_); (exact Sb.r))
  · have : r = 64 := by omega
    subst this
    rw [uptoL_all]
    (refine G.exit ?_; refine G.seq ?_; refine G.region ?_; refine GO.move rfl rfl ?_; refine GO.assign rfl rfl ?_; refine GO.nil ?_; refine kthen_n ?_; refine G.ret ?_)
    refine KF.r1 rfl (RV.t rfl) rfl ?_
    ((refine Sb.c Tk.h ?_); (refine Sb.s ?_; exact Sb.r))
set_option maxHeartbeats 2000000 in
theorem rof_spec (q : HP) (v : Value) (cs : List (Int × Int)) (hv : SlR q v cs.length 2 (cellsV cs)) (hn : cs.length ≤ 9223372036854775807) : Fn Tryd.prog 9 #[v] [q] (fun r Q => r = ofV cs ∧ Q = [q]) := by
  have hv0 := hv
  obtain ⟨a, cap, rfl, hl, hrd⟩ := hv
  refine Fn.mk Tryd.func9 rfl rfl fun w0 F => ?_
  (refine G.seq ?_; refine G.region ?_)
  refine GO.alloc rfl fun b2 => ?_
  rw [cells_zero]
  (refine GO.assign rfl rfl ?_; refine GO.nil ?_; refine kthen_n ?_; refine G.seq ?_; refine G.seq ?_; refine G.region ?_; refine GO.assign rfl rfl ?_; refine GO.nil ?_; refine kthen_n ?_; refine G.block ?_)
  refine G.loop (fun k : Nat => [(0, .slice a cs.length cap), (2, .pointer (some ⟨b2, 0, none⟩)), (4, i64 k)])
    (fun k => pt b2 (row (cells zeroB) 25) :: q :: F) (fun k => k ≤ cs.length ∧ allIn (cs.take k) = true) (fun k => cs.length - k) 0 ⟨by omega, rfl⟩ ?_ ?_ ?_
  · (refine SubE.c rfl rfl ?_; refine SubE.c rfl rfl ?_; refine SubE.c rfl rfl ?_; exact SubE.n)
  · ((refine Sb.c Tk.h ?_; refine Sb.c Tk.h ?_); (exact Sb.r))
  rintro k ⟨hk, hall⟩
  (refine G.seq ?_; refine G.seq ?_; refine G.region ?_; refine GO.move rfl rfl ?_; refine GO.move rfl rfl ?_; refine GO.lenS rfl rfl ?_; refine GO.lti rfl rfl rfl ?_; refine GO.nil ?_; refine kthen_n ?_)
  refine G.condD rfl (fun hlt => ?_) (fun hge => ?_)
  · have hlt' : k < cs.length := by omega
    obtain ⟨b, o, rfl, hr⟩ := hrd (by omega)
    obtain ⟨p, hp⟩ : ∃ p, cs[k]? = some p := ⟨cs[k], by simp [hlt']⟩
    obtain ⟨h1, h2⟩ := cellsV_get hp
    (refine G.skip ?_; refine kthen_n ?_; refine G.seq ?_; refine G.block ?_; refine G.seq ?_; refine G.region ?_; refine GO.move rfl rfl ?_; refine GO.move rfl rfl ?_; refine GO.idxS rfl rfl rfl ⟨rfl, by omega⟩ ?_; refine GO.fieldAddr rfl rfl ?_)
    refine GO.loadQ rfl rfl rfl (Tk.t Tk.h) (hr _ _ h1) ?_
    skip
    refine GO.call1 rfl rfl (rin_spec _) Tks.n ?_
    rintro _ _ ⟨rfl, rfl⟩
    (refine GO.not rfl rfl ?_; refine GO.move rfl rfl ?_)
    refine cases_in p.1 p.2 (fun m n hm hn' er ek => ?_) (fun h => ?_) (fun h h' => ?_)
    · refine GO.gT rfl rfl (by simp; omega) ?_
      (refine GO.move rfl rfl ?_)
      refine GO.gT rfl rfl (by simp; omega) ?_
      (refine GO.move rfl rfl ?_)
      refine GO.gT rfl rfl (by simp; omega) ?_
      (refine GO.idxS rfl rfl rfl ⟨rfl, by omega⟩ ?_)
      refine GO.gT rfl rfl (by simp; omega) ?_
      (refine GO.fieldAddr rfl rfl ?_)
      refine GO.gT rfl rfl (by simp; omega) ?_
      refine GO.loadQ rfl rfl rfl (Tk.t Tk.h) (hr _ _ h2) ?_
      refine GO.gT rfl rfl (by simp; omega) ?_
      refine GO.call1 rfl rfl (rin_spec _) Tks.n ?_
      rintro _ _ ⟨rfl, rfl⟩
      refine GO.gT rfl rfl (by simp; omega) ?_
      (refine GO.not rfl rfl ?_)
      refine GO.split 18 rfl (fun hb => by simp at hb; omega) (fun _ => ?_)
      (refine GO.pickF rfl rfl rfl ?_; refine GO.nil ?_; refine kthen_n ?_)
      refine G.condF rfl (by simp; omega) ?_
      (refine G.skip ?_; refine kblock_n ?_; refine kthen_n ?_; refine G.region ?_; refine GO.move rfl rfl ?_; refine GO.addi rfl rfl rfl (by omega) ?_; refine GO.assign rfl rfl ?_; refine GO.nil ?_; refine kthen_n ?_)
      refine ⟨k + 1, ⟨by omega, ?_⟩, by omega, ?_, ?_⟩
      · rw [allIn_succ hp, hall]; obtain ⟨p1, p2⟩ := p; simp only at er ek; subst er ek; exact inB_t hm hn'
      · (refine SubE.c rfl rfl ?_; refine SubE.c rfl rfl ?_; refine SubE.c rfl rfl ?_; exact SubE.n)
      · ((refine Sb.c Tk.h ?_; refine Sb.c Tk.h ?_); (exact Sb.r))
    · refine GO.gF rfl rfl rfl (by simp; omega) ?_
      refine GO.gF rfl rfl rfl (by simp; omega) ?_
      refine GO.gF rfl rfl rfl (by simp; omega) ?_
      refine GO.gF rfl rfl rfl (by simp; omega) ?_
      refine GO.gF rfl rfl rfl (by simp; omega) ?_
      refine GO.gF rfl rfl rfl (by simp; omega) ?_
      refine GO.gF rfl rfl rfl (by simp; omega) ?_
      refine GO.split 18 rfl (fun _ => ?_) (fun hb => by simp at hb; omega)
      (refine GO.pickT rfl rfl rfl ?_; refine GO.nil ?_; refine kthen_n ?_; refine G.condT rfl rfl ?_; refine G.seq ?_; refine G.region ?_)
      refine GO.build0 rfl ?_
      rw [cells_zero]
      refine GO.storeW rfl rfl Tk.h ⟨cells_len _, cells_len _⟩ (cells_one _) ?_
      (refine GO.assign rfl rfl ?_; refine GO.nil ?_; refine kthen_n ?_; refine G.ret ?_; refine kblock_r ?_; refine kthen_r ?_; refine kthen_r ?_; refine kblock_r ?_; refine kthen_r ?_)
      refine KF.r2 rfl (RV.cW rfl rfl Tk.h (cells_len _)) (RV.t rfl) ⟨?_, rfl⟩ ?_
      · unfold ofV; rw [allIn_not hp (by unfold inB; simp; omega)]; rfl
      · ((refine Sb.c (Tk.t Tk.h) ?_); (refine Sb.s ?_; exact Sb.r))
    · refine GO.gT rfl rfl (by simp; omega) ?_
      (refine GO.move rfl rfl ?_)
      refine GO.gT rfl rfl (by simp; omega) ?_
      (refine GO.move rfl rfl ?_)
      refine GO.gT rfl rfl (by simp; omega) ?_
      (refine GO.idxS rfl rfl rfl ⟨rfl, by omega⟩ ?_)
      refine GO.gT rfl rfl (by simp; omega) ?_
      (refine GO.fieldAddr rfl rfl ?_)
      refine GO.gT rfl rfl (by simp; omega) ?_
      refine GO.loadQ rfl rfl rfl (Tk.t Tk.h) (hr _ _ h2) ?_
      refine GO.gT rfl rfl (by simp; omega) ?_
      refine GO.call1 rfl rfl (rin_spec _) Tks.n ?_
      rintro _ _ ⟨rfl, rfl⟩
      refine GO.gT rfl rfl (by simp; omega) ?_
      (refine GO.not rfl rfl ?_)
      refine GO.split 18 rfl (fun hb => by simp at hb; omega) (fun _ => ?_)
      (refine GO.pickF rfl rfl rfl ?_; refine GO.nil ?_; refine kthen_n ?_)
      refine G.condT rfl (by simp; omega) ?_
      (refine G.seq ?_; refine G.region ?_)
      refine GO.build0 rfl ?_
      rw [cells_zero]
      refine GO.storeW rfl rfl Tk.h ⟨cells_len _, cells_len _⟩ (cells_one _) ?_
      (refine GO.assign rfl rfl ?_; refine GO.nil ?_; refine kthen_n ?_; refine G.ret ?_; refine kblock_r ?_; refine kthen_r ?_; refine kthen_r ?_; refine kblock_r ?_; refine kthen_r ?_)
      refine KF.r2 rfl (RV.cW rfl rfl Tk.h (cells_len _)) (RV.t rfl) ⟨?_, rfl⟩ ?_
      · unfold ofV; rw [allIn_not hp (by unfold inB; simp; omega)]; rfl
      · ((refine Sb.c (Tk.t Tk.h) ?_); (refine Sb.s ?_; exact Sb.r))
  · have : k = cs.length := by omega
    subst this
    rw [List.take_length] at hall
    (refine G.exit ?_; refine G.seq ?_; refine G.region ?_; refine GO.move rfl rfl ?_)
    refine GO.call1 rfl rfl (fold_spec q _ cs hv0 hn) (Tks.c (by (exact (Tk.t Tk.h))) Tks.n) ?_
    rintro _ _ ⟨rfl, rfl⟩
    refine GO.storeW rfl rfl (by (exact (Tk.t Tk.h))) ⟨cells_len _, cells_len _⟩ (cells_one _) ?_
    (refine GO.assign rfl rfl ?_; refine GO.nil ?_; refine kthen_n ?_; refine G.ret ?_)
    refine KF.r2 rfl (RV.cW rfl rfl Tk.h (cells_len _)) (RV.t rfl) ⟨?_, rfl⟩ ?_
    · unfold ofV; rw [hall]; rfl
    · ((refine Sb.c (Tk.t Tk.h) ?_); (refine Sb.s ?_; exact Sb.r))
end Go.Proofs.YticnafofachleaaDoor
