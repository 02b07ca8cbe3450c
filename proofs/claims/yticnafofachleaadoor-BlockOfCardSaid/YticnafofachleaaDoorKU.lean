/-
  The walk of the law BlockOf.
-/
import Derived.Test.YticnafofachleaaDoorKT
import Derived.Test.YticnafofachleaaDoorKD
namespace Go.Proofs.YticnafofachleaaDoor
open Go
attribute [local irreducible] G GO GQ Fn pt init exs pur sat own ImpS
theorem EqFs.two {P : Program} {t : TypeId} {k : IntKind} [UL P t (.int k)] {d : Nat} {f1 f2 : Field} {a b a' b' : Int} (n1 : f1.name ≠ "_") (n2 : f2.name ≠ "_") (t1 : f1.type = t) (t2 : f2.type = t) (o1 : f1.offset = 0) (o2 : f2.offset = 1) :
    EqFs P (d + 1) [i64 a, i64 b] [i64 a', i64 b'] [f1, f2] (decide (a = a') && decide (b = b')) := by
  refine ⟨i64 a, i64 a', decide (a = a'), decide (b = b'), n1, ?_, ?_, ?_, ⟨i64 b, i64 b', decide (b = b'), true, n2, ?_, ?_, ?_, rfl, by simp⟩, rfl⟩
  · rw [t1, o1]; exact PartR.one rfl rfl
  · rw [t1, o1]; exact PartR.one rfl rfl
  · rw [t1]; exact EqR.int
  · rw [t2, o2]; exact PartR.one rfl rfl
  · rw [t2, o2]; exact PartR.one rfl rfl
  · rw [t2]; exact EqR.int
theorem EqR.cell {d : Nat} {a b a' b' : Int} : EqR Tryd.prog (d + 2) 31 (.agg #[i64 a, i64 b]) (.agg #[i64 a', i64 b']) (decide (a = a') && decide (b = b')) :=
  EqR.struct (P := Tryd.prog) (d := d + 1) (t := 31) (l := [i64 a, i64 b]) (l' := [i64 a', i64 b']) (EqFs.two (t := 3) (by decide) (by decide) rfl rfl rfl rfl)
theorem EqR.cellT {d : Nat} {a b a' b' : Int} (h1 : a = a') (h2 : b = b') : EqR Tryd.prog (d + 2) 31 (.agg #[i64 a, i64 b]) (.agg #[i64 a', i64 b']) true := by
  subst h1 h2
  have := EqR.cell (d := d) (a := a) (b := b) (a' := a) (b' := b)
  simpa using this
theorem ofV_form (cs : List (Int × Int)) : ∃ X e, ofV cs = .tuple [blk X, i64 e].toArray := by
  unfold ofV; split <;> exact ⟨_, _, rfl⟩
theorem castL_get {B : Blk} {i : Nat} {p : Nat × Nat} (h : (cellsL B)[i]? = some p) : (castL (cellsL B))[i]? = some ((p.1 : Int), (p.2 : Int)) := by simp [castL, h]
theorem loadPair {P : Program} {c : Cx} {A : Array Oper} {rest : List Oper} {K : Kont} {L : Env} {H F : List HP} {t : TypeId} {p : String} {e : Array Edge} {d ty b o : Nat} {x : Operand} {ds : TypeDesc} {q : HP} {u1 u2 : Value} [hu : UL P ty ds] [hs : SZ P ty 2] (hd : ds.isRow = true) (hN : Nat.blt d c.N = true) (hx : evl L x = some (.pointer (some ⟨b, o, none⟩))) (tk : Tk q H F)
    (r1 : Rd q ⟨b, o, none⟩ u1) (r2 : Rd q ⟨b, o + 1, none⟩ u2) (k : GO P c A rest K ((d, .agg [u1, u2].toArray) :: L) H) : GO P c A (⟨some d, .load ty x, t, p, e, none⟩ :: rest) K L H :=
  GO.loadM (vs := [u1, u2]) hd hN hx tk rfl (fun j u hj => by
    match j, hj with
    | 0, hj => simp at hj; subst hj; exact r1
    | 1, hj => simp at hj; subst hj; exact r2) k
set_option maxHeartbeats 4000000 in
set_option maxRecDepth 20000 in
theorem of_law (q : HP) (hq : Tab q) (v : Value) (cs : List (Int × Int)) (hv : SlR q v cs.length 2 (cellsV cs)) (hn : cs.length * 16 ≤ 140737488355328) (early : Int) :
    Fn Tryd.prog 3 #[v, i64 early] [q] (fun x Q => x = .bool true ∧ Q = [q]) := by
  have hn1 : cs.length ≤ 9223372036854775807 := by omega
  have hv0 := hv
  obtain ⟨a, cap, rfl, hl, hrd⟩ := hv
  refine Fn.mk Tryd.func3 rfl rfl fun w0 F => ?_
  (refine G.seq ?_; refine G.region ?_)
  refine GO.box rfl rfl rfl fun b3 => ?_
  refine GO.alloc rfl fun b4 => ?_
  (refine GO.nil ?_; refine kthen_n ?_; refine G.seq ?_; refine G.region ?_)
  refine GO.buildSlice0 rfl fun v16 => ?_
  (refine GO.move rfl rfl ?_)
  refine GO.appendFrom (m := cs.length) (q := q) rfl rfl rfl (by (exact Tk.h)) (by (exact (Tk.t (Tk.t Tk.h)))) hv0 (by intro u hu; obtain ⟨p, _, hp⟩ := List.mem_flatMap.1 hu; simp at hp; rcases hp with rfl | rfl <;> rfl) ⟨by decide, rfl⟩ (by unfold maxLen; omega) (by omega) fun v5 => ?_
  rw [List.nil_append, Nat.zero_add]
  refine GO.ownRd Tk.h fun q5 h5 => ?_
  (refine GO.assign rfl rfl ?_; refine GO.nil ?_; refine kthen_n ?_; refine G.seq ?_; refine G.region ?_; refine GO.move rfl rfl ?_)
  obtain ⟨X, er, hX⟩ := ofV_form cs
  refine GO.call1 rfl rfl (of_spec q5 v5 cs h5 hn1) (Tks.c Tk.h Tks.n) ?_
  rintro _ _ ⟨rfl, rfl⟩
  rw [hX]
  (refine GO.move rfl rfl ?_; refine GO.extract rfl rfl rfl ?_; refine GO.extract rfl rfl rfl ?_)
  refine GO.alloc rfl fun b6 => ?_
  refine GO.storeW rfl rfl (by (exact Tk.h)) ⟨cells_len _, rfl⟩ (cells_one _) ?_
  (refine GO.assign rfl rfl ?_; refine GO.nil ?_; refine kthen_n ?_; refine G.seq ?_; refine G.region ?_; refine GO.move rfl rfl ?_)
  refine GO.call1 rfl rfl (rof_spec q _ cs hv0 hn1) (Tks.c (by (exact (Tk.t (Tk.t (Tk.t (Tk.t Tk.h)))))) Tks.n) ?_
  rintro _ _ ⟨rfl, rfl⟩
  rw [hX]
  (refine GO.move rfl rfl ?_; refine GO.extract rfl rfl rfl ?_; refine GO.extract rfl rfl rfl ?_)
  refine GO.alloc rfl fun b8 => ?_
  refine GO.storeW rfl rfl (by (exact Tk.h)) ⟨cells_len _, rfl⟩ (cells_one _) ?_
  (refine GO.assign rfl rfl ?_; refine GO.nil ?_; refine kthen_n ?_; refine G.seq ?_; refine G.seq ?_; refine G.region ?_)
  refine GO.loadW rfl rfl rfl (by (exact (Tk.t (Tk.t Tk.h)))) (cells_len _) ?_
  refine GO.loadW rfl rfl rfl (by (exact Tk.h)) (cells_len _) ?_
  refine GO.neqA (EqR.blkT fun i hi => rfl) rfl rfl rfl ?_
  (refine GO.move rfl rfl ?_; refine GO.gT rfl rfl rfl ?_; refine GO.move rfl rfl ?_; refine GO.gT rfl rfl rfl ?_; refine GO.move rfl rfl ?_; refine GO.gT rfl rfl rfl ?_; refine GO.neF rfl rfl rfl rfl ?_; refine GO.pickF rfl rfl rfl ?_; refine GO.nil ?_; refine kthen_n ?_; refine G.condF rfl rfl ?_; refine G.skip ?_; refine kthen_n ?_; refine G.seq ?_; refine G.seq ?_; refine G.region ?_; refine GO.assign rfl rfl ?_; refine GO.nil ?_; refine kthen_n ?_; refine G.block ?_)
  obtain ⟨a5, cap5, rfl, hl5, hrd5⟩ := h5
  refine G.loop (fun k : Nat => [(0, .slice a cs.length cap), (3, .pointer (some ⟨b3, 0, none⟩)), (4, .pointer (some ⟨b4, 0, none⟩)), (5, .slice a5 cs.length cap5), (6, .pointer (some ⟨b6, 0, none⟩)), (8, .pointer (some ⟨b8, 0, none⟩)), (10, i64 k)])
    (fun k => q :: q5 :: pt b6 (row (cells X) 25) :: pt b8 (row (cells X) 25) :: pt b3 (row [i64 early] 3) :: pt b4 (row [.bool false] 4) :: F) (fun k => k ≤ cs.length) (fun k => cs.length - k) 0 (by omega) ?_ ?_ ?_
  · (refine SubE.c rfl rfl ?_; refine SubE.c rfl rfl ?_; refine SubE.c rfl rfl ?_; refine SubE.c rfl rfl ?_; refine SubE.c rfl rfl ?_; refine SubE.c rfl rfl ?_; refine SubE.c rfl rfl ?_; exact SubE.n)
  · ((refine Sb.c (Tk.t Tk.h) ?_; refine Sb.c (Tk.t (Tk.t Tk.h)) ?_; refine Sb.c (Tk.t Tk.h) ?_; refine Sb.c Tk.h ?_; refine Sb.c (Tk.t Tk.h) ?_; refine Sb.c Tk.h ?_); (exact Sb.r))
  · intro k hk
    (refine G.seq ?_; refine G.seq ?_; refine G.region ?_; refine GO.move rfl rfl ?_; refine GO.move rfl rfl ?_; refine GO.lenS rfl rfl ?_; refine GO.lti rfl rfl rfl ?_; refine GO.nil ?_; refine kthen_n ?_)
    refine G.condD rfl (fun hlt => ?_) (fun hge => ?_)
    · have hlt' : k < cs.length := by omega
      obtain ⟨b, o, rfl, hr⟩ := hrd (by omega)
      obtain ⟨b', o', rfl, hr'⟩ := hrd5 (by omega)
      obtain ⟨p, hp⟩ : ∃ p, cs[k]? = some p := ⟨cs[k], by simp [hlt']⟩
      obtain ⟨h1, h2⟩ := cellsV_get hp
      (refine G.skip ?_; refine kthen_n ?_; refine G.seq ?_; refine G.block ?_; refine G.seq ?_)
      refine G.draw 9 (by kernel_rfl) ?_
      ((apply GQ.step; focus (intro Z; refine GO.move rfl rfl ?_; exact KQ.z)); (apply GQ.step; focus (intro Z; refine GO.move rfl rfl ?_; exact KQ.z)); (apply GQ.step; focus (intro Z; refine GO.idxS rfl rfl rfl ⟨rfl, by omega⟩ ?_; exact KQ.z)))
      apply GQ.step; focus (intro Z; refine loadPair rfl rfl rfl (Tk.t Tk.h) (hr' _ _ h1) (hr' _ _ h2) ?_; exact KQ.z)
      ((apply GQ.step; focus (intro Z; refine GO.move rfl rfl ?_; exact KQ.z)); (apply GQ.step; focus (intro Z; refine GO.move rfl rfl ?_; exact KQ.z)); (apply GQ.step; focus (intro Z; refine GO.idxS rfl rfl rfl ⟨rfl, by omega⟩ ?_; exact KQ.z)))
      apply GQ.step; focus (intro Z; refine loadPair rfl rfl rfl Tk.h (hr _ _ h1) (hr _ _ h2) ?_; exact KQ.z)
      apply GQ.step; focus (intro Z; refine GO.neqA (EqR.cellT rfl rfl) rfl rfl rfl ?_; exact KQ.z)
      refine GQ.nil ?_
      (refine GO.nil ?_; refine kthen_n ?_; refine G.condF rfl rfl ?_; refine G.skip ?_; refine kblock_n ?_; refine kthen_n ?_; refine G.region ?_; refine GO.move rfl rfl ?_; refine GO.addi rfl rfl rfl (by omega) ?_; refine GO.assign rfl rfl ?_; refine GO.nil ?_; refine kthen_n ?_)
      refine ⟨k + 1, by omega, by omega, ?_, ?_⟩
      · (refine SubE.c rfl rfl ?_; refine SubE.c rfl rfl ?_; refine SubE.c rfl rfl ?_; refine SubE.c rfl rfl ?_; refine SubE.c rfl rfl ?_; refine SubE.c rfl rfl ?_; refine SubE.c rfl rfl ?_; exact SubE.n)
      · ((refine Sb.c Tk.h ?_; refine Sb.c Tk.h ?_; refine Sb.c Tk.h ?_; refine Sb.c Tk.h ?_; refine Sb.c Tk.h ?_; refine Sb.c Tk.h ?_); (exact Sb.r))
    have : k = cs.length := by omega
    subst this
    (refine G.exit ?_; refine G.seq ?_; refine G.region ?_)
    refine GO.loadW rfl rfl rfl (by (exact (Tk.t (Tk.t (Tk.t Tk.h))))) (cells_len _) ?_
    refine GO.call1 rfl rfl (rcells_spec X) Tks.n ?_
    rintro v11 _ rfl
    refine GO.ownRd Tk.h fun q11 h11 => ?_
    obtain ⟨a11, cap11, rfl, hl11, hrd11⟩ := h11
    refine GO.alloc rfl fun b11 => ?_
    refine GO.store1 rfl rfl rfl (by (exact Tk.h)) (by decide) ?_
    (refine GO.nil ?_; refine kthen_n ?_; refine G.seq ?_; refine G.region ?_)
    refine GO.loadW rfl rfl rfl (by (exact (Tk.t (Tk.t (Tk.t (Tk.t Tk.h)))))) (cells_len _) ?_
    refine GO.call1 rfl rfl (bcells_spec X) Tks.n ?_
    rintro _ _ ⟨bI, rfl, rfl⟩
    (refine GO.assign rfl rfl ?_; refine GO.nil ?_; refine kthen_n ?_; refine G.seq ?_; refine G.seq ?_)
    refine G.draw 9 (by kernel_rfl) ?_
    ((apply GQ.step; focus (intro Z; refine GO.move rfl rfl ?_; exact KQ.z)))
    apply GQ.step; focus (intro Z; refine GO.eqNilF rfl rfl ?_; exact KQ.z)
    ((apply GQ.step; focus (intro Z; refine GO.move rfl rfl ?_; exact KQ.z)))
    apply GQ.step; focus (intro Z; refine GO.gT rfl rfl rfl ?_; refine GO.loadW rfl rfl rfl (by (exact (Tk.t (Tk.t (Tk.t (Tk.t (Tk.t Tk.h))))))) (cells_len _) ?_; exact KQ.z)
    apply GQ.step; focus (intro Z; refine GO.gT rfl rfl rfl ?_; refine GO.call1 rfl rfl (len_spec X) Tks.n ?_; rintro _ _ ⟨rfl, rfl⟩; exact KQ.z)
    apply GQ.step; focus (intro Z; refine GO.gT rfl rfl rfl ?_; refine GO.load1 rfl rfl rfl (by (exact (Tk.t Tk.h))) rfl ?_; exact KQ.z)
    apply GQ.step; focus (intro Z; refine GO.gT rfl rfl rfl ?_; refine GO.lenS rfl rfl ?_; exact KQ.z)
    apply GQ.step; focus (intro Z; refine GO.gT rfl rfl rfl ?_; refine GO.neF rfl rfl rfl (by rw [cellsL_len]) ?_; exact KQ.z)
    ((apply GQ.step; focus (intro Z; refine GO.pickF rfl rfl rfl ?_; exact KQ.z)))
    refine GQ.nil ?_
    (refine GO.nil ?_; refine kthen_n ?_; refine G.condF rfl rfl ?_; refine G.skip ?_; refine kthen_n ?_; refine G.seq ?_; refine G.seq ?_; refine G.region ?_)
    generalize hN : (cellsL X).length = N at *
    refine GO.alloc rfl fun b13 => ?_
    refine GO.store1 rfl rfl rfl (by (exact Tk.h)) (by decide) ?_
    (refine GO.nil ?_; refine kthen_n ?_; refine G.block ?_)
    refine G.loop2 (fun (turn : Nat) (b13 : Nat) => [(0, .slice a cs.length cap), (3, .pointer (some ⟨b3, 0, none⟩)), (4, .pointer (some ⟨b4, 0, none⟩)), (11, .pointer (some ⟨b11, 0, none⟩)), (12, .func (.func 26) #[] #[.pointer (some ⟨bI, 0, none⟩)]), (13, .pointer (some ⟨b13, 0, none⟩))])
      (fun turn b13 => pt b13 (row [i64 turn] 3) :: q :: pt bI (row (cells X) 25) :: pt b11 (row [.slice a11 N cap11] 22) :: q11 :: pt b3 (row [i64 early] 3) :: pt b4 (row [.bool false] 4) :: F) (fun turn _ => turn ≤ 2) (fun turn _ => 2 - turn) 0 b13 (by omega) ?_ ?_ ?_
    · (refine SubE.c rfl rfl ?_; refine SubE.c rfl rfl ?_; refine SubE.c rfl rfl ?_; refine SubE.c rfl rfl ?_; refine SubE.c rfl rfl ?_; refine SubE.c rfl rfl ?_; exact SubE.n)
    · ((refine Sb.c Tk.h ?_; refine Sb.c (Tk.t (Tk.t (Tk.t Tk.h))) ?_; refine Sb.c Tk.h ?_; refine Sb.c Tk.h ?_; refine Sb.c Tk.h ?_; refine Sb.c (Tk.t (Tk.t (Tk.t Tk.h))) ?_; refine Sb.c (Tk.t (Tk.t (Tk.t Tk.h))) ?_); (refine Sb.s ?_; refine Sb.s ?_; refine Sb.s ?_; exact Sb.r))
    · intro turn b13 ht
      (refine G.seq ?_; refine G.seq ?_; refine G.region ?_; refine GO.load1 rfl rfl rfl Tk.h rfl ?_; refine GO.lti rfl rfl rfl ?_; refine GO.nil ?_; refine kthen_n ?_)
      refine G.condD rfl (fun hlt => ?_) (fun hge => ?_)
      · have ht2 : turn < 2 := by omega
        (refine G.skip ?_; refine kthen_n ?_; refine G.seq ?_; refine G.block ?_; refine G.seq ?_; refine G.region ?_)
        refine GO.alloc rfl fun b14 => ?_
        refine GO.store1 rfl rfl rfl (by (exact Tk.h)) (by decide) ?_
        (refine GO.nil ?_; refine kthen_n ?_; refine G.seq ?_; refine G.seq ?_; refine G.region ?_; refine GO.move rfl rfl ?_; refine GO.nil ?_; refine kthen_n ?_; refine G.block ?_)
        refine G.midB [(0, .slice a cs.length cap), (3, .pointer (some ⟨b3, 0, none⟩)), (4, .pointer (some ⟨b4, 0, none⟩)), (11, .pointer (some ⟨b11, 0, none⟩)), (12, .func (.func 26) #[] #[.pointer (some ⟨bI, 0, none⟩)]), (13, .pointer (some ⟨b13, 0, none⟩)), (14, .pointer (some ⟨b14, 0, none⟩))]
          ((exs fun n : Nat => star [pur (turn = 1 → n = N), pt b14 (row [i64 n] 3)]) :: pt b13 (row [i64 turn] 3) :: q :: pt bI (row (cells X) 25) :: pt b11 (row [.slice a11 N cap11] 22) :: q11 :: pt b3 (row [i64 early] 3) :: pt b4 (row [.bool false] 4) :: F) ?_ ?_
        · refine G.rangeF (F := pt b4 (row [.bool false] 4) :: F) (psl := [70]) (v := .func (.func 26) #[] #[.pointer (some ⟨bI, 0, none⟩)]) (xs := (cellsL X).map fun p => [cellV p]) (Sh := [q]) (Gm := [pt bI (row (cells X) 25)])
            (fun i => [pt b14 (row [i64 i] 3), pt b13 (row [i64 turn] 3), pt b11 (row [.slice a11 N cap11] 22), q11, pt b3 (row [i64 early] 3)])
            (fun i jc => [pur (jc = .exit 4 ∧ turn = 0), pt b14 (row [i64 (i + 1 : Nat)] 3), pt b13 (row [i64 turn] 3), pt b11 (row [.slice a11 N cap11] 22), q11, pt b3 (row [i64 early] 3)])
            (fun _ h => by cases h) rfl (fun u hu => by obtain ⟨p, _, rfl⟩ := List.mem_map.1 hu; rfl) rfl (cells_seq q hq X bI) (by simp only [List.cons_append, List.nil_append, List.set_cons_zero, Int.natCast_zero]; (refine Tks.c Tk.h ?_; refine Tks.c Tk.h ?_; refine Tks.c (Tk.t (Tk.t Tk.h)) ?_; refine Tks.c (Tk.t (Tk.t Tk.h)) ?_; refine Tks.c (Tk.t (Tk.t Tk.h)) ?_; exact Tks.n)) (fun l Lr Lb w1 F1 i u hu => ?_) ?_ ?_
          · obtain ⟨p, hp, rfl⟩ : ∃ p, (cellsL X)[i]? = some p ∧ u = [cellV p] := by
              rw [List.getElem?_map] at hu
              cases hc : (cellsL X)[i]? with
              | none => simp [hc] at hu
              | some p => simp [hc] at hu; exact ⟨p, rfl, hu.symm⟩
            have hi : i < N := by rw [← hN]; exact (List.getElem?_eq_some_iff.1 hp).1
            obtain ⟨b', o', rfl, hr'⟩ := hrd11 (by omega)
            obtain ⟨h1, h2⟩ := cellsV_get (castL_get hp)
            have hlen := cellsL_len X
            have hdec : decide ((N : Int) ≤ (i : Int)) = false := decide_eq_false (by omega)
            have hle := lenB_le X 64
            change G _ _ _ _ ((70, cellV p) :: _) (pt b14 (row [i64 i] 3) :: pt b13 (row [i64 turn] 3) :: pt b11 (row [.slice (some ⟨b', o', none⟩) N cap11] 22) :: q11 :: pt b3 (row [i64 early] 3) :: q :: F1)
            (refine G.region ?_)
            refine GO.alloc rfl fun b15 => ?_
            refine GO.storeW (vs := [i64 (p.1 : Int), i64 (p.2 : Int)]) rfl rfl Tk.h ⟨rfl, rfl⟩ (by simp [Value.oneCell']) ?_
            (refine GO.nil ?_; refine G.block ?_; refine G.seq ?_; refine G.seq ?_)
            refine kA_n ?_
            skip
            refine G.draw 11 (by kernel_rfl) ?_
            ((apply GQ.step; focus (intro Z; refine GO.load1 rfl rfl rfl (Tk.t Tk.h) rfl ?_; exact KQ.z)); (apply GQ.step; focus (intro Z; refine GO.load1 rfl rfl rfl (Tk.t (Tk.t (Tk.t Tk.h))) rfl ?_; exact KQ.z)); (apply GQ.step; focus (intro Z; refine GO.lenS rfl rfl ?_; exact KQ.z)); (apply GQ.step; focus (intro Z; refine GO.gei rfl rfl rfl ?_; exact KQ.z)); (apply GQ.step; focus (intro Z; refine GO.move rfl rfl ?_; exact KQ.z)))
            rw [hdec]
            skip
            apply GQ.step; focus (intro Z; refine GO.gT rfl rfl rfl ?_; refine GO.loadW rfl rfl rfl Tk.h rfl ?_; exact KQ.z)
            apply GQ.step; focus (intro Z; refine GO.gT rfl rfl rfl ?_; refine GO.load1 rfl rfl rfl (by (exact (Tk.t (Tk.t (Tk.t Tk.h))))) rfl ?_; exact KQ.z)
            apply GQ.step; focus (intro Z; refine GO.gT rfl rfl rfl ?_; refine GO.load1 rfl rfl rfl (by (exact (Tk.t Tk.h))) rfl ?_; exact KQ.z)
            apply GQ.step; focus (intro Z; refine GO.gT rfl rfl rfl ?_; refine GO.idxS (j := i) rfl rfl rfl ⟨rfl, hi⟩ ?_; exact KQ.z)
            apply GQ.step; focus (intro Z; refine GO.gT rfl rfl rfl ?_; refine loadPair (q := q11) rfl rfl rfl (by (exact (Tk.t (Tk.t (Tk.t (Tk.t Tk.h)))))) (hr' _ _ h1) (hr' _ _ h2) ?_; exact KQ.z)
            apply GQ.step; focus (intro Z; refine GO.gT rfl rfl rfl ?_; refine GO.neqA (EqR.cellT rfl rfl) rfl rfl rfl ?_; exact KQ.z)
            skip
            refine GQ.nil ?_
            (refine GO.pickF rfl rfl rfl ?_; refine GO.nil ?_; refine kthen_n ?_; refine G.condF rfl rfl ?_; refine G.skip ?_; refine kthen_n ?_; refine G.seq ?_; refine G.region ?_; refine GO.load1 rfl rfl rfl (Tk.t Tk.h) rfl ?_; refine GO.addi rfl rfl rfl (by omega) ?_)
            refine GO.store1 rfl rfl rfl (by (exact (Tk.t Tk.h))) (by simp) ?_
            (refine GO.nil ?_; refine kthen_n ?_; refine G.seq ?_; refine G.region ?_; refine GO.load1 rfl rfl rfl (Tk.t (Tk.t Tk.h)) rfl ?_; refine GO.eqi rfl rfl rfl ?_; refine GO.move rfl rfl ?_)
            have hcase : turn = 0 ∨ turn = 1 := by omega
            rcases hcase with rfl | rfl
            · (refine GO.gT rfl rfl rfl ?_; refine GO.load1 rfl rfl rfl Tk.h rfl ?_; refine GO.gT rfl rfl rfl ?_; refine GO.load1 rfl rfl rfl (Tk.t (Tk.t (Tk.t (Tk.t (Tk.t Tk.h))))) rfl ?_; refine GO.gT rfl rfl rfl ?_; refine GO.eqi rfl rfl rfl ?_; refine GO.pickT rfl rfl rfl ?_; refine GO.nil ?_; refine kthen_n ?_)
              refine G.condD rfl (fun hbr => ?_) (fun hbr => ?_)
              · (refine G.exit ?_; refine kblock_o rfl ?_)
                refine kB_x (ImpS.pur ⟨rfl, rfl⟩ (ImpS.sb ?_))
                try simp only [List.cons_append, List.nil_append]
                ((refine Sb.c Tk.h ?_; refine Sb.c (Tk.t Tk.h) ?_; refine Sb.c (Tk.t Tk.h) ?_; refine Sb.c (Tk.t Tk.h) ?_; refine Sb.c (Tk.t Tk.h) ?_; refine Sb.c (Tk.t Tk.h) ?_); (refine Sb.s ?_; exact Sb.r))
              · (refine G.skip ?_; refine kblock_n ?_)
                refine kB_n (ImpS.sb ?_)
                try simp only [List.cons_append, List.nil_append]
                ((refine Sb.c Tk.h ?_; refine Sb.c (Tk.t Tk.h) ?_; refine Sb.c (Tk.t Tk.h) ?_; refine Sb.c (Tk.t Tk.h) ?_; refine Sb.c (Tk.t Tk.h) ?_; refine Sb.c (Tk.t Tk.h) ?_); (refine Sb.s ?_; exact Sb.r))
            · (refine GO.gF rfl rfl rfl rfl ?_; refine GO.gF rfl rfl rfl rfl ?_; refine GO.gF rfl rfl rfl rfl ?_; refine GO.pickF rfl rfl rfl ?_; refine GO.nil ?_; refine kthen_n ?_; refine G.condF rfl rfl ?_; refine G.skip ?_; refine kblock_n ?_)
              refine kB_n (ImpS.sb ?_)
              try simp only [List.cons_append, List.nil_append]
              ((refine Sb.c Tk.h ?_; refine Sb.c (Tk.t Tk.h) ?_; refine Sb.c (Tk.t Tk.h) ?_; refine Sb.c (Tk.t Tk.h) ?_; refine Sb.c (Tk.t Tk.h) ?_; refine Sb.c (Tk.t Tk.h) ?_); (refine Sb.s ?_; exact Sb.r))
          · rw [List.length_map, hN]
            refine kblock_n (kthen_n ⟨?_, ?_⟩)
            · (refine SubE.c rfl rfl ?_; refine SubE.c rfl rfl ?_; refine SubE.c rfl rfl ?_; refine SubE.c rfl rfl ?_; refine SubE.c rfl rfl ?_; refine SubE.c rfl rfl ?_; refine SubE.c rfl rfl ?_; exact SubE.n)
            · refine ImpS.exs N (ImpS.flat (ImpS.pur (fun _ => rfl) (ImpS.sb ?_)))
              try simp only [List.cons_append, List.nil_append]
              ((refine Sb.c Tk.h ?_; refine Sb.c Tk.h ?_; refine Sb.c (Tk.t (Tk.t (Tk.t Tk.h))) ?_; refine Sb.c (Tk.t (Tk.t (Tk.t Tk.h))) ?_; refine Sb.c Tk.h ?_; refine Sb.c Tk.h ?_; refine Sb.c Tk.h ?_; refine Sb.c Tk.h ?_); (exact Sb.r))
          · intro i jc hi
            refine G.pur fun ⟨e1, e2⟩ => ?_
            subst e1 e2
            refine G.exit (kblock_x (kthen_n ⟨?_, ?_⟩))
            · (refine SubE.c rfl rfl ?_; refine SubE.c rfl rfl ?_; refine SubE.c rfl rfl ?_; refine SubE.c rfl rfl ?_; refine SubE.c rfl rfl ?_; refine SubE.c rfl rfl ?_; refine SubE.c rfl rfl ?_; exact SubE.n)
            · refine ImpS.exs (i + 1) (ImpS.flat (ImpS.pur (fun h => by omega) (ImpS.sb ?_)))
              try simp only [List.cons_append, List.nil_append]
              ((refine Sb.c Tk.h ?_; refine Sb.c Tk.h ?_; refine Sb.c (Tk.t (Tk.t (Tk.t Tk.h))) ?_; refine Sb.c (Tk.t (Tk.t (Tk.t Tk.h))) ?_; refine Sb.c Tk.h ?_; refine Sb.c Tk.h ?_; refine Sb.c Tk.h ?_; refine Sb.c Tk.h ?_); (exact Sb.r))
        · refine G.exs fun n => G.flat (G.pur fun hnN => ?_)
          try simp only [List.cons_append, List.nil_append]
          have hcase : turn = 0 ∨ turn = 1 := by omega
          rcases hcase with rfl | rfl
          · (refine G.seq ?_; refine G.region ?_; refine GO.load1 rfl rfl rfl (Tk.t Tk.h) rfl ?_; refine GO.eqi rfl rfl rfl ?_; refine GO.move rfl rfl ?_; refine GO.gF rfl rfl rfl rfl ?_; refine GO.gF rfl rfl rfl rfl ?_; refine GO.gF rfl rfl rfl rfl ?_; refine GO.gF rfl rfl rfl rfl ?_; refine GO.pickF rfl rfl rfl ?_; refine GO.nil ?_; refine kthen_n ?_; refine G.condF rfl rfl ?_; refine G.skip ?_; refine kblock_n ?_; refine kthen_n ?_; refine G.seq ?_; refine G.seq ?_; refine G.region ?_; refine GO.load1 rfl rfl rfl (Tk.t Tk.h) rfl ?_; refine GO.nil ?_; refine kthen_n ?_; refine G.region ?_)
            refine GO.alloc rfl fun b13' => ?_
            refine GO.store1 rfl rfl rfl (by (exact Tk.h)) (by decide) ?_
            (refine GO.nil ?_; refine kthen_n ?_; refine G.region ?_; refine GO.load1 rfl rfl rfl Tk.h rfl ?_; refine GO.addi rfl rfl rfl (by omega) ?_)
            refine GO.store1 rfl rfl rfl (by (exact Tk.h)) (by decide) ?_
            (refine GO.nil ?_; refine kthen_n ?_)
            refine ⟨1, b13', by omega, by omega, ?_, ?_⟩
            · (refine SubE.c rfl rfl ?_; refine SubE.c rfl rfl ?_; refine SubE.c rfl rfl ?_; refine SubE.c rfl rfl ?_; refine SubE.c rfl rfl ?_; refine SubE.c rfl rfl ?_; exact SubE.n)
            · ((refine Sb.c Tk.h ?_; refine Sb.c (Tk.t (Tk.t Tk.h)) ?_; refine Sb.c (Tk.t (Tk.t Tk.h)) ?_; refine Sb.c (Tk.t (Tk.t Tk.h)) ?_; refine Sb.c (Tk.t (Tk.t Tk.h)) ?_; refine Sb.c (Tk.t (Tk.t Tk.h)) ?_; refine Sb.c (Tk.t (Tk.t Tk.h)) ?_); (refine Sb.s ?_; refine Sb.s ?_; exact Sb.r))
          · obtain rfl := hnN rfl
            (refine G.seq ?_; refine G.region ?_; refine GO.load1 rfl rfl rfl (Tk.t Tk.h) rfl ?_; refine GO.eqT rfl rfl rfl rfl ?_; refine GO.move rfl rfl ?_; refine GO.gT rfl rfl rfl ?_; refine GO.load1 rfl rfl rfl Tk.h rfl ?_; refine GO.gT rfl rfl rfl ?_; refine GO.load1 rfl rfl rfl (Tk.t (Tk.t (Tk.t (Tk.t Tk.h)))) rfl ?_; refine GO.gT rfl rfl rfl ?_; refine GO.lenS rfl rfl ?_; refine GO.gT rfl rfl rfl ?_; refine GO.neF rfl rfl rfl rfl ?_; refine GO.pickT rfl rfl rfl ?_; refine GO.nil ?_; refine kthen_n ?_; refine G.condF rfl rfl ?_; refine G.skip ?_; refine kblock_n ?_; refine kthen_n ?_; refine G.seq ?_; refine G.seq ?_; refine G.region ?_; refine GO.load1 rfl rfl rfl (Tk.t Tk.h) rfl ?_; refine GO.nil ?_; refine kthen_n ?_; refine G.region ?_)
            refine GO.alloc rfl fun b13' => ?_
            refine GO.store1 rfl rfl rfl (by (exact Tk.h)) (by decide) ?_
            (refine GO.nil ?_; refine kthen_n ?_; refine G.region ?_; refine GO.load1 rfl rfl rfl Tk.h rfl ?_; refine GO.addi rfl rfl rfl (by omega) ?_)
            refine GO.store1 rfl rfl rfl (by (exact Tk.h)) (by decide) ?_
            (refine GO.nil ?_; refine kthen_n ?_)
            refine ⟨2, b13', by omega, by omega, ?_, ?_⟩
            · (refine SubE.c rfl rfl ?_; refine SubE.c rfl rfl ?_; refine SubE.c rfl rfl ?_; refine SubE.c rfl rfl ?_; refine SubE.c rfl rfl ?_; refine SubE.c rfl rfl ?_; exact SubE.n)
            · ((refine Sb.c Tk.h ?_; refine Sb.c (Tk.t (Tk.t Tk.h)) ?_; refine Sb.c (Tk.t (Tk.t Tk.h)) ?_; refine Sb.c (Tk.t (Tk.t Tk.h)) ?_; refine Sb.c (Tk.t (Tk.t Tk.h)) ?_; refine Sb.c (Tk.t (Tk.t Tk.h)) ?_; refine Sb.c (Tk.t (Tk.t Tk.h)) ?_); (refine Sb.s ?_; refine Sb.s ?_; exact Sb.r))
      · have : turn = 2 := by omega
        subst this
        (refine G.exit ?_; refine G.seq ?_; refine G.region ?_)
        refine GO.call0 rfl awake_spec Tks.n ?_
        rintro _ _ ⟨rfl, rfl⟩
        refine GO.store1 rfl rfl rfl (by (exact (Tk.t (Tk.t (Tk.t (Tk.t (Tk.t (Tk.t Tk.h)))))))) (by decide) ?_
        (refine GO.nil ?_; refine kthen_n ?_; refine G.ret ?_)
        refine KF.r1 rfl (RV.c1 rfl rfl (by (exact Tk.h)) rfl) ⟨rfl, rfl⟩ ?_
        ((refine Sb.c (Tk.t (Tk.t Tk.h)) ?_); (refine Sb.s ?_; refine Sb.s ?_; refine Sb.s ?_; refine Sb.s ?_; refine Sb.s ?_; refine Sb.s ?_; exact Sb.r))
end Go.Proofs.YticnafofachleaaDoor
