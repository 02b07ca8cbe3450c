/-
  The law ReachPlays, part 4.
-/
import Derived.Test.YtpfcgfgkmgnaaaaDoorM3
import Derived.Test.YtpfcgfgkmgnaaaaDoorM2
import Derived.Test.YtpfcgfgkmgnaaaaDoorM1
namespace Go.Proofs.YtpfcgfgkmgnaaaaDoor
open Go
theorem clo_none {s : Nat} {M X : Nat → Nat → Bool} (hs : s ≤ 1024) (hM : ∀ r c, M r c = true → r < s ∧ c < s) (hX : IsClo M X) {i : Nat} (h : (rowX M i).length = 0) : lines X (i + 1) = lines X i := by
  have he : rowX X i = [] := by
    rw [List.eq_nil_iff_forall_not_mem]
    intro j hj
    have hX2 := hX.in hM
    have hp := (hX.path i j).1 ((rowX_memS hs hX2).1 hj)
    have hn := List.eq_nil_of_length_eq_zero h
    cases hp with
    | one a => have := (rowX_memS hs hM).2 a; rw [hn] at this; cases this
    | more a _ => have := (rowX_memS hs hM).2 a; rw [hn] at this; cases this
  rw [lines_succ, he]
  exact List.append_nil _
attribute [local irreducible] G GO GR GT Fn FnV pt init exs pur sat own ImpS mat posL allV orL restX cellsX cellsV natsV rowX lines NextR
set_option maxHeartbeats 16000000 in
theorem close_core (z : HP) (ra : Value) (s : Nat) (C X : Nat → Nat → Bool) (hra : RefO z ra (some (s, C))) (h1 : 1 ≤ s) (h2 : s ≤ 1024) (hC : ∀ r c, C r c = true → r < s ∧ c < s) (hX : IsClo C X) :
    Fn Tryd.prog 49 #[ra] [z] (fun r Q => ∃ v, r = refV (s : Nat) v ∧ Q = [own 63 2 (castL (cellsX X)).length v (cellsV (castL (cellsX X))), z]) := by
  have iX := hX.in hC
  have hall := lines_all h2 iX
  have hl0 : lines X 0 = [] := by unfold lines; rfl
  have hnx := next_spec z ra s C hra h1 h2 hC
  have hno := fun i (h : (rowX C i).length = 0) => clo_none h2 hC hX h
  rw [← hall, castL_len]
  obtain ⟨va, rfl, honea, _⟩ := hra
  change Fn _ _ #[refV s va] _ _ at hnx
  change Fn _ _ #[refV s va] _ _
  refine Fn.mk2 Tryd.func49 rfl rfl fun w0 F => ?_
  (refine G.seq ?_; refine G.region ?_; refine GO.box rfl rfl rfl fun b1 => ?_; refine GO.alloc rfl fun b2 => ?_; refine GO.nil ?_; refine kthen_n ?_; refine G.seq ?_; refine G.region ?_; refine GO.fieldAddr rfl rfl ?_; refine GO.load1 rfl rfl rfl (Tk.t Tk.h) rfl ?_)
  refine GO.buildPart1 (built_ref (s : Nat)) rfl rfl ?_
  (refine GO.alloc rfl fun b3 => ?_; refine GO.storeW rfl rfl Tk.h ⟨rfl, rfl⟩ (by simp [Value.oneCell']) ?_; refine GO.nil ?_; refine kthen_n ?_; refine G.seq ?_; refine G.region ?_; refine GO.loadW rfl rfl rfl (Tk.t (Tk.t Tk.h)) rfl ?_)
  refine GO.call1 rfl rfl (hnx) (Tks.c (Tk.t (Tk.t (Tk.t Tk.h))) Tks.n) ?_
  rintro _ _ ⟨Z, hZ, rfl⟩
  have hrch := fun i hi => reached_spec Z _ s C X hZ h1 h2 hC hX i hi
  unfold NextR at hZ
  obtain ⟨bl, vs, rfl, hZ⟩ := hZ
  (refine GO.assign rfl rfl ?_; refine GO.nil ?_; refine kthen_n ?_; refine G.seq ?_; refine G.seq ?_; refine G.region ?_; refine GO.assign rfl rfl ?_; refine GO.nil ?_; refine kthen_n ?_; refine G.block ?_)
  refine G.ownNil (T := 63) (sz := 2) ?_
  refine G.loop2 (fun (i : Nat) (v : Value) => [(1, ptrV b1), (2, ptrV b2), (3, ptrV b3), (4, .slice (some ⟨bl, 0, none⟩) s s), (5, i64 (i : Nat))])
    (fun i v => pt b3 (row [i64 (s : Nat), v] 28) :: own 63 2 (lines X i).length v (pairsV (lines X i)) :: pt b1 (row [i64 (s : Nat), va] 28) :: pt b2 (row [i64 0, .slice none 0 0] 28) :: Z :: z :: F) (fun i v => i ≤ s ∧ v.oneCell' = true) (fun i _ => s - i) 0 (.slice none 0 0) ⟨by omega, rfl⟩ ?_ ?_ ?_
  · (refine SubE.c rfl rfl ?_; refine SubE.c rfl rfl ?_; refine SubE.c rfl rfl ?_; refine SubE.c rfl rfl ?_; refine SubE.c rfl rfl ?_; exact SubE.n)
  · rw [hl0, show pairsV [] = [] by unfold pairsV cellsV; rfl]
    ((refine Sb.c (Tk.t (Tk.t (Tk.t Tk.h))) ?_; refine Sb.c Tk.h ?_; refine Sb.c (Tk.t (Tk.t (Tk.t Tk.h))) ?_; refine Sb.c (Tk.t (Tk.t Tk.h)) ?_; refine Sb.c Tk.h ?_; refine Sb.c Tk.h ?_); (exact Sb.r))
  · rintro i v ⟨hi, hone⟩
    (refine G.seq ?_; refine G.seq ?_; refine G.region ?_; refine GO.move rfl rfl ?_; refine GO.fieldAddr rfl rfl ?_; refine GO.load1 rfl rfl rfl (Tk.t (Tk.t Tk.h)) rfl ?_; refine GO.lti rfl rfl rfl ?_; refine GO.nil ?_; refine kthen_n ?_)
    refine G.condD rfl (fun hlt => ?_) (fun hge => ?_)
    · have his : i < s := by omega
      obtain ⟨hZr, hZs⟩ := hZ i his
      obtain ⟨ak, ck, ek, _, hrk⟩ := hZs
      have rk : Rd Z ⟨bl, 0 + i * 1, none⟩ (.slice ak (rowX C i).length ck) := by rw [Nat.zero_add, Nat.mul_one, ← ek]; exact hZr
      by_cases h0 : (rowX C i).length = 0
      · have d0 : decide ((((rowX C i).length : Nat) : Int) = 0) = true := decide_eq_true (by omega)
        have hn := hno i h0
        (refine G.skip ?_; refine kthen_n ?_; refine G.seq ?_; refine G.block ?_; refine G.seq ?_; refine G.seq ?_; refine G.region ?_; refine GO.move rfl rfl ?_; refine GO.move rfl rfl ?_; refine GO.idxS rfl rfl rfl ⟨rfl, by omega⟩ ?_; refine GO.loadQ rfl rfl rfl (Tk.t (Tk.t (Tk.t (Tk.t Tk.h)))) (by assumption) ?_; refine GO.lenS rfl rfl ?_; refine GO.eqi rfl rfl rfl ?_; refine GO.nil ?_; refine kthen_n ?_; refine G.condT rfl (by assumption) ?_; refine G.exit ?_; refine kthen_x ?_; refine kblock_x ?_; refine kthen_n ?_; refine G.region ?_; refine GO.move rfl rfl ?_; refine GO.addi rfl rfl rfl (by omega) ?_; refine GO.assign rfl rfl ?_; refine GO.nil ?_; refine kthen_n ?_)
        refine ⟨i + 1, v, ⟨by omega, hone⟩, by omega, ?_, ?_⟩
        · (refine SubE.c rfl rfl ?_; refine SubE.c rfl rfl ?_; refine SubE.c rfl rfl ?_; refine SubE.c rfl rfl ?_; refine SubE.c rfl rfl ?_; exact SubE.n)
        · rw [hn]
          ((refine Sb.c Tk.h ?_; refine Sb.c Tk.h ?_; refine Sb.c Tk.h ?_; refine Sb.c Tk.h ?_; refine Sb.c Tk.h ?_; refine Sb.c Tk.h ?_); (exact Sb.r))
      · have d0 : decide ((((rowX C i).length : Nat) : Int) = 0) = false := decide_eq_false (by omega)
        have ht0 := toldX_zero X i
        have hte := toldX_end h2 iX i
        (refine G.skip ?_; refine kthen_n ?_; refine G.seq ?_; refine G.block ?_; refine G.seq ?_; refine G.seq ?_; refine G.region ?_; refine GO.move rfl rfl ?_; refine GO.move rfl rfl ?_; refine GO.idxS rfl rfl rfl ⟨rfl, by omega⟩ ?_; refine GO.loadQ rfl rfl rfl (Tk.t (Tk.t (Tk.t (Tk.t Tk.h)))) (by assumption) ?_; refine GO.lenS rfl rfl ?_; refine GO.eqi rfl rfl rfl ?_; refine GO.nil ?_; refine kthen_n ?_; refine G.condF rfl (by assumption) ?_; refine G.skip ?_; refine kthen_n ?_; refine G.seq ?_; refine G.region ?_; refine GO.move rfl rfl ?_; refine GO.move rfl rfl ?_)
        refine GO.call2 rfl rfl rfl (hrch i his) (Tks.c (Tk.t (Tk.t (Tk.t (Tk.t Tk.h)))) Tks.n) ?_
        rintro _ _ ⟨bM, rfl, rfl⟩
        (refine GO.assign rfl rfl ?_; refine GO.nil ?_; refine kthen_n ?_; refine G.seq ?_; refine G.region ?_; refine GO.assign rfl rfl ?_; refine GO.nil ?_; refine kthen_n ?_; refine G.block ?_)
        refine G.loop2 (fun (j : Nat) (v : Value) => [(1, ptrV b1), (2, ptrV b2), (3, ptrV b3), (4, .slice (some ⟨bl, 0, none⟩) s s), (5, i64 (i : Nat)), (6, .slice (some ⟨bM, 0, none⟩) s s), (7, i64 (j : Nat))])
          (fun j v => pt b3 (row [i64 (s : Nat), v] 28) :: own 63 2 (toldX X i j).length v (pairsV (toldX X i j)) :: onR bM (X i) s :: pt b1 (row [i64 (s : Nat), va] 28) :: pt b2 (row [i64 0, .slice none 0 0] 28) :: Z :: z :: F) (fun j v => j ≤ s ∧ v.oneCell' = true) (fun j _ => s - j) 0 v ⟨by omega, hone⟩ ?_ ?_ ?_
        · (refine SubE.c rfl rfl ?_; refine SubE.c rfl rfl ?_; refine SubE.c rfl rfl ?_; refine SubE.c rfl rfl ?_; refine SubE.c rfl rfl ?_; refine SubE.c rfl rfl ?_; refine SubE.c rfl rfl ?_; exact SubE.n)
        · rw [ht0]
          ((refine Sb.c (Tk.t (Tk.t Tk.h)) ?_; refine Sb.c (Tk.t (Tk.t Tk.h)) ?_; refine Sb.c Tk.h ?_; refine Sb.c (Tk.t Tk.h) ?_; refine Sb.c (Tk.t Tk.h) ?_; refine Sb.c Tk.h ?_; refine Sb.c Tk.h ?_); (exact Sb.r))
        · rintro j v ⟨hj, hone⟩
          have hln := toldX_len X (i := i) (j := j) (by omega) (by omega)
          (refine G.seq ?_; refine G.seq ?_; refine G.region ?_; refine GO.move rfl rfl ?_; refine GO.fieldAddr rfl rfl ?_; refine GO.load1 rfl rfl rfl (Tk.t (Tk.t (Tk.t Tk.h))) rfl ?_; refine GO.lti rfl rfl rfl ?_; refine GO.nil ?_; refine kthen_n ?_)
          refine G.condD rfl (fun hltj => ?_) (fun hgej => ?_)
          · have hjs : j < s := by omega
            cases hA : X i j with
            | false =>
              have hno := toldX_no hA
              (refine G.skip ?_; refine kthen_n ?_; refine G.seq ?_; refine G.block ?_; refine G.seq ?_; refine G.region ?_; refine GO.move rfl rfl ?_; refine GO.move rfl rfl ?_; refine GO.idxS rfl rfl rfl ⟨rfl, by omega⟩ ?_; refine GO.load1 rfl rfl rfl (Tk.t (Tk.t Tk.h)) (rowV_get1 (by assumption)) ?_; refine GO.nil ?_; refine kthen_n ?_; refine G.condF rfl (by assumption) ?_; refine G.skip ?_; refine kblock_n ?_; refine kthen_n ?_; refine G.region ?_; refine GO.move rfl rfl ?_; refine GO.addi rfl rfl rfl (by omega) ?_; refine GO.assign rfl rfl ?_; refine GO.nil ?_; refine kthen_n ?_)
              refine ⟨j + 1, v, ⟨by omega, hone⟩, by omega, ?_, ?_⟩
              · (refine SubE.c rfl rfl ?_; refine SubE.c rfl rfl ?_; refine SubE.c rfl rfl ?_; refine SubE.c rfl rfl ?_; refine SubE.c rfl rfl ?_; refine SubE.c rfl rfl ?_; refine SubE.c rfl rfl ?_; exact SubE.n)
              · rw [hno]
                ((refine Sb.c Tk.h ?_; refine Sb.c Tk.h ?_; refine Sb.c Tk.h ?_; refine Sb.c Tk.h ?_; refine Sb.c Tk.h ?_; refine Sb.c Tk.h ?_; refine Sb.c Tk.h ?_); (exact Sb.r))
            | true =>
              have hyes := toldX_yes hA
              (refine G.skip ?_; refine kthen_n ?_; refine G.seq ?_; refine G.block ?_; refine G.seq ?_; refine G.region ?_; refine GO.move rfl rfl ?_; refine GO.move rfl rfl ?_; refine GO.idxS rfl rfl rfl ⟨rfl, by omega⟩ ?_; refine GO.load1 rfl rfl rfl (Tk.t (Tk.t Tk.h)) (rowV_get1 (by assumption)) ?_; refine GO.nil ?_; refine kthen_n ?_; refine G.condT rfl (by assumption) ?_; refine G.region ?_; refine GO.fieldAddr rfl rfl ?_; refine GO.load1 rfl rfl rfl Tk.h rfl ?_; refine GO.move rfl rfl ?_; refine GO.move rfl rfl ?_; refine GO.build2 rfl rfl rfl rfl ?_)
              refine GO.buildSlice1 rfl rfl (by simp; rfl) rfl ⟨by omega, by omega⟩ fun bs => ?_
              refine GO.appendOwn (m := 1) (news := [i64 (i : Nat), i64 (j : Nat)]) rfl rfl rfl (Tk.t (Tk.t Tk.h)) Tk.h rfl (by simp [Value.oneCell']) ⟨by decide, rfl⟩ Nat.one_pos (by unfold maxLen; omega) (by omega) fun v4 => ?_
              refine GO.ownOne Tk.h fun hone4 => ?_
              rw [pairsV_one, show (toldX X i j).length + 1 = (toldX X i j ++ [(i, j)]).length by rw [List.length_append]; rfl, ← hyes]
              (refine GO.fieldAddr rfl rfl ?_; refine GO.store1 rfl rfl (by assumption) (Tk.t (Tk.t Tk.h)) (by simp) ?_; refine GO.nil ?_; refine kblock_n ?_; refine kthen_n ?_; refine G.region ?_; refine GO.move rfl rfl ?_; refine GO.addi rfl rfl rfl (by omega) ?_; refine GO.assign rfl rfl ?_; refine GO.nil ?_; refine kthen_n ?_)
              refine ⟨j + 1, v4, ⟨by omega, hone4⟩, by omega, ?_, ?_⟩
              · (refine SubE.c rfl rfl ?_; refine SubE.c rfl rfl ?_; refine SubE.c rfl rfl ?_; refine SubE.c rfl rfl ?_; refine SubE.c rfl rfl ?_; refine SubE.c rfl rfl ?_; refine SubE.c rfl rfl ?_; exact SubE.n)
              · ((refine Sb.c Tk.h ?_; refine Sb.c Tk.h ?_; refine Sb.c (Tk.t Tk.h) ?_; refine Sb.c (Tk.t Tk.h) ?_; refine Sb.c (Tk.t Tk.h) ?_; refine Sb.c (Tk.t Tk.h) ?_; refine Sb.c (Tk.t Tk.h) ?_); (refine Sb.s ?_; exact Sb.r))
          · obtain rfl : j = s := by omega
            rw [hte]
            (refine G.exit ?_; refine kthen_x ?_; refine kthen_x ?_; refine kblock_x ?_; refine kblock_n ?_; refine kthen_n ?_; refine G.region ?_; refine GO.move rfl rfl ?_; refine GO.addi rfl rfl rfl (by omega) ?_; refine GO.assign rfl rfl ?_; refine GO.nil ?_; refine kthen_n ?_)
            refine ⟨i + 1, v, ⟨by omega, hone⟩, by omega, ?_, ?_⟩
            · (refine SubE.c rfl rfl ?_; refine SubE.c rfl rfl ?_; refine SubE.c rfl rfl ?_; refine SubE.c rfl rfl ?_; refine SubE.c rfl rfl ?_; exact SubE.n)
            · ((refine Sb.c Tk.h ?_; refine Sb.c Tk.h ?_; refine Sb.c (Tk.t Tk.h) ?_; refine Sb.c (Tk.t Tk.h) ?_; refine Sb.c (Tk.t Tk.h) ?_; refine Sb.c (Tk.t Tk.h) ?_); (refine Sb.s ?_; exact Sb.r))
    · obtain rfl : i = s := by omega
      (refine G.exit ?_; refine kthen_x ?_; refine kthen_x ?_; refine kblock_x ?_; refine kthen_n ?_; refine G.seq ?_; refine G.region ?_; refine GO.loadW rfl rfl rfl Tk.h rfl ?_; refine GO.storeW rfl rfl (Tk.t (Tk.t (Tk.t Tk.h))) ⟨rfl, rfl⟩ (by simp [Value.oneCell']; assumption) ?_; refine GO.nil ?_; refine kthen_n ?_; refine G.ret ?_)
      refine KF2.r1 rfl (RV.cW (n := 2) rfl rfl (by (exact Tk.h)) rfl) ⟨v, rfl, rfl⟩ (ImpS.sb ?_)
      ((refine Sb.c (Tk.t (Tk.t Tk.h)) ?_; refine Sb.c (Tk.t (Tk.t (Tk.t (Tk.t Tk.h)))) ?_); (refine Sb.s ?_; refine Sb.s ?_; refine Sb.s ?_; refine Sb.s ?_; exact Sb.r))
theorem close_spec (z : HP) (ra : Value) (s : Nat) (C X : Nat → Nat → Bool) (hra : RefO z ra (some (s, C))) (h1 : 1 ≤ s) (h2 : s ≤ 1024) (hC : ∀ r c, C r c = true → r < s ∧ c < s) (hX : IsClo C X) :
    Fn Tryd.prog 49 #[ra] [z] (fun r Q => ∃ v p, r = refV (s : Nat) v ∧ v.oneCell' = true ∧ RefO p (refV (s : Nat) v) (some (s, X)) ∧ Q = [p, z]) := by
  have h := close_core z ra s C X hra h1 h2 hC hX
  unfold Fn at *
  intro F w hw
  refine (h F w hw).mono ?_
  rintro e w' ⟨v, Q, e1, e2, ⟨u, rfl, rfl⟩, d⟩
  have d1 := own_one d
  have d2 := own_slC d
  exact ⟨_, _, e1, e2, ⟨u, _, rfl, d1, RefO.own d1 d2, rfl⟩, d⟩
end Go.Proofs.YtpfcgfgkmgnaaaaDoor
namespace Go.Proofs.YtpfcgfgkmgnaaaaDoor
open Go
def cloO (o : OptM) (X : Nat → Nat → Bool) : OptM := match o with | some (s, _) => some (s, X) | none => none
def CloR (o : OptM) (X : Nat → Nat → Bool) : Prop := ∀ s C, o = some (s, C) → IsClo C X
theorem mat_some {p : HP} {v : Value} {o : OptM} (h : MatO p v o) (ho : sideO o ≠ 0) : ∃ b, v = ptrV b ∧ p = mat (sideO o) (setO o) b := by
  rcases h with ⟨rfl, _⟩ | ⟨s, X, b, rfl, rfl, rfl⟩
  · exact absurd rfl ho
  · exact ⟨b, rfl, rfl⟩
theorem WfM.none_of {o : OptM} (w : WfM o) (h : sideO o = 0) : o = none := by
  match o, w, h with
  | none, _, _ => rfl
  | some (s, X), w, h => have := (w s X rfl).1; change s = 0 at h; omega
theorem some_ofS {o : OptM} (h : sideO o ≠ 0) : o = some (sideO o, setO o) := by
  match o, h with
  | none, h => exact absurd rfl h
  | some (s, X), _ => rfl
attribute [local irreducible] G GO GR GT Fn FnV pt init exs pur sat own ImpS mat posL allV orL restX cellsX cellsV natsV rowX lines NextR
end Go.Proofs.YtpfcgfgkmgnaaaaDoor
namespace Go.Proofs.YtpfcgfgkmgnaaaaDoor
open Go
theorem Fn.pack {P : Program} {f : FuncId} {args : Array Value} {l rest : List HP} {R R' : Value → List HP → Prop} (h : Fn P f args (l ++ rest) R) (k : ∀ v Q, R v Q → ∃ Q', R' v Q' ∧ ImpS Q Q') : Fn P f args (star l :: rest) R' := by
  unfold Fn at *
  intro F w hw
  have h1 : sat (l ++ (rest ++ F)) w := sat_flat.1 hw
  rw [← List.append_assoc] at h1
  refine (h F w h1).mono ?_
  rintro e w' ⟨v, Q, e1, e2, hR, d⟩
  obtain ⟨Q', h2, h3⟩ := k v Q hR
  exact ⟨v, Q', e1, e2, h2, h3 F w' d⟩
theorem ImpS.pk (l : List HP) : ImpS l [star l] := fun m w s => sat_flat.2 s
theorem ImpS.pk1 (x : HP) (l : List HP) : ImpS (x :: l) [x, star l] := fun m w s => sat_perm (List.Perm.swap _ _ _) (sat_flat.2 (sat_perm List.perm_middle.symm s))
/-- A keeper: its steps, and what they lead to; none: whatever piece. -/
def KeepO (K : HP) (v : Value) (o : OptM) (X : Nat → Nat → Bool) : Prop := (o = none ∧ v = .pointer none) ∨ ∃ s S bk d, o = some (s, S) ∧ v = ptrV bk ∧ K = star (keepL s bk d S X)
theorem KeepO.nil (K : HP) (X : Nat → Nat → Bool) : KeepO K (.pointer none) none X := .inl ⟨rfl, rfl⟩
theorem KeepO.one (s bk : Nat) (d : KD) (S X : Nat → Nat → Bool) : KeepO (star (keepL s bk d S X)) (ptrV bk) (some (s, S)) X := .inr ⟨s, S, bk, d, rfl, rfl, rfl⟩
def lenO (o : OptM) (X : Nat → Nat → Bool) : Nat := match o with | none => 0 | some _ => cntX X
attribute [local irreducible] G GO GR GT Fn FnV pt init exs pur sat own ImpS mat posL allV orL restX cellsX cellsV cntX
set_option maxHeartbeats 4000000 in
theorem steps_knil : Fn Tryd.prog 30 #[.pointer none] [] (fun r Q => r = .pointer none ∧ Q = []) := by
  refine Fn.mk2 Tryd.func30 rfl rfl fun w0 F => ?_
  (refine G.seq ?_; refine G.region ?_; refine GO.assign rfl rfl ?_; refine GO.nil ?_; refine kthen_n ?_; refine G.seq ?_; refine G.seq ?_; refine G.region ?_; refine GO.move rfl rfl ?_)
  refine GO.call1 rfl rfl (is_knil) Tks.n ?_
  rintro _ _ ⟨rfl, rfl⟩
  (refine GO.not rfl rfl ?_; refine GO.nil ?_; refine kthen_n ?_; refine G.condT rfl rfl ?_; refine G.seq ?_; refine G.region ?_; refine GO.assign rfl rfl ?_; refine GO.nil ?_; refine kthen_n ?_; refine G.ret ?_; refine kthen_r ?_)
  refine KF2.r1 rfl (RV.t rfl) ⟨rfl, rfl⟩ (ImpS.sb ?_)
  (skip; (exact Sb.r))
set_option maxHeartbeats 4000000 in
theorem matrix_knil : Fn Tryd.prog 29 #[.pointer none] [] (fun r Q => r = .pointer none ∧ Q = []) := by
  refine Fn.mk2 Tryd.func29 rfl rfl fun w0 F => ?_
  (refine G.seq ?_; refine G.region ?_; refine GO.assign rfl rfl ?_; refine GO.nil ?_; refine kthen_n ?_; refine G.seq ?_; refine G.seq ?_; refine G.region ?_; refine GO.move rfl rfl ?_)
  refine GO.call1 rfl rfl (is_knil) Tks.n ?_
  rintro _ _ ⟨rfl, rfl⟩
  (refine GO.not rfl rfl ?_; refine GO.nil ?_; refine kthen_n ?_; refine G.condT rfl rfl ?_; refine G.seq ?_; refine G.region ?_; refine GO.assign rfl rfl ?_; refine GO.nil ?_; refine kthen_n ?_; refine G.ret ?_; refine kthen_r ?_)
  refine KF2.r1 rfl (RV.t rfl) ⟨rfl, rfl⟩ (ImpS.sb ?_)
  (skip; (exact Sb.r))
set_option maxHeartbeats 4000000 in
theorem has_knil (i j : Int) : Fn Tryd.prog 38 #[.pointer none, i64 i, i64 j] [] (fun r Q => r = .tuple #[.bool false, i64 1] ∧ Q = []) := by
  refine Fn.mk2 Tryd.func38 rfl rfl fun w0 F => ?_
  (refine G.seq ?_; refine G.region ?_; refine GO.assign rfl rfl ?_; refine GO.assign rfl rfl ?_; refine GO.nil ?_; refine kthen_n ?_; refine G.seq ?_; refine G.region ?_; refine GO.move rfl rfl ?_; refine GO.move rfl rfl ?_; refine GO.move rfl rfl ?_)
  refine GO.call3 rfl rfl rfl rfl (wrong_knil i j) Tks.n ?_
  rintro _ _ ⟨rfl, rfl⟩
  (refine GO.assign rfl rfl ?_; refine GO.nil ?_; refine kthen_n ?_; refine G.seq ?_; refine G.seq ?_; refine G.region ?_; refine GO.move rfl rfl ?_; refine GO.nei rfl rfl rfl ?_; refine GO.nil ?_; refine kthen_n ?_; refine G.condT rfl rfl ?_; refine G.seq ?_; refine G.region ?_; refine GO.move rfl rfl ?_; refine GO.assign rfl rfl ?_; refine GO.assign rfl rfl ?_; refine GO.nil ?_; refine kthen_n ?_; refine G.ret ?_; refine kthen_r ?_)
  refine KF2.r2 rfl (RV.t rfl) (RV.t rfl) ⟨rfl, rfl⟩ (ImpS.sb ?_)
  (skip; (exact Sb.r))
set_option maxHeartbeats 4000000 in
theorem add_knil (i j : Int) : Fn Tryd.prog 25 #[.pointer none, i64 i, i64 j] [] (fun r Q => r = .tuple #[.slice none 0 0, i64 1] ∧ Q = []) := by
  refine Fn.mk2 Tryd.func25 rfl rfl fun w0 F => ?_
  (refine G.seq ?_; refine G.region ?_; refine GO.assign rfl rfl ?_; refine GO.assign rfl rfl ?_; refine GO.nil ?_; refine kthen_n ?_; refine G.seq ?_; refine G.region ?_; refine GO.move rfl rfl ?_; refine GO.move rfl rfl ?_; refine GO.move rfl rfl ?_)
  refine GO.call3 rfl rfl rfl rfl (wrong_knil i j) Tks.n ?_
  rintro _ _ ⟨rfl, rfl⟩
  (refine GO.assign rfl rfl ?_; refine GO.nil ?_; refine kthen_n ?_; refine G.seq ?_; refine G.seq ?_; refine G.region ?_; refine GO.move rfl rfl ?_; refine GO.nei rfl rfl rfl ?_; refine GO.nil ?_; refine kthen_n ?_; refine G.condT rfl rfl ?_; refine G.seq ?_; refine G.region ?_; refine GO.move rfl rfl ?_; refine GO.assign rfl rfl ?_; refine GO.assign rfl rfl ?_; refine GO.nil ?_; refine kthen_n ?_; refine G.ret ?_; refine kthen_r ?_)
  refine KF2.r2 rfl (RV.t rfl) (RV.t rfl) ⟨rfl, rfl⟩ (ImpS.sb ?_)
  (skip; (exact Sb.r))
theorem kSideO (K : HP) (v : Value) (o : OptM) (X : Nat → Nat → Bool) (h : KeepO K v o X) : Fn Tryd.prog 51 #[v] [K] (fun r Q => r = i64 (sideO o : Nat) ∧ Q = [K]) := by
  rcases h with ⟨rfl, rfl⟩ | ⟨s, S, bk, d, rfl, rfl, rfl⟩
  · exact (side_knil.frame [K]).mono fun v Q ⟨Q', ⟨h1, h2⟩, h3⟩ => ⟨h1, by rw [h3, h2]; rfl⟩
  · exact Fn.pack (rest := []) ((side_k s bk d (cntX X) S).frame [rowsO s d.bt d.ct d.bst d.cst, rowsF s d.bst d.cst X, rowsO s d.bf d.cf d.bsf d.csf, rowsF s d.bsf d.csf (flipX X)]) fun v Q ⟨Q', ⟨h1, h2⟩, h3⟩ => ⟨_, ⟨h1, rfl⟩, by rw [h3, h2]; exact ImpS.pk (keepL s bk d S X)⟩
theorem kLenO (K : HP) (v : Value) (o : OptM) (X : Nat → Nat → Bool) (h : KeepO K v o X) : Fn Tryd.prog 31 #[v] [K] (fun r Q => r = i64 (lenO o X : Nat) ∧ Q = [K]) := by
  rcases h with ⟨rfl, rfl⟩ | ⟨s, S, bk, d, rfl, rfl, rfl⟩
  · exact (len_knil.frame [K]).mono fun v Q ⟨Q', ⟨h1, h2⟩, h3⟩ => ⟨h1, by rw [h3, h2]; rfl⟩
  · exact Fn.pack (rest := []) ((len_k s bk d (cntX X)).frame [mat s S d.bs, rowsO s d.bt d.ct d.bst d.cst, rowsF s d.bst d.cst X, rowsO s d.bf d.cf d.bsf d.csf, rowsF s d.bsf d.csf (flipX X)]) fun v Q ⟨Q', ⟨h1, h2⟩, h3⟩ => ⟨_, ⟨h1, rfl⟩, by rw [h3, h2]; exact ImpS.pk (keepL s bk d S X)⟩
theorem kStepsO (K : HP) (v : Value) (o : OptM) (X : Nat → Nat → Bool) (h : KeepO K v o X) : Fn Tryd.prog 30 #[v] [K] (fun r Q => ∃ p, MatO p r o ∧ Q = [p, K]) := by
  rcases h with ⟨rfl, rfl⟩ | ⟨s, S, bk, d, rfl, rfl, rfl⟩
  · have h1 := steps_knil.frame [K]
    unfold Fn at *
    intro F w hw
    refine (h1 F w hw).mono ?_
    rintro e w' ⟨v, Q, e1, e2, ⟨Q', ⟨rfl, rfl⟩, rfl⟩, d⟩
    exact ⟨_, [star [], K], e1, e2, ⟨star [], MatO.nil _, rfl⟩, sat_flat.2 d⟩
  · refine Fn.pack (rest := []) ((steps_k s bk d (cntX X) S).frame [rowsO s d.bt d.ct d.bst d.cst, rowsF s d.bst d.cst X, rowsO s d.bf d.cf d.bsf d.csf, rowsF s d.bsf d.csf (flipX X)]) ?_
    rintro _ _ ⟨_, ⟨b', rfl, rfl⟩, rfl⟩
    exact ⟨_, ⟨_, MatO.one s b' S, rfl⟩, ImpS.pk1 _ (keepL s bk d S X)⟩
end Go.Proofs.YtpfcgfgkmgnaaaaDoor
namespace Go.Proofs.YtpfcgfgkmgnaaaaDoor
open Go
theorem up_get {l : List Cl} (hl : Up l) {i j : Nat} {x y : Cl} (hx : l[i]? = some x) (hy : l[j]? = some y) (h : i < j) : ltC x y = true := by
  obtain ⟨h1, rfl⟩ := List.getElem?_eq_some_iff.1 hx
  obtain ⟨h2, rfl⟩ := List.getElem?_eq_some_iff.1 hy
  exact List.pairwise_iff_getElem.1 hl i j h1 h2 h
/-- What is ahead of n is ahead of the cell, the rest is not. -/
def Cuts (l : List Cl) (c : Cl) (lo hi : Nat) : Prop := (∀ k x, l[k]? = some x → k < lo → ltC x c = true) ∧ ∀ k x, l[k]? = some x → hi ≤ k → ltC x c = false
theorem Cuts.all (l : List Cl) (c : Cl) : Cuts l c 0 l.length := ⟨fun _ _ _ h => absurd h (Nat.not_lt_zero _), fun k x h h2 => by have := (List.getElem?_eq_some_iff.1 h).1; omega⟩
theorem Cuts.up {l : List Cl} (hl : Up l) {c x : Cl} {lo hi m : Nat} (h : Cuts l c lo hi) (hx : l[m]? = some x) (hlt : ltC x c = true) : Cuts l c (m + 1) hi := ⟨fun k y hk hm => by
    by_cases e : k = m
    · subst e
      rw [hx] at hk
      cases hk
      exact hlt
    · exact ltC_trans (up_get hl hk hx (by omega)) hlt, h.2⟩
theorem Cuts.down {l : List Cl} (hl : Up l) {c x : Cl} {lo hi m : Nat} (h : Cuts l c lo hi) (hx : l[m]? = some x) (hlt : ltC x c = false) : Cuts l c lo m := ⟨h.1, fun k y hk hm => by
    by_cases e : k = m
    · subst e
      rw [hx] at hk
      cases hk
      exact hlt
    · cases hy : ltC y c with
      | false => rfl
      | true => rw [ltC_trans (up_get hl hx hk (by omega)) hy] at hlt; exact hlt⟩
theorem Cuts.mem {l : List Cl} (hl : Up l) {c : Cl} {n : Nat} (h : Cuts l c n n) : c ∈ l ↔ l[n]? = some c := by
  constructor
  · intro hc
    obtain ⟨k, hk⟩ := List.mem_iff_getElem?.1 hc
    by_cases e1 : k < n
    · exact absurd (h.1 k c hk e1) (ltC_irr c)
    · by_cases e2 : k = n
      · rw [← e2]; exact hk
      · have hkl := (List.getElem?_eq_some_iff.1 hk).1
        obtain ⟨x, hx⟩ : ∃ x, l[n]? = some x := ⟨_, List.getElem?_eq_getElem (by omega)⟩
        have h1 := up_get hl hx hk (by omega)
        rw [h.2 n x hx (Nat.le_refl _)] at h1
        cases h1
  · exact fun h => List.mem_of_getElem? h
/-- How many are ahead of a cell. -/
def plc (l : List Cl) (c : Cl) : Nat := l.countP fun x => ltC x c
theorem Cuts.num {l : List Cl} {c : Cl} {n : Nat} (h : Cuts l c n n) (hn : n ≤ l.length) : plc l c = n := by
  have e1 : (l.take n).countP (fun x => ltC x c) = (l.take n).length := List.countP_eq_length.2 fun x hx => by
    obtain ⟨k, hk⟩ := List.mem_iff_getElem?.1 hx
    rw [List.getElem?_take] at hk
    by_cases hkn : k < n
    · rw [if_pos hkn] at hk
      exact h.1 k x hk hkn
    · rw [if_neg hkn] at hk
      cases hk
  have e2 : (l.drop n).countP (fun x => ltC x c) = 0 := List.countP_eq_zero.2 fun x hx => by
    obtain ⟨k, hk⟩ := List.mem_iff_getElem?.1 hx
    rw [List.getElem?_drop] at hk
    rw [h.2 _ x hk (by omega)]
    simp
  have e3 : plc l c = (l.take n ++ l.drop n).countP fun x => ltC x c := by rw [List.take_append_drop]; rfl
  rw [e3, List.countP_append, e1, e2, List.length_take]
  omega
attribute [local irreducible] G GO GR GT GQ Fn FnV pt init exs pur sat own ImpS cellsV
set_option maxHeartbeats 8000000 in
theorem place_spec (R : HP) (v : Value) (l : List Cl) (c : Cl) (hv : SlR R v l.length 2 (cellsV l)) (hl : Up l) (hn : l.length ≤ 4611686018427387904) :
    Fn Tryd.prog 79 #[v, .agg #[i64 c.1, i64 c.2]] [R] (fun r Q => r = .tuple #[i64 (plc l c : Nat), .bool (decide (c ∈ l))] ∧ Q = [R]) := by
  obtain ⟨a, cap, rfl, _, hr⟩ := hv
  refine Fn.mk2 Tryd.func79 rfl rfl fun w0 F => ?_
  (refine G.seq ?_; refine G.region ?_; refine GO.box rfl rfl rfl fun b3 => ?_; refine GO.assign rfl rfl ?_; refine GO.assign rfl rfl ?_; refine GO.nil ?_; refine kthen_n ?_; refine G.seq ?_; refine G.region ?_; refine GO.move rfl rfl ?_; refine GO.lenS rfl rfl ?_; refine GO.assign rfl rfl ?_; refine GO.assign rfl rfl ?_; refine GO.nil ?_; refine kthen_n ?_; refine G.seq ?_; refine G.block ?_)
  refine G.loop (fun st : Nat × Nat => [(0, .slice a l.length cap), (3, ptrV b3), (6, i64 (st.1 : Nat)), (7, i64 (st.2 : Nat))])
    (fun _ => pt b3 (row [i64 c.1, i64 c.2] 63) :: R :: F)
    (fun st => st.1 ≤ st.2 ∧ st.2 ≤ l.length ∧ Cuts l c st.1 st.2)
    (fun st => st.2 - st.1) (0, l.length) ⟨Nat.zero_le _, Nat.le_refl _, Cuts.all l c⟩ ?_ ?_ ?_
  · dsimp only
    (refine SubE.c rfl rfl ?_; refine SubE.c rfl rfl ?_; refine SubE.c rfl rfl ?_; refine SubE.c rfl rfl ?_; exact SubE.n)
  · ((refine Sb.c Tk.h ?_; refine Sb.c Tk.h ?_); (exact Sb.r))
  rintro ⟨lo, hi⟩ ⟨h1, h2, hc⟩
  dsimp only at h1 h2 hc ⊢
  by_cases hlt : lo < hi
  · have d1 : decide ((lo : Int) < (hi : Int)) = true := decide_eq_true (by omega)
    obtain ⟨m, hm⟩ : ∃ m, m = (lo + hi) / 2 := ⟨_, rfl⟩
    obtain ⟨x, hx⟩ : ∃ x, l[m]? = some x := ⟨_, List.getElem?_eq_getElem (by omega)⟩
    obtain ⟨ba, oa, rfl, hrx⟩ := hr (by omega)
    have r1 : Rd R ⟨ba, oa + m * 2, none⟩ (i64 x.1) := hrx _ _ (cellsV_get hx).1
    have r2 : Rd R ⟨ba, oa + m * 2 + 1, none⟩ (i64 x.2) := hrx _ _ (cellsV_get hx).2
    (refine G.seq ?_; refine G.seq ?_; refine G.region ?_; refine GO.move rfl rfl ?_; refine GO.move rfl rfl ?_; refine GO.lti rfl rfl rfl ?_; refine GO.nil ?_; refine kthen_n ?_; refine G.condT rfl (by assumption) ?_; refine G.skip ?_; refine kthen_n ?_; refine G.block ?_; refine G.seq ?_; refine G.region ?_; refine GO.move rfl rfl ?_; refine GO.move rfl rfl ?_; refine GO.addi rfl rfl rfl (by omega) ?_; refine GO.quoi rfl rfl rfl (by omega) ?_; refine GO.assign rfl rfl ?_; refine GO.nil ?_; refine kthen_n ?_; refine G.seq ?_)
    rw [show ((lo : Nat) : Int) + ((hi : Nat) : Int) = ((lo + hi : Nat) : Int) by omega, show (((lo + hi : Nat) : Int)) / 2 = ((m : Nat) : Int) by omega]
    refine G.draw 6 (by kernel_rfl) ?_
    ((apply GQ.step; focus (intro Z; refine GO.move rfl rfl ?_; exact KQ.z)); (apply GQ.step; focus (intro Z; refine GO.move rfl rfl ?_; exact KQ.z)); (apply GQ.step; focus (intro Z; refine GO.idxS rfl rfl rfl ⟨rfl, by omega⟩ ?_; exact KQ.z)); (apply GQ.step; focus (intro Z; refine GO.load2 rfl rfl rfl (Tk.t Tk.h) (by assumption) (by assumption) ?_; exact KQ.z)); (apply GQ.step; focus (intro Z; refine GO.loadW rfl rfl rfl Tk.h rfl ?_; exact KQ.z)))
    apply GQ.step; focus (intro Z; refine GO.call2 rfl rfl rfl (before_spec x c) Tks.n ?_; rintro _ _ ⟨rfl, rfl⟩; exact KQ.z)
    cases hl2 : ltC x c with
    | true =>
      (refine GQ.nil ?_)
      (refine GO.nil ?_; refine kthen_n ?_; refine G.condT rfl rfl ?_; refine G.region ?_; refine GO.move rfl rfl ?_; refine GO.addi rfl rfl rfl (by omega) ?_; refine GO.assign rfl rfl ?_; refine GO.nil ?_; refine kblock_n ?_; refine kthen_n ?_)
      refine ⟨(m + 1, hi), ⟨by dsimp only; omega, h2, hc.up hl hx hl2⟩, by dsimp only; omega, ?_, ?_⟩
      · (refine SubE.c rfl rfl ?_; refine SubE.c rfl rfl ?_; refine SubE.c rfl rfl ?_; refine SubE.c rfl rfl ?_; exact SubE.n)
      · ((refine Sb.c Tk.h ?_; refine Sb.c Tk.h ?_); (exact Sb.r))
    | false =>
      (refine GQ.nil ?_)
      (refine GO.nil ?_; refine kthen_n ?_; refine G.condF rfl rfl ?_; refine G.region ?_; refine GO.move rfl rfl ?_; refine GO.assign rfl rfl ?_; refine GO.nil ?_; refine kblock_n ?_; refine kthen_n ?_)
      refine ⟨(lo, m), ⟨by dsimp only; omega, by dsimp only; omega, hc.down hl hx hl2⟩, by dsimp only; omega, ?_, ?_⟩
      · (refine SubE.c rfl rfl ?_; refine SubE.c rfl rfl ?_; refine SubE.c rfl rfl ?_; refine SubE.c rfl rfl ?_; exact SubE.n)
      · ((refine Sb.c Tk.h ?_; refine Sb.c Tk.h ?_); (exact Sb.r))
  · obtain rfl : lo = hi := by omega
    have d1 : decide ((lo : Int) < (lo : Int)) = false := decide_eq_false (by omega)
    have hmem := hc.mem hl
    have hnum := hc.num h2
    (refine G.seq ?_; refine G.seq ?_; refine G.region ?_; refine GO.move rfl rfl ?_; refine GO.move rfl rfl ?_; refine GO.lti rfl rfl rfl ?_; refine GO.nil ?_; refine kthen_n ?_; refine G.condF rfl (by assumption) ?_; refine G.exit ?_; refine kthen_x ?_; refine kthen_x ?_; refine kblock_x ?_; refine kthen_n ?_; refine G.seq ?_)
    cases hx : l[lo]? with
    | none =>
      have hll := List.getElem?_eq_none_iff.1 hx
      have d2 : decide ((lo : Int) < (l.length : Int)) = false := decide_eq_false (by omega)
      have e1 : decide (c ∈ l) = false := decide_eq_false (fun h => by rw [hmem, hx] at h; cases h)
      refine G.draw 14 (by kernel_rfl) ?_
      ((apply GQ.step; focus (intro Z; refine GO.move rfl rfl ?_; exact KQ.z)); (apply GQ.step; focus (intro Z; refine GO.move rfl rfl ?_; exact KQ.z)); (apply GQ.step; focus (intro Z; refine GO.move rfl rfl ?_; exact KQ.z)); (apply GQ.step; focus (intro Z; refine GO.lenS rfl rfl ?_; exact KQ.z)); (apply GQ.step; focus (intro Z; refine GO.lti rfl rfl rfl ?_; exact KQ.z)); (apply GQ.step; focus (intro Z; refine GO.move rfl rfl ?_; exact KQ.z)); (apply GQ.step; focus (intro Z; refine GO.gF rfl rfl rfl (by assumption) ?_; exact KQ.z)); (apply GQ.step; focus (intro Z; refine GO.gF rfl rfl rfl (by assumption) ?_; exact KQ.z)); (apply GQ.step; focus (intro Z; refine GO.gF rfl rfl rfl (by assumption) ?_; exact KQ.z)); (apply GQ.step; focus (intro Z; refine GO.gF rfl rfl rfl (by assumption) ?_; exact KQ.z)); (apply GQ.step; focus (intro Z; refine GO.gF rfl rfl rfl (by assumption) ?_; exact KQ.z)); (apply GQ.step; focus (intro Z; refine GO.gF rfl rfl rfl (by assumption) ?_; exact KQ.z)); (apply GQ.step; focus (intro Z; refine GO.pickFa rfl rfl (by assumption) rfl ?_; exact KQ.z)); (apply GQ.step; focus (intro Z; refine GO.assign rfl rfl ?_; exact KQ.z)); refine GQ.nil ?_)
      (refine GO.assign rfl rfl ?_; refine GO.nil ?_; refine kthen_n ?_; refine G.ret ?_)
      refine KF2.r2 rfl (RV.t rfl) (RV.t rfl) ⟨by rw [e1, hnum], rfl⟩ (ImpS.sb ?_)
      ((refine Sb.c (Tk.t Tk.h) ?_); (refine Sb.s ?_; exact Sb.r))
    | some x =>
      have hll := (List.getElem?_eq_some_iff.1 hx).1
      have d2 : decide ((lo : Int) < (l.length : Int)) = true := decide_eq_true (by omega)
      have e1 : decide (c ∈ l) = decide (x = c) := by
        rw [Bool.eq_iff_iff, decide_eq_true_iff, decide_eq_true_iff, hmem, hx]
        exact ⟨fun h => Option.some.inj h, fun h => by rw [h]⟩
      obtain ⟨ba, oa, rfl, hrx⟩ := hr (by omega)
      have r1 : Rd R ⟨ba, oa + lo * 2, none⟩ (i64 x.1) := hrx _ _ (cellsV_get hx).1
      have r2 : Rd R ⟨ba, oa + lo * 2 + 1, none⟩ (i64 x.2) := hrx _ _ (cellsV_get hx).2
      refine G.draw 14 (by kernel_rfl) ?_
      ((apply GQ.step; focus (intro Z; refine GO.move rfl rfl ?_; exact KQ.z)); (apply GQ.step; focus (intro Z; refine GO.move rfl rfl ?_; exact KQ.z)); (apply GQ.step; focus (intro Z; refine GO.move rfl rfl ?_; exact KQ.z)); (apply GQ.step; focus (intro Z; refine GO.lenS rfl rfl ?_; exact KQ.z)); (apply GQ.step; focus (intro Z; refine GO.lti rfl rfl rfl ?_; exact KQ.z)); (apply GQ.step; focus (intro Z; refine GO.move rfl rfl ?_; exact KQ.z)); (apply GQ.step; focus (intro Z; refine GO.gT rfl rfl (by assumption) ?_; refine GO.move rfl rfl ?_; exact KQ.z)); (apply GQ.step; focus (intro Z; refine GO.gT rfl rfl (by assumption) ?_; refine GO.move rfl rfl ?_; exact KQ.z)); (apply GQ.step; focus (intro Z; refine GO.gT rfl rfl (by assumption) ?_; refine GO.idxS rfl rfl rfl ⟨rfl, by omega⟩ ?_; exact KQ.z)); (apply GQ.step; focus (intro Z; refine GO.gT rfl rfl (by assumption) ?_; refine GO.load2 rfl rfl rfl (Tk.t Tk.h) (by assumption) (by assumption) ?_; exact KQ.z)); (apply GQ.step; focus (intro Z; refine GO.gT rfl rfl (by assumption) ?_; refine GO.loadW rfl rfl rfl Tk.h rfl ?_; exact KQ.z)))
      apply GQ.step; focus (intro Z; refine GO.gT rfl rfl (by assumption) ?_; refine GO.eqlA (EqR.celC x c) rfl rfl rfl ?_; exact KQ.z)
      ((apply GQ.step; focus (intro Z; refine GO.pickTa rfl rfl (by assumption) rfl ?_; exact KQ.z)); (apply GQ.step; focus (intro Z; refine GO.assign rfl rfl ?_; exact KQ.z)); refine GQ.nil ?_)
      (refine GO.assign rfl rfl ?_; refine GO.nil ?_; refine kthen_n ?_; refine G.ret ?_)
      refine KF2.r2 rfl (RV.t rfl) (RV.t rfl) ⟨by rw [e1, hnum], rfl⟩ (ImpS.sb ?_)
      ((refine Sb.c (Tk.t Tk.h) ?_); (refine Sb.s ?_; exact Sb.r))
end Go.Proofs.YtpfcgfgkmgnaaaaDoor
namespace Go.Proofs.YtpfcgfgkmgnaaaaDoor
open Go
theorem cast_at {s : Nat} {X : Nat → Nat → Bool} (hs : s ≤ 1024) (hx : ∀ r c, X r c = true → r < s ∧ c < s) (i j : Int) : decide ((i, j) ∈ castL (cellsX X)) = (decide (0 ≤ i) && decide (0 ≤ j) && X i.toNat j.toNat) := by
  rw [Bool.eq_iff_iff, decide_eq_true_iff, cast_mem hs hx, Bool.and_eq_true, Bool.and_eq_true, decide_eq_true_iff, decide_eq_true_iff, and_assoc]
theorem cast_small (X : Nat → Nat → Bool) : (castL (cellsX X)).length ≤ 1048576 := by
  rw [castL_len, cellsX_len]
  have := cnt_max X
  omega
def lessX (X Y : Nat → Nat → Bool) : Nat → Nat → Bool := fun r c => X r c && !Y r c
def lessL (la lb : List Cl) : List Cl := la.filter fun p => !decide (p ∈ lb)
theorem less_in {s : Nat} {X Y : Nat → Nat → Bool} (hx : ∀ r c, X r c = true → r < s ∧ c < s) : ∀ r c, lessX X Y r c = true → r < s ∧ c < s := fun r c h => by
  unfold lessX at h
  rw [Bool.and_eq_true] at h
  exact hx r c h.1
theorem less_cells {s : Nat} {X Y : Nat → Nat → Bool} (hs : s ≤ 1024) (hx : ∀ r c, X r c = true → r < s ∧ c < s) (hy : ∀ r c, Y r c = true → r < s ∧ c < s) : lessL (castL (cellsX X)) (castL (cellsX Y)) = castL (cellsX (lessX X Y)) := by
  refine up_unique (List.Pairwise.filter _ (cells_up X)) (cells_up _) fun p => ?_
  unfold lessL
  rw [List.mem_filter, cast_mem hs hx, cast_mem hs (less_in hx), cast_at hs hy]
  unfold lessX
  rw [Bool.and_eq_true]
  constructor
  · rintro ⟨⟨h1, h2, h3⟩, h4⟩
    refine ⟨h1, h2, h3, ?_⟩
    rw [decide_eq_true h1, decide_eq_true h2, Bool.true_and, Bool.true_and] at h4
    exact h4
  · rintro ⟨h1, h2, h3, h4⟩
    refine ⟨⟨h1, h2, h3⟩, ?_⟩
    rw [decide_eq_true h1, decide_eq_true h2, Bool.true_and, Bool.true_and]
    exact h4
theorem lessL_step {la lb : List Cl} {k : Nat} {x : Cl} (hx : la[k]? = some x) : lessL (la.take (k + 1)) lb = if decide (x ∈ lb) then lessL (la.take k) lb else lessL (la.take k) lb ++ [x] := by
  unfold lessL
  rw [List.take_add_one, hx, Option.toList_some, List.filter_append]
  cases h : decide (x ∈ lb) with
  | true => rw [List.filter_cons_of_neg (by rw [h]; simp), List.filter_nil, List.append_nil]; rfl
  | false => rw [List.filter_cons_of_pos (by rw [h]; rfl), List.filter_nil]; rfl
theorem lessL_len (la lb : List Cl) (k : Nat) : (lessL (la.take k) lb).length ≤ k := by
  unfold lessL
  exact Nat.le_trans (List.length_filter_le _ _) (by rw [List.length_take]; omega)
theorem G.ownV {P : Program} {c : Cx} {C : Code} {K : Kont} {L : Env} {H F : List HP} {el : TypeId} {sz n : Nat} {v : Value} {xs : List Value} (tk : Tk (own el sz n v xs) H F) (k : ∀ (a : Option Addr) (cap : Nat), v = .slice a n cap → G P c C K L H) : G P c C K L H := by
  rintro a w ⟨h1, h2, ds, h3, h4, h5⟩
  obtain ⟨a', cap, e, _⟩ := own_sl (sat_perm (List.Perm.append_right _ tk) h5)
  exact k a' cap e a w ⟨h1, h2, ds, h3, h4, h5⟩
attribute [local irreducible] G GO GR GT Fn FnV pt init exs pur sat own ImpS mat posL allV orL restX cellsX cellsV lines lessX lessL plc
set_option maxHeartbeats 4000000 in
theorem rHas_spec (z : HP) (r : Value) (s : Nat) (X : Nat → Nat → Bool) (hr : RefO z r (some (s, X))) (hs : s ≤ 1024) (hx : ∀ r c, X r c = true → r < s ∧ c < s) (i j : Int) :
    Fn Tryd.prog 50 #[r, i64 i, i64 j] [z] (fun v Q => v = .bool (decide (0 ≤ i) && decide (0 ≤ j) && X i.toNat j.toNat) ∧ Q = [z]) := by
  have hat := cast_at hs hx i j
  obtain ⟨va, rfl, honea, hsl⟩ := hr
  have hl := cast_small X
  have hp := place_spec z va (castL (cellsX X)) (i, j) hsl.slR (cells_up X) (by omega)
  rw [hat] at hp
  change Fn _ _ #[refV s va, _, _] _ _
  refine Fn.mk2 Tryd.func50 rfl rfl fun w0 F => ?_
  (refine G.seq ?_; refine G.region ?_; refine GO.box rfl rfl rfl fun b3 => ?_; refine GO.assign rfl rfl ?_; refine GO.nil ?_; refine kthen_n ?_; refine G.seq ?_; refine G.region ?_; refine GO.fieldAddr rfl rfl ?_; refine GO.load1 rfl rfl rfl Tk.h rfl ?_; refine GO.move rfl rfl ?_; refine GO.move rfl rfl ?_; refine GO.build2 rfl rfl rfl rfl ?_)
  refine GO.call2 rfl rfl rfl (hp) (Tks.c (Tk.t Tk.h) Tks.n) ?_
  rintro _ _ ⟨rfl, rfl⟩
  (refine GO.move rfl rfl ?_; refine GO.extract rfl rfl rfl ?_; refine GO.extract rfl rfl rfl ?_; refine GO.assign rfl rfl ?_; refine GO.assign rfl rfl ?_; refine GO.nil ?_; refine kthen_n ?_; refine G.seq ?_; refine G.region ?_; refine GO.move rfl rfl ?_; refine GO.assign rfl rfl ?_; refine GO.nil ?_; refine kthen_n ?_; refine G.ret ?_)
  refine KF2.r1 rfl (RV.t rfl) ⟨rfl, rfl⟩ (ImpS.sb ?_)
  ((refine Sb.c Tk.h ?_); (refine Sb.s ?_; exact Sb.r))
set_option maxHeartbeats 8000000 in
theorem rLess_core (z : HP) (ra rb : Value) (s : Nat) (X Y : Nat → Nat → Bool) (hra : RefO z ra (some (s, X))) (hrb : RefO z rb (some (s, Y))) (hs : 1 ≤ s ∧ s ≤ 1024) (hx : ∀ r c, X r c = true → r < s ∧ c < s) (hy : ∀ r c, Y r c = true → r < s ∧ c < s) :
    Fn Tryd.prog 78 #[ra, rb] [z] (fun r Q => ∃ v, r = .tuple #[refV s v, i64 0] ∧ Q = [own 63 2 (castL (cellsX (lessX X Y))).length v (cellsV (castL (cellsX (lessX X Y)))), z]) := by
  have hcells := less_cells hs.2 hx hy
  have hl1 := cast_small X
  have hl2 := cast_small Y
  obtain ⟨va, rfl, honea, hsla⟩ := hra
  obtain ⟨vb, rfl, honeb, hslb⟩ := hrb
  have hpr := rpair_spec s s va vb honea honeb
  rw [pairE_same hs.1] at hpr
  have hpl := fun c : Cl => place_spec z vb (castL (cellsX Y)) c hslb.slR (cells_up Y) (by omega)
  change Fn _ _ #[refV s va, refV s vb] _ _
  obtain ⟨aa, capa, rfl, _, hra⟩ := hsla.slR
  obtain ⟨ab, capb, rfl, _, hrb⟩ := hslb.slR
  dsimp only [setO] at *
  rw [← hcells]
  generalize castL (cellsX X) = la at *
  generalize castL (cellsX Y) = lb at *
  refine Fn.mk2 Tryd.func78 rfl rfl fun w0 F => ?_
  refine G.ownNil (T := 63) (sz := 2) ?_
  (refine G.seq ?_; refine G.region ?_; refine GO.box rfl rfl rfl fun b2 => ?_; refine GO.box rfl rfl rfl fun b3 => ?_; refine GO.alloc rfl fun b4 => ?_; refine GO.assign rfl rfl ?_; refine GO.nil ?_; refine kthen_n ?_; refine G.seq ?_; refine G.region ?_; refine GO.loadW rfl rfl rfl (Tk.t (Tk.t Tk.h)) rfl ?_; refine GO.loadW rfl rfl rfl (Tk.t Tk.h) rfl ?_)
  refine GO.call2 rfl rfl rfl (hpr) Tks.n ?_
  rintro _ _ ⟨rfl, rfl⟩
  (refine GO.assign rfl rfl ?_; refine GO.nil ?_; refine kthen_n ?_; refine G.seq ?_; refine G.seq ?_; refine G.region ?_; refine GO.move rfl rfl ?_; refine GO.neF rfl rfl rfl rfl ?_; refine GO.nil ?_; refine kthen_n ?_; refine G.condF rfl rfl ?_; refine G.skip ?_; refine kthen_n ?_; refine G.seq ?_; refine G.region ?_; refine GO.assign rfl rfl ?_; refine GO.nil ?_; refine kthen_n ?_; refine G.seq ?_; refine G.seq ?_; refine G.region ?_; refine GO.assign rfl rfl ?_; refine GO.nil ?_; refine kthen_n ?_; refine G.block ?_)
  refine G.loop2 (fun (k : Nat) (v : Value) => [(2, ptrV b2), (3, ptrV b3), (4, ptrV b4), (7, v), (8, i64 (k : Nat))])
    (fun k v => own 63 2 (lessL (la.take k) lb).length v (cellsV (lessL (la.take k) lb)) :: pt b2 (row [i64 (s : Nat), .slice aa la.length capa] 28) :: pt b3 (row [i64 (s : Nat), .slice ab lb.length capb] 28) :: pt b4 (row [i64 0, .slice none 0 0] 28) :: z :: F)
    (fun k _ => k ≤ la.length) (fun k _ => la.length - k) 0 (.slice none 0 0) (Nat.zero_le _) ?_ ?_ ?_
  · (refine SubE.c rfl rfl ?_; refine SubE.c rfl rfl ?_; refine SubE.c rfl rfl ?_; refine SubE.c rfl rfl ?_; refine SubE.c rfl rfl ?_; exact SubE.n)
  · rw [show lessL (la.take 0) lb = [] by unfold lessL; rfl, show cellsV [] = [] by unfold cellsV; rfl]
    ((refine Sb.c (Tk.t (Tk.t (Tk.t Tk.h))) ?_; refine Sb.c (Tk.t (Tk.t Tk.h)) ?_; refine Sb.c (Tk.t Tk.h) ?_; refine Sb.c Tk.h ?_; refine Sb.c Tk.h ?_); (exact Sb.r))
  rintro k v hk
  (refine G.seq ?_; refine G.seq ?_; refine G.region ?_; refine GO.move rfl rfl ?_; refine GO.fieldAddr rfl rfl ?_; refine GO.load1 rfl rfl rfl (Tk.t Tk.h) rfl ?_; refine GO.lenS rfl rfl ?_; refine GO.lti rfl rfl rfl ?_; refine GO.nil ?_; refine kthen_n ?_)
  refine G.condD rfl (fun hlt => ?_) (fun hge => ?_)
  · have hkl : k < la.length := by omega
    obtain ⟨x, hxk⟩ : ∃ x, la[k]? = some x := ⟨_, List.getElem?_eq_getElem hkl⟩
    have hstep := lessL_step (lb := lb) hxk
    have hlen := lessL_len la lb k
    obtain ⟨ba, oa, rfl, hrx⟩ := hra (by omega)
    have r1 : Rd z ⟨ba, oa + k * 2, none⟩ (i64 x.1) := hrx _ _ (cellsV_get hxk).1
    have r2 : Rd z ⟨ba, oa + k * 2 + 1, none⟩ (i64 x.2) := hrx _ _ (cellsV_get hxk).2
    have hpx := hpl x
    (refine G.skip ?_; refine kthen_n ?_; refine G.seq ?_; refine G.block ?_; refine G.seq ?_)
    refine G.draw 13 (by kernel_rfl) ?_
    ((apply GQ.step; focus (intro Z; refine GO.fieldAddr rfl rfl ?_; exact KQ.z)); (apply GQ.step; focus (intro Z; refine GO.load1 rfl rfl rfl (Tk.t (Tk.t Tk.h)) rfl ?_; exact KQ.z)); (apply GQ.step; focus (intro Z; refine GO.fieldAddr rfl rfl ?_; exact KQ.z)); (apply GQ.step; focus (intro Z; refine GO.load1 rfl rfl rfl (Tk.t Tk.h) rfl ?_; exact KQ.z)); (apply GQ.step; focus (intro Z; refine GO.move rfl rfl ?_; exact KQ.z)); (apply GQ.step; focus (intro Z; refine GO.idxS rfl rfl rfl ⟨rfl, by omega⟩ ?_; exact KQ.z)); (apply GQ.step; focus (intro Z; refine GO.load2 rfl rfl rfl (Tk.t (Tk.t (Tk.t (Tk.t Tk.h)))) (by assumption) (by assumption) ?_; exact KQ.z)))
    apply GQ.step; focus (intro Z; refine GO.call2 rfl rfl rfl (hpx) (Tks.c (Tk.t (Tk.t (Tk.t (Tk.t Tk.h)))) Tks.n) ?_; rintro _ _ ⟨rfl, rfl⟩; refine GO.nil (KQ.s ?_); ((refine Sb.c (Tk.t Tk.h) ?_; refine Sb.c (Tk.t Tk.h) ?_; refine Sb.c (Tk.t Tk.h) ?_; refine Sb.c (Tk.t Tk.h) ?_; refine Sb.c Tk.h ?_); (exact Sb.r)))
    ((apply GQ.step; focus (intro Z; refine GO.move rfl rfl ?_; exact KQ.z)); (apply GQ.step; focus (intro Z; refine GO.extract rfl rfl rfl ?_; exact KQ.z)); (apply GQ.step; focus (intro Z; refine GO.extract rfl rfl rfl ?_; exact KQ.z)); (apply GQ.step; focus (intro Z; refine GO.assign rfl rfl ?_; exact KQ.z)); (apply GQ.step; focus (intro Z; refine GO.assign rfl rfl ?_; exact KQ.z)); refine GQ.nil ?_)
    cases hin : decide (x ∈ lb) with
    | true =>
      rw [hin, if_pos rfl] at hstep
      (refine GO.nil ?_; refine kthen_n ?_; refine G.seq ?_; refine G.region ?_; refine GO.move rfl rfl ?_; refine GO.not rfl rfl ?_; refine GO.nil ?_; refine kthen_n ?_; refine G.condF rfl rfl ?_; refine G.skip ?_; refine kblock_n ?_; refine kthen_n ?_; refine G.region ?_; refine GO.move rfl rfl ?_; refine GO.addi rfl rfl rfl (by omega) ?_; refine GO.assign rfl rfl ?_; refine GO.nil ?_; refine kthen_n ?_)
      refine ⟨k + 1, v, by omega, by omega, ?_, ?_⟩
      · (refine SubE.c rfl rfl ?_; refine SubE.c rfl rfl ?_; refine SubE.c rfl rfl ?_; refine SubE.c rfl rfl ?_; refine SubE.c rfl rfl ?_; exact SubE.n)
      · rw [hstep]
        ((refine Sb.c Tk.h ?_; refine Sb.c Tk.h ?_; refine Sb.c Tk.h ?_; refine Sb.c Tk.h ?_; refine Sb.c Tk.h ?_); (exact Sb.r))
    | false =>
      rw [hin, if_neg (by simp)] at hstep
      (refine GO.nil ?_; refine kthen_n ?_; refine G.seq ?_; refine G.region ?_; refine GO.move rfl rfl ?_; refine GO.not rfl rfl ?_; refine GO.nil ?_; refine kthen_n ?_; refine G.condT rfl rfl ?_; refine G.region ?_; refine GO.move rfl rfl ?_; refine GO.fieldAddr rfl rfl ?_; refine GO.load1 rfl rfl rfl (Tk.t Tk.h) rfl ?_; refine GO.move rfl rfl ?_; refine GO.idxS rfl rfl rfl ⟨rfl, by omega⟩ ?_; refine GO.load2 rfl rfl rfl (Tk.t (Tk.t (Tk.t (Tk.t Tk.h)))) (by assumption) (by assumption) ?_)
      refine GO.buildSlice1 rfl rfl (by simp; rfl) rfl ⟨by omega, by omega⟩ fun bs => ?_
      refine GO.appendOwn (m := 1) (news := [i64 x.1, i64 x.2]) rfl rfl rfl (Tk.t Tk.h) Tk.h rfl (by simp [Value.oneCell']) ⟨by decide, rfl⟩ Nat.one_pos (by unfold maxLen; omega) (by omega) fun v4 => ?_
      rw [cellsV_snoc, show (lessL (la.take k) lb).length + 1 = (lessL (la.take k) lb ++ [x]).length by rw [List.length_append]; rfl]
      (refine GO.assign rfl rfl ?_; refine GO.nil ?_; refine kblock_n ?_; refine kthen_n ?_; refine G.region ?_; refine GO.move rfl rfl ?_; refine GO.addi rfl rfl rfl (by omega) ?_; refine GO.assign rfl rfl ?_; refine GO.nil ?_; refine kthen_n ?_)
      refine ⟨k + 1, v4, by omega, by omega, ?_, ?_⟩
      · (refine SubE.c rfl rfl ?_; refine SubE.c rfl rfl ?_; refine SubE.c rfl rfl ?_; refine SubE.c rfl rfl ?_; refine SubE.c rfl rfl ?_; exact SubE.n)
      · rw [hstep]
        ((refine Sb.c Tk.h ?_; refine Sb.c (Tk.t Tk.h) ?_; refine Sb.c (Tk.t Tk.h) ?_; refine Sb.c (Tk.t Tk.h) ?_; refine Sb.c (Tk.t Tk.h) ?_); (refine Sb.s ?_; exact Sb.r))
  · obtain rfl : k = la.length := by omega
    rw [List.take_length]
    refine G.ownV Tk.h fun a9 cap9 hv9 => ?_
    subst hv9
    (refine G.exit ?_; refine kthen_x ?_; refine kthen_x ?_; refine kblock_x ?_; refine kthen_n ?_; refine G.seq ?_; refine G.region ?_; refine GO.fieldAddr rfl rfl ?_; refine GO.load1 rfl rfl rfl (Tk.t Tk.h) rfl ?_; refine GO.move rfl rfl ?_; refine GO.build2 rfl rfl rfl rfl ?_)
    rw [show ∀ n : Nat, (putParts [i64 (s : Nat), Value.slice a9 n cap9]).toArray = #[i64 (s : Nat), Value.slice a9 n cap9] from fun n => by simp [putParts, Value.cells]]
    (refine GO.storeW rfl rfl (Tk.t (Tk.t (Tk.t Tk.h))) ⟨rfl, rfl⟩ (by simp [Value.oneCell']) ?_; refine GO.assign rfl rfl ?_; refine GO.nil ?_; refine kthen_n ?_; refine G.ret ?_)
    refine KF2.r2 rfl (RV.cW (n := 2) rfl rfl (by (exact Tk.h)) rfl) (RV.t rfl) ⟨_, rfl, rfl⟩ (ImpS.sb ?_)
    ((refine Sb.c (Tk.t Tk.h) ?_; refine Sb.c (Tk.t (Tk.t (Tk.t Tk.h))) ?_); (refine Sb.s ?_; refine Sb.s ?_; refine Sb.s ?_; exact Sb.r))
theorem rLess_same (z : HP) (ra rb : Value) (s : Nat) (X Y : Nat → Nat → Bool) (hra : RefO z ra (some (s, X))) (hrb : RefO z rb (some (s, Y))) (hs : 1 ≤ s ∧ s ≤ 1024) (hx : ∀ r c, X r c = true → r < s ∧ c < s) (hy : ∀ r c, Y r c = true → r < s ∧ c < s) :
    Fn Tryd.prog 78 #[ra, rb] [z] (fun r Q => ∃ v p, r = .tuple #[refV s v, i64 0] ∧ v.oneCell' = true ∧ RefO p (refV s v) (some (s, lessX X Y)) ∧ Q = [p, z]) := by
  have h := rLess_core z ra rb s X Y hra hrb hs hx hy
  unfold Fn at *
  intro F w hw
  refine (h F w hw).mono ?_
  rintro e w' ⟨v, Q, h1, h2, ⟨u, rfl, rfl⟩, d⟩
  have d1 := own_one d
  have d2 := own_slC d
  exact ⟨_, _, h1, h2, ⟨u, _, rfl, d1, RefO.own d1 d2, rfl⟩, d⟩
end Go.Proofs.YtpfcgfgkmgnaaaaDoor
namespace Go.Proofs.YtpfcgfgkmgnaaaaDoor
open Go
/-- As xOK, the others in no line. -/
def xOKw (q tm : Nat) (A : Array Oper) (R : List Nat) : Bool := (List.range q).all fun i => match A[i]? with
  | some o => (opTmps o).all (fun t => (List.range q).all fun j => !dstIs A j t || ((bit R i j && Nat.blt j i) && (Nat.testBit tm i || !Nat.testBit tm j))) &&
      (match o.guard with | some (j, _) => Nat.testBit tm i || !Nat.testBit tm j | none => true)
  | none => false
def drawWOK (N q tm : Nat) (A : Array Oper) : Bool := drawOK N q A && xOKw q tm A (cloL A A.size)
/-- Which of the others may come next, when those of D have come. -/
def nexts (R : List Nat) (q tm : Nat) (D : List Nat) : List Nat := (List.range q).filter fun i => Nat.testBit tm i && !D.contains i && (List.range q).all fun j => !bit R i j || !Nat.testBit tm j || D.contains j
def leftN (q tm : Nat) (D : List Nat) : Nat := (List.range q).countP fun j => Nat.testBit tm j && !D.contains j
def GW (P : Program) (c : Cx) (A : Array Oper) (RR : List Nat) (q tm : Nat) (k : Env → List HP → Prop) : Nat → List Nat → Env → List HP → List HP → Prop
  | 0, _, L, M, R => k L (M ++ R)
  | n + 1, D, L, M, R => ∀ i, i ∈ nexts RR q tm D → ∀ o, A[i]? = some o → GO P c A [o] (fun e L' H' => e = .normal ∧ ∃ v R', L' = ext o.dst v L ∧ ImpS H' (M ++ R') ∧ GW P c A RR q tm k n (i :: D) (ext o.dst v L) M R') L (M ++ R)
section
variable {P : Program} {c : Cx} {A : Array Oper} {os : List Oper} {tm i : Nat} {k : Env → Prop} {kk : Env → List HP → Prop} {K : Kont} {L : Env} {H M R : List HP}
abbrev WK (P : Program) (c : Cx) (A : Array Oper) (RR : List Nat) (q tm : Nat) (k : Env → List HP → Prop) (n : Nat) (D : List Nat) (o : Oper) (L : Env) (M : List HP) : Kont := fun e L' H' => e = .normal ∧ ∃ v R', L' = ext o.dst v L ∧ ImpS H' (M ++ R') ∧ GW P c A RR q tm k n D (ext o.dst v L) M R'
theorem GW.nil {RR : List Nat} {q : Nat} {D : List Nat} (h : kk L (M ++ R)) : GW P c A RR q tm kk 0 D L M R := h
theorem GW.one {RR : List Nat} {q n : Nat} {D : List Nat} {i : Nat} {o : Oper} (h : nexts RR q tm D = [i]) (ho : A[i]? = some o) (g : GO P c A [o] (WK P c A RR q tm kk n (i :: D) o L M) L (M ++ R)) : GW P c A RR q tm kk (n + 1) D L M R := by
  unfold GW
  intro j hj o' ho'
  rw [h] at hj
  obtain rfl := List.mem_singleton.1 hj
  rw [ho] at ho'
  obtain rfl := Option.some.inj ho'
  exact g
theorem GW.two {RR : List Nat} {q n : Nat} {D : List Nat} {i1 i2 : Nat} {o1 o2 : Oper} (h : nexts RR q tm D = [i1, i2]) (h1 : A[i1]? = some o1) (h2 : A[i2]? = some o2) (g1 : GO P c A [o1] (WK P c A RR q tm kk n (i1 :: D) o1 L M) L (M ++ R)) (g2 : GO P c A [o2] (WK P c A RR q tm kk n (i2 :: D) o2 L M) L (M ++ R)) : GW P c A RR q tm kk (n + 1) D L M R := by
  unfold GW
  intro j hj o' ho'
  rw [h] at hj
  rcases List.mem_cons.1 hj with rfl | hj
  · rw [h1] at ho'
    obtain rfl := Option.some.inj ho'
    exact g1
  · obtain rfl := List.mem_singleton.1 hj
    rw [h2] at ho'
    obtain rfl := Option.some.inj ho'
    exact g2
theorem GW.three {RR : List Nat} {q n : Nat} {D : List Nat} {i1 i2 i3 : Nat} {o1 o2 o3 : Oper} (h : nexts RR q tm D = [i1, i2, i3]) (h1 : A[i1]? = some o1) (h2 : A[i2]? = some o2) (h3 : A[i3]? = some o3) (g1 : GO P c A [o1] (WK P c A RR q tm kk n (i1 :: D) o1 L M) L (M ++ R)) (g2 : GO P c A [o2] (WK P c A RR q tm kk n (i2 :: D) o2 L M) L (M ++ R)) (g3 : GO P c A [o3] (WK P c A RR q tm kk n (i3 :: D) o3 L M) L (M ++ R)) : GW P c A RR q tm kk (n + 1) D L M R := by
  unfold GW
  intro j hj o' ho'
  rw [h] at hj
  rcases List.mem_cons.1 hj with rfl | hj
  · rw [h1] at ho'
    obtain rfl := Option.some.inj ho'
    exact g1
  · rcases List.mem_cons.1 hj with rfl | hj
    · rw [h2] at ho'
      obtain rfl := Option.some.inj ho'
      exact g2
    · obtain rfl := List.mem_singleton.1 hj
      rw [h3] at ho'
      obtain rfl := Option.some.inj ho'
      exact g3
theorem drawW_run {q : Nat} {m : Region.Mode} {V : Nat → Value} {RR : List Nat} {kk : Env → List HP → Prop} (ok : chk c.N q A RR = true) (xok : xOKw q tm A RR = true) (tp : topo m A (order m A) 0 = true)
    (hV : ∀ i, i < q → Nat.testBit tm i = false → ∀ o, A[i]? = some o → ∀ Z, GO P c A [o] (KQ (ext o.dst (V i) (LatQ A tm V L i)) (M ++ Z)) (LatQ A tm V L i) (M ++ Z))
    (hkk : ∀ L' H', kk L' H' → GO P c A (A.toList.drop q) K L' H') : ∀ (n t : Nat) (B : Array Bool) (a : Act) (w : World) (nT : Nat) (D : List Nat) (Lv : Env) (R : List HP),
    B.size = A.size → Closed A RR B → (List.range A.size).countP (fun i => !B.getD i true) = n → (∀ i, q ≤ i → i < A.size → B.getD i true = false) →
    a.tmps.size = c.N → Same c.w0 w → (∃ ds : List Nat, a.defers = ds.map mark ∧ (c.r.isSome = true → ds = []) ∧ sat ((M ++ R) ++ (c.X ++ ds.map dblk)) w) →
    leftN q tm D = nT → (∀ j, j < q → Nat.testBit tm j = true → (B.getD j true = true ↔ j ∈ D)) → GW P c A RR q tm kk nT D Lv M R →
    (∀ j d, j < q → Nat.testBit tm j = false → dstAt A j d → look Lv d = some (V j)) → (∀ s, (∀ j, j < q → ¬ dstAt A j s) → look Lv s = look L s) →
    (∀ s v, look Lv s = some v → s < c.N) → (∀ s v, look Lv s = some v → (∀ j, j < q → Nat.testBit tm j = false → B.getD j true = false → ¬ dstAt A j s) → a.tmps[s]? = some v) →
    wpOpsIn (fen c.r) 0 P A (Post c K) (lin m A n t B) a w := by
  have hok := ok
  unfold chk at hok
  simp only [Bool.and_eq_true, List.all_eq_true, List.mem_range] at hok
  obtain ⟨hqb, hok⟩ := hok
  have hq : q ≤ A.size := by simpa using hqb
  have hop : ∀ i (hi : i < A.size), opOK c.N q A RR i A[i] = true := fun i hi => by have := hok i hi; simpa [hi] using this
  have hqop : ∀ i (hi : i < A.size), i < q → qkind A[i].op = true ∧ (∀ d, A[i].dst = some d → d < c.N ∧ ∀ j, j < q → j ≠ i → ¬ dstAt A j d) ∧
      (∀ t, .tmp t ∈ A[i].op.operands.toList → ∀ j, j < q → dstAt A j t → bit RR i j = true ∧ j < i) ∧ (∀ j b, A[i].guard = some (j, b) → j < q ∧ bit RR i j = true ∧ j < i) := by
    intro i hi hiq
    have h := hop i hi
    unfold opOK at h
    have hb : Nat.blt i q = true := by simpa using hiq
    simp only [hb, cond_true, Bool.and_eq_true] at h
    obtain ⟨_, ⟨⟨h1, h2⟩, h3⟩, h4⟩ := h
    refine ⟨h1, ?_, ?_, ?_⟩
    · intro d hd
      rw [hd] at h2
      simp only [Bool.and_eq_true, List.all_eq_true, List.mem_range] at h2
      refine ⟨by simpa using h2.1, fun j hj hne hdj => ?_⟩
      have := h2.2 j hj
      rw [dstIs_of hdj, nbeq hne] at this
      simp at this
    · intro t ht j hj hdj
      have hx := xok
      unfold xOKw at hx
      simp only [List.all_eq_true, List.mem_range] at hx
      have hx := hx i hiq
      simp only [hi, getElem?_pos, Bool.and_eq_true, List.all_eq_true, List.mem_range] at hx
      have := hx.1 t (by unfold opTmps; rw [List.mem_filterMap]; exact ⟨.tmp t, ht, rfl⟩) j hj
      rw [dstIs_of hdj] at this
      simp only [Bool.not_true, Bool.false_or, Bool.and_eq_true] at this
      exact ⟨this.1.1, by simpa using this.1.2⟩
    · intro j b hg
      rw [hg] at h4
      simp only [Bool.and_eq_true] at h4
      exact ⟨by simpa using h4.1.1, h4.1.2, by simpa using h4.2⟩
  have xop : ∀ i (hi : i < A.size), i < q → (∀ t, .tmp t ∈ A[i].op.operands.toList → ∀ j, j < q → dstAt A j t → Nat.testBit tm i = true ∨ Nat.testBit tm j = false) ∧
      (∀ j b, A[i].guard = some (j, b) → Nat.testBit tm i = true ∨ Nat.testBit tm j = false) := by
    intro i hi hiq
    have h := xok
    unfold xOKw at h
    simp only [List.all_eq_true, List.mem_range] at h
    have h := h i hiq
    simp only [hi, getElem?_pos, Bool.and_eq_true, List.all_eq_true, List.mem_range] at h
    obtain ⟨h1, h2⟩ := h
    refine ⟨?_, ?_⟩
    · intro t ht j hj hd
      have := h1 t (by unfold opTmps; rw [List.mem_filterMap]; exact ⟨.tmp t, ht, rfl⟩) j hj
      rw [dstIs_of hd] at this
      simp only [Bool.not_true, Bool.false_or, Bool.and_eq_true] at this
      simpa using this.2
    · intro j b hg
      rw [hg] at h2
      simpa using h2
  have ssa : ∀ i j s, i < q → j < q → dstAt A i s → dstAt A j s → i = j := by
    intro i j s hi hj h1 h2
    by_cases hij : i = j
    · exact hij
    · exfalso
      obtain ⟨o, ho, hd⟩ := h1
      have hi' : i < A.size := by omega
      simp [hi'] at ho
      have := (hqop i hi' hi).2.1 s (by rw [ho]; exact hd)
      exact this.2 j hj (Ne.symm hij) h2
  have hlenq : (A.toList.take q).length = q := by simp; omega
  -- when all of the first q are done
  have done : ∀ (B : Array Bool) (a : Act) (w : World) (nT : Nat) (D : List Nat) (Lv : Env) (R : List HP), (∀ i, i < q → B.getD i true = true) → a.tmps.size = c.N → Same c.w0 w → (∃ ds : List Nat, a.defers = ds.map mark ∧ (c.r.isSome = true → ds = []) ∧ sat ((M ++ R) ++ (c.X ++ ds.map dblk)) w) →
      leftN q tm D = nT → (∀ j, j < q → Nat.testBit tm j = true → (B.getD j true = true ↔ j ∈ D)) → GW P c A RR q tm kk nT D Lv M R → (∀ s v, look Lv s = some v → (∀ j, j < q → Nat.testBit tm j = false → B.getD j true = false → ¬ dstAt A j s) → a.tmps[s]? = some v) →
      opsWp (fen c.r) P A (Post c K) (A.toList.drop q) a w := by
    intro B a w nT D Lv R hall hN hsame hmem hp hT hgt hI
    have h0 : nT = 0 := by
      rw [← hp]
      unfold leftN
      rw [List.countP_eq_zero]
      intro j hj
      cases hb : Nat.testBit tm j with
      | false => simp
      | true =>
        have := (hT j (List.mem_range.1 hj) hb).1 (hall j (List.mem_range.1 hj))
        simp [this]
    subst h0
    have h2 : kk Lv (M ++ R) := hgt
    refine hkk _ _ h2 a w ⟨⟨hN, fun s v hs => hI s v hs fun j hj _ hb => ?_⟩, hsame, hmem⟩
    rw [hall j hj] at hb; cases hb
  intro n
  induction n with
  | zero =>
    intro t B a w nT D Lv R hBs cl hcnt htail hN hsame hmem hp hT hgt hI1 hI2 hI3 hI4
    have hall : ∀ i, i < A.size → B.getD i true = true := by
      intro i hi
      rw [List.countP_eq_zero] at hcnt
      simpa using hcnt i (by simpa using hi)
    have hqs : q = A.size := by
      by_cases h : q < A.size
      · have h1 := hall q h; have h2 := htail q (by omega) h; rw [h1] at h2; cases h2
      · omega
    have hd := done B a w nT D Lv R (fun i hi => hall i (by omega)) hN hsame hmem hp hT hgt hI4
    have hdrop : A.toList.drop q = [] := by rw [hqs]; simp
    rw [hdrop] at hd
    simp only [lin]
    exact hd
  | succ n ih =>
    intro t B a w nT D Lv R hBs cl hcnt htail hN hsame hmem hp hT hgt hI1 hI2 hI3 hI4
    by_cases hquiet : ∀ i, i < q → B.getD i true = true
    · -- the tail
      have hB : ∀ i, i < A.size → B.getD i true = decide (i < q) := by
        intro i hi
        by_cases h : i < q
        · simp [h, hquiet i h]
        · simp [h, htail i (by omega) hi]
      have hcn : n + 1 = A.size - q := by
        rw [← hcnt, ← countP_ge q A.size hq]
        apply List.countP_congr
        intro x hx
        rw [hB x (by simpa using hx)]
      rw [lin_tail ok (n + 1) q t B (by omega) (Nat.le_refl q) hBs cl hB]
      refine wpOps_of_list (fen_fn c.r) _ (A.toList.drop q) a w ?_ (done B a w nT D Lv R hquiet hN hsame hmem hp hT hgt hI4)
      apply List.ext_getElem?
      intro i
      simp only [List.getElem?_map, List.getElem?_range', List.getElem?_drop]
      by_cases h : i < n + 1
      · have h' : q + i < A.size := by omega
        simp [h, h']
      · have h' : ¬ q + i < A.size := by omega
        have e1 : A.toList[q + i]? = none := by rw [List.getElem?_eq_none]; simpa using h'
        simp [h, e1]
    · -- one of the others
      have hex : ∃ i, i < A.size ∧ B.getD i true = false := by
        apply Classical.byContradiction
        intro h
        apply hquiet
        intro i hi
        cases e : B.getD i true with
        | true => rfl
        | false => exact absurd ⟨i, by omega, e⟩ h
      obtain ⟨i0, hi0, hc0⟩ := topo_cand hBs _ 0 tp (fun i h => by simp at h) hex
      have hne : 0 < ((List.range A.size).filter (cand m A B)).length := by
        apply List.length_pos_of_mem (a := i0)
        rw [List.mem_filter]; exact ⟨by simpa using hi0, hc0⟩
      have hlt := Nat.mod_lt t hne
      have hget := List.getElem?_eq_getElem hlt
      generalize hidef : ((List.range A.size).filter (cand m A B))[t % ((List.range A.size).filter (cand m A B)).length] = i at hget
      have himem : i ∈ (List.range A.size).filter (cand m A B) := by rw [← hidef]; exact List.getElem_mem hlt
      rw [List.mem_filter] at himem
      obtain ⟨hir, hci⟩ := himem
      have hi : i < A.size := by simpa using hir
      have hBi : B.getD i true = false := cand_not hci
      have hiA : A[i]? = some A[i] := by simp [hi]
      have pred : ∀ j, bit RR i j = true → B.getD j true = true := by
        intro j hj
        have h2 := cand_pred hci hiA (hop i hi) cl hBs hj
        rw [Array.getD_eq_getD_getElem?] at h2 ⊢
        cases hb : B[j]? with
        | none => simp
        | some b => simp [hb] at h2 ⊢; exact h2
      have hiq : i < q := by
        apply Classical.byContradiction
        intro hnq
        apply hquiet
        intro j hj
        have h := hop i hi
        unfold opOK at h
        have hb : Nat.blt i q = false := by
          cases e : Nat.blt i q with
          | false => rfl
          | true => have : i < q := by simpa using e
                    omega
        simp only [hb, cond_false, Bool.and_eq_true, List.all_eq_true, List.mem_range] at h
        exact pred j (h.2.1 j (by omega))
      obtain ⟨hqk, hdst, hops, hgd⟩ := hqop i hi hiq
      obtain ⟨xops, xgd⟩ := xop i hi hiq
      obtain ⟨ds, hdef, hdr, hsat⟩ := hmem
      have hlin : lin m A (n + 1) t B = i :: lin m A n (t / ((List.range A.size).filter (cand m A B)).length) (B.setIfInBounds i true) := by
        simp only [lin, hget]
      have hgd2 : ∀ j, (B.setIfInBounds i true).getD j true = if j = i then true else B.getD j true := by
        intro j
        rw [Array.getD_eq_getD_getElem?, Array.getD_eq_getD_getElem?]
        by_cases h : i = j
        · subst h
          have : i < B.size := by omega
          simp [this]
        · rw [Array.getElem?_setIfInBounds_ne h]; simp [Ne.symm h]
      have hcl2 : Closed A RR (B.setIfInBounds i true) := by
        intro i' j hi' hb hj
        rw [hgd2] at hb
        have h1 : B.getD j false = true := by
          by_cases h : i' = i
          · subst h; exact cand_pred hci hiA (hop i' hi) cl hBs hj
          · rw [if_neg h] at hb; exact cl i' j hi' hb hj
        rw [Array.getD_eq_getD_getElem?] at h1 ⊢
        by_cases h : i = j
        · subst h
          have : i < B.size := by omega
          simp [this]
        · rw [Array.getElem?_setIfInBounds_ne h]; exact h1
      have hcnt2 : (List.range A.size).countP (fun j => !(B.setIfInBounds i true).getD j true) = n := by
        have := countP_upd (f := fun j => !B.getD j true) (g := fun j => !(B.setIfInBounds i true).getD j true) (i := i) (by simp [hBi]) (by simp [hgd2]) (fun j hj => by simp [hgd2, hj]) (List.range A.size) List.nodup_range (by simpa using hi)
        omega
      have htail2 : ∀ j, q ≤ j → j < A.size → (B.setIfInBounds i true).getD j true = false := by
        intro j hj hja
        rw [hgd2, if_neg (by omega)]; exact htail j hj hja
      -- a slot that the operation looks at holds what it will hold: no waiting quiet one writes it
      have hsee : ∀ s, (.tmp s ∈ A[i].op.operands.toList ∨ ∃ j b, A[i].guard = some (j, b) ∧ dstAt A j s) → ∀ j, j < q → Nat.testBit tm j = false → B.getD j true = false → ¬ dstAt A j s := by
        intro s hs j hj _ hb hd
        have hE : bit RR i j = true := by
          rcases hs with hs | ⟨j', b, hg, hd'⟩
          · exact (hops s hs j hj hd).1
          · obtain ⟨hj', hE⟩ := hgd j' b hg
            have : j' = j := ssa j' j s hj' hj hd' hd
            subst this; exact hE.1
        rw [pred j hE] at hb; cases hb
      rw [hlin]
      cases hti : Nat.testBit tm i with
      | false =>
        -- a quiet one
        obtain ⟨l1, l2⟩ := look_LatQ (V := V) (L := L) (tm := tm) hq ssa i (by omega)
        let a2 : Act := { tmps := Array.ofFn (n := c.N) fun s => (look (LatQ A tm V L i) s.1).getD (a.tmps.getD s.1 undef), defers := a.defers }
        have ha2 : ∀ s, s < c.N → a2.tmps[s]? = some ((look (LatQ A tm V L i) s).getD (a.tmps.getD s undef)) := by
          intro s hs; simp [a2, Array.getElem?_ofFn, hs]
        have hLv : ∀ s v, look (LatQ A tm V L i) s = some v → (∃ j, j < i ∧ Nat.testBit tm j = false ∧ dstAt A j s ∧ v = V j) ∨ ((∀ j, j < i → Nat.testBit tm j = false → ¬ dstAt A j s) ∧ look L s = some v) := by
          intro s v hs
          by_cases h : ∃ j, j < i ∧ Nat.testBit tm j = false ∧ dstAt A j s
          · obtain ⟨j, hj, hjb, hd⟩ := h
            rw [l1 j s hj hjb hd] at hs
            exact .inl ⟨j, hj, hjb, hd, by simpa using hs.symm⟩
          · have hn : ∀ j, j < i → Nat.testBit tm j = false → ¬ dstAt A j s := fun j hj hjb hd => h ⟨j, hj, hjb, hd⟩
            rw [l2 s hn] at hs
            exact .inr ⟨hn, hs⟩
        have hdN : ∀ j s, j < q → dstAt A j s → s < c.N := by
          intro j s hj hd
          obtain ⟨o, ho1, ho2⟩ := hd
          have hj' : j < A.size := by omega
          simp [hj'] at ho1
          exact ((hqop j hj' hj).2.1 s (by rw [ho1]; exact ho2)).1
        have hLN : ∀ s v, look (LatQ A tm V L i) s = some v → s < c.N := by
          intro s v hs
          rcases hLv s v hs with ⟨j, hj, _, hd, _⟩ | ⟨_, hl⟩
          · exact hdN j s (by omega) hd
          · by_cases h' : ∃ j, j < q ∧ dstAt A j s
            · obtain ⟨j, hj, hd⟩ := h'; exact hdN j s hj hd
            · exact hI3 s v (by rw [hI2 s fun j hj hd => h' ⟨j, hj, hd⟩]; exact hl)
        have hst2 : St c (LatQ A tm V L i) (M ++ R) a2 w := ⟨⟨by simp [a2], fun s v hs => by rw [ha2 s (hLN s v hs), hs]; rfl⟩, hsame, ds, hdef, hdr, hsat⟩
        have hone := hV i hiq hti A[i] hiA R a2 w hst2
        have hone1 := oneOp_of (F := fen c.r) (P := P) (A := A) (o := A[i]) (a := a2) (w := w) (fun e a w h => by obtain ⟨_, _, _, h, _⟩ := h; exact h) hone
        have hslot : ∀ s, (.tmp s ∈ A[i].op.operands.toList ∨ ∃ j b, A[i].guard = some (j, b) ∧ dstAt A j s) → a.tmps[s]? = a2.tmps[s]? := by
          intro s hs
          by_cases hsN : s < c.N
          · rw [ha2 s hsN]
            cases hl : look (LatQ A tm V L i) s with
            | none =>
              simp only [Option.getD_none]
              rw [Array.getD_eq_getD_getElem?]
              have hh : s < a.tmps.size := by omega
              simp [hh]
            | some v =>
              rw [Option.getD_some]
              refine hI4 s v ?_ (hsee s hs)
              rcases hLv s v hl with ⟨j, hj, hjb, hd, rfl⟩ | ⟨hn, hl'⟩
              · exact hI1 j s (by omega) hjb hd
              · rw [hI2 s]
                · exact hl'
                · intro j hj hd
                  rcases hs with hs | ⟨j', b, hg, hd'⟩
                  · obtain ⟨_, hji⟩ := hops s hs j hj hd
                    rcases xops s hs j hj hd with h | h
                    · rw [hti] at h; cases h
                    · exact hn j hji h hd
                  · obtain ⟨hj', _, hji⟩ := hgd j' b hg
                    have : j' = j := ssa j' j s hj' hj hd' hd
                    subst this
                    rcases xgd j' b hg with h | h
                    · rw [hti] at h; cases h
                    · exact hn j' hji h hd
          · have h1 : a.tmps[s]? = none := by rw [Array.getElem?_eq_none]; omega
            have h2 : a2.tmps[s]? = none := by rw [Array.getElem?_eq_none]; simp [a2]; omega
            rw [h1, h2]
        have hone2 := oneOp_see (A := A) hqk (fun s hs => hslot s (.inl hs)) (fun j b hg s hd => hslot s (.inr ⟨j, b, hg, hd⟩)) hone1
        refine oneOp_run (fen_fn c.r) hiA (oneOp_mono hone2 ?_)
        rintro Dd v w' ⟨L', H', ⟨hat, hs', ds', hdef', hdr', hsat'⟩, _, rfl, hsb⟩
        have hv : ∀ d, A[i].dst = some d → v = V i := by
          intro d hd
          have h1 := hat.2 d (V i) (by rw [hd]; simp [ext, look])
          rw [hd, putD_self (by simp [a2]; exact (hdst d hd).1)] at h1
          simpa using h1
        refine ih _ _ _ w' nT D Lv R (by simpa using hBs) hcl2 hcnt2 htail2 ?_ hs' ?_ hp ?_ hgt hI1 hI2 hI3 ?_
        · cases hd : A[i].dst <;> simp only [Act.putD, Act.put, Array.size_setIfInBounds, hN]
        · refine ⟨ds', ?_, hdr', (Sb.app hsb).sat hsat'⟩
          have : (Act.putD a2 Dd A[i].dst v).defers = Dd ++ a.defers := by cases A[i].dst <;> rfl
          rw [this] at hdef'
          cases A[i].dst <;> exact hdef'
        · intro j hj hjt
          rw [hgd2, if_neg (by intro e; subst e; rw [hti] at hjt; cases hjt)]
          exact hT j hj hjt
        · intro s u hs hnone
          by_cases hd : A[i].dst = some s
          · rw [hd, hv s hd]
            rw [hI1 i s hiq hti ⟨A[i], hiA, hd⟩] at hs
            simp only [Option.some.injEq] at hs
            rw [← hs]
            exact putD_self (Nat.lt_of_lt_of_eq (hdst s hd).1 hN.symm)
          · rw [putD_ne (fun d' hd' e => hd (by rw [hd', e]))]
            refine hI4 s u hs fun j hj hjt hb hdj => ?_
            by_cases hji : j = i
            · subst hji
              obtain ⟨o, ho1, ho2⟩ := hdj
              rw [hiA] at ho1
              simp only [Option.some.injEq] at ho1
              exact hd (by rw [ho1]; exact ho2)
            · exact hnone j hj hjt (by rw [hgd2, if_neg hji]; exact hb) hdj
      | true =>
        -- the thread's next
        have hiD : i ∉ D := fun h => by
          have := (hT i hiq hti).2 h
          rw [hBi] at this; cases this
        have hnx : i ∈ nexts RR q tm D := by
          unfold nexts
          refine List.mem_filter.2 ⟨List.mem_range.2 hiq, ?_⟩
          rw [hti, Bool.true_and, Bool.and_eq_true]
          refine ⟨by simpa using hiD, List.all_eq_true.2 fun j hj => ?_⟩
          have hjq := List.mem_range.1 hj
          cases hb1 : bit RR i j with
          | false => rfl
          | true =>
            cases hb2 : Nat.testBit tm j with
            | false => rfl
            | true =>
              have := (hT j hjq hb2).1 (pred j hb1)
              simp [this]
        have hlft : leftN q tm D = leftN q tm (i :: D) + 1 := by
          unfold leftN
          have := countP_upd (f := fun j => Nat.testBit tm j && !D.contains j) (g := fun j => Nat.testBit tm j && !(i :: D).contains j) (i := i) (by simp [hti, hiD]) (by simp) (fun j hj => by simp [hj]) (List.range q) List.nodup_range (by simpa using hiq)
          omega
        obtain ⟨nT', rfl⟩ : ∃ m, nT = m + 1 := ⟨_, hp.symm.trans hlft⟩
        have hgt2 := hgt
        unfold GW at hgt2
        have hgt2 := hgt2 i hnx A[i] hiA
        let a2 : Act := { tmps := Array.ofFn (n := c.N) fun s => (look Lv s.1).getD (a.tmps.getD s.1 undef), defers := a.defers }
        have ha2 : ∀ s, s < c.N → a2.tmps[s]? = some ((look Lv s).getD (a.tmps.getD s undef)) := by
          intro s hs; simp [a2, Array.getElem?_ofFn, hs]
        have hst2 : St c Lv (M ++ R) a2 w := ⟨⟨by simp [a2], fun s v hs => by rw [ha2 s (hI3 s v hs), hs]; rfl⟩, hsame, ds, hdef, hdr, hsat⟩
        have hone := hgt2 a2 w hst2
        have hone1 := oneOp_of (F := fen c.r) (P := P) (A := A) (o := A[i]) (a := a2) (w := w) (fun e a w h => by obtain ⟨_, _, _, h, _⟩ := h; exact h) hone
        have hslot : ∀ s, (.tmp s ∈ A[i].op.operands.toList ∨ ∃ j b, A[i].guard = some (j, b) ∧ dstAt A j s) → a.tmps[s]? = a2.tmps[s]? := by
          intro s hs
          by_cases hsN : s < c.N
          · rw [ha2 s hsN]
            cases hl : look Lv s with
            | none =>
              simp only [Option.getD_none]
              rw [Array.getD_eq_getD_getElem?]
              have hh : s < a.tmps.size := by omega
              simp [hh]
            | some v =>
              rw [Option.getD_some]
              exact hI4 s v hl (hsee s hs)
          · have h1 : a.tmps[s]? = none := by rw [Array.getElem?_eq_none]; omega
            have h2 : a2.tmps[s]? = none := by rw [Array.getElem?_eq_none]; simp [a2]; omega
            rw [h1, h2]
        have hone2 := oneOp_see (A := A) hqk (fun s hs => hslot s (.inl hs)) (fun j b hg s hd => hslot s (.inr ⟨j, b, hg, hd⟩)) hone1
        refine oneOp_run (fen_fn c.r) hiA (oneOp_mono hone2 ?_)
        rintro Dd v w' ⟨L', H', ⟨hat, hs', ds', hdef', hdr', hsat'⟩, _, v', R', rfl, hsb, hgt3⟩
        have hv : ∀ d, A[i].dst = some d → v = v' := by
          intro d hd
          have h1 := hat.2 d v' (by rw [hd]; simp [ext, look])
          rw [hd, putD_self (by simp [a2]; exact (hdst d hd).1)] at h1
          simpa using h1
        have hnd : ∀ s, A[i].dst = some s → ∀ j, j < q → j ≠ i → ¬ dstAt A j s := fun s hs j hj hji => (hdst s hs).2 j hj hji
        refine ih _ _ _ w' nT' (i :: D) (ext A[i].dst v' Lv) R' (by simpa using hBs) hcl2 hcnt2 htail2 ?_ hs' ?_ (by omega) ?_ hgt3 ?_ ?_ ?_ ?_
        · cases hd : A[i].dst <;> simp only [Act.putD, Act.put, Array.size_setIfInBounds, hN]
        · refine ⟨ds', ?_, hdr', hsb _ _ hsat'⟩
          have : (Act.putD a2 Dd A[i].dst v).defers = Dd ++ a.defers := by cases A[i].dst <;> rfl
          rw [this] at hdef'
          cases A[i].dst <;> exact hdef'
        · intro j hj hjt
          rw [hgd2]
          by_cases hji : j = i
          · subst hji; simp
          · rw [if_neg hji, hT j hj hjt]
            simp [hji]
        · intro j d hj hjt hd
          rw [look_ext, if_neg (fun e => hnd d e j hj (by intro e'; subst e'; rw [hti] at hjt; cases hjt) hd)]
          exact hI1 j d hj hjt hd
        · intro s hs
          rw [look_ext, if_neg (fun e => hs i hiq ⟨A[i], hiA, e⟩)]
          exact hI2 s hs
        · intro s u hs
          rw [look_ext] at hs
          by_cases hd : A[i].dst = some s
          · exact (hdst s hd).1
          · rw [if_neg hd] at hs; exact hI3 s u hs
        · intro s u hs hnone
          rw [look_ext] at hs
          by_cases hd : A[i].dst = some s
          · rw [if_pos hd] at hs
            simp only [Option.some.injEq] at hs
            rw [hd, hv s hd, hs]
            exact putD_self (Nat.lt_of_lt_of_eq (hdst s hd).1 hN.symm)
          · rw [if_neg hd] at hs
            rw [putD_ne (fun d' hd' e => hd (by rw [hd', e]))]
            refine hI4 s u hs fun j hj hjt hb hdj => ?_
            have hji : j ≠ i := by intro e; subst e; rw [hti] at hjt; cases hjt
            exact hnone j hj hjt (by rw [hgd2, if_neg hji]; exact hb) hdj
/-- A region that draws its order: quiet operations in whatever order, among them others (the bits of tm) in whatever order the region allows, then the rest, whose order is forced. -/
theorem G.drawW {id : Nat} (q tm n : Nat) (M R : List HP) (kk : Env → List HP → Prop) (ok : drawWOK c.N q tm A = true) (hn : leftN q tm [] = n) (hL : ∀ s v, look L s = some v → s < c.N) (tk : ImpS H (M ++ R))
    (h : GR P c A tm 0 (A.toList.take q) (fun L' => GW P c A (cloL A A.size) q tm kk n [] L' M R) L M) (hkk : ∀ L' H', kk L' H' → GO P c A (A.toList.drop q) K L' H') : G P c (.region id A true) K L H := by
  intro a w hs
  refine wpIn_region_draw fun t => ?_
  unfold drawWOK drawOK at ok
  simp only [Bool.and_eq_true] at ok
  obtain ⟨⟨ok1, ok2, ok3, ok4⟩, xok⟩ := ok
  have hq : q ≤ A.size := by
    unfold chk at ok1
    simp only [Bool.and_eq_true] at ok1
    simpa using ok1.1
  have hlen : (A.toList.take q).length = q := by simp; omega
  have hAt : ∀ j o, (A.toList.take q)[j]? = some o → A[0 + j]? = some o := fun j o hj => by
    have := (List.getElem?_eq_some_iff.1 hj).1
    rw [hlen] at this
    rw [List.getElem?_take_of_lt this] at hj
    simpa using hj
  obtain ⟨V, _, hV, hk⟩ := GR.get (A.toList.take q) 0 (fun _ => undef) hAt (by simpa [LatQ] using h)
  rw [hlen, Nat.zero_add] at hV hk
  have hok := ok1
  unfold chk at hok
  simp only [Bool.and_eq_true, List.all_eq_true, List.mem_range] at hok
  have hdd : ∀ i d, i < q → dstAt A i d → d < c.N ∧ ∀ j, j < q → j ≠ i → ¬ dstAt A j d := by
    intro i d hi hd
    have hi' : i < A.size := by omega
    have h := hok.2 i hi'
    simp only [hi', getElem?_pos] at h
    obtain ⟨o, ho1, ho2⟩ := hd
    simp [hi'] at ho1
    rw [ho1] at h
    unfold opOK at h
    have hb : Nat.blt i q = true := by simpa using hi
    simp only [hb, cond_true, Bool.and_eq_true] at h
    obtain ⟨_, ⟨⟨_, h2⟩, _⟩, _⟩ := h
    rw [ho2] at h2
    simp only [Bool.and_eq_true, List.all_eq_true, List.mem_range] at h2
    refine ⟨by simpa using h2.1, fun j hj hne hdj => ?_⟩
    have := h2.2 j hj
    rw [dstIs_of hdj, nbeq hne] at this
    simp at this
  have ssa : ∀ i j s, i < q → j < q → dstAt A i s → dstAt A j s → i = j := by
    intro i j s hi hj h1 h2
    by_cases hij : i = j
    · exact hij
    · exact absurd h2 ((hdd i s hi h1).2 j hj (Ne.symm hij))
  obtain ⟨l1, l2⟩ := look_LatQ (V := V) (L := L) (tm := tm) hq ssa q (Nat.le_refl q)
  have run : ∀ m t, topo m A (order m A) 0 = true → wpOpsIn (fen c.r) 0 P A (Post c K) (Region.linearise m A t) a { w with drawn := w.drawn + 1 } := by
    intro m t tp
    unfold Region.linearise
    rw [lin_eq]
    simp only [List.reverse_nil, List.nil_append]
    obtain ⟨h1, h2, ds, h3, h4, h5⟩ := hs
    have hrep : ∀ i, i < A.size → (Array.replicate A.size false).getD i true = false := by
      intro i hi; rw [Array.getD_eq_getD_getElem?]; simp [hi]
    refine drawW_run (RR := cloL A A.size) ok1 xok tp (fun i hi hb o ho Z => hV i (Nat.zero_le _) hi hb o ho Z) hkk _ _ _ a _ n [] (LatQ A tm V L q) R (by simp) (fun i j hi hb => by rw [hrep i hi] at hb; cases hb) ?_ (fun i _ hi => hrep i hi) h1.1 (h2.trans (Same.drawn _ (Nat.le_add_right _ _))) ⟨ds, h3, h4, ?_⟩ hn ?_ hk (fun j d hj hb hd => l1 j d hj hb hd) (fun s hs => l2 s fun j hj _ => hs j hj) ?_ ?_
    · rw [List.countP_eq_length.2]
      · simp
      · intro i hi; rw [hrep i (by simpa using hi)]; rfl
    · exact sat_heap (tk _ _ h5) rfl
    · intro j hj _
      rw [hrep j (by omega)]
      simp
    · intro s v hs
      by_cases h : ∃ j, j < q ∧ dstAt A j s
      · obtain ⟨j, hj, hd⟩ := h; exact (hdd j s hj hd).1
      · rw [l2 s fun j hj _ hd => h ⟨j, hj, hd⟩] at hs
        exact hL s v hs
    · intro s v hs hno
      have hn : ∀ j, j < q → Nat.testBit tm j = false → ¬ dstAt A j s := fun j hj hb => hno j hj hb (hrep j (by omega))
      rw [l2 s hn] at hs
      exact h1.2 s v hs
  unfold Region.schedule
  split
  · exact run _ _ ok2
  · split
    · exact run _ _ ok3
    · exact run _ _ ok4
end
end Go.Proofs.YtpfcgfgkmgnaaaaDoor
namespace Go.Proofs.YtpfcgfgkmgnaaaaDoor
open Go
attribute [local irreducible] G GO GR GT GW Fn FnV pt init exs pur sat own ImpS mat posL allV orL restX cellsX cellsV natsV rowX lines lessX lessL plc uniX
theorem parts_ref (s : Int) (v : Value) : putParts [Value.agg #[i64 s, v]] = [i64 s, v] := by simp [putParts, Value.cells]
set_option maxHeartbeats 4000000 in
theorem rKNew_spec (s : Int) : Fn Tryd.prog 11 #[i64 s] [] (fun r Q => r = (if refOk s then .tuple #[refV s (.slice none 0 0), i64 0] else .tuple #[refV 0 (.slice none 0 0), i64 2]) ∧ Q = []) := by
  have h := refNew_spec s
  cases hok : refOk s with
  | true =>
    rw [hok, if_pos rfl] at h
    rw [if_pos rfl]
    refine Fn.mk2 Tryd.func11 rfl rfl fun w0 F => ?_
    (refine G.seq ?_; refine G.region ?_; refine GO.alloc rfl fun b2 => ?_; refine GO.assign rfl rfl ?_; refine GO.nil ?_; refine kthen_n ?_; refine G.seq ?_; refine G.region ?_; refine GO.move rfl rfl ?_)
    refine GO.call1 rfl rfl (h) Tks.n ?_
    rintro _ _ ⟨rfl, rfl⟩
    (refine GO.move rfl rfl ?_; refine GO.extract rfl rfl rfl ?_; refine GO.extract rfl rfl rfl ?_; refine GO.alloc rfl fun b4 => ?_; refine GO.storeW rfl rfl Tk.h ⟨rfl, rfl⟩ (by simp [Value.oneCell']) ?_; refine GO.assign rfl rfl ?_; refine GO.nil ?_; refine kthen_n ?_; refine G.seq ?_; refine G.region ?_; refine GO.loadW rfl rfl rfl Tk.h rfl ?_; refine GO.build1 rfl rfl rfl ?_; refine GO.move rfl rfl ?_)
    rw [parts_ref]
    (refine GO.storeW rfl rfl (Tk.t Tk.h) ⟨rfl, rfl⟩ (by simp [Value.oneCell']) ?_; refine GO.assign rfl rfl ?_; refine GO.nil ?_; refine kthen_n ?_; refine G.ret ?_)
    refine KF2.r2 rfl (RV.cW (n := 2) rfl rfl (by (exact Tk.h)) rfl) (RV.t rfl) ⟨rfl, rfl⟩ (ImpS.sb ?_)
    (skip; (refine Sb.s ?_; refine Sb.s ?_; exact Sb.r))
  | false =>
    rw [hok, if_neg (by simp)] at h
    rw [if_neg (by simp)]
    refine Fn.mk2 Tryd.func11 rfl rfl fun w0 F => ?_
    (refine G.seq ?_; refine G.region ?_; refine GO.alloc rfl fun b2 => ?_; refine GO.assign rfl rfl ?_; refine GO.nil ?_; refine kthen_n ?_; refine G.seq ?_; refine G.region ?_; refine GO.move rfl rfl ?_)
    refine GO.call1 rfl rfl (h) Tks.n ?_
    rintro _ _ ⟨rfl, rfl⟩
    (refine GO.move rfl rfl ?_; refine GO.extract rfl rfl rfl ?_; refine GO.extract rfl rfl rfl ?_; refine GO.alloc rfl fun b4 => ?_; refine GO.storeW rfl rfl Tk.h ⟨rfl, rfl⟩ (by simp [Value.oneCell']) ?_; refine GO.assign rfl rfl ?_; refine GO.nil ?_; refine kthen_n ?_; refine G.seq ?_; refine G.region ?_; refine GO.loadW rfl rfl rfl Tk.h rfl ?_; refine GO.build1 rfl rfl rfl ?_; refine GO.move rfl rfl ?_)
    rw [parts_ref]
    (refine GO.storeW rfl rfl (Tk.t Tk.h) ⟨rfl, rfl⟩ (by simp [Value.oneCell']) ?_; refine GO.assign rfl rfl ?_; refine GO.nil ?_; refine kthen_n ?_; refine G.ret ?_)
    refine KF2.r2 rfl (RV.cW (n := 2) rfl rfl (by (exact Tk.h)) rfl) (RV.t rfl) ⟨rfl, rfl⟩ (ImpS.sb ?_)
    (skip; (refine Sb.s ?_; refine Sb.s ?_; exact Sb.r))
set_option maxHeartbeats 4000000 in
theorem rKOf_spec (s : Nat) (v : Value) (hv : v.oneCell' = true) : Fn Tryd.prog 13 #[refV s v] [] (fun r Q => r = (if s = 0 then .tuple #[refV 0 (.slice none 0 0), i64 1] else .tuple #[refV s v, i64 0]) ∧ Q = []) := by
  by_cases h : s = 0
  · have d0 : decide (((s : Nat) : Int) = 0) = true := decide_eq_true (by omega)
    rw [if_pos h]
    refine Fn.mk2 Tryd.func13 rfl rfl fun w0 F => ?_
    (refine G.seq ?_; refine G.region ?_; refine GO.box rfl rfl rfl fun b1 => ?_; refine GO.alloc rfl fun b2 => ?_; refine GO.assign rfl rfl ?_; refine GO.nil ?_; refine kthen_n ?_; refine G.seq ?_; refine G.seq ?_; refine G.region ?_; refine GO.fieldAddr rfl rfl ?_; refine GO.load1 rfl rfl rfl (Tk.t Tk.h) rfl ?_; refine GO.eqi rfl rfl rfl ?_; refine GO.nil ?_; refine kthen_n ?_; refine G.condT rfl (by assumption) ?_; refine G.seq ?_; refine G.region ?_; refine GO.build0 rfl ?_; refine GO.storeW rfl rfl Tk.h ⟨rfl, rfl⟩ (by simp [Value.oneCell']) ?_; refine GO.assign rfl rfl ?_; refine GO.nil ?_; refine kthen_n ?_; refine G.ret ?_; refine kthen_r ?_)
    refine KF2.r2 rfl (RV.cW (n := 2) rfl rfl (by (exact Tk.h)) rfl) (RV.t rfl) ⟨rfl, rfl⟩ (ImpS.sb ?_)
    (skip; (refine Sb.s ?_; refine Sb.s ?_; exact Sb.r))
  · have d0 : decide (((s : Nat) : Int) = 0) = false := decide_eq_false (by omega)
    rw [if_neg h]
    refine Fn.mk2 Tryd.func13 rfl rfl fun w0 F => ?_
    (refine G.seq ?_; refine G.region ?_; refine GO.box rfl rfl rfl fun b1 => ?_; refine GO.alloc rfl fun b2 => ?_; refine GO.assign rfl rfl ?_; refine GO.nil ?_; refine kthen_n ?_; refine G.seq ?_; refine G.seq ?_; refine G.region ?_; refine GO.fieldAddr rfl rfl ?_; refine GO.load1 rfl rfl rfl (Tk.t Tk.h) rfl ?_; refine GO.eqi rfl rfl rfl ?_; refine GO.nil ?_; refine kthen_n ?_; refine G.condF rfl (by assumption) ?_; refine G.skip ?_; refine kthen_n ?_; refine G.seq ?_; refine G.region ?_; refine GO.loadW rfl rfl rfl (Tk.t Tk.h) rfl ?_; refine GO.build1 rfl rfl rfl ?_)
    rw [parts_ref]
    (refine GO.storeW rfl rfl Tk.h ⟨rfl, rfl⟩ (by simp [Value.oneCell']; assumption) ?_; refine GO.assign rfl rfl ?_; refine GO.nil ?_; refine kthen_n ?_; refine G.ret ?_)
    refine KF2.r2 rfl (RV.cW (n := 2) rfl rfl (by (exact Tk.h)) rfl) (RV.t rfl) ⟨rfl, rfl⟩ (ImpS.sb ?_)
    (skip; (refine Sb.s ?_; refine Sb.s ?_; exact Sb.r))
theorem pairE_zero {s t : Nat} (h : pairE s t = 0) : s ≠ 0 ∧ t = s := by
  unfold pairE at h
  split at h
  · cases h
  · split at h
    · cases h
    · split at h
      · rename_i h1 h2 h3
        exact ⟨h1, h3.symm⟩
      · cases h
set_option maxHeartbeats 4000000 in
theorem rJoin_err (s t : Nat) (va vb : Value) (ha : va.oneCell' = true) (hb : vb.oneCell' = true) (h : pairE s t ≠ 0) : Fn Tryd.prog 77 #[refV s va, refV t vb] [] (fun r Q => r = .tuple #[refV s va, .bool false, i64 (pairE s t)] ∧ Q = []) := by
  have hpr := rpair_spec s t va vb ha hb
  have d0 : decide (pairE s t ≠ 0) = true := decide_eq_true h
  generalize pairE s t = e at hpr d0 ⊢
  refine Fn.mk2 Tryd.func77 rfl rfl fun w0 F => ?_
  (refine G.seq ?_; refine G.region ?_; refine GO.box rfl rfl rfl fun b2 => ?_; refine GO.box rfl rfl rfl fun b3 => ?_; refine GO.alloc rfl fun b4 => ?_; refine GO.assign rfl rfl ?_; refine GO.assign rfl rfl ?_; refine GO.nil ?_; refine kthen_n ?_; refine G.seq ?_; refine G.region ?_; refine GO.loadW rfl rfl rfl (Tk.t (Tk.t Tk.h)) rfl ?_; refine GO.loadW rfl rfl rfl (Tk.t Tk.h) rfl ?_)
  refine GO.call2 rfl rfl rfl (hpr) Tks.n ?_
  rintro _ _ ⟨rfl, rfl⟩
  (refine GO.assign rfl rfl ?_; refine GO.nil ?_; refine kthen_n ?_; refine G.seq ?_; refine G.seq ?_; refine G.region ?_; refine GO.move rfl rfl ?_; refine GO.nei rfl rfl rfl ?_; refine GO.nil ?_; refine kthen_n ?_; refine G.condT rfl (by assumption) ?_; refine G.seq ?_; refine G.region ?_; refine GO.loadW rfl rfl rfl (Tk.t (Tk.t Tk.h)) rfl ?_; refine GO.move rfl rfl ?_; refine GO.storeW rfl rfl Tk.h ⟨rfl, rfl⟩ (by simp [Value.oneCell']; assumption) ?_; refine GO.assign rfl rfl ?_; refine GO.assign rfl rfl ?_; refine GO.nil ?_; refine kthen_n ?_; refine G.ret ?_; refine kthen_r ?_)
  refine KF2.r3 rfl (RV.cW (n := 2) rfl rfl (by (exact Tk.h)) rfl) (RV.t rfl) (RV.t rfl) ⟨rfl, rfl⟩ (ImpS.sb ?_)
  (skip; (refine Sb.s ?_; refine Sb.s ?_; refine Sb.s ?_; exact Sb.r))
set_option maxHeartbeats 4000000 in
theorem rKJoin_err (s t : Nat) (va vb : Value) (ha : va.oneCell' = true) (hb : vb.oneCell' = true) (h : pairE s t ≠ 0) : Fn Tryd.prog 47 #[refV s va, refV t vb] [] (fun r Q => r = .tuple #[refV s va, refV 0 (.slice none 0 0), i64 (pairE s t)] ∧ Q = []) := by
  have hj := rJoin_err s t va vb ha hb h
  have d0 : decide (pairE s t ≠ 0) = true := decide_eq_true h
  generalize pairE s t = e at hj d0 ⊢
  refine Fn.mk2 Tryd.func47 rfl rfl fun w0 F => ?_
  (refine G.seq ?_; refine G.region ?_; refine GO.box rfl rfl rfl fun b2 => ?_; refine GO.box rfl rfl rfl fun b3 => ?_; refine GO.alloc rfl fun b4 => ?_; refine GO.alloc rfl fun b5 => ?_; refine GO.assign rfl rfl ?_; refine GO.nil ?_; refine kthen_n ?_; refine G.seq ?_; refine G.region ?_; refine GO.fieldAddr rfl rfl ?_; refine GO.loadW rfl rfl rfl (Tk.t (Tk.t (Tk.t Tk.h))) rfl ?_; refine GO.loadW rfl rfl rfl (Tk.t (Tk.t Tk.h)) rfl ?_)
  refine GO.call2 rfl rfl rfl (hj) Tks.n ?_
  rintro _ _ ⟨rfl, rfl⟩
  (refine GO.move rfl rfl ?_; refine GO.extract rfl rfl rfl ?_; refine GO.extract rfl rfl rfl ?_; refine GO.extract rfl rfl rfl ?_; refine GO.alloc rfl fun b7 => ?_; refine GO.storeW rfl rfl Tk.h ⟨rfl, rfl⟩ (by simp [Value.oneCell']; assumption) ?_; refine GO.assign rfl rfl ?_; refine GO.assign rfl rfl ?_; refine GO.nil ?_; refine kthen_n ?_; refine G.seq ?_; refine G.seq ?_; refine G.region ?_; refine GO.move rfl rfl ?_; refine GO.nei rfl rfl rfl ?_; refine GO.nil ?_; refine kthen_n ?_; refine G.condT rfl (by assumption) ?_; refine G.seq ?_; refine G.region ?_; refine GO.loadW rfl rfl rfl (Tk.t (Tk.t (Tk.t (Tk.t Tk.h)))) rfl ?_; refine GO.build0 rfl ?_; refine GO.move rfl rfl ?_; refine GO.storeW rfl rfl (Tk.t (Tk.t Tk.h)) ⟨rfl, rfl⟩ (by simp [Value.oneCell']; assumption) ?_; refine GO.storeW rfl rfl (Tk.t (Tk.t Tk.h)) ⟨rfl, rfl⟩ (by simp [Value.oneCell']) ?_; refine GO.assign rfl rfl ?_; refine GO.nil ?_; refine kthen_n ?_; refine G.ret ?_; refine kthen_r ?_)
  refine KF2.r3 rfl (RV.cW (n := 2) rfl rfl (by (exact (Tk.t Tk.h))) rfl) (RV.cW (n := 2) rfl rfl (by (exact Tk.h)) rfl) (RV.t rfl) ⟨rfl, rfl⟩ (ImpS.sb ?_)
  (skip; (refine Sb.s ?_; refine Sb.s ?_; refine Sb.s ?_; refine Sb.s ?_; refine Sb.s ?_; exact Sb.r))
set_option maxHeartbeats 16000000 in
set_option maxRecDepth 40000 in
theorem rKJoin_core (z : HP) (ra rb : Value) (s : Nat) (C D X Y : Nat → Nat → Bool) (hra : RefO z ra (some (s, C))) (hrb : RefO z rb (some (s, D))) (hs : 1 ≤ s ∧ s ≤ 1024) (hx : ∀ r c, C r c = true → r < s ∧ c < s) (hy : ∀ r c, D r c = true → r < s ∧ c < s) (hX : IsClo C X) (hY : IsClo (uniX C D) Y) :
    Fn Tryd.prog 47 #[ra, rb] [z] (fun r Q => ∃ rv mv z', r = .tuple #[rv, mv, i64 0] ∧ RefO z' rv (some (s, uniX C D)) ∧ RefO z' mv (some (s, lessX Y X)) ∧ Sup z z' ∧ Q = [z']) := by
  have hj := rJoin_same z ra rb s C D hra hrb hs hx hy
  have hU := uni_in hx hy
  have hc1 := fun (p : HP) (v : Value) (hp : RefO p (refV s v) (some (s, uniX C D))) => close_spec (star [p, z]) (refV s v) s (uniX C D) Y hp.left hs.1 hs.2 hU hY
  have hc2 := fun (p : HP) => close_spec (star [p, z]) ra s C X hra.right hs.1 hs.2 hx hX
  have hls := fun (p q : HP) (v u : Value) (hp : RefO p (refV s v) (some (s, Y))) (hq : RefO q (refV s u) (some (s, X))) => rLess_same (star [q, p]) (refV s v) (refV s u) s Y X hp.right hq.left hs (hY.in hU) (hX.in hx)
  generalize uniX C D = U at *
  generalize decide (cntX C < cntX U) = bn at hj ⊢
  generalize lessX Y X = W at hls ⊢
  obtain ⟨va, rfl, honea⟩ := hra.slR
  obtain ⟨vb, rfl, honeb⟩ := hrb.slR
  change Fn _ _ #[refV s va, refV s vb] _ _ at hj
  change ∀ p : HP, Fn _ _ #[refV s va] _ _ at hc2
  change Fn _ _ #[refV s va, refV s vb] _ _
  refine Fn.mk2 Tryd.func47 rfl rfl fun w0 F => ?_
  (refine G.seq ?_; refine G.region ?_; refine GO.box rfl rfl rfl fun b2 => ?_; refine GO.box rfl rfl rfl fun b3 => ?_; refine GO.alloc rfl fun b4 => ?_; refine GO.alloc rfl fun b5 => ?_; refine GO.assign rfl rfl ?_; refine GO.nil ?_; refine kthen_n ?_; refine G.seq ?_; refine G.region ?_; refine GO.fieldAddr rfl rfl ?_; refine GO.loadW rfl rfl rfl (Tk.t (Tk.t (Tk.t Tk.h))) rfl ?_; refine GO.loadW rfl rfl rfl (Tk.t (Tk.t Tk.h)) rfl ?_)
  refine GO.call2 rfl rfl rfl (hj) (Tks.c (Tk.t (Tk.t (Tk.t (Tk.t Tk.h)))) Tks.n) ?_
  rintro _ _ ⟨v1, p1, rfl, hone1, hp1, rfl⟩
  refine GO.merge (x := p1) (y := z) (Tks.c Tk.h (Tks.c Tk.h Tks.n)) ?_
  (refine GO.move rfl rfl ?_; refine GO.extract rfl rfl rfl ?_; refine GO.extract rfl rfl rfl ?_; refine GO.extract rfl rfl rfl ?_; refine GO.alloc rfl fun b7 => ?_; refine GO.storeW rfl rfl Tk.h ⟨rfl, rfl⟩ (by simp [Value.oneCell']; assumption) ?_; refine GO.assign rfl rfl ?_; refine GO.assign rfl rfl ?_; refine GO.nil ?_; refine kthen_n ?_; refine G.seq ?_; refine G.seq ?_; refine G.region ?_; refine GO.move rfl rfl ?_; refine GO.neF rfl rfl rfl rfl ?_; refine GO.nil ?_; refine kthen_n ?_; refine G.condF rfl rfl ?_; refine G.skip ?_; refine kthen_n ?_; refine G.seq ?_)
  refine G.drawW 12 4082 9 [pt b2 (row [i64 (s : Nat), va] 30), pt b7 (row [i64 (s : Nat), v1] 28)] (star [p1, z] :: pt b4 (row [i64 0, .slice none 0 0] 30) :: pt b5 (row [i64 0, .slice none 0 0] 28) :: F)
    (fun L' H' => ∃ v5 p5 pc b10, v5.oneCell' = true ∧ RefO p5 (refV s v5) (some (s, W)) ∧ SubE [(4, ptrV b4), (5, ptrV b5), (7, ptrV b7), (10, ptrV b10)] L' ∧ ImpS H' (pt b10 (row [i64 (s : Nat), v5] 28) :: p5 :: pc :: pt b7 (row [i64 (s : Nat), v1] 28) :: star [p1, z] :: pt b4 (row [i64 0, .slice none 0 0] 30) :: pt b5 (row [i64 0, .slice none 0 0] 28) :: F)) (by kernel_rfl) (by kernel_rfl) (keys_of rfl) (ImpS.sb (by ((refine Sb.c (Tk.t (Tk.t (Tk.t (Tk.t (Tk.t Tk.h))))) ?_; refine Sb.c Tk.h ?_; refine Sb.c Tk.h ?_; refine Sb.c (Tk.t Tk.h) ?_; refine Sb.c Tk.h ?_); (refine Sb.s ?_; exact Sb.r)))) ?_ ?_
  · ((apply GR.step rfl; focus (intro Z; refine GO.loadW rfl rfl rfl (Tk.t Tk.h) rfl ?_; exact KQ.z)); refine GR.skip rfl ?_; (apply GR.step rfl; focus (intro Z; refine GO.fieldAddr rfl rfl ?_; exact KQ.z)); (apply GR.step rfl; focus (intro Z; refine GO.loadW rfl rfl rfl Tk.h rfl ?_; exact KQ.z)); refine GR.skip rfl ?_; refine GR.skip rfl ?_; refine GR.skip rfl ?_; refine GR.skip rfl ?_; refine GR.skip rfl ?_; refine GR.skip rfl ?_; refine GR.skip rfl ?_; refine GR.skip rfl ?_; refine GR.nil ?_)
    refine GW.two (i1 := 1) (i2 := 9) (by kernel_rfl) rfl rfl ?_ ?_
    · skip
      refine GO.call1 rfl rfl (hc1 p1 v1 hp1) (Tks.c (Tk.t (Tk.t Tk.h)) Tks.n) ?_
      rintro _ _ ⟨v3, p3, rfl, hone3, hp3, rfl⟩
      refine GO.nil ⟨rfl, _, p3 :: star [p1, z] :: pt b4 (row [i64 0, .slice none 0 0] 30) :: pt b5 (row [i64 0, .slice none 0 0] 28) :: F, rfl, ImpS.sb (by ((refine Sb.c (Tk.t (Tk.t Tk.h)) ?_; refine Sb.c (Tk.t (Tk.t Tk.h)) ?_; refine Sb.c Tk.h ?_; refine Sb.c Tk.h ?_; refine Sb.c Tk.h ?_; refine Sb.c Tk.h ?_); (exact Sb.r))), ?_⟩
      refine GW.two (i1 := 4) (i2 := 9) (by kernel_rfl) rfl rfl ?_ ?_
      · skip
        refine GO.call1 rfl rfl (hc2 p1) (Tks.c (Tk.t (Tk.t (Tk.t Tk.h))) Tks.n) ?_
        rintro _ _ ⟨v4, p4, rfl, hone4, hp4, rfl⟩
        refine GO.merge (x := p4) (y := p3) (Tks.c Tk.h (Tks.c (Tk.t (Tk.t (Tk.t Tk.h))) Tks.n)) ?_
        refine GO.nil ⟨rfl, _, star [p4, p3] :: star [p1, z] :: pt b4 (row [i64 0, .slice none 0 0] 30) :: pt b5 (row [i64 0, .slice none 0 0] 28) :: F, rfl, ImpS.sb (by ((refine Sb.c (Tk.t (Tk.t Tk.h)) ?_; refine Sb.c (Tk.t (Tk.t Tk.h)) ?_; refine Sb.c Tk.h ?_; refine Sb.c Tk.h ?_; refine Sb.c Tk.h ?_; refine Sb.c Tk.h ?_); (exact Sb.r))), ?_⟩
        refine GW.two (i1 := 5) (i2 := 9) (by kernel_rfl) rfl rfl ?_ ?_
        · skip
          refine GO.call2 rfl rfl rfl (hls p3 p4 v3 v4 hp3 hp4) (Tks.c (Tk.t (Tk.t Tk.h)) Tks.n) ?_
          rintro _ _ ⟨v5, p5, rfl, hone5, hp5, rfl⟩
          refine GO.nil ⟨rfl, _, p5 :: star [p4, p3] :: star [p1, z] :: pt b4 (row [i64 0, .slice none 0 0] 30) :: pt b5 (row [i64 0, .slice none 0 0] 28) :: F, rfl, ImpS.sb (by ((refine Sb.c (Tk.t (Tk.t Tk.h)) ?_; refine Sb.c (Tk.t (Tk.t Tk.h)) ?_; refine Sb.c Tk.h ?_; refine Sb.c Tk.h ?_; refine Sb.c Tk.h ?_; refine Sb.c Tk.h ?_; refine Sb.c Tk.h ?_); (exact Sb.r))), ?_⟩
          refine GW.two (i1 := 6) (i2 := 9) (by kernel_rfl) rfl rfl ?_ ?_
          · skip
            refine GO.move rfl rfl ?_
            refine GO.nil ⟨rfl, _, _, rfl, ImpS.refl, ?_⟩
            refine GW.three (i1 := 7) (i2 := 8) (i3 := 9) (by kernel_rfl) rfl rfl rfl ?_ ?_ ?_
            · skip
              refine GO.extract rfl rfl rfl ?_
              refine GO.nil ⟨rfl, _, _, rfl, ImpS.refl, ?_⟩
              refine GW.two (i1 := 8) (i2 := 9) (by kernel_rfl) rfl rfl ?_ ?_
              · skip
                refine GO.extract rfl rfl rfl ?_
                refine GO.nil ⟨rfl, _, _, rfl, ImpS.refl, ?_⟩
                refine GW.one (i := 9) (by kernel_rfl) rfl ?_
                refine GO.alloc rfl fun b10 => ?_
                refine GO.nil ⟨rfl, _, pt b10 (row [i64 0, .slice none 0 0] 28) :: p5 :: star [p4, p3] :: star [p1, z] :: pt b4 (row [i64 0, .slice none 0 0] 30) :: pt b5 (row [i64 0, .slice none 0 0] 28) :: F, rfl, ImpS.sb (by ((refine Sb.c (Tk.t Tk.h) ?_; refine Sb.c (Tk.t Tk.h) ?_; refine Sb.c Tk.h ?_; refine Sb.c Tk.h ?_; refine Sb.c Tk.h ?_; refine Sb.c Tk.h ?_; refine Sb.c Tk.h ?_; refine Sb.c Tk.h ?_); (exact Sb.r))), ?_⟩
                refine GW.one (i := 10) (by kernel_rfl) rfl ?_
                refine GO.storeW rfl rfl (Tk.t (Tk.t Tk.h)) ⟨rfl, rfl⟩ (by simp [Value.oneCell']; assumption) ?_
                refine GO.nil ⟨rfl, .tuple #[], pt b10 (row [i64 (s : Nat), v5] 28) :: p5 :: star [p4, p3] :: star [p1, z] :: pt b4 (row [i64 0, .slice none 0 0] 30) :: pt b5 (row [i64 0, .slice none 0 0] 28) :: F, rfl, ImpS.sb (by ((refine Sb.c (Tk.t Tk.h) ?_; refine Sb.c (Tk.t Tk.h) ?_; refine Sb.c Tk.h ?_; refine Sb.c Tk.h ?_; refine Sb.c Tk.h ?_; refine Sb.c Tk.h ?_; refine Sb.c Tk.h ?_; refine Sb.c Tk.h ?_); (exact Sb.r))), ?_⟩
                refine GW.one (i := 11) (by kernel_rfl) rfl ?_
                refine GO.assign rfl rfl ?_
                refine GO.nil ⟨rfl, _, _, rfl, ImpS.refl, ?_⟩
                refine GW.nil ⟨v5, p5, star [p4, p3], b10, hone5, hp5, by (refine SubE.c rfl rfl ?_; refine SubE.c rfl rfl ?_; refine SubE.c rfl rfl ?_; refine SubE.c rfl rfl ?_; exact SubE.n), ImpS.sb (by ((refine Sb.c (Tk.t (Tk.t Tk.h)) ?_; refine Sb.c (Tk.t (Tk.t Tk.h)) ?_; refine Sb.c (Tk.t (Tk.t Tk.h)) ?_; refine Sb.c (Tk.t Tk.h) ?_; refine Sb.c (Tk.t Tk.h) ?_; refine Sb.c (Tk.t Tk.h) ?_; refine Sb.c (Tk.t Tk.h) ?_); (refine Sb.s ?_; exact Sb.r)))⟩
              · skip
                refine GO.alloc rfl fun b10 => ?_
                refine GO.nil ⟨rfl, _, pt b10 (row [i64 0, .slice none 0 0] 28) :: p5 :: star [p4, p3] :: star [p1, z] :: pt b4 (row [i64 0, .slice none 0 0] 30) :: pt b5 (row [i64 0, .slice none 0 0] 28) :: F, rfl, ImpS.sb (by ((refine Sb.c (Tk.t Tk.h) ?_; refine Sb.c (Tk.t Tk.h) ?_; refine Sb.c Tk.h ?_; refine Sb.c Tk.h ?_; refine Sb.c Tk.h ?_; refine Sb.c Tk.h ?_; refine Sb.c Tk.h ?_; refine Sb.c Tk.h ?_); (exact Sb.r))), ?_⟩
                refine GW.two (i1 := 8) (i2 := 10) (by kernel_rfl) rfl rfl ?_ ?_
                · skip
                  refine GO.extract rfl rfl rfl ?_
                  refine GO.nil ⟨rfl, _, _, rfl, ImpS.refl, ?_⟩
                  refine GW.one (i := 10) (by kernel_rfl) rfl ?_
                  refine GO.storeW rfl rfl (Tk.t (Tk.t Tk.h)) ⟨rfl, rfl⟩ (by simp [Value.oneCell']; assumption) ?_
                  refine GO.nil ⟨rfl, .tuple #[], pt b10 (row [i64 (s : Nat), v5] 28) :: p5 :: star [p4, p3] :: star [p1, z] :: pt b4 (row [i64 0, .slice none 0 0] 30) :: pt b5 (row [i64 0, .slice none 0 0] 28) :: F, rfl, ImpS.sb (by ((refine Sb.c (Tk.t Tk.h) ?_; refine Sb.c (Tk.t Tk.h) ?_; refine Sb.c Tk.h ?_; refine Sb.c Tk.h ?_; refine Sb.c Tk.h ?_; refine Sb.c Tk.h ?_; refine Sb.c Tk.h ?_; refine Sb.c Tk.h ?_); (exact Sb.r))), ?_⟩
                  refine GW.one (i := 11) (by kernel_rfl) rfl ?_
                  refine GO.assign rfl rfl ?_
                  refine GO.nil ⟨rfl, _, _, rfl, ImpS.refl, ?_⟩
                  refine GW.nil ⟨v5, p5, star [p4, p3], b10, hone5, hp5, by (refine SubE.c rfl rfl ?_; refine SubE.c rfl rfl ?_; refine SubE.c rfl rfl ?_; refine SubE.c rfl rfl ?_; exact SubE.n), ImpS.sb (by ((refine Sb.c (Tk.t (Tk.t Tk.h)) ?_; refine Sb.c (Tk.t (Tk.t Tk.h)) ?_; refine Sb.c (Tk.t (Tk.t Tk.h)) ?_; refine Sb.c (Tk.t Tk.h) ?_; refine Sb.c (Tk.t Tk.h) ?_; refine Sb.c (Tk.t Tk.h) ?_; refine Sb.c (Tk.t Tk.h) ?_); (refine Sb.s ?_; exact Sb.r)))⟩
                · skip
                  refine GO.storeW rfl rfl (Tk.t (Tk.t Tk.h)) ⟨rfl, rfl⟩ (by simp [Value.oneCell']; assumption) ?_
                  refine GO.nil ⟨rfl, .tuple #[], pt b10 (row [i64 (s : Nat), v5] 28) :: p5 :: star [p4, p3] :: star [p1, z] :: pt b4 (row [i64 0, .slice none 0 0] 30) :: pt b5 (row [i64 0, .slice none 0 0] 28) :: F, rfl, ImpS.sb (by ((refine Sb.c (Tk.t Tk.h) ?_; refine Sb.c (Tk.t Tk.h) ?_; refine Sb.c Tk.h ?_; refine Sb.c Tk.h ?_; refine Sb.c Tk.h ?_; refine Sb.c Tk.h ?_; refine Sb.c Tk.h ?_; refine Sb.c Tk.h ?_); (exact Sb.r))), ?_⟩
                  refine GW.one (i := 8) (by kernel_rfl) rfl ?_
                  refine GO.extract rfl rfl rfl ?_
                  refine GO.nil ⟨rfl, _, _, rfl, ImpS.refl, ?_⟩
                  refine GW.one (i := 11) (by kernel_rfl) rfl ?_
                  refine GO.assign rfl rfl ?_
                  refine GO.nil ⟨rfl, _, _, rfl, ImpS.refl, ?_⟩
                  refine GW.nil ⟨v5, p5, star [p4, p3], b10, hone5, hp5, by (refine SubE.c rfl rfl ?_; refine SubE.c rfl rfl ?_; refine SubE.c rfl rfl ?_; refine SubE.c rfl rfl ?_; exact SubE.n), ImpS.sb (by ((refine Sb.c (Tk.t (Tk.t Tk.h)) ?_; refine Sb.c (Tk.t (Tk.t Tk.h)) ?_; refine Sb.c (Tk.t (Tk.t Tk.h)) ?_; refine Sb.c (Tk.t Tk.h) ?_; refine Sb.c (Tk.t Tk.h) ?_; refine Sb.c (Tk.t Tk.h) ?_; refine Sb.c (Tk.t Tk.h) ?_); (refine Sb.s ?_; exact Sb.r)))⟩
            · skip
              refine GO.extract rfl rfl rfl ?_
              refine GO.nil ⟨rfl, _, _, rfl, ImpS.refl, ?_⟩
              refine GW.two (i1 := 7) (i2 := 9) (by kernel_rfl) rfl rfl ?_ ?_
              · skip
                refine GO.extract rfl rfl rfl ?_
                refine GO.nil ⟨rfl, _, _, rfl, ImpS.refl, ?_⟩
                refine GW.one (i := 9) (by kernel_rfl) rfl ?_
                refine GO.alloc rfl fun b10 => ?_
                refine GO.nil ⟨rfl, _, pt b10 (row [i64 0, .slice none 0 0] 28) :: p5 :: star [p4, p3] :: star [p1, z] :: pt b4 (row [i64 0, .slice none 0 0] 30) :: pt b5 (row [i64 0, .slice none 0 0] 28) :: F, rfl, ImpS.sb (by ((refine Sb.c (Tk.t Tk.h) ?_; refine Sb.c (Tk.t Tk.h) ?_; refine Sb.c Tk.h ?_; refine Sb.c Tk.h ?_; refine Sb.c Tk.h ?_; refine Sb.c Tk.h ?_; refine Sb.c Tk.h ?_; refine Sb.c Tk.h ?_); (exact Sb.r))), ?_⟩
                refine GW.one (i := 10) (by kernel_rfl) rfl ?_
                refine GO.storeW rfl rfl (Tk.t (Tk.t Tk.h)) ⟨rfl, rfl⟩ (by simp [Value.oneCell']; assumption) ?_
                refine GO.nil ⟨rfl, .tuple #[], pt b10 (row [i64 (s : Nat), v5] 28) :: p5 :: star [p4, p3] :: star [p1, z] :: pt b4 (row [i64 0, .slice none 0 0] 30) :: pt b5 (row [i64 0, .slice none 0 0] 28) :: F, rfl, ImpS.sb (by ((refine Sb.c (Tk.t Tk.h) ?_; refine Sb.c (Tk.t Tk.h) ?_; refine Sb.c Tk.h ?_; refine Sb.c Tk.h ?_; refine Sb.c Tk.h ?_; refine Sb.c Tk.h ?_; refine Sb.c Tk.h ?_; refine Sb.c Tk.h ?_); (exact Sb.r))), ?_⟩
                refine GW.one (i := 11) (by kernel_rfl) rfl ?_
                refine GO.assign rfl rfl ?_
                refine GO.nil ⟨rfl, _, _, rfl, ImpS.refl, ?_⟩
                refine GW.nil ⟨v5, p5, star [p4, p3], b10, hone5, hp5, by (refine SubE.c rfl rfl ?_; refine SubE.c rfl rfl ?_; refine SubE.c rfl rfl ?_; refine SubE.c rfl rfl ?_; exact SubE.n), ImpS.sb (by ((refine Sb.c (Tk.t (Tk.t Tk.h)) ?_; refine Sb.c (Tk.t (Tk.t Tk.h)) ?_; refine Sb.c (Tk.t (Tk.t Tk.h)) ?_; refine Sb.c (Tk.t Tk.h) ?_; refine Sb.c (Tk.t Tk.h) ?_; refine Sb.c (Tk.t Tk.h) ?_; refine Sb.c (Tk.t Tk.h) ?_); (refine Sb.s ?_; exact Sb.r)))⟩
              · skip
                refine GO.alloc rfl fun b10 => ?_
                refine GO.nil ⟨rfl, _, pt b10 (row [i64 0, .slice none 0 0] 28) :: p5 :: star [p4, p3] :: star [p1, z] :: pt b4 (row [i64 0, .slice none 0 0] 30) :: pt b5 (row [i64 0, .slice none 0 0] 28) :: F, rfl, ImpS.sb (by ((refine Sb.c (Tk.t Tk.h) ?_; refine Sb.c (Tk.t Tk.h) ?_; refine Sb.c Tk.h ?_; refine Sb.c Tk.h ?_; refine Sb.c Tk.h ?_; refine Sb.c Tk.h ?_; refine Sb.c Tk.h ?_; refine Sb.c Tk.h ?_); (exact Sb.r))), ?_⟩
                refine GW.one (i := 7) (by kernel_rfl) rfl ?_
                refine GO.extract rfl rfl rfl ?_
                refine GO.nil ⟨rfl, _, _, rfl, ImpS.refl, ?_⟩
                refine GW.one (i := 10) (by kernel_rfl) rfl ?_
                refine GO.storeW rfl rfl (Tk.t (Tk.t Tk.h)) ⟨rfl, rfl⟩ (by simp [Value.oneCell']; assumption) ?_
                refine GO.nil ⟨rfl, .tuple #[], pt b10 (row [i64 (s : Nat), v5] 28) :: p5 :: star [p4, p3] :: star [p1, z] :: pt b4 (row [i64 0, .slice none 0 0] 30) :: pt b5 (row [i64 0, .slice none 0 0] 28) :: F, rfl, ImpS.sb (by ((refine Sb.c (Tk.t Tk.h) ?_; refine Sb.c (Tk.t Tk.h) ?_; refine Sb.c Tk.h ?_; refine Sb.c Tk.h ?_; refine Sb.c Tk.h ?_; refine Sb.c Tk.h ?_; refine Sb.c Tk.h ?_; refine Sb.c Tk.h ?_); (exact Sb.r))), ?_⟩
                refine GW.one (i := 11) (by kernel_rfl) rfl ?_
                refine GO.assign rfl rfl ?_
                refine GO.nil ⟨rfl, _, _, rfl, ImpS.refl, ?_⟩
                refine GW.nil ⟨v5, p5, star [p4, p3], b10, hone5, hp5, by (refine SubE.c rfl rfl ?_; refine SubE.c rfl rfl ?_; refine SubE.c rfl rfl ?_; refine SubE.c rfl rfl ?_; exact SubE.n), ImpS.sb (by ((refine Sb.c (Tk.t (Tk.t Tk.h)) ?_; refine Sb.c (Tk.t (Tk.t Tk.h)) ?_; refine Sb.c (Tk.t (Tk.t Tk.h)) ?_; refine Sb.c (Tk.t Tk.h) ?_; refine Sb.c (Tk.t Tk.h) ?_; refine Sb.c (Tk.t Tk.h) ?_; refine Sb.c (Tk.t Tk.h) ?_); (refine Sb.s ?_; exact Sb.r)))⟩
            · skip
              refine GO.alloc rfl fun b10 => ?_
              refine GO.nil ⟨rfl, _, pt b10 (row [i64 0, .slice none 0 0] 28) :: p5 :: star [p4, p3] :: star [p1, z] :: pt b4 (row [i64 0, .slice none 0 0] 30) :: pt b5 (row [i64 0, .slice none 0 0] 28) :: F, rfl, ImpS.sb (by ((refine Sb.c (Tk.t Tk.h) ?_; refine Sb.c (Tk.t Tk.h) ?_; refine Sb.c Tk.h ?_; refine Sb.c Tk.h ?_; refine Sb.c Tk.h ?_; refine Sb.c Tk.h ?_; refine Sb.c Tk.h ?_; refine Sb.c Tk.h ?_); (exact Sb.r))), ?_⟩
              refine GW.two (i1 := 7) (i2 := 8) (by kernel_rfl) rfl rfl ?_ ?_
              · skip
                refine GO.extract rfl rfl rfl ?_
                refine GO.nil ⟨rfl, _, _, rfl, ImpS.refl, ?_⟩
                refine GW.two (i1 := 8) (i2 := 10) (by kernel_rfl) rfl rfl ?_ ?_
                · skip
                  refine GO.extract rfl rfl rfl ?_
                  refine GO.nil ⟨rfl, _, _, rfl, ImpS.refl, ?_⟩
                  refine GW.one (i := 10) (by kernel_rfl) rfl ?_
                  refine GO.storeW rfl rfl (Tk.t (Tk.t Tk.h)) ⟨rfl, rfl⟩ (by simp [Value.oneCell']; assumption) ?_
                  refine GO.nil ⟨rfl, .tuple #[], pt b10 (row [i64 (s : Nat), v5] 28) :: p5 :: star [p4, p3] :: star [p1, z] :: pt b4 (row [i64 0, .slice none 0 0] 30) :: pt b5 (row [i64 0, .slice none 0 0] 28) :: F, rfl, ImpS.sb (by ((refine Sb.c (Tk.t Tk.h) ?_; refine Sb.c (Tk.t Tk.h) ?_; refine Sb.c Tk.h ?_; refine Sb.c Tk.h ?_; refine Sb.c Tk.h ?_; refine Sb.c Tk.h ?_; refine Sb.c Tk.h ?_; refine Sb.c Tk.h ?_); (exact Sb.r))), ?_⟩
                  refine GW.one (i := 11) (by kernel_rfl) rfl ?_
                  refine GO.assign rfl rfl ?_
                  refine GO.nil ⟨rfl, _, _, rfl, ImpS.refl, ?_⟩
                  refine GW.nil ⟨v5, p5, star [p4, p3], b10, hone5, hp5, by (refine SubE.c rfl rfl ?_; refine SubE.c rfl rfl ?_; refine SubE.c rfl rfl ?_; refine SubE.c rfl rfl ?_; exact SubE.n), ImpS.sb (by ((refine Sb.c (Tk.t (Tk.t Tk.h)) ?_; refine Sb.c (Tk.t (Tk.t Tk.h)) ?_; refine Sb.c (Tk.t (Tk.t Tk.h)) ?_; refine Sb.c (Tk.t Tk.h) ?_; refine Sb.c (Tk.t Tk.h) ?_; refine Sb.c (Tk.t Tk.h) ?_; refine Sb.c (Tk.t Tk.h) ?_); (refine Sb.s ?_; exact Sb.r)))⟩
                · skip
                  refine GO.storeW rfl rfl (Tk.t (Tk.t Tk.h)) ⟨rfl, rfl⟩ (by simp [Value.oneCell']; assumption) ?_
                  refine GO.nil ⟨rfl, .tuple #[], pt b10 (row [i64 (s : Nat), v5] 28) :: p5 :: star [p4, p3] :: star [p1, z] :: pt b4 (row [i64 0, .slice none 0 0] 30) :: pt b5 (row [i64 0, .slice none 0 0] 28) :: F, rfl, ImpS.sb (by ((refine Sb.c (Tk.t Tk.h) ?_; refine Sb.c (Tk.t Tk.h) ?_; refine Sb.c Tk.h ?_; refine Sb.c Tk.h ?_; refine Sb.c Tk.h ?_; refine Sb.c Tk.h ?_; refine Sb.c Tk.h ?_; refine Sb.c Tk.h ?_); (exact Sb.r))), ?_⟩
                  refine GW.one (i := 8) (by kernel_rfl) rfl ?_
                  refine GO.extract rfl rfl rfl ?_
                  refine GO.nil ⟨rfl, _, _, rfl, ImpS.refl, ?_⟩
                  refine GW.one (i := 11) (by kernel_rfl) rfl ?_
                  refine GO.assign rfl rfl ?_
                  refine GO.nil ⟨rfl, _, _, rfl, ImpS.refl, ?_⟩
                  refine GW.nil ⟨v5, p5, star [p4, p3], b10, hone5, hp5, by (refine SubE.c rfl rfl ?_; refine SubE.c rfl rfl ?_; refine SubE.c rfl rfl ?_; refine SubE.c rfl rfl ?_; exact SubE.n), ImpS.sb (by ((refine Sb.c (Tk.t (Tk.t Tk.h)) ?_; refine Sb.c (Tk.t (Tk.t Tk.h)) ?_; refine Sb.c (Tk.t (Tk.t Tk.h)) ?_; refine Sb.c (Tk.t Tk.h) ?_; refine Sb.c (Tk.t Tk.h) ?_; refine Sb.c (Tk.t Tk.h) ?_; refine Sb.c (Tk.t Tk.h) ?_); (refine Sb.s ?_; exact Sb.r)))⟩
              · skip
                refine GO.extract rfl rfl rfl ?_
                refine GO.nil ⟨rfl, _, _, rfl, ImpS.refl, ?_⟩
                refine GW.one (i := 7) (by kernel_rfl) rfl ?_
                refine GO.extract rfl rfl rfl ?_
                refine GO.nil ⟨rfl, _, _, rfl, ImpS.refl, ?_⟩
                refine GW.one (i := 10) (by kernel_rfl) rfl ?_
                refine GO.storeW rfl rfl (Tk.t (Tk.t Tk.h)) ⟨rfl, rfl⟩ (by simp [Value.oneCell']; assumption) ?_
                refine GO.nil ⟨rfl, .tuple #[], pt b10 (row [i64 (s : Nat), v5] 28) :: p5 :: star [p4, p3] :: star [p1, z] :: pt b4 (row [i64 0, .slice none 0 0] 30) :: pt b5 (row [i64 0, .slice none 0 0] 28) :: F, rfl, ImpS.sb (by ((refine Sb.c (Tk.t Tk.h) ?_; refine Sb.c (Tk.t Tk.h) ?_; refine Sb.c Tk.h ?_; refine Sb.c Tk.h ?_; refine Sb.c Tk.h ?_; refine Sb.c Tk.h ?_; refine Sb.c Tk.h ?_; refine Sb.c Tk.h ?_); (exact Sb.r))), ?_⟩
                refine GW.one (i := 11) (by kernel_rfl) rfl ?_
                refine GO.assign rfl rfl ?_
                refine GO.nil ⟨rfl, _, _, rfl, ImpS.refl, ?_⟩
                refine GW.nil ⟨v5, p5, star [p4, p3], b10, hone5, hp5, by (refine SubE.c rfl rfl ?_; refine SubE.c rfl rfl ?_; refine SubE.c rfl rfl ?_; refine SubE.c rfl rfl ?_; exact SubE.n), ImpS.sb (by ((refine Sb.c (Tk.t (Tk.t Tk.h)) ?_; refine Sb.c (Tk.t (Tk.t Tk.h)) ?_; refine Sb.c (Tk.t (Tk.t Tk.h)) ?_; refine Sb.c (Tk.t Tk.h) ?_; refine Sb.c (Tk.t Tk.h) ?_; refine Sb.c (Tk.t Tk.h) ?_; refine Sb.c (Tk.t Tk.h) ?_); (refine Sb.s ?_; exact Sb.r)))⟩
          · skip
            refine GO.alloc rfl fun b10 => ?_
            refine GO.nil ⟨rfl, _, pt b10 (row [i64 0, .slice none 0 0] 28) :: p5 :: star [p4, p3] :: star [p1, z] :: pt b4 (row [i64 0, .slice none 0 0] 30) :: pt b5 (row [i64 0, .slice none 0 0] 28) :: F, rfl, ImpS.sb (by ((refine Sb.c (Tk.t Tk.h) ?_; refine Sb.c (Tk.t Tk.h) ?_; refine Sb.c Tk.h ?_; refine Sb.c Tk.h ?_; refine Sb.c Tk.h ?_; refine Sb.c Tk.h ?_; refine Sb.c Tk.h ?_; refine Sb.c Tk.h ?_); (exact Sb.r))), ?_⟩
            refine GW.one (i := 6) (by kernel_rfl) rfl ?_
            refine GO.move rfl rfl ?_
            refine GO.nil ⟨rfl, _, _, rfl, ImpS.refl, ?_⟩
            refine GW.two (i1 := 7) (i2 := 8) (by kernel_rfl) rfl rfl ?_ ?_
            · skip
              refine GO.extract rfl rfl rfl ?_
              refine GO.nil ⟨rfl, _, _, rfl, ImpS.refl, ?_⟩
              refine GW.two (i1 := 8) (i2 := 10) (by kernel_rfl) rfl rfl ?_ ?_
              · skip
                refine GO.extract rfl rfl rfl ?_
                refine GO.nil ⟨rfl, _, _, rfl, ImpS.refl, ?_⟩
                refine GW.one (i := 10) (by kernel_rfl) rfl ?_
                refine GO.storeW rfl rfl (Tk.t (Tk.t Tk.h)) ⟨rfl, rfl⟩ (by simp [Value.oneCell']; assumption) ?_
                refine GO.nil ⟨rfl, .tuple #[], pt b10 (row [i64 (s : Nat), v5] 28) :: p5 :: star [p4, p3] :: star [p1, z] :: pt b4 (row [i64 0, .slice none 0 0] 30) :: pt b5 (row [i64 0, .slice none 0 0] 28) :: F, rfl, ImpS.sb (by ((refine Sb.c (Tk.t Tk.h) ?_; refine Sb.c (Tk.t Tk.h) ?_; refine Sb.c Tk.h ?_; refine Sb.c Tk.h ?_; refine Sb.c Tk.h ?_; refine Sb.c Tk.h ?_; refine Sb.c Tk.h ?_; refine Sb.c Tk.h ?_); (exact Sb.r))), ?_⟩
                refine GW.one (i := 11) (by kernel_rfl) rfl ?_
                refine GO.assign rfl rfl ?_
                refine GO.nil ⟨rfl, _, _, rfl, ImpS.refl, ?_⟩
                refine GW.nil ⟨v5, p5, star [p4, p3], b10, hone5, hp5, by (refine SubE.c rfl rfl ?_; refine SubE.c rfl rfl ?_; refine SubE.c rfl rfl ?_; refine SubE.c rfl rfl ?_; exact SubE.n), ImpS.sb (by ((refine Sb.c (Tk.t (Tk.t Tk.h)) ?_; refine Sb.c (Tk.t (Tk.t Tk.h)) ?_; refine Sb.c (Tk.t (Tk.t Tk.h)) ?_; refine Sb.c (Tk.t Tk.h) ?_; refine Sb.c (Tk.t Tk.h) ?_; refine Sb.c (Tk.t Tk.h) ?_; refine Sb.c (Tk.t Tk.h) ?_); (refine Sb.s ?_; exact Sb.r)))⟩
              · skip
                refine GO.storeW rfl rfl (Tk.t (Tk.t Tk.h)) ⟨rfl, rfl⟩ (by simp [Value.oneCell']; assumption) ?_
                refine GO.nil ⟨rfl, .tuple #[], pt b10 (row [i64 (s : Nat), v5] 28) :: p5 :: star [p4, p3] :: star [p1, z] :: pt b4 (row [i64 0, .slice none 0 0] 30) :: pt b5 (row [i64 0, .slice none 0 0] 28) :: F, rfl, ImpS.sb (by ((refine Sb.c (Tk.t Tk.h) ?_; refine Sb.c (Tk.t Tk.h) ?_; refine Sb.c Tk.h ?_; refine Sb.c Tk.h ?_; refine Sb.c Tk.h ?_; refine Sb.c Tk.h ?_; refine Sb.c Tk.h ?_; refine Sb.c Tk.h ?_); (exact Sb.r))), ?_⟩
                refine GW.one (i := 8) (by kernel_rfl) rfl ?_
                refine GO.extract rfl rfl rfl ?_
                refine GO.nil ⟨rfl, _, _, rfl, ImpS.refl, ?_⟩
                refine GW.one (i := 11) (by kernel_rfl) rfl ?_
                refine GO.assign rfl rfl ?_
                refine GO.nil ⟨rfl, _, _, rfl, ImpS.refl, ?_⟩
                refine GW.nil ⟨v5, p5, star [p4, p3], b10, hone5, hp5, by (refine SubE.c rfl rfl ?_; refine SubE.c rfl rfl ?_; refine SubE.c rfl rfl ?_; refine SubE.c rfl rfl ?_; exact SubE.n), ImpS.sb (by ((refine Sb.c (Tk.t (Tk.t Tk.h)) ?_; refine Sb.c (Tk.t (Tk.t Tk.h)) ?_; refine Sb.c (Tk.t (Tk.t Tk.h)) ?_; refine Sb.c (Tk.t Tk.h) ?_; refine Sb.c (Tk.t Tk.h) ?_; refine Sb.c (Tk.t Tk.h) ?_; refine Sb.c (Tk.t Tk.h) ?_); (refine Sb.s ?_; exact Sb.r)))⟩
            · skip
              refine GO.extract rfl rfl rfl ?_
              refine GO.nil ⟨rfl, _, _, rfl, ImpS.refl, ?_⟩
              refine GW.one (i := 7) (by kernel_rfl) rfl ?_
              refine GO.extract rfl rfl rfl ?_
              refine GO.nil ⟨rfl, _, _, rfl, ImpS.refl, ?_⟩
              refine GW.one (i := 10) (by kernel_rfl) rfl ?_
              refine GO.storeW rfl rfl (Tk.t (Tk.t Tk.h)) ⟨rfl, rfl⟩ (by simp [Value.oneCell']; assumption) ?_
              refine GO.nil ⟨rfl, .tuple #[], pt b10 (row [i64 (s : Nat), v5] 28) :: p5 :: star [p4, p3] :: star [p1, z] :: pt b4 (row [i64 0, .slice none 0 0] 30) :: pt b5 (row [i64 0, .slice none 0 0] 28) :: F, rfl, ImpS.sb (by ((refine Sb.c (Tk.t Tk.h) ?_; refine Sb.c (Tk.t Tk.h) ?_; refine Sb.c Tk.h ?_; refine Sb.c Tk.h ?_; refine Sb.c Tk.h ?_; refine Sb.c Tk.h ?_; refine Sb.c Tk.h ?_; refine Sb.c Tk.h ?_); (exact Sb.r))), ?_⟩
              refine GW.one (i := 11) (by kernel_rfl) rfl ?_
              refine GO.assign rfl rfl ?_
              refine GO.nil ⟨rfl, _, _, rfl, ImpS.refl, ?_⟩
              refine GW.nil ⟨v5, p5, star [p4, p3], b10, hone5, hp5, by (refine SubE.c rfl rfl ?_; refine SubE.c rfl rfl ?_; refine SubE.c rfl rfl ?_; refine SubE.c rfl rfl ?_; exact SubE.n), ImpS.sb (by ((refine Sb.c (Tk.t (Tk.t Tk.h)) ?_; refine Sb.c (Tk.t (Tk.t Tk.h)) ?_; refine Sb.c (Tk.t (Tk.t Tk.h)) ?_; refine Sb.c (Tk.t Tk.h) ?_; refine Sb.c (Tk.t Tk.h) ?_; refine Sb.c (Tk.t Tk.h) ?_; refine Sb.c (Tk.t Tk.h) ?_); (refine Sb.s ?_; exact Sb.r)))⟩
        · skip
          refine GO.alloc rfl fun b10 => ?_
          refine GO.nil ⟨rfl, _, pt b10 (row [i64 0, .slice none 0 0] 28) :: star [p4, p3] :: star [p1, z] :: pt b4 (row [i64 0, .slice none 0 0] 30) :: pt b5 (row [i64 0, .slice none 0 0] 28) :: F, rfl, ImpS.sb (by ((refine Sb.c (Tk.t Tk.h) ?_; refine Sb.c (Tk.t Tk.h) ?_; refine Sb.c Tk.h ?_; refine Sb.c Tk.h ?_; refine Sb.c Tk.h ?_; refine Sb.c Tk.h ?_; refine Sb.c Tk.h ?_); (exact Sb.r))), ?_⟩
          refine GW.one (i := 5) (by kernel_rfl) rfl ?_
          refine GO.call2 rfl rfl rfl (hls p3 p4 v3 v4 hp3 hp4) (Tks.c (Tk.t (Tk.t (Tk.t Tk.h))) Tks.n) ?_
          rintro _ _ ⟨v5, p5, rfl, hone5, hp5, rfl⟩
          refine GO.nil ⟨rfl, _, pt b10 (row [i64 0, .slice none 0 0] 28) :: p5 :: star [p4, p3] :: star [p1, z] :: pt b4 (row [i64 0, .slice none 0 0] 30) :: pt b5 (row [i64 0, .slice none 0 0] 28) :: F, rfl, ImpS.sb (by ((refine Sb.c (Tk.t (Tk.t Tk.h)) ?_; refine Sb.c (Tk.t (Tk.t Tk.h)) ?_; refine Sb.c (Tk.t (Tk.t Tk.h)) ?_; refine Sb.c Tk.h ?_; refine Sb.c Tk.h ?_; refine Sb.c Tk.h ?_; refine Sb.c Tk.h ?_; refine Sb.c Tk.h ?_); (exact Sb.r))), ?_⟩
          refine GW.one (i := 6) (by kernel_rfl) rfl ?_
          refine GO.move rfl rfl ?_
          refine GO.nil ⟨rfl, _, _, rfl, ImpS.refl, ?_⟩
          refine GW.two (i1 := 7) (i2 := 8) (by kernel_rfl) rfl rfl ?_ ?_
          · skip
            refine GO.extract rfl rfl rfl ?_
            refine GO.nil ⟨rfl, _, _, rfl, ImpS.refl, ?_⟩
            refine GW.two (i1 := 8) (i2 := 10) (by kernel_rfl) rfl rfl ?_ ?_
            · skip
              refine GO.extract rfl rfl rfl ?_
              refine GO.nil ⟨rfl, _, _, rfl, ImpS.refl, ?_⟩
              refine GW.one (i := 10) (by kernel_rfl) rfl ?_
              refine GO.storeW rfl rfl (Tk.t (Tk.t Tk.h)) ⟨rfl, rfl⟩ (by simp [Value.oneCell']; assumption) ?_
              refine GO.nil ⟨rfl, .tuple #[], pt b10 (row [i64 (s : Nat), v5] 28) :: p5 :: star [p4, p3] :: star [p1, z] :: pt b4 (row [i64 0, .slice none 0 0] 30) :: pt b5 (row [i64 0, .slice none 0 0] 28) :: F, rfl, ImpS.sb (by ((refine Sb.c (Tk.t Tk.h) ?_; refine Sb.c (Tk.t Tk.h) ?_; refine Sb.c Tk.h ?_; refine Sb.c Tk.h ?_; refine Sb.c Tk.h ?_; refine Sb.c Tk.h ?_; refine Sb.c Tk.h ?_; refine Sb.c Tk.h ?_); (exact Sb.r))), ?_⟩
              refine GW.one (i := 11) (by kernel_rfl) rfl ?_
              refine GO.assign rfl rfl ?_
              refine GO.nil ⟨rfl, _, _, rfl, ImpS.refl, ?_⟩
              refine GW.nil ⟨v5, p5, star [p4, p3], b10, hone5, hp5, by (refine SubE.c rfl rfl ?_; refine SubE.c rfl rfl ?_; refine SubE.c rfl rfl ?_; refine SubE.c rfl rfl ?_; exact SubE.n), ImpS.sb (by ((refine Sb.c (Tk.t (Tk.t Tk.h)) ?_; refine Sb.c (Tk.t (Tk.t Tk.h)) ?_; refine Sb.c (Tk.t (Tk.t Tk.h)) ?_; refine Sb.c (Tk.t Tk.h) ?_; refine Sb.c (Tk.t Tk.h) ?_; refine Sb.c (Tk.t Tk.h) ?_; refine Sb.c (Tk.t Tk.h) ?_); (refine Sb.s ?_; exact Sb.r)))⟩
            · skip
              refine GO.storeW rfl rfl (Tk.t (Tk.t Tk.h)) ⟨rfl, rfl⟩ (by simp [Value.oneCell']; assumption) ?_
              refine GO.nil ⟨rfl, .tuple #[], pt b10 (row [i64 (s : Nat), v5] 28) :: p5 :: star [p4, p3] :: star [p1, z] :: pt b4 (row [i64 0, .slice none 0 0] 30) :: pt b5 (row [i64 0, .slice none 0 0] 28) :: F, rfl, ImpS.sb (by ((refine Sb.c (Tk.t Tk.h) ?_; refine Sb.c (Tk.t Tk.h) ?_; refine Sb.c Tk.h ?_; refine Sb.c Tk.h ?_; refine Sb.c Tk.h ?_; refine Sb.c Tk.h ?_; refine Sb.c Tk.h ?_; refine Sb.c Tk.h ?_); (exact Sb.r))), ?_⟩
              refine GW.one (i := 8) (by kernel_rfl) rfl ?_
              refine GO.extract rfl rfl rfl ?_
              refine GO.nil ⟨rfl, _, _, rfl, ImpS.refl, ?_⟩
              refine GW.one (i := 11) (by kernel_rfl) rfl ?_
              refine GO.assign rfl rfl ?_
              refine GO.nil ⟨rfl, _, _, rfl, ImpS.refl, ?_⟩
              refine GW.nil ⟨v5, p5, star [p4, p3], b10, hone5, hp5, by (refine SubE.c rfl rfl ?_; refine SubE.c rfl rfl ?_; refine SubE.c rfl rfl ?_; refine SubE.c rfl rfl ?_; exact SubE.n), ImpS.sb (by ((refine Sb.c (Tk.t (Tk.t Tk.h)) ?_; refine Sb.c (Tk.t (Tk.t Tk.h)) ?_; refine Sb.c (Tk.t (Tk.t Tk.h)) ?_; refine Sb.c (Tk.t Tk.h) ?_; refine Sb.c (Tk.t Tk.h) ?_; refine Sb.c (Tk.t Tk.h) ?_; refine Sb.c (Tk.t Tk.h) ?_); (refine Sb.s ?_; exact Sb.r)))⟩
          · skip
            refine GO.extract rfl rfl rfl ?_
            refine GO.nil ⟨rfl, _, _, rfl, ImpS.refl, ?_⟩
            refine GW.one (i := 7) (by kernel_rfl) rfl ?_
            refine GO.extract rfl rfl rfl ?_
            refine GO.nil ⟨rfl, _, _, rfl, ImpS.refl, ?_⟩
            refine GW.one (i := 10) (by kernel_rfl) rfl ?_
            refine GO.storeW rfl rfl (Tk.t (Tk.t Tk.h)) ⟨rfl, rfl⟩ (by simp [Value.oneCell']; assumption) ?_
            refine GO.nil ⟨rfl, .tuple #[], pt b10 (row [i64 (s : Nat), v5] 28) :: p5 :: star [p4, p3] :: star [p1, z] :: pt b4 (row [i64 0, .slice none 0 0] 30) :: pt b5 (row [i64 0, .slice none 0 0] 28) :: F, rfl, ImpS.sb (by ((refine Sb.c (Tk.t Tk.h) ?_; refine Sb.c (Tk.t Tk.h) ?_; refine Sb.c Tk.h ?_; refine Sb.c Tk.h ?_; refine Sb.c Tk.h ?_; refine Sb.c Tk.h ?_; refine Sb.c Tk.h ?_; refine Sb.c Tk.h ?_); (exact Sb.r))), ?_⟩
            refine GW.one (i := 11) (by kernel_rfl) rfl ?_
            refine GO.assign rfl rfl ?_
            refine GO.nil ⟨rfl, _, _, rfl, ImpS.refl, ?_⟩
            refine GW.nil ⟨v5, p5, star [p4, p3], b10, hone5, hp5, by (refine SubE.c rfl rfl ?_; refine SubE.c rfl rfl ?_; refine SubE.c rfl rfl ?_; refine SubE.c rfl rfl ?_; exact SubE.n), ImpS.sb (by ((refine Sb.c (Tk.t (Tk.t Tk.h)) ?_; refine Sb.c (Tk.t (Tk.t Tk.h)) ?_; refine Sb.c (Tk.t (Tk.t Tk.h)) ?_; refine Sb.c (Tk.t Tk.h) ?_; refine Sb.c (Tk.t Tk.h) ?_; refine Sb.c (Tk.t Tk.h) ?_; refine Sb.c (Tk.t Tk.h) ?_); (refine Sb.s ?_; exact Sb.r)))⟩
      · skip
        refine GO.alloc rfl fun b10 => ?_
        refine GO.nil ⟨rfl, _, pt b10 (row [i64 0, .slice none 0 0] 28) :: p3 :: star [p1, z] :: pt b4 (row [i64 0, .slice none 0 0] 30) :: pt b5 (row [i64 0, .slice none 0 0] 28) :: F, rfl, ImpS.sb (by ((refine Sb.c (Tk.t Tk.h) ?_; refine Sb.c (Tk.t Tk.h) ?_; refine Sb.c Tk.h ?_; refine Sb.c Tk.h ?_; refine Sb.c Tk.h ?_; refine Sb.c Tk.h ?_; refine Sb.c Tk.h ?_); (exact Sb.r))), ?_⟩
        refine GW.one (i := 4) (by kernel_rfl) rfl ?_
        refine GO.call1 rfl rfl (hc2 p1) (Tks.c (Tk.t (Tk.t (Tk.t (Tk.t Tk.h)))) Tks.n) ?_
        rintro _ _ ⟨v4, p4, rfl, hone4, hp4, rfl⟩
        refine GO.merge (x := p4) (y := p3) (Tks.c Tk.h (Tks.c (Tk.t (Tk.t (Tk.t (Tk.t Tk.h)))) Tks.n)) ?_
        refine GO.nil ⟨rfl, _, pt b10 (row [i64 0, .slice none 0 0] 28) :: star [p4, p3] :: star [p1, z] :: pt b4 (row [i64 0, .slice none 0 0] 30) :: pt b5 (row [i64 0, .slice none 0 0] 28) :: F, rfl, ImpS.sb (by ((refine Sb.c (Tk.t (Tk.t Tk.h)) ?_; refine Sb.c (Tk.t (Tk.t Tk.h)) ?_; refine Sb.c (Tk.t (Tk.t Tk.h)) ?_; refine Sb.c Tk.h ?_; refine Sb.c Tk.h ?_; refine Sb.c Tk.h ?_; refine Sb.c Tk.h ?_); (exact Sb.r))), ?_⟩
        refine GW.one (i := 5) (by kernel_rfl) rfl ?_
        refine GO.call2 rfl rfl rfl (hls p3 p4 v3 v4 hp3 hp4) (Tks.c (Tk.t (Tk.t (Tk.t Tk.h))) Tks.n) ?_
        rintro _ _ ⟨v5, p5, rfl, hone5, hp5, rfl⟩
        refine GO.nil ⟨rfl, _, pt b10 (row [i64 0, .slice none 0 0] 28) :: p5 :: star [p4, p3] :: star [p1, z] :: pt b4 (row [i64 0, .slice none 0 0] 30) :: pt b5 (row [i64 0, .slice none 0 0] 28) :: F, rfl, ImpS.sb (by ((refine Sb.c (Tk.t (Tk.t Tk.h)) ?_; refine Sb.c (Tk.t (Tk.t Tk.h)) ?_; refine Sb.c (Tk.t (Tk.t Tk.h)) ?_; refine Sb.c Tk.h ?_; refine Sb.c Tk.h ?_; refine Sb.c Tk.h ?_; refine Sb.c Tk.h ?_; refine Sb.c Tk.h ?_); (exact Sb.r))), ?_⟩
        refine GW.one (i := 6) (by kernel_rfl) rfl ?_
        refine GO.move rfl rfl ?_
        refine GO.nil ⟨rfl, _, _, rfl, ImpS.refl, ?_⟩
        refine GW.two (i1 := 7) (i2 := 8) (by kernel_rfl) rfl rfl ?_ ?_
        · skip
          refine GO.extract rfl rfl rfl ?_
          refine GO.nil ⟨rfl, _, _, rfl, ImpS.refl, ?_⟩
          refine GW.two (i1 := 8) (i2 := 10) (by kernel_rfl) rfl rfl ?_ ?_
          · skip
            refine GO.extract rfl rfl rfl ?_
            refine GO.nil ⟨rfl, _, _, rfl, ImpS.refl, ?_⟩
            refine GW.one (i := 10) (by kernel_rfl) rfl ?_
            refine GO.storeW rfl rfl (Tk.t (Tk.t Tk.h)) ⟨rfl, rfl⟩ (by simp [Value.oneCell']; assumption) ?_
            refine GO.nil ⟨rfl, .tuple #[], pt b10 (row [i64 (s : Nat), v5] 28) :: p5 :: star [p4, p3] :: star [p1, z] :: pt b4 (row [i64 0, .slice none 0 0] 30) :: pt b5 (row [i64 0, .slice none 0 0] 28) :: F, rfl, ImpS.sb (by ((refine Sb.c (Tk.t Tk.h) ?_; refine Sb.c (Tk.t Tk.h) ?_; refine Sb.c Tk.h ?_; refine Sb.c Tk.h ?_; refine Sb.c Tk.h ?_; refine Sb.c Tk.h ?_; refine Sb.c Tk.h ?_; refine Sb.c Tk.h ?_); (exact Sb.r))), ?_⟩
            refine GW.one (i := 11) (by kernel_rfl) rfl ?_
            refine GO.assign rfl rfl ?_
            refine GO.nil ⟨rfl, _, _, rfl, ImpS.refl, ?_⟩
            refine GW.nil ⟨v5, p5, star [p4, p3], b10, hone5, hp5, by (refine SubE.c rfl rfl ?_; refine SubE.c rfl rfl ?_; refine SubE.c rfl rfl ?_; refine SubE.c rfl rfl ?_; exact SubE.n), ImpS.sb (by ((refine Sb.c (Tk.t (Tk.t Tk.h)) ?_; refine Sb.c (Tk.t (Tk.t Tk.h)) ?_; refine Sb.c (Tk.t (Tk.t Tk.h)) ?_; refine Sb.c (Tk.t Tk.h) ?_; refine Sb.c (Tk.t Tk.h) ?_; refine Sb.c (Tk.t Tk.h) ?_; refine Sb.c (Tk.t Tk.h) ?_); (refine Sb.s ?_; exact Sb.r)))⟩
          · skip
            refine GO.storeW rfl rfl (Tk.t (Tk.t Tk.h)) ⟨rfl, rfl⟩ (by simp [Value.oneCell']; assumption) ?_
            refine GO.nil ⟨rfl, .tuple #[], pt b10 (row [i64 (s : Nat), v5] 28) :: p5 :: star [p4, p3] :: star [p1, z] :: pt b4 (row [i64 0, .slice none 0 0] 30) :: pt b5 (row [i64 0, .slice none 0 0] 28) :: F, rfl, ImpS.sb (by ((refine Sb.c (Tk.t Tk.h) ?_; refine Sb.c (Tk.t Tk.h) ?_; refine Sb.c Tk.h ?_; refine Sb.c Tk.h ?_; refine Sb.c Tk.h ?_; refine Sb.c Tk.h ?_; refine Sb.c Tk.h ?_; refine Sb.c Tk.h ?_); (exact Sb.r))), ?_⟩
            refine GW.one (i := 8) (by kernel_rfl) rfl ?_
            refine GO.extract rfl rfl rfl ?_
            refine GO.nil ⟨rfl, _, _, rfl, ImpS.refl, ?_⟩
            refine GW.one (i := 11) (by kernel_rfl) rfl ?_
            refine GO.assign rfl rfl ?_
            refine GO.nil ⟨rfl, _, _, rfl, ImpS.refl, ?_⟩
            refine GW.nil ⟨v5, p5, star [p4, p3], b10, hone5, hp5, by (refine SubE.c rfl rfl ?_; refine SubE.c rfl rfl ?_; refine SubE.c rfl rfl ?_; refine SubE.c rfl rfl ?_; exact SubE.n), ImpS.sb (by ((refine Sb.c (Tk.t (Tk.t Tk.h)) ?_; refine Sb.c (Tk.t (Tk.t Tk.h)) ?_; refine Sb.c (Tk.t (Tk.t Tk.h)) ?_; refine Sb.c (Tk.t Tk.h) ?_; refine Sb.c (Tk.t Tk.h) ?_; refine Sb.c (Tk.t Tk.h) ?_; refine Sb.c (Tk.t Tk.h) ?_); (refine Sb.s ?_; exact Sb.r)))⟩
        · skip
          refine GO.extract rfl rfl rfl ?_
          refine GO.nil ⟨rfl, _, _, rfl, ImpS.refl, ?_⟩
          refine GW.one (i := 7) (by kernel_rfl) rfl ?_
          refine GO.extract rfl rfl rfl ?_
          refine GO.nil ⟨rfl, _, _, rfl, ImpS.refl, ?_⟩
          refine GW.one (i := 10) (by kernel_rfl) rfl ?_
          refine GO.storeW rfl rfl (Tk.t (Tk.t Tk.h)) ⟨rfl, rfl⟩ (by simp [Value.oneCell']; assumption) ?_
          refine GO.nil ⟨rfl, .tuple #[], pt b10 (row [i64 (s : Nat), v5] 28) :: p5 :: star [p4, p3] :: star [p1, z] :: pt b4 (row [i64 0, .slice none 0 0] 30) :: pt b5 (row [i64 0, .slice none 0 0] 28) :: F, rfl, ImpS.sb (by ((refine Sb.c (Tk.t Tk.h) ?_; refine Sb.c (Tk.t Tk.h) ?_; refine Sb.c Tk.h ?_; refine Sb.c Tk.h ?_; refine Sb.c Tk.h ?_; refine Sb.c Tk.h ?_; refine Sb.c Tk.h ?_; refine Sb.c Tk.h ?_); (exact Sb.r))), ?_⟩
          refine GW.one (i := 11) (by kernel_rfl) rfl ?_
          refine GO.assign rfl rfl ?_
          refine GO.nil ⟨rfl, _, _, rfl, ImpS.refl, ?_⟩
          refine GW.nil ⟨v5, p5, star [p4, p3], b10, hone5, hp5, by (refine SubE.c rfl rfl ?_; refine SubE.c rfl rfl ?_; refine SubE.c rfl rfl ?_; refine SubE.c rfl rfl ?_; exact SubE.n), ImpS.sb (by ((refine Sb.c (Tk.t (Tk.t Tk.h)) ?_; refine Sb.c (Tk.t (Tk.t Tk.h)) ?_; refine Sb.c (Tk.t (Tk.t Tk.h)) ?_; refine Sb.c (Tk.t Tk.h) ?_; refine Sb.c (Tk.t Tk.h) ?_; refine Sb.c (Tk.t Tk.h) ?_; refine Sb.c (Tk.t Tk.h) ?_); (refine Sb.s ?_; exact Sb.r)))⟩
    · skip
      refine GO.alloc rfl fun b10 => ?_
      refine GO.nil ⟨rfl, _, pt b10 (row [i64 0, .slice none 0 0] 28) :: star [p1, z] :: pt b4 (row [i64 0, .slice none 0 0] 30) :: pt b5 (row [i64 0, .slice none 0 0] 28) :: F, rfl, ImpS.sb (by ((refine Sb.c (Tk.t Tk.h) ?_; refine Sb.c (Tk.t Tk.h) ?_; refine Sb.c Tk.h ?_; refine Sb.c Tk.h ?_; refine Sb.c Tk.h ?_; refine Sb.c Tk.h ?_); (exact Sb.r))), ?_⟩
      refine GW.one (i := 1) (by kernel_rfl) rfl ?_
      refine GO.call1 rfl rfl (hc1 p1 v1 hp1) (Tks.c (Tk.t (Tk.t (Tk.t Tk.h))) Tks.n) ?_
      rintro _ _ ⟨v3, p3, rfl, hone3, hp3, rfl⟩
      refine GO.nil ⟨rfl, _, pt b10 (row [i64 0, .slice none 0 0] 28) :: p3 :: star [p1, z] :: pt b4 (row [i64 0, .slice none 0 0] 30) :: pt b5 (row [i64 0, .slice none 0 0] 28) :: F, rfl, ImpS.sb (by ((refine Sb.c (Tk.t (Tk.t Tk.h)) ?_; refine Sb.c (Tk.t (Tk.t Tk.h)) ?_; refine Sb.c (Tk.t (Tk.t Tk.h)) ?_; refine Sb.c Tk.h ?_; refine Sb.c Tk.h ?_; refine Sb.c Tk.h ?_; refine Sb.c Tk.h ?_); (exact Sb.r))), ?_⟩
      refine GW.one (i := 4) (by kernel_rfl) rfl ?_
      refine GO.call1 rfl rfl (hc2 p1) (Tks.c (Tk.t (Tk.t (Tk.t (Tk.t Tk.h)))) Tks.n) ?_
      rintro _ _ ⟨v4, p4, rfl, hone4, hp4, rfl⟩
      refine GO.merge (x := p4) (y := p3) (Tks.c Tk.h (Tks.c (Tk.t (Tk.t (Tk.t (Tk.t Tk.h)))) Tks.n)) ?_
      refine GO.nil ⟨rfl, _, pt b10 (row [i64 0, .slice none 0 0] 28) :: star [p4, p3] :: star [p1, z] :: pt b4 (row [i64 0, .slice none 0 0] 30) :: pt b5 (row [i64 0, .slice none 0 0] 28) :: F, rfl, ImpS.sb (by ((refine Sb.c (Tk.t (Tk.t Tk.h)) ?_; refine Sb.c (Tk.t (Tk.t Tk.h)) ?_; refine Sb.c (Tk.t (Tk.t Tk.h)) ?_; refine Sb.c Tk.h ?_; refine Sb.c Tk.h ?_; refine Sb.c Tk.h ?_; refine Sb.c Tk.h ?_); (exact Sb.r))), ?_⟩
      refine GW.one (i := 5) (by kernel_rfl) rfl ?_
      refine GO.call2 rfl rfl rfl (hls p3 p4 v3 v4 hp3 hp4) (Tks.c (Tk.t (Tk.t (Tk.t Tk.h))) Tks.n) ?_
      rintro _ _ ⟨v5, p5, rfl, hone5, hp5, rfl⟩
      refine GO.nil ⟨rfl, _, pt b10 (row [i64 0, .slice none 0 0] 28) :: p5 :: star [p4, p3] :: star [p1, z] :: pt b4 (row [i64 0, .slice none 0 0] 30) :: pt b5 (row [i64 0, .slice none 0 0] 28) :: F, rfl, ImpS.sb (by ((refine Sb.c (Tk.t (Tk.t Tk.h)) ?_; refine Sb.c (Tk.t (Tk.t Tk.h)) ?_; refine Sb.c (Tk.t (Tk.t Tk.h)) ?_; refine Sb.c Tk.h ?_; refine Sb.c Tk.h ?_; refine Sb.c Tk.h ?_; refine Sb.c Tk.h ?_; refine Sb.c Tk.h ?_); (exact Sb.r))), ?_⟩
      refine GW.one (i := 6) (by kernel_rfl) rfl ?_
      refine GO.move rfl rfl ?_
      refine GO.nil ⟨rfl, _, _, rfl, ImpS.refl, ?_⟩
      refine GW.two (i1 := 7) (i2 := 8) (by kernel_rfl) rfl rfl ?_ ?_
      · skip
        refine GO.extract rfl rfl rfl ?_
        refine GO.nil ⟨rfl, _, _, rfl, ImpS.refl, ?_⟩
        refine GW.two (i1 := 8) (i2 := 10) (by kernel_rfl) rfl rfl ?_ ?_
        · skip
          refine GO.extract rfl rfl rfl ?_
          refine GO.nil ⟨rfl, _, _, rfl, ImpS.refl, ?_⟩
          refine GW.one (i := 10) (by kernel_rfl) rfl ?_
          refine GO.storeW rfl rfl (Tk.t (Tk.t Tk.h)) ⟨rfl, rfl⟩ (by simp [Value.oneCell']; assumption) ?_
          refine GO.nil ⟨rfl, .tuple #[], pt b10 (row [i64 (s : Nat), v5] 28) :: p5 :: star [p4, p3] :: star [p1, z] :: pt b4 (row [i64 0, .slice none 0 0] 30) :: pt b5 (row [i64 0, .slice none 0 0] 28) :: F, rfl, ImpS.sb (by ((refine Sb.c (Tk.t Tk.h) ?_; refine Sb.c (Tk.t Tk.h) ?_; refine Sb.c Tk.h ?_; refine Sb.c Tk.h ?_; refine Sb.c Tk.h ?_; refine Sb.c Tk.h ?_; refine Sb.c Tk.h ?_; refine Sb.c Tk.h ?_); (exact Sb.r))), ?_⟩
          refine GW.one (i := 11) (by kernel_rfl) rfl ?_
          refine GO.assign rfl rfl ?_
          refine GO.nil ⟨rfl, _, _, rfl, ImpS.refl, ?_⟩
          refine GW.nil ⟨v5, p5, star [p4, p3], b10, hone5, hp5, by (refine SubE.c rfl rfl ?_; refine SubE.c rfl rfl ?_; refine SubE.c rfl rfl ?_; refine SubE.c rfl rfl ?_; exact SubE.n), ImpS.sb (by ((refine Sb.c (Tk.t (Tk.t Tk.h)) ?_; refine Sb.c (Tk.t (Tk.t Tk.h)) ?_; refine Sb.c (Tk.t (Tk.t Tk.h)) ?_; refine Sb.c (Tk.t Tk.h) ?_; refine Sb.c (Tk.t Tk.h) ?_; refine Sb.c (Tk.t Tk.h) ?_; refine Sb.c (Tk.t Tk.h) ?_); (refine Sb.s ?_; exact Sb.r)))⟩
        · skip
          refine GO.storeW rfl rfl (Tk.t (Tk.t Tk.h)) ⟨rfl, rfl⟩ (by simp [Value.oneCell']; assumption) ?_
          refine GO.nil ⟨rfl, .tuple #[], pt b10 (row [i64 (s : Nat), v5] 28) :: p5 :: star [p4, p3] :: star [p1, z] :: pt b4 (row [i64 0, .slice none 0 0] 30) :: pt b5 (row [i64 0, .slice none 0 0] 28) :: F, rfl, ImpS.sb (by ((refine Sb.c (Tk.t Tk.h) ?_; refine Sb.c (Tk.t Tk.h) ?_; refine Sb.c Tk.h ?_; refine Sb.c Tk.h ?_; refine Sb.c Tk.h ?_; refine Sb.c Tk.h ?_; refine Sb.c Tk.h ?_; refine Sb.c Tk.h ?_); (exact Sb.r))), ?_⟩
          refine GW.one (i := 8) (by kernel_rfl) rfl ?_
          refine GO.extract rfl rfl rfl ?_
          refine GO.nil ⟨rfl, _, _, rfl, ImpS.refl, ?_⟩
          refine GW.one (i := 11) (by kernel_rfl) rfl ?_
          refine GO.assign rfl rfl ?_
          refine GO.nil ⟨rfl, _, _, rfl, ImpS.refl, ?_⟩
          refine GW.nil ⟨v5, p5, star [p4, p3], b10, hone5, hp5, by (refine SubE.c rfl rfl ?_; refine SubE.c rfl rfl ?_; refine SubE.c rfl rfl ?_; refine SubE.c rfl rfl ?_; exact SubE.n), ImpS.sb (by ((refine Sb.c (Tk.t (Tk.t Tk.h)) ?_; refine Sb.c (Tk.t (Tk.t Tk.h)) ?_; refine Sb.c (Tk.t (Tk.t Tk.h)) ?_; refine Sb.c (Tk.t Tk.h) ?_; refine Sb.c (Tk.t Tk.h) ?_; refine Sb.c (Tk.t Tk.h) ?_; refine Sb.c (Tk.t Tk.h) ?_); (refine Sb.s ?_; exact Sb.r)))⟩
      · skip
        refine GO.extract rfl rfl rfl ?_
        refine GO.nil ⟨rfl, _, _, rfl, ImpS.refl, ?_⟩
        refine GW.one (i := 7) (by kernel_rfl) rfl ?_
        refine GO.extract rfl rfl rfl ?_
        refine GO.nil ⟨rfl, _, _, rfl, ImpS.refl, ?_⟩
        refine GW.one (i := 10) (by kernel_rfl) rfl ?_
        refine GO.storeW rfl rfl (Tk.t (Tk.t Tk.h)) ⟨rfl, rfl⟩ (by simp [Value.oneCell']; assumption) ?_
        refine GO.nil ⟨rfl, .tuple #[], pt b10 (row [i64 (s : Nat), v5] 28) :: p5 :: star [p4, p3] :: star [p1, z] :: pt b4 (row [i64 0, .slice none 0 0] 30) :: pt b5 (row [i64 0, .slice none 0 0] 28) :: F, rfl, ImpS.sb (by ((refine Sb.c (Tk.t Tk.h) ?_; refine Sb.c (Tk.t Tk.h) ?_; refine Sb.c Tk.h ?_; refine Sb.c Tk.h ?_; refine Sb.c Tk.h ?_; refine Sb.c Tk.h ?_; refine Sb.c Tk.h ?_; refine Sb.c Tk.h ?_); (exact Sb.r))), ?_⟩
        refine GW.one (i := 11) (by kernel_rfl) rfl ?_
        refine GO.assign rfl rfl ?_
        refine GO.nil ⟨rfl, _, _, rfl, ImpS.refl, ?_⟩
        refine GW.nil ⟨v5, p5, star [p4, p3], b10, hone5, hp5, by (refine SubE.c rfl rfl ?_; refine SubE.c rfl rfl ?_; refine SubE.c rfl rfl ?_; refine SubE.c rfl rfl ?_; exact SubE.n), ImpS.sb (by ((refine Sb.c (Tk.t (Tk.t Tk.h)) ?_; refine Sb.c (Tk.t (Tk.t Tk.h)) ?_; refine Sb.c (Tk.t (Tk.t Tk.h)) ?_; refine Sb.c (Tk.t Tk.h) ?_; refine Sb.c (Tk.t Tk.h) ?_; refine Sb.c (Tk.t Tk.h) ?_; refine Sb.c (Tk.t Tk.h) ?_); (refine Sb.s ?_; exact Sb.r)))⟩
  · rintro L' H' ⟨v5, p5, pc, b10, hone5, hp5, hL, hH⟩
    refine GO.keep hH (GO.sub hL Sb.r ?_)
    (refine GO.nil ?_; refine kthen_n ?_; refine G.seq ?_)
    refine G.drawT 6 56 [pt b7 (row [i64 (s : Nat), v1] 28), pt b10 (row [i64 (s : Nat), v5] 28)] (p5 :: pc :: star [p1, z] :: pt b4 (row [i64 0, .slice none 0 0] 30) :: pt b5 (row [i64 0, .slice none 0 0] 28) :: F) (by kernel_rfl) (keys_of rfl) (ImpS.sb (by ((refine Sb.c (Tk.t (Tk.t (Tk.t Tk.h))) ?_; refine Sb.c Tk.h ?_; refine Sb.c Tk.h ?_; refine Sb.c Tk.h ?_; refine Sb.c Tk.h ?_; refine Sb.c Tk.h ?_; refine Sb.c Tk.h ?_); (exact Sb.r)))) ?_
    ((apply GR.step rfl; focus (intro Z; refine GO.loadW rfl rfl rfl Tk.h rfl ?_; exact KQ.z)); (apply GR.step rfl; focus (intro Z; refine GO.build1 rfl rfl rfl ?_; exact KQ.z)); (apply GR.step rfl; focus (intro Z; refine GO.loadW rfl rfl rfl (Tk.t Tk.h) rfl ?_; exact KQ.z)); refine GR.skip rfl ?_; refine GR.skip rfl ?_; refine GR.skip rfl ?_; refine GR.nil ?_)
    rw [parts_ref]
    (repeat refine GT.skip rfl ?_)
    refine GT.step rfl ?_
    refine GO.storeW rfl rfl (Tk.t (Tk.t (Tk.t (Tk.t (Tk.t Tk.h))))) ⟨rfl, rfl⟩ (by simp [Value.oneCell']; assumption) ?_
    refine GO.nil ⟨rfl, .tuple #[], p5 :: star [p1, z] :: pt b4 (row [i64 (s : Nat), v1] 30) :: pt b5 (row [i64 0, .slice none 0 0] 28) :: F, rfl, ImpS.sb (by ((refine Sb.c (Tk.t Tk.h) ?_; refine Sb.c (Tk.t Tk.h) ?_; refine Sb.c (Tk.t Tk.h) ?_; refine Sb.c (Tk.t (Tk.t Tk.h)) ?_; refine Sb.c Tk.h ?_; refine Sb.c (Tk.t Tk.h) ?_); (refine Sb.s ?_; exact Sb.r))), ?_⟩
    (repeat refine GT.skip rfl ?_)
    refine GT.step rfl ?_
    refine GO.storeW rfl rfl (Tk.t (Tk.t (Tk.t (Tk.t (Tk.t Tk.h))))) ⟨rfl, rfl⟩ (by simp [Value.oneCell']; assumption) ?_
    refine GO.nil ⟨rfl, .tuple #[], p5 :: star [p1, z] :: pt b4 (row [i64 (s : Nat), v1] 30) :: pt b5 (row [i64 (s : Nat), v5] 28) :: F, rfl, ImpS.sb (by ((refine Sb.c (Tk.t Tk.h) ?_; refine Sb.c (Tk.t Tk.h) ?_; refine Sb.c (Tk.t Tk.h) ?_; refine Sb.c (Tk.t Tk.h) ?_; refine Sb.c (Tk.t Tk.h) ?_; refine Sb.c Tk.h ?_); (exact Sb.r))), ?_⟩
    (repeat refine GT.skip rfl ?_)
    refine GT.step rfl ?_
    refine GO.assign rfl rfl ?_
    refine GO.nil ⟨rfl, _, _, rfl, ImpS.refl, ?_⟩
    refine GT.nil ?_
    (refine GO.nil ?_; refine kthen_n ?_; refine G.ret ?_)
    refine KF2.r3 rfl (RV.cW (n := 2) rfl rfl (by (exact (Tk.t (Tk.t (Tk.t (Tk.t Tk.h)))))) rfl) (RV.cW (n := 2) rfl rfl (by (exact (Tk.t (Tk.t (Tk.t (Tk.t (Tk.t Tk.h))))))) rfl) (RV.t rfl) ⟨_, _, star [p5, star [p1, z]], rfl, hp1.left.right, hp5.left, (Sup.right p1 z).trans (Sup.right p5 _), rfl⟩ (ImpS.flat (k := [p5, star [p1, z]]) (M := F) (ImpS.sb ?_))
    ((refine Sb.c (Tk.t (Tk.t Tk.h)) ?_; refine Sb.c (Tk.t (Tk.t Tk.h)) ?_); (refine Sb.s ?_; refine Sb.s ?_; refine Sb.s ?_; refine Sb.s ?_; exact Sb.r))
end Go.Proofs.YtpfcgfgkmgnaaaaDoor
namespace Go.Proofs.YtpfcgfgkmgnaaaaDoor
open Go
def wrO (s : Nat) (i j : Int) : Int := if s = 0 then 1 else wrK s i j
theorem uni_add (C : Nat → Nat → Bool) (i j : Nat) : uniX C (addX noX i j) = addX C i j := by
  funext r c
  unfold uniX addX noX
  rw [Bool.false_or]
theorem one_cells (i j : Nat) (hi : i < 1024) (hj : j < 1024) : castL (cellsX (addX noX i j)) = [(((i : Nat) : Int), ((j : Nat) : Int))] := by
  have hin : ∀ r c, addX noX i j r c = true → r < 1024 ∧ c < 1024 := fun r c h => by
    unfold addX noX at h
    simp only [Bool.false_or, Bool.and_eq_true, decide_eq_true_eq] at h
    omega
  have e : cellsX (addX noX i j) = [(i, j)] := by
    refine strict_unique (R := fun a b : Nat × Nat => ltC ((a.1 : Int), (a.2 : Int)) ((b.1 : Int), (b.2 : Int)) = true) (fun _ _ h => ltC_asymm h) (cells_pairs _) (List.pairwise_singleton _ _) fun p => ?_
    rw [cellsX_iff (by decide) hin, List.mem_singleton]
    unfold addX noX
    simp only [Bool.false_or, Bool.and_eq_true, decide_eq_true_eq]
    constructor
    · intro h; exact Prod.ext h.1 h.2
    · rintro rfl; exact ⟨rfl, rfl⟩
  rw [e]; rfl
theorem RefO.single (b s i j : Nat) (hi : i < 1024) (hj : j < 1024) : RefO (pt b (row [i64 (i : Nat), i64 (j : Nat)] 63)) (refV s (.slice (some ⟨b, 0, none⟩) 1 1)) (some (s, addX noX i j)) := by
  have e := one_cells i j hi hj
  refine ⟨.slice (some ⟨b, 0, none⟩) 1 1, rfl, rfl, some ⟨b, 0, none⟩, 1, ?_, ?_, ?_⟩
  · show Value.slice _ 1 1 = .slice _ (castL (cellsX (addX noX i j))).length 1
    rw [e]; rfl
  · show (castL (cellsX (addX noX i j))).length ≤ 1
    rw [e]; exact Nat.le_refl _
  · intro _
    refine ⟨b, 0, rfl, fun k u hk => ?_⟩
    change (cellsV (castL (cellsX (addX noX i j))))[k]? = some u at hk
    rw [e] at hk
    exact Rd.row (by rw [Nat.zero_add]; exact hk)
attribute [local irreducible] G GO GR GT GW Fn FnV pt init exs pur sat own ImpS mat posL allV orL restX cellsX cellsV natsV rowX lines lessX lessL plc uniX
set_option maxHeartbeats 4000000 in
theorem refWrong2 (s : Nat) (i j : Int) (v : Value) (hv : v.oneCell' = true) : Fn Tryd.prog 48 #[refV s v, i64 i, i64 j] [] (fun r Q => r = i64 (wrO s i j) ∧ Q = []) := by
  unfold wrO
  by_cases h0 : s = 0
  · have d0 : decide (((s : Nat) : Int) = 0) = true := decide_eq_true (by omega)
    rw [if_pos h0]
    refine Fn.mk2 Tryd.func48 rfl rfl fun w0 F => ?_
    (refine G.seq ?_; refine G.region ?_; refine GO.box rfl rfl rfl fun b3 => ?_; refine GO.assign rfl rfl ?_; refine GO.nil ?_; refine kthen_n ?_; refine G.seq ?_; refine G.seq ?_; refine G.region ?_; refine GO.fieldAddr rfl rfl ?_; refine GO.load1 rfl rfl rfl Tk.h rfl ?_; refine GO.eqi rfl rfl rfl ?_; refine GO.nil ?_; refine kthen_n ?_; refine G.condT rfl (by assumption) ?_; refine G.seq ?_; refine G.region ?_; refine GO.assign rfl rfl ?_; refine GO.nil ?_; refine kthen_n ?_; refine G.ret ?_; refine kthen_r ?_)
    refine KF2.r1 rfl (RV.t rfl) ⟨rfl, rfl⟩ (ImpS.sb ?_)
    (skip; (refine Sb.s ?_; exact Sb.r))
  have d0 : decide (((s : Nat) : Int) = 0) = false := decide_eq_false (by omega)
  have s1 := refIn_spec s i v hv
  have s2 := refIn_spec s j v hv
  rw [if_neg h0]
  have hm := inM_inS s i j
  cases hi : inS s i with
  | false =>
    rw [hi] at s1 hm
    rw [wrK_f (by rw [hm, Bool.false_and])]
    refine Fn.mk2 Tryd.func48 rfl rfl fun w0 F => ?_
    (refine G.seq ?_; refine G.region ?_; refine GO.box rfl rfl rfl fun b3 => ?_; refine GO.assign rfl rfl ?_; refine GO.nil ?_; refine kthen_n ?_; refine G.seq ?_; refine G.seq ?_; refine G.region ?_; refine GO.fieldAddr rfl rfl ?_; refine GO.load1 rfl rfl rfl Tk.h rfl ?_; refine GO.eqi rfl rfl rfl ?_; refine GO.nil ?_; refine kthen_n ?_; refine G.condF rfl (by assumption) ?_; refine G.skip ?_; refine kthen_n ?_; refine G.seq ?_; refine G.seq ?_; refine G.region ?_; refine GO.loadW rfl rfl rfl Tk.h rfl ?_; refine GO.move rfl rfl ?_)
    refine GO.call2 rfl rfl rfl (s1) Tks.n ?_
    rintro _ _ ⟨rfl, rfl⟩
    (refine GO.not rfl rfl ?_; refine GO.move rfl rfl ?_; refine GO.gF rfl rfl rfl rfl ?_; refine GO.gF rfl rfl rfl rfl ?_; refine GO.gF rfl rfl rfl rfl ?_; refine GO.gF rfl rfl rfl rfl ?_; refine GO.pickT rfl rfl rfl ?_; refine GO.nil ?_; refine kthen_n ?_; refine G.condT rfl rfl ?_; refine G.seq ?_; refine G.region ?_; refine GO.assign rfl rfl ?_; refine GO.nil ?_; refine kthen_n ?_; refine G.ret ?_; refine kthen_r ?_)
    refine KF2.r1 rfl (RV.t rfl) ⟨rfl, rfl⟩ (ImpS.sb ?_)
    (skip; (refine Sb.s ?_; exact Sb.r))
  | true =>
    rw [hi] at s1 hm
    cases hj : inS s j with
    | false =>
      rw [hj] at s2 hm
      rw [wrK_f (by rw [hm, Bool.and_false])]
      refine Fn.mk2 Tryd.func48 rfl rfl fun w0 F => ?_
      (refine G.seq ?_; refine G.region ?_; refine GO.box rfl rfl rfl fun b3 => ?_; refine GO.assign rfl rfl ?_; refine GO.nil ?_; refine kthen_n ?_; refine G.seq ?_; refine G.seq ?_; refine G.region ?_; refine GO.fieldAddr rfl rfl ?_; refine GO.load1 rfl rfl rfl Tk.h rfl ?_; refine GO.eqi rfl rfl rfl ?_; refine GO.nil ?_; refine kthen_n ?_; refine G.condF rfl (by assumption) ?_; refine G.skip ?_; refine kthen_n ?_; refine G.seq ?_; refine G.seq ?_; refine G.region ?_; refine GO.loadW rfl rfl rfl Tk.h rfl ?_; refine GO.move rfl rfl ?_)
      refine GO.call2 rfl rfl rfl (s1) Tks.n ?_
      rintro _ _ ⟨rfl, rfl⟩
      (refine GO.not rfl rfl ?_; refine GO.move rfl rfl ?_; refine GO.gT rfl rfl rfl ?_; refine GO.loadW rfl rfl rfl Tk.h rfl ?_; refine GO.gT rfl rfl rfl ?_; refine GO.move rfl rfl ?_; refine GO.gT rfl rfl rfl ?_)
      refine GO.call2 rfl rfl rfl (s2) Tks.n ?_
      rintro _ _ ⟨rfl, rfl⟩
      (refine GO.gT rfl rfl rfl ?_; refine GO.not rfl rfl ?_; refine GO.pickF rfl rfl rfl ?_; refine GO.nil ?_; refine kthen_n ?_; refine G.condT rfl rfl ?_; refine G.seq ?_; refine G.region ?_; refine GO.assign rfl rfl ?_; refine GO.nil ?_; refine kthen_n ?_; refine G.ret ?_; refine kthen_r ?_)
      refine KF2.r1 rfl (RV.t rfl) ⟨rfl, rfl⟩ (ImpS.sb ?_)
      (skip; (refine Sb.s ?_; exact Sb.r))
    | true =>
      rw [hj] at s2 hm
      rw [wrK_t (by rw [hm, Bool.and_true])]
      refine Fn.mk2 Tryd.func48 rfl rfl fun w0 F => ?_
      (refine G.seq ?_; refine G.region ?_; refine GO.box rfl rfl rfl fun b3 => ?_; refine GO.assign rfl rfl ?_; refine GO.nil ?_; refine kthen_n ?_; refine G.seq ?_; refine G.seq ?_; refine G.region ?_; refine GO.fieldAddr rfl rfl ?_; refine GO.load1 rfl rfl rfl Tk.h rfl ?_; refine GO.eqi rfl rfl rfl ?_; refine GO.nil ?_; refine kthen_n ?_; refine G.condF rfl (by assumption) ?_; refine G.skip ?_; refine kthen_n ?_; refine G.seq ?_; refine G.seq ?_; refine G.region ?_; refine GO.loadW rfl rfl rfl Tk.h rfl ?_; refine GO.move rfl rfl ?_)
      refine GO.call2 rfl rfl rfl (s1) Tks.n ?_
      rintro _ _ ⟨rfl, rfl⟩
      (refine GO.not rfl rfl ?_; refine GO.move rfl rfl ?_; refine GO.gT rfl rfl rfl ?_; refine GO.loadW rfl rfl rfl Tk.h rfl ?_; refine GO.gT rfl rfl rfl ?_; refine GO.move rfl rfl ?_; refine GO.gT rfl rfl rfl ?_)
      refine GO.call2 rfl rfl rfl (s2) Tks.n ?_
      rintro _ _ ⟨rfl, rfl⟩
      (refine GO.gT rfl rfl rfl ?_; refine GO.not rfl rfl ?_; refine GO.pickF rfl rfl rfl ?_; refine GO.nil ?_; refine kthen_n ?_; refine G.condF rfl rfl ?_; refine G.skip ?_; refine kthen_n ?_; refine G.seq ?_; refine G.region ?_; refine GO.assign rfl rfl ?_; refine GO.nil ?_; refine kthen_n ?_; refine G.ret ?_)
      refine KF2.r1 rfl (RV.t rfl) ⟨rfl, rfl⟩ (ImpS.sb ?_)
      (skip; (refine Sb.s ?_; exact Sb.r))
set_option maxHeartbeats 4000000 in
theorem rKAdd_err (s : Nat) (i j : Int) (va : Value) (ha : va.oneCell' = true) (h : wrO s i j ≠ 0) : Fn Tryd.prog 46 #[refV s va, i64 i, i64 j] [] (fun r Q => r = .tuple #[refV s va, .slice none 0 0, i64 (wrO s i j)] ∧ Q = []) := by
  have hw := refWrong2 s i j va ha
  have d0 : decide (wrO s i j ≠ 0) = true := decide_eq_true h
  generalize wrO s i j = e at hw d0 ⊢
  refine Fn.mk2 Tryd.func46 rfl rfl fun w0 F => ?_
  (refine G.seq ?_; refine G.region ?_; refine GO.box rfl rfl rfl fun b3 => ?_; refine GO.alloc rfl fun b6 => ?_; refine GO.assign rfl rfl ?_; refine GO.assign rfl rfl ?_; refine GO.nil ?_; refine kthen_n ?_; refine G.seq ?_; refine G.region ?_; refine GO.fieldAddr rfl rfl ?_; refine GO.loadW rfl rfl rfl (Tk.t Tk.h) rfl ?_; refine GO.move rfl rfl ?_; refine GO.move rfl rfl ?_)
  refine GO.call3 rfl rfl rfl rfl (hw) Tks.n ?_
  rintro _ _ ⟨rfl, rfl⟩
  (refine GO.assign rfl rfl ?_; refine GO.nil ?_; refine kthen_n ?_; refine G.seq ?_; refine G.seq ?_; refine G.region ?_; refine GO.move rfl rfl ?_; refine GO.nei rfl rfl rfl ?_; refine GO.nil ?_; refine kthen_n ?_; refine G.condT rfl (by assumption) ?_; refine G.seq ?_; refine G.region ?_; refine GO.loadW rfl rfl rfl (Tk.t Tk.h) rfl ?_; refine GO.move rfl rfl ?_; refine GO.storeW rfl rfl Tk.h ⟨rfl, rfl⟩ (by simp [Value.oneCell']; assumption) ?_; refine GO.assign rfl rfl ?_; refine GO.assign rfl rfl ?_; refine GO.nil ?_; refine kthen_n ?_; refine G.ret ?_; refine kthen_r ?_)
  refine KF2.r3 rfl (RV.cW (n := 2) rfl rfl (by (exact Tk.h)) rfl) (RV.t rfl) (RV.t rfl) ⟨rfl, rfl⟩ (ImpS.sb ?_)
  (skip; (refine Sb.s ?_; refine Sb.s ?_; exact Sb.r))
set_option maxHeartbeats 8000000 in
theorem rKAdd_core (z : HP) (ra : Value) (s : Nat) (C X Y : Nat → Nat → Bool) (i j : Nat) (hra : RefO z ra (some (s, C))) (hs : 1 ≤ s ∧ s ≤ 1024) (hi : i < s) (hj : j < s) (hx : ∀ r c, C r c = true → r < s ∧ c < s) (hX : IsClo C X) (hY : IsClo (addX C i j) Y) :
    Fn Tryd.prog 46 #[ra, i64 (i : Nat), i64 (j : Nat)] [z] (fun r Q => ∃ rv mv z', r = .tuple #[rv, mv, i64 0] ∧ RefO z' rv (some (s, addX C i j)) ∧ SlC z' mv (castL (cellsX (lessX Y X))) ∧ Sup z z' ∧ Q = [z']) := by
  have h1in : ∀ r c, addX noX i j r c = true → r < s ∧ c < s := fun r c h => by
    unfold addX noX at h
    simp only [Bool.false_or, Bool.and_eq_true, decide_eq_true_eq] at h
    omega
  have e1 := uni_add C i j
  have hj2 := fun (b : Nat) => rKJoin_core (star [pt b (row [i64 (i : Nat), i64 (j : Nat)] 63), z]) ra (refV s (.slice (some ⟨b, 0, none⟩) 1 1)) s C (addX noX i j) X Y hra.right (RefO.single b s i j (by omega) (by omega)).left hs hx h1in hX (by rw [e1]; exact hY)
  rw [e1] at hj2
  obtain ⟨va, rfl, honea⟩ := hra.slR
  have hw := refWrong2 s (i : Nat) (j : Nat) va honea
  rw [show wrO s (i : Nat) (j : Nat) = 0 by unfold wrO; rw [if_neg (by omega), wrK_t (inM_yes (by omega))]] at hw
  change ∀ b : Nat, Fn _ _ #[refV s va, refV s (.slice (some ⟨b, 0, none⟩) 1 1)] _ _ at hj2
  change Fn _ _ #[refV s va, _, _] _ _
  generalize lessX Y X = W at *
  generalize addX C i j = C2 at *
  refine Fn.mk2 Tryd.func46 rfl rfl fun w0 F => ?_
  (refine G.seq ?_; refine G.region ?_; refine GO.box rfl rfl rfl fun b3 => ?_; refine GO.alloc rfl fun b6 => ?_; refine GO.assign rfl rfl ?_; refine GO.assign rfl rfl ?_; refine GO.nil ?_; refine kthen_n ?_; refine G.seq ?_; refine G.region ?_; refine GO.fieldAddr rfl rfl ?_; refine GO.loadW rfl rfl rfl (Tk.t Tk.h) rfl ?_; refine GO.move rfl rfl ?_; refine GO.move rfl rfl ?_)
  refine GO.call3 rfl rfl rfl rfl (hw) Tks.n ?_
  rintro _ _ ⟨rfl, rfl⟩
  (refine GO.assign rfl rfl ?_; refine GO.nil ?_; refine kthen_n ?_; refine G.seq ?_; refine G.seq ?_; refine G.region ?_; refine GO.move rfl rfl ?_; refine GO.neF rfl rfl rfl rfl ?_; refine GO.nil ?_; refine kthen_n ?_; refine G.condF rfl rfl ?_; refine G.skip ?_; refine kthen_n ?_; refine G.seq ?_; refine G.region ?_; refine GO.loadW rfl rfl rfl (Tk.t Tk.h) rfl ?_; refine GO.fieldAddr rfl rfl ?_; refine GO.fieldAddr rfl rfl ?_; refine GO.load1 rfl rfl rfl (Tk.t Tk.h) rfl ?_; refine GO.move rfl rfl ?_; refine GO.move rfl rfl ?_; refine GO.build2 rfl rfl rfl rfl ?_)
  refine GO.buildSlice1 rfl rfl (by simp; rfl) rfl ⟨by omega, by omega⟩ fun bs => ?_
  refine GO.merge (x := pt bs (row [i64 (i : Nat), i64 (j : Nat)] 63)) (y := z) (Tks.c Tk.h (Tks.c (Tk.t (Tk.t Tk.h)) Tks.n)) ?_
  (refine GO.build2 rfl rfl rfl rfl ?_)
  rw [show (putParts [i64 ((s : Nat) : Int), Value.slice (some ⟨bs, 0, none⟩) 1 1]).toArray = #[i64 ((s : Nat) : Int), Value.slice (some ⟨bs, 0, none⟩) 1 1] by simp [putParts, Value.cells]]
  refine GO.call2 rfl rfl rfl (hj2 bs) (Tks.c Tk.h Tks.n) ?_
  rintro _ _ ⟨rv, mv, z', rfl, hr1, hr2, hsup, rfl⟩
  obtain ⟨v1, rfl, hone1⟩ := hr1.slR
  obtain ⟨v2, rfl, hone2, hsl2⟩ := hr2
  dsimp only [sideO]
  (refine GO.move rfl rfl ?_; refine GO.extract rfl rfl rfl ?_; refine GO.extract rfl rfl rfl ?_; refine GO.extract rfl rfl rfl ?_; refine GO.alloc rfl fun b10 => ?_; refine GO.alloc rfl fun b11 => ?_; refine GO.storeW rfl rfl (Tk.t Tk.h) ⟨rfl, rfl⟩ (by simp [Value.oneCell']; assumption) ?_; refine GO.storeW rfl rfl (Tk.t Tk.h) ⟨rfl, rfl⟩ (by simp [Value.oneCell']; assumption) ?_; refine GO.assign rfl rfl ?_; refine GO.nil ?_; refine kthen_n ?_; refine G.seq ?_)
  refine G.drawT 6 56 [pt b10 (row [i64 (s : Nat), v1] 30), pt b11 (row [i64 (s : Nat), v2] 28)] (z' :: pt b6 (row [i64 0, .slice none 0 0] 30) :: F) (by kernel_rfl) (keys_of rfl) (ImpS.sb (by ((refine Sb.c (Tk.t Tk.h) ?_; refine Sb.c Tk.h ?_; refine Sb.c Tk.h ?_; refine Sb.c Tk.h ?_); (refine Sb.s ?_; exact Sb.r)))) ?_
  ((apply GR.step rfl; focus (intro Z; refine GO.loadW rfl rfl rfl Tk.h rfl ?_; exact KQ.z)); (apply GR.step rfl; focus (intro Z; refine GO.fieldAddr rfl rfl ?_; exact KQ.z)); (apply GR.step rfl; focus (intro Z; refine GO.load1 rfl rfl rfl (Tk.t Tk.h) rfl ?_; exact KQ.z)); refine GR.skip rfl ?_; refine GR.skip rfl ?_; refine GR.skip rfl ?_; refine GR.nil ?_)
  (repeat refine GT.skip rfl ?_)
  refine GT.step rfl ?_
  refine GO.storeW rfl rfl (Tk.t (Tk.t (Tk.t Tk.h))) ⟨rfl, rfl⟩ (by simp [Value.oneCell']; assumption) ?_
  refine GO.nil ⟨rfl, .tuple #[], z' :: pt b6 (row [i64 (s : Nat), v1] 30) :: F, rfl, ImpS.sb (by ((refine Sb.c (Tk.t Tk.h) ?_; refine Sb.c (Tk.t Tk.h) ?_; refine Sb.c (Tk.t Tk.h) ?_; refine Sb.c Tk.h ?_); (exact Sb.r))), ?_⟩
  (repeat refine GT.skip rfl ?_)
  refine GT.step rfl ?_
  refine GO.assign rfl rfl ?_
  refine GO.nil ⟨rfl, _, _, rfl, ImpS.refl, ?_⟩
  (repeat refine GT.skip rfl ?_)
  refine GT.step rfl ?_
  refine GO.assign rfl rfl ?_
  refine GO.nil ⟨rfl, _, _, rfl, ImpS.refl, ?_⟩
  refine GT.nil ?_
  (refine GO.nil ?_; refine kthen_n ?_; refine G.ret ?_)
  refine KF2.r3 rfl (RV.cW (n := 2) rfl rfl (by (exact (Tk.t (Tk.t (Tk.t Tk.h))))) rfl) (RV.t rfl) (RV.t rfl) ⟨_, _, z', rfl, hr1, hsl2, (Sup.right _ z).trans hsup, rfl⟩ (ImpS.sb ?_)
  ((refine Sb.c (Tk.t (Tk.t Tk.h)) ?_); (refine Sb.s ?_; refine Sb.s ?_; refine Sb.s ?_; exact Sb.r))
end Go.Proofs.YtpfcgfgkmgnaaaaDoor
namespace Go.Proofs.YtpfcgfgkmgnaaaaDoor
open Go
theorem ImpS.pk2 (l k : List HP) : ImpS (l ++ k) [star l, star k] := fun m w s => by
  refine sat_flat.2 ?_
  have h1 : sat (l ++ (k ++ m)) w := by rw [← List.append_assoc]; exact s
  exact sat_perm (List.perm_append_comm.trans (List.Perm.refl _)) (sat_flat.2 (sat_perm (by
    show ((l ++ (k ++ m))).Perm (k ++ (m ++ l))
    rw [← List.append_assoc k m l]
    exact List.perm_append_comm) h1))
def hasV (o : OptM) (X : Nat → Nat → Bool) (i j : Int) : Value := match o with | none => .tuple #[.bool false, i64 1] | some (s, _) => getM X s i j
attribute [local irreducible] G GO GR GT Fn FnV pt init exs pur sat own ImpS mat posL allV orL restX cellsX cellsV cntX
theorem kHasO (K : HP) (v : Value) (o : OptM) (wo : WfM o) (X : Nat → Nat → Bool) (h : KeepO K v o X) (i j : Int) : Fn Tryd.prog 38 #[v, i64 i, i64 j] [K] (fun r Q => r = hasV o X i j ∧ Q = [K]) := by
  rcases h with ⟨rfl, rfl⟩ | ⟨s, S, bk, d, rfl, rfl, rfl⟩
  · exact ((has_knil i j).frame [K]).mono fun v Q ⟨Q', ⟨h1, h2⟩, h3⟩ => ⟨h1, by rw [h3, h2]; rfl⟩
  · have hs := (wo s S rfl).1.1
    refine Fn.pack (rest := []) ((has_k s bk d (cntX X) S X hs i j).frame [rowsO s d.bf d.cf d.bsf d.csf, rowsF s d.bsf d.csf (flipX X)]) ?_
    rintro _ _ ⟨_, ⟨rfl, rfl⟩, rfl⟩
    exact ⟨_, ⟨rfl, rfl⟩, ImpS.pk (keepL s bk d S X)⟩
theorem kMatrixO (K : HP) (v : Value) (o : OptM) (wo : WfM o) (X : Nat → Nat → Bool) (hX : CloR o X) (h : KeepO K v o X) : Fn Tryd.prog 29 #[v] [K] (fun r Q => ∃ p, MatO p r (cloO o X) ∧ Q = [p, K]) := by
  rcases h with ⟨rfl, rfl⟩ | ⟨s, S, bk, d, rfl, rfl, rfl⟩
  · have h1 := matrix_knil.frame [K]
    unfold Fn at *
    intro F w hw
    refine (h1 F w hw).mono ?_
    rintro e w' ⟨v, Q, e1, e2, ⟨Q', ⟨rfl, rfl⟩, rfl⟩, d⟩
    exact ⟨_, [star [], K], e1, e2, ⟨star [], MatO.nil _, rfl⟩, sat_flat.2 d⟩
  · have hs := wo s S rfl
    refine Fn.pack (rest := []) ((matrix_k s bk d (cntX X) S X hs.1.1 hs.1.2 ((hX s S rfl).in hs.2)).frame [rowsO s d.bf d.cf d.bsf d.csf, rowsF s d.bsf d.csf (flipX X)]) ?_
    rintro _ _ ⟨_, ⟨b', rfl, rfl⟩, rfl⟩
    exact ⟨_, ⟨_, MatO.one s b' X, rfl⟩, ImpS.pk1 _ (keepL s bk d S X)⟩
theorem kCopyO (K : HP) (v : Value) (o : OptM) (wo : WfM o) (X : Nat → Nat → Bool) (h : KeepO K v o X) : Fn Tryd.prog 14 #[v] [K] (fun r Q => ∃ K', KeepO K' r o X ∧ Q = [K', K]) := by
  rcases h with ⟨rfl, rfl⟩ | ⟨s, S, bk, d, rfl, rfl, rfl⟩
  · have h1 := kcopy_nil.frame [K]
    unfold Fn at *
    intro F w hw
    refine (h1 F w hw).mono ?_
    rintro e w' ⟨v, Q, e1, e2, ⟨Q', ⟨rfl, rfl⟩, rfl⟩, d⟩
    exact ⟨_, [star [], K], e1, e2, ⟨star [], KeepO.nil _ X, rfl⟩, sat_flat.2 d⟩
  · have hs := wo s S rfl
    refine Fn.pack (rest := []) (by rw [List.append_nil]; exact kcopy_k s bk d S X hs.1.1 hs.1.2) ?_
    rintro _ _ ⟨b', d', rfl, rfl⟩
    exact ⟨_, ⟨_, KeepO.one s b' d' S X, rfl⟩, ImpS.pk2 (keepL s b' d' S X) (keepL s bk d S X)⟩
end Go.Proofs.YtpfcgfgkmgnaaaaDoor
namespace Go.Proofs.YtpfcgfgkmgnaaaaDoor
open Go
def addS (o : OptM) (i j : Int) : OptM := if wrO (sideO o) i j = 0 then some (sideO o, addX (setO o) i.toNat j.toNat) else o
def addC (o : OptM) (X : Nat → Nat → Bool) (i j : Int) : Nat → Nat → Bool := if wrO (sideO o) i j = 0 then stepX X i.toNat j.toNat else X
def addL (o : OptM) (X : Nat → Nat → Bool) (i j : Int) : List (Nat × Nat) := if wrO (sideO o) i j = 0 then cellsX (diffX (stepX X i.toNat j.toNat) X) else []
theorem wrO_zero {s : Nat} {i j : Int} (h : wrO s i j = 0) : s ≠ 0 ∧ ∃ m n : Nat, i = m ∧ j = n ∧ m < s ∧ n < s := by
  unfold wrO at h
  split at h
  · cases h
  · rename_i h0
    unfold wrK at h
    split at h
    · rename_i h1
      obtain ⟨m, n, rfl, rfl, h3, h4⟩ := inM_at h1
      exact ⟨h0, m, n, rfl, rfl, h3, h4⟩
    · cases h
attribute [local irreducible] G GO GR GT Fn FnV pt init exs pur sat own ImpS mat posL allV orL restX cellsX cellsV cntX
set_option maxHeartbeats 4000000 in
theorem kadd_wrong (s bk : Nat) (d : KD) (c : Nat) (S : Nat → Nat → Bool) (hs : 1 ≤ s) (i j : Int) (h : wrK s i j = 2) : Fn Tryd.prog 25 #[ptrV bk, i64 i, i64 j] [hdK s bk d c, mat s S d.bs] (fun r Q => r = .tuple #[.slice none 0 0, i64 2] ∧ Q = [hdK s bk d c, mat s S d.bs]) := by
  have hw := wrong_k s bk d c S hs i j
  rw [h] at hw
  refine Fn.mk2 Tryd.func25 rfl rfl fun w0 F => ?_
  (refine G.seq ?_; refine G.region ?_; refine GO.assign rfl rfl ?_; refine GO.assign rfl rfl ?_; refine GO.nil ?_; refine kthen_n ?_; refine G.seq ?_; refine G.region ?_; refine GO.move rfl rfl ?_; refine GO.move rfl rfl ?_; refine GO.move rfl rfl ?_)
  refine GO.call3 rfl rfl rfl rfl (hw) (Tks.c Tk.h (Tks.c Tk.h Tks.n)) ?_
  rintro _ _ ⟨rfl, rfl⟩
  (refine GO.assign rfl rfl ?_; refine GO.nil ?_; refine kthen_n ?_; refine G.seq ?_; refine G.seq ?_; refine G.region ?_; refine GO.move rfl rfl ?_; refine GO.nei rfl rfl rfl ?_; refine GO.nil ?_; refine kthen_n ?_; refine G.condT rfl rfl ?_; refine G.seq ?_; refine G.region ?_; refine GO.move rfl rfl ?_; refine GO.assign rfl rfl ?_; refine GO.assign rfl rfl ?_; refine GO.nil ?_; refine kthen_n ?_; refine G.ret ?_; refine kthen_r ?_)
  refine KF2.r2 rfl (RV.t rfl) (RV.t rfl) ⟨rfl, rfl⟩ (ImpS.sb ?_)
  ((refine Sb.c Tk.h ?_; refine Sb.c Tk.h ?_); (exact Sb.r))
theorem pairs_nil : pairsV [] = [] := by unfold pairsV cellsV; rfl
theorem kAddO (K : HP) (v : Value) (o : OptM) (wo : WfM o) (X : Nat → Nat → Bool) (hX : CloR o X) (h : KeepO K v o X) (i j : Int) : Fn Tryd.prog 25 #[v, i64 i, i64 j] [K] (fun r Q => ∃ K' v', r = .tuple #[v', i64 (wrO (sideO o) i j)] ∧ KeepO K' v (addS o i j) (addC o X i j) ∧ Q = [own 63 2 (addL o X i j).length v' (pairsV (addL o X i j)), K']) := by
  by_cases hw : wrO (sideO o) i j = 0
  · rw [show addS o i j = some (sideO o, addX (setO o) i.toNat j.toNat) from if_pos hw, show addC o X i j = stepX X i.toNat j.toNat from if_pos hw, show addL o X i j = cellsX (diffX (stepX X i.toNat j.toNat) X) from if_pos hw, hw]
    obtain ⟨h0, m, n, rfl, rfl, hm, hn⟩ := wrO_zero hw
    rw [Int.toNat_natCast, Int.toNat_natCast]
    rcases h with ⟨rfl, rfl⟩ | ⟨s, S, bk, d, rfl, rfl, rfl⟩
    · exact absurd rfl h0
    · have hs := wo s S rfl
      have hcl := hX s S rfl
      change m < s at hm
      change n < s at hn
      change Fn _ _ _ _ (fun r Q => ∃ K' v', r = _ ∧ KeepO K' (ptrV bk) (some (s, addX S m n)) _ ∧ Q = _)
      refine Fn.pack (rest := []) (by rw [List.append_nil]; exact add_k s bk d S X hs.1.1 hs.1.2 (hcl.in hs.2) hcl m n hm hn) ?_
      rintro _ _ ⟨v', rfl, rfl⟩
      refine ⟨_, ⟨_, v', rfl, KeepO.one s bk d _ _, rfl⟩, ?_⟩
      refine ImpS.trans ?_ (ImpS.pk1 _ (keepL s bk d (addX S m n) (stepX X m n)))
      refine ImpS.sb ?_
      generalize stepX X m n = T2
      generalize cellsX (diffX T2 X) = l2
      unfold keepL
      simp only [List.cons_append, List.nil_append]
      ((refine Sb.c (Tk.t (Tk.t (Tk.t (Tk.t (Tk.t (Tk.t Tk.h)))))) ?_; refine Sb.c Tk.h ?_; refine Sb.c Tk.h ?_; refine Sb.c Tk.h ?_; refine Sb.c Tk.h ?_; refine Sb.c Tk.h ?_; refine Sb.c Tk.h ?_); (exact Sb.r))
  · rw [show addS o i j = o from if_neg hw, show addC o X i j = X from if_neg hw, show addL o X i j = [] from if_neg hw, pairs_nil]
    rcases h with ⟨rfl, rfl⟩ | ⟨s, S, bk, d, rfl, rfl, rfl⟩
    · have h1 := (add_knil i j).frame [K]
      unfold Fn at *
      intro F w hw
      refine (h1 F w hw).mono ?_
      rintro e w' ⟨v, Q, e1, e2, ⟨Q', ⟨rfl, rfl⟩, rfl⟩, d⟩
      exact ⟨_, [own _ 2 0 (.slice none 0 0) [], K], e1, e2, ⟨K, _, rfl, KeepO.nil _ X, rfl⟩, own_nil d⟩
    · have hs := wo s S rfl
      have h2 : wrK s i j = 2 := by
        have h0 : ¬ s = 0 := by have := hs.1.1; omega
        change ¬ wrO s i j = 0 at hw
        unfold wrO at hw
        rw [if_neg h0] at hw
        unfold wrK at hw ⊢
        split
        · rename_i h3; rw [if_pos h3] at hw; exact absurd rfl hw
        · rfl
      have h3 : wrO s i j = 2 := by unfold wrO; rw [if_neg (by have := hs.1.1; omega), h2]
      change Fn _ _ _ _ (fun r Q => ∃ K' v', r = .tuple #[v', i64 (wrO s i j)] ∧ KeepO K' (ptrV bk) (some (s, S)) _ ∧ Q = _)
      rw [h3]
      refine Fn.pack (rest := []) ((kadd_wrong s bk d (cntX X) S hs.1.1 i j h2).frame [rowsO s d.bt d.ct d.bst d.cst, rowsF s d.bst d.cst X, rowsO s d.bf d.cf d.bsf d.csf, rowsF s d.bsf d.csf (flipX X)]) ?_
      rintro _ _ ⟨_, ⟨rfl, rfl⟩, rfl⟩
      exact ⟨_, ⟨_, _, rfl, KeepO.one s bk d S X, rfl⟩, ImpS.trans (ImpS.pk (keepL s bk d S X)) ImpS.nilOwn⟩
end Go.Proofs.YtpfcgfgkmgnaaaaDoor
namespace Go.Proofs.YtpfcgfgkmgnaaaaDoor
open Go
def joinC (o g : OptM) (X : Nat → Nat → Bool) : Nat → Nat → Bool := if pairE (sideO o) (sideO g) = 0 then foldT X (cellsX (setO g)) else X
def joinM (o g : OptM) (X : Nat → Nat → Bool) : OptM := if pairE (sideO o) (sideO g) = 0 then some (sideO o, diffX (foldT X (cellsX (setO g))) X) else none
theorem joinO_err {o g : OptM} (wo : WfM o) (h : pairE (sideO o) (sideO g) ≠ 0) : joinO o g = o := by
  match o, g, wo, h with
  | none, _, _, _ => rfl
  | some (s, X), none, _, _ => rfl
  | some (s, X), some (t, Y), wo, h =>
    show (if s = t then some (s, uniX X Y) else some (s, X)) = some (s, X)
    rw [if_neg]
    intro e
    subst e
    exact h (pairE_same (wo s X rfl).1.1)
theorem ImpS.pk3 (x : HP) (l r : List HP) : ImpS (x :: (l ++ r)) (x :: star l :: r) := fun m w s => by
  have h1 : sat (x :: (l ++ (r ++ m))) w := by rw [← List.append_assoc]; exact s
  exact sat_perm (List.Perm.swap _ _ _) (sat_flat.2 (sat_perm List.perm_middle.symm h1))
theorem ImpS.pk4 (l r : List HP) : ImpS (l ++ r) (star [] :: star l :: r) := fun m w s => by
  have h1 : sat (l ++ (r ++ m)) w := by rw [← List.append_assoc]; exact s
  exact sat_flat.2 (sat_flat.2 h1)
attribute [local irreducible] G GO GR GT Fn FnV pt init exs pur sat own ImpS mat posL allV orL restX cellsX cellsV cntX
set_option maxHeartbeats 4000000 in
theorem kjoin_knil (v : Value) (hv : v.oneCell' = true) : Fn Tryd.prog 27 #[.pointer none, v] [] (fun r Q => r = .tuple #[.pointer none, i64 1] ∧ Q = []) := by
  refine Fn.mk2 Tryd.func27 rfl rfl fun w0 F => ?_
  (refine G.seq ?_; refine G.region ?_; refine GO.box rfl rfl rfl fun b2 => ?_; refine GO.assign rfl rfl ?_; refine GO.assign rfl rfl ?_; refine GO.nil ?_; refine kthen_n ?_; refine G.seq ?_; refine G.block ?_; refine G.seq ?_; refine G.region ?_; refine GO.load1 rfl rfl rfl Tk.h rfl ?_)
  refine GO.call1 rfl rfl (is_knil) Tks.n ?_
  rintro _ _ ⟨rfl, rfl⟩
  (refine GO.not rfl rfl ?_; refine GO.move rfl rfl ?_; refine GO.gF rfl rfl rfl rfl ?_; refine GO.gF rfl rfl rfl rfl ?_; refine GO.gF rfl rfl rfl rfl ?_; refine GO.pickT rfl rfl rfl ?_; refine GO.assign rfl rfl ?_; refine GO.nil ?_; refine kthen_n ?_; refine G.condT rfl rfl ?_; refine G.seq ?_; refine G.region ?_; refine GO.assign rfl rfl ?_; refine GO.assign rfl rfl ?_; refine GO.nil ?_; refine kthen_n ?_; refine G.ret ?_; refine kblock_r ?_; refine kthen_r ?_)
  refine KF2.r2 rfl (RV.t rfl) (RV.t rfl) ⟨rfl, rfl⟩ (ImpS.sb ?_)
  (skip; (refine Sb.s ?_; exact Sb.r))
set_option maxHeartbeats 4000000 in
theorem kjoin_mnil (s bk : Nat) (d : KD) (c : Nat) : Fn Tryd.prog 27 #[ptrV bk, .pointer none] [hdK s bk d c] (fun r Q => r = .tuple #[.pointer none, i64 1] ∧ Q = [hdK s bk d c]) := by
  refine Fn.mk2 Tryd.func27 rfl rfl fun w0 F => ?_
  (refine G.seq ?_; refine G.region ?_; refine GO.box rfl rfl rfl fun b2 => ?_; refine GO.assign rfl rfl ?_; refine GO.assign rfl rfl ?_; refine GO.nil ?_; refine kthen_n ?_; refine G.seq ?_; refine G.block ?_; refine G.seq ?_; refine G.region ?_; refine GO.load1 rfl rfl rfl Tk.h rfl ?_)
  refine GO.call1 rfl rfl (isH s bk d c) (Tks.c (Tk.t Tk.h) Tks.n) ?_
  rintro _ _ ⟨rfl, rfl⟩
  (refine GO.not rfl rfl ?_; refine GO.move rfl rfl ?_; refine GO.gT rfl rfl rfl ?_; refine GO.move rfl rfl ?_; refine GO.gT rfl rfl rfl ?_)
  refine GO.call1 rfl rfl (side_nil) Tks.n ?_
  rintro _ _ ⟨rfl, rfl⟩
  (refine GO.gT rfl rfl rfl ?_; refine GO.eqT rfl rfl rfl rfl ?_; refine GO.pickF rfl rfl rfl ?_; refine GO.assign rfl rfl ?_; refine GO.nil ?_; refine kthen_n ?_; refine G.condT rfl rfl ?_; refine G.seq ?_; refine G.region ?_; refine GO.assign rfl rfl ?_; refine GO.assign rfl rfl ?_; refine GO.nil ?_; refine kthen_n ?_; refine G.ret ?_; refine kblock_r ?_; refine kthen_r ?_)
  refine KF2.r2 rfl (RV.t rfl) (RV.t rfl) ⟨rfl, rfl⟩ (ImpS.sb ?_)
  ((refine Sb.c Tk.h ?_); (refine Sb.s ?_; exact Sb.r))
set_option maxHeartbeats 4000000 in
theorem kjoin_side (s t bk bm : Nat) (d : KD) (c : Nat) (S M : Nat → Nat → Bool) (ht : 1 ≤ t) (h : s ≠ t) : Fn Tryd.prog 27 #[ptrV bk, ptrV bm] [hdK s bk d c, mat s S d.bs, mat t M bm] (fun r Q => r = .tuple #[.pointer none, i64 5] ∧ Q = [hdK s bk d c, mat s S d.bs, mat t M bm]) := by
  have d0 : decide (((t : Nat) : Int) = 0) = false := decide_eq_false (by omega)
  have dn : decide (((t : Nat) : Int) ≠ ((s : Nat) : Int)) = true := decide_eq_true (by omega)
  refine Fn.mk2 Tryd.func27 rfl rfl fun w0 F => ?_
  (refine G.seq ?_; refine G.region ?_; refine GO.box rfl rfl rfl fun b2 => ?_; refine GO.assign rfl rfl ?_; refine GO.assign rfl rfl ?_; refine GO.nil ?_; refine kthen_n ?_; refine G.seq ?_; refine G.block ?_; refine G.seq ?_; refine G.region ?_; refine GO.load1 rfl rfl rfl Tk.h rfl ?_)
  refine GO.call1 rfl rfl (isH s bk d c) (Tks.c (Tk.t Tk.h) Tks.n) ?_
  rintro _ _ ⟨rfl, rfl⟩
  (refine GO.not rfl rfl ?_; refine GO.move rfl rfl ?_; refine GO.gT rfl rfl rfl ?_; refine GO.move rfl rfl ?_; refine GO.gT rfl rfl rfl ?_)
  refine GO.call1 rfl rfl (side_mat t bm M) (Tks.c (Tk.t (Tk.t (Tk.t Tk.h))) Tks.n) ?_
  rintro _ _ ⟨rfl, rfl⟩
  (refine GO.gT rfl rfl rfl ?_; refine GO.eqi rfl rfl rfl ?_; refine GO.pickF rfl rfl rfl ?_; refine GO.assign rfl rfl ?_; refine GO.nil ?_; refine kthen_n ?_; refine G.condF rfl (by assumption) ?_; refine G.seq ?_)
  refine G.draw 5 (by kernel_rfl) ?_
  ((apply GQ.step; focus (intro Z; refine GO.move rfl rfl ?_; exact KQ.z)))
  apply GQ.step; focus (intro Z; refine GO.call1 rfl rfl (side_mat t bm M) (Tks.c Tk.h Tks.n) ?_; rintro _ _ ⟨rfl, rfl⟩; refine GO.nil (KQ.s ?_); ((refine Sb.c Tk.h ?_; refine Sb.c Tk.h ?_; refine Sb.c Tk.h ?_; refine Sb.c Tk.h ?_); (exact Sb.r)))
  ((apply GQ.step; focus (intro Z; refine GO.load1 rfl rfl rfl (Tk.t (Tk.t Tk.h)) rfl ?_; exact KQ.z)))
  apply GQ.step; focus (intro Z; refine GO.call1 rfl rfl (side_k s bk d c S) (Tks.c (Tk.t Tk.h) (Tks.c (Tk.t (Tk.t Tk.h)) Tks.n)) ?_; rintro _ _ ⟨rfl, rfl⟩; refine GO.nil (KQ.s ?_); ((refine Sb.c (Tk.t (Tk.t Tk.h)) ?_; refine Sb.c Tk.h ?_; refine Sb.c (Tk.t Tk.h) ?_; refine Sb.c Tk.h ?_); (exact Sb.r)))
  ((apply GQ.step; focus (intro Z; refine GO.nei rfl rfl rfl ?_; exact KQ.z)); refine GQ.nil ?_)
  (refine GO.assign rfl rfl ?_; refine GO.nil ?_; refine kthen_n ?_; refine G.condT rfl (by assumption) ?_; refine G.seq ?_; refine G.region ?_; refine GO.assign rfl rfl ?_; refine GO.assign rfl rfl ?_; refine GO.nil ?_; refine kthen_n ?_; refine G.ret ?_; refine kblock_r ?_; refine kthen_r ?_)
  refine KF2.r2 rfl (RV.t rfl) (RV.t rfl) ⟨rfl, rfl⟩ (ImpS.sb ?_)
  ((refine Sb.c (Tk.t Tk.h) ?_; refine Sb.c (Tk.t (Tk.t Tk.h)) ?_; refine Sb.c Tk.h ?_); (refine Sb.s ?_; exact Sb.r))
theorem kJoinO (q : HP) (hq : Tab q) (K pm : HP) (v vm : Value) (o g : OptM) (wo : WfM o) (wg : WfM g) (X : Nat → Nat → Bool) (hX : CloR o X) (h : KeepO K v o X) (hm : MatO pm vm g) : Fn Tryd.prog 27 #[v, vm] [K, pm, q]
    (fun r Q => ∃ K' po vo, r = .tuple #[vo, i64 (pairE (sideO o) (sideO g))] ∧ KeepO K' v (joinO o g) (joinC o g X) ∧ MatO po vo (joinM o g X) ∧ Q = [po, K', pm, q]) := by
  by_cases he : pairE (sideO o) (sideO g) = 0
  · obtain ⟨h0, h1⟩ := pairE_zero he
    rw [show joinC o g X = foldT X (cellsX (setO g)) from if_pos he, show joinM o g X = some (sideO o, diffX (foldT X (cellsX (setO g))) X) from if_pos he, he]
    rcases h with ⟨rfl, rfl⟩ | ⟨s, S, bk, d, rfl, rfl, rfl⟩
    · exact absurd rfl h0
    · obtain ⟨bm, rfl, rfl⟩ := mat_some hm (by rw [h1]; exact h0)
      have hs := wo s S rfl
      have hcl := hX s S rfl
      have hg := some_ofS (o := g) (by rw [h1]; exact h0)
      generalize setO g = M at *
      generalize sideO g = t at *
      change t = s at h1
      subst h1
      subst hg
      rw [joinO_same]
      have hwg := wg t M rfl
      refine Fn.pack (rest := [mat t M bm, q]) (join_k q hq t bk bm d S X M hs.1.1 hs.1.2 (hcl.in hs.2) hcl hwg.2) ?_
      rintro _ _ ⟨bo, rfl, rfl⟩
      exact ⟨_, ⟨_, _, _, rfl, KeepO.one t bk d _ _, MatO.one t bo _, rfl⟩, ImpS.pk3 _ (keepL t bk d _ _) [mat t M bm, q]⟩
  · rw [show joinC o g X = X from if_neg he, show joinM o g X = none from if_neg he, joinO_err wo he]
    have hp : vm.oneCell' = true := by rcases hm with ⟨_, rfl⟩ | ⟨_, _, _, _, rfl, _⟩ <;> rfl
    rcases h with ⟨rfl, rfl⟩ | ⟨s, S, bk, d, rfl, rfl, rfl⟩
    · have h1 := (kjoin_knil vm hp).frame [K, pm, q]
      unfold Fn at *
      intro F w hw
      refine (h1 F w hw).mono ?_
      rintro e w' ⟨v, Q, e1, e2, ⟨Q', ⟨rfl, rfl⟩, rfl⟩, d⟩
      exact ⟨_, [star [], K, pm, q], e1, e2, ⟨K, star [], _, rfl, KeepO.nil _ X, MatO.nil _, rfl⟩, sat_flat.2 d⟩
    · have hs := wo s S rfl
      rcases hm with ⟨rfl, rfl⟩ | ⟨t, M, bm, rfl, rfl, rfl⟩
      · have e1 : pairE (sideO (some (s, S))) (sideO none) = 1 := by
          show pairE s 0 = 1
          unfold pairE
          rw [if_neg (by have := hs.1.1; omega), if_pos rfl]
        rw [e1]
        refine Fn.pack (rest := [pm, q]) ((kjoin_mnil s bk d (cntX X)).frame [mat s S d.bs, rowsO s d.bt d.ct d.bst d.cst, rowsF s d.bst d.cst X, rowsO s d.bf d.cf d.bsf d.csf, rowsF s d.bsf d.csf (flipX X), pm, q]) ?_
        rintro _ _ ⟨_, ⟨rfl, rfl⟩, rfl⟩
        refine ⟨_, ⟨_, star [], _, rfl, KeepO.one s bk d S X, MatO.nil _, rfl⟩, ?_⟩
        exact ImpS.pk4 (keepL s bk d S X) [pm, q]
      · have hwg := wg t M rfl
        have e1 : pairE (sideO (some (s, S))) (sideO (some (t, M))) = 5 := by
          show pairE s t = 5
          change ¬ pairE s t = 0 at he
          unfold pairE at he ⊢
          rw [if_neg (by have := hs.1.1; omega), if_neg (by have := hwg.1.1; omega)] at he ⊢
          split
          · rename_i h3; rw [if_pos h3] at he; exact absurd rfl he
          · rfl
        have hne : s ≠ t := fun e => he (by rw [e]; exact pairE_same hwg.1.1)
        rw [e1]
        refine Fn.pack (rest := [mat t M bm, q]) (Fn.imp (Pre := [hdK s bk d (cntX X), mat s S d.bs, mat t M bm] ++ [rowsO s d.bt d.ct d.bst d.cst, rowsF s d.bst d.cst X, rowsO s d.bf d.cf d.bsf d.csf, rowsF s d.bsf d.csf (flipX X), q]) (ImpS.sb ?_) ((kjoin_side s t bk bm d (cntX X) S M hwg.1.1 hne).frame _)) ?_
        · unfold keepL
          simp only [List.cons_append, List.nil_append]
          ((refine Sb.c Tk.h ?_; refine Sb.c Tk.h ?_; refine Sb.c (Tk.t (Tk.t (Tk.t (Tk.t Tk.h)))) ?_; refine Sb.c Tk.h ?_; refine Sb.c Tk.h ?_; refine Sb.c Tk.h ?_; refine Sb.c Tk.h ?_; refine Sb.c Tk.h ?_); (exact Sb.r))
        rintro _ _ ⟨_, ⟨rfl, rfl⟩, rfl⟩
        refine ⟨_, ⟨_, star [], _, rfl, KeepO.one s bk d S X, MatO.nil _, rfl⟩, ?_⟩
        refine ImpS.trans (M := keepL s bk d S X ++ [mat t M bm, q]) (ImpS.sb ?_) ?_
        · unfold keepL
          simp only [List.cons_append, List.nil_append]
          ((refine Sb.c Tk.h ?_; refine Sb.c Tk.h ?_; refine Sb.c (Tk.t Tk.h) ?_; refine Sb.c (Tk.t Tk.h) ?_; refine Sb.c (Tk.t Tk.h) ?_; refine Sb.c (Tk.t Tk.h) ?_; refine Sb.c Tk.h ?_; refine Sb.c Tk.h ?_); (exact Sb.r))
        exact ImpS.pk4 (keepL s bk d S X) [mat t M bm, q]
end Go.Proofs.YtpfcgfgkmgnaaaaDoor
namespace Go.Proofs.YtpfcgfgkmgnaaaaDoor
open Go
theorem less_diff (X Y : Nat → Nat → Bool) : lessX X Y = diffX X Y := by
  funext r c
  unfold lessX diffX
  rfl
def newO (n : Int) : OptM := if refOk n then some (n.toNat, noX) else none
def newE (n : Int) : Int := if refOk n then 0 else 2
def ofE (o : OptM) : Int := if sideO o = 0 then 1 else 0
theorem newO_wf (n : Int) : WfM (newO n) := fun s X e => by
  unfold newO at e
  split at e
  · rename_i h
    have := refOk_t h
    injection e with e
    injection e with e1 e2
    subst e1 e2
    exact ⟨by omega, fun r c h => by cases h⟩
  · cases e
theorem newO_clo (n : Int) : CloR (newO n) noX := fun s C e => by
  unfold newO at e
  split at e
  · injection e with e
    injection e with e1 e2
    subst e2
    exact clo_no
  · cases e
attribute [local irreducible] G GO GR GT Fn FnV pt init exs pur sat own ImpS mat posL allV orL restX cellsX cellsV cntX
theorem kNewO (n : Int) : Fn Tryd.prog 10 #[i64 n] [] (fun r Q => ∃ K v, r = .tuple #[v, i64 (newE n)] ∧ KeepO K v (newO n) noX ∧ Q = [K]) := by
  have h1 := knew_spec n
  unfold Fn at *
  intro F w hw
  refine (h1 F w hw).mono ?_
  rintro e w' ⟨v, Q, e1, e2, (⟨s, bk, d, rfl, hs1, hs2, rfl, rfl⟩ | ⟨hno, rfl, rfl⟩), hd⟩
  · have hok : refOk (s : Nat) = true := by unfold refOk; simp; omega
    rw [show newE (s : Nat) = 0 from if_pos hok, show newO (s : Nat) = some (s, noX) from if_pos hok]
    exact ⟨_, [star _], e1, e2, ⟨_, _, rfl, KeepO.one s bk d noX noX, rfl⟩, sat_flat.2 hd⟩
  · have hok : ¬ refOk n = true := fun h => hno (refOk_t h)
    rw [show newE n = 2 from if_neg hok, show newO n = none from if_neg hok]
    exact ⟨_, [star []], e1, e2, ⟨_, _, rfl, KeepO.nil _ noX, rfl⟩, sat_flat.2 hd⟩
theorem RefO.no (z : HP) (s : Nat) : RefO z (refV s (.slice none 0 0)) (some (s, noX)) := ⟨.slice none 0 0, rfl, rfl, none, 0, by
  show Value.slice none 0 0 = .slice none (castL (cellsX noX)).length 0
  rw [castL_len, cells_no]; rfl, by
  show (castL (cellsX noX)).length ≤ 0
  rw [castL_len, cells_no]; exact Nat.le_refl _, fun h => by
  change 0 < (castL (cellsX noX)).length at h
  rw [castL_len, cells_no] at h
  exact absurd h (by show ¬ 0 < 0; omega)⟩
theorem rKNewO (n : Int) : Fn Tryd.prog 11 #[i64 n] [] (fun r Q => ∃ rv, r = .tuple #[rv, i64 (newE n)] ∧ (∀ z, RefO z rv (newO n)) ∧ Q = []) := by
  refine (rKNew_spec n).mono ?_
  rintro _ _ ⟨rfl, rfl⟩
  by_cases hok : refOk n = true
  · rw [if_pos hok, show newE n = 0 from if_pos hok, show newO n = some (n.toNat, noX) from if_pos hok]
    have h1 := refOk_t hok
    refine ⟨_, rfl, fun z => ?_, rfl⟩
    have h2 := RefO.no z n.toNat
    rwa [show ((n.toNat : Nat) : Int) = n by omega] at h2
  · rw [if_neg hok, show newE n = 2 from if_neg hok, show newO n = none from if_neg hok]
    exact ⟨_, rfl, fun z => RefO.nil z, rfl⟩
theorem rKOfO (z : HP) (ra : Value) (g : OptM) (wg : WfM g) (h : RefO z ra g) : Fn Tryd.prog 13 #[ra] [] (fun r Q => ∃ rv, r = .tuple #[rv, i64 (ofE g)] ∧ RefO z rv g ∧ Q = []) := by
  obtain ⟨va, rfl, hone⟩ := h.slR
  refine (rKOf_spec (sideO g) va hone).mono ?_
  rintro _ _ ⟨rfl, rfl⟩
  unfold ofE
  by_cases h0 : sideO g = 0
  · rw [if_pos h0, if_pos h0]
    have hn := wg.none_of h0
    subst hn
    exact ⟨_, rfl, RefO.nil z, rfl⟩
  · rw [if_neg h0, if_neg h0]
    exact ⟨_, rfl, h, rfl⟩
theorem kOfO (q : HP) (hq : Tab q) (pm : HP) (vm : Value) (g : OptM) (wg : WfM g) (hm : MatO pm vm g) : Fn Tryd.prog 12 #[vm] [pm, q] (fun r Q => ∃ K v X, r = .tuple #[v, i64 (ofE g)] ∧ CloR g X ∧ KeepO K v g X ∧ Q = [K, pm, q]) := by
  unfold ofE
  rcases hm with ⟨rfl, rfl⟩ | ⟨t, M, bm, rfl, rfl, rfl⟩
  · have h1 := kof_nil.frame [pm, q]
    unfold Fn at *
    intro F w hw
    refine (h1 F w hw).mono ?_
    rintro e w' ⟨v, Q, e1, e2, ⟨Q', ⟨rfl, rfl⟩, rfl⟩, d⟩
    exact ⟨_, [star [], pm, q], e1, e2, ⟨star [], _, noX, rfl, fun s C h => (by cases h), KeepO.nil _ noX, rfl⟩, sat_flat.2 d⟩
  · have hwg := wg t M rfl
    have h0 : ¬ sideO (some (t, M)) = 0 := by show ¬ t = 0; have := hwg.1.1; omega
    rw [if_neg h0]
    have h1 := kof_some q hq t bm M hwg.1.1 hwg.1.2 hwg.2
    unfold Fn at *
    intro F w hw
    refine (h1 F w hw).mono ?_
    rintro e w' ⟨v, Q, e1, e2, ⟨bk, d, rfl, rfl⟩, hd⟩
    refine ⟨_, [star (keepL t bk d M (foldT noX (cellsX M))), mat t M bm, q], e1, e2, ⟨_, _, _, rfl, fun s C h => ?_, KeepO.one t bk d M _, rfl⟩, sat_flat.2 hd⟩
    injection h with h
    injection h with h1 h2
    subst h2
    exact of_clo hwg.1.2 hwg.2
end Go.Proofs.YtpfcgfgkmgnaaaaDoor
namespace Go.Proofs.YtpfcgfgkmgnaaaaDoor
open Go
theorem joinO_wf {o g : OptM} (wo : WfM o) (wg : WfM g) : WfM (joinO o g) := by
  match o, g, wo, wg with
  | none, _, wo, _ => exact wo
  | some (s, X), none, wo, _ => exact wo
  | some (s, X), some (t, Y), wo, wg =>
    intro u Z e
    change (if s = t then some (s, uniX X Y) else some (s, X)) = some (u, Z) at e
    by_cases h : s = t
    · subst h
      rw [if_pos rfl] at e
      injection e with e
      injection e with e1 e2
      subst e1 e2
      exact ⟨(wo s X rfl).1, uni_in (wo s X rfl).2 (wg s Y rfl).2⟩
    · rw [if_neg h] at e
      exact wo u Z e
theorem joinC_clo {o g : OptM} {X : Nat → Nat → Bool} (wo : WfM o) (wg : WfM g) (hX : CloR o X) : CloR (joinO o g) (joinC o g X) := by
  unfold joinC
  by_cases he : pairE (sideO o) (sideO g) = 0
  · rw [if_pos he]
    obtain ⟨h0, h1⟩ := pairE_zero he
    have ho := some_ofS (o := o) h0
    have hg := some_ofS (o := g) (by rw [h1]; exact h0)
    intro s C e
    rw [ho, hg, h1, joinO_same] at e
    injection e with e
    injection e with e1 e2
    subst e2
    exact join_clo (wo _ _ ho).1.2 (hX _ _ ho) (by rw [← h1]; exact (wg _ _ hg).2)
  · rw [if_neg he, joinO_err wo he]
    exact hX
theorem rKJoinO (z : HP) (ra rb : Value) (o g : OptM) (wo : WfM o) (wg : WfM g) (X : Nat → Nat → Bool) (hX : CloR o X) (hra : RefO z ra o) (hrb : RefO z rb g) :
    Fn Tryd.prog 47 #[ra, rb] [z] (fun r Q => ∃ rv mv z', r = .tuple #[rv, mv, i64 (pairE (sideO o) (sideO g))] ∧ RefO z' rv (joinO o g) ∧ RefO z' mv (joinM o g X) ∧ Sup z z' ∧ Q = [z']) := by
  have hcl := joinC_clo wo wg hX
  unfold joinM
  unfold joinC at hcl
  by_cases he : pairE (sideO o) (sideO g) = 0
  · rw [if_pos he] at hcl ⊢
    obtain ⟨h0, h1⟩ := pairE_zero he
    have ho := some_ofS (o := o) h0
    have hg := some_ofS (o := g) (by rw [h1]; exact h0)
    rw [h1] at hg
    rw [he]
    generalize setO o = C at *
    generalize setO g = D at *
    generalize sideO o = s at *
    subst ho hg
    rw [joinO_same] at hcl ⊢
    have wo' := wo s C rfl
    have wg' := wg s D rfl
    have h := rKJoin_core z ra rb s C D X (foldT X (cellsX D)) hra hrb wo'.1 wo'.2 wg'.2 (hX s C rfl) (hcl s _ rfl)
    rw [less_diff] at h
    exact h
  · rw [if_neg he, joinO_err wo he]
    obtain ⟨va, rfl, hone⟩ := hra.slR
    obtain ⟨vb, rfl, honeb⟩ := hrb.slR
    refine ((rKJoin_err (sideO o) (sideO g) va vb hone honeb he).frame [z]).mono ?_
    rintro _ _ ⟨_, ⟨rfl, rfl⟩, rfl⟩
    exact ⟨_, _, z, rfl, hra, RefO.nil z, Sup.refl z, rfl⟩
theorem addS_wf {o : OptM} (wo : WfM o) (i j : Int) : WfM (addS o i j) := by
  unfold addS
  by_cases hw : wrO (sideO o) i j = 0
  · rw [if_pos hw]
    obtain ⟨h0, m, n, rfl, rfl, hm, hn⟩ := wrO_zero hw
    have ho := some_ofS (o := o) h0
    have wo' := wo _ _ ho
    intro s X e
    injection e with e
    injection e with e1 e2
    subst e1 e2
    rw [Int.toNat_natCast, Int.toNat_natCast]
    refine ⟨wo'.1, fun r c h => ?_⟩
    unfold addX at h
    rw [Bool.or_eq_true, Bool.and_eq_true, decide_eq_true_iff, decide_eq_true_iff] at h
    rcases h with h | ⟨rfl, rfl⟩
    · exact wo'.2 r c h
    · exact ⟨hm, hn⟩
  · rw [if_neg hw]
    exact wo
theorem addC_clo {o : OptM} {X : Nat → Nat → Bool} (hX : CloR o X) (i j : Int) : CloR (addS o i j) (addC o X i j) := by
  unfold addS addC
  by_cases hw : wrO (sideO o) i j = 0
  · rw [if_pos hw, if_pos hw]
    obtain ⟨h0, _⟩ := wrO_zero hw
    have ho := some_ofS (o := o) h0
    intro s C e
    injection e with e
    injection e with e1 e2
    subst e2
    exact (hX _ _ ho).add _ _
  · rw [if_neg hw, if_neg hw]
    exact hX
theorem rKAddO (z : HP) (ra : Value) (o : OptM) (wo : WfM o) (X : Nat → Nat → Bool) (hX : CloR o X) (hra : RefO z ra o) (i j : Int) :
    Fn Tryd.prog 46 #[ra, i64 i, i64 j] [z] (fun r Q => ∃ rv mv z', r = .tuple #[rv, mv, i64 (wrO (sideO o) i j)] ∧ RefO z' rv (addS o i j) ∧ SlC z' mv (castL (addL o X i j)) ∧ Sup z z' ∧ Q = [z']) := by
  unfold addS addL
  by_cases hw : wrO (sideO o) i j = 0
  · rw [if_pos hw, if_pos hw, hw]
    obtain ⟨h0, m, n, rfl, rfl, hm, hn⟩ := wrO_zero hw
    rw [Int.toNat_natCast, Int.toNat_natCast]
    have ho := some_ofS (o := o) h0
    generalize setO o = C at *
    generalize sideO o = s at *
    subst ho
    have wo' := wo s C rfl
    have hcl := hX s C rfl
    have h := rKAdd_core z ra s C X (stepX X m n) m n hra wo'.1 hm hn wo'.2 hcl (hcl.add m n)
    rw [less_diff] at h
    exact h
  · rw [if_neg hw, if_neg hw]
    obtain ⟨va, rfl, hone⟩ := hra.slR
    refine ((rKAdd_err (sideO o) i j va hone hw).frame [z]).mono ?_
    rintro _ _ ⟨_, ⟨rfl, rfl⟩, rfl⟩
    exact ⟨_, _, z, rfl, hra, ⟨none, 0, rfl, Nat.le_refl _, fun h => absurd h (Nat.not_lt_zero _)⟩, Sup.refl z, rfl⟩
end Go.Proofs.YtpfcgfgkmgnaaaaDoor
namespace Go.Proofs.YtpfcgfgkmgnaaaaDoor
open Go
attribute [local irreducible] G GO GR GT Fn FnV pt init exs pur sat own ImpS mat posL allV orL restX cellsX cellsV cntX
set_option maxHeartbeats 4000000 in
theorem next_none (a : Option Addr) (cap : Nat) : Fn Tryd.prog 68 #[refV 0 (.slice a 0 cap)] [] (fun r Q => ∃ bl, r = .slice (some ⟨bl, 0, none⟩) 0 0 ∧ Q = []) := by
  refine Fn.mk2 Tryd.func68 rfl rfl fun w0 F => ?_
  (refine G.seq ?_; refine G.region ?_; refine GO.box rfl rfl rfl fun b1 => ?_; refine GO.assign rfl rfl ?_; refine GO.nil ?_; refine kthen_n ?_; refine G.seq ?_; refine G.region ?_; refine GO.fieldAddr rfl rfl ?_; refine GO.load1 rfl rfl rfl Tk.h rfl ?_)
  refine GO.make1 (n := 0) rfl rfl rfl ⟨rfl, rfl⟩ ⟨by omega, by omega⟩ fun bl => ?_
  (refine GO.assign rfl rfl ?_; refine GO.nil ?_; refine kthen_n ?_; refine G.seq ?_; refine G.seq ?_; refine G.region ?_; refine GO.assign rfl rfl ?_; refine GO.nil ?_; refine kthen_n ?_; refine G.block ?_)
  refine G.loop (fun _ : Unit => [(1, ptrV b1), (3, .slice (some ⟨bl, 0, none⟩) 0 0), (4, i64 0)]) (fun _ => pt b1 (row [i64 0, .slice a 0 cap] 28) :: F) (fun _ => True) (fun _ => 0) () trivial ?_ ?_ ?_
  · (refine SubE.c rfl rfl ?_; refine SubE.c rfl rfl ?_; refine SubE.c rfl rfl ?_; exact SubE.n)
  · ((refine Sb.c (Tk.t Tk.h) ?_); (refine Sb.s ?_; exact Sb.r))
  rintro _ _
  (refine G.seq ?_; refine G.seq ?_; refine G.region ?_; refine GO.move rfl rfl ?_; refine GO.fieldAddr rfl rfl ?_; refine GO.load1 rfl rfl rfl Tk.h rfl ?_; refine GO.lenS rfl rfl ?_; refine GO.lti rfl rfl rfl ?_; refine GO.nil ?_; refine kthen_n ?_; refine G.condF rfl rfl ?_; refine G.exit ?_; refine kthen_x ?_; refine kthen_x ?_; refine kblock_x ?_; refine kthen_n ?_; refine G.seq ?_; refine G.region ?_; refine GO.move rfl rfl ?_; refine GO.assign rfl rfl ?_; refine GO.nil ?_; refine kthen_n ?_; refine G.ret ?_)
  refine KF2.r1 rfl (RV.t rfl) ⟨_, rfl, rfl⟩ (ImpS.sb ?_)
  (skip; (refine Sb.s ?_; exact Sb.r))
set_option maxHeartbeats 4000000 in
theorem close_none (a : Option Addr) (cap : Nat) : Fn Tryd.prog 49 #[refV 0 (.slice a 0 cap)] [] (fun r Q => r = refV 0 (.slice none 0 0) ∧ Q = []) := by
  refine Fn.mk2 Tryd.func49 rfl rfl fun w0 F => ?_
  (refine G.seq ?_; refine G.region ?_; refine GO.box rfl rfl rfl fun b1 => ?_; refine GO.alloc rfl fun b2 => ?_; refine GO.nil ?_; refine kthen_n ?_; refine G.seq ?_; refine G.region ?_; refine GO.fieldAddr rfl rfl ?_; refine GO.load1 rfl rfl rfl (Tk.t Tk.h) rfl ?_)
  refine GO.buildPart1 (built_ref 0) rfl rfl ?_
  (refine GO.alloc rfl fun b3 => ?_; refine GO.storeW rfl rfl Tk.h ⟨rfl, rfl⟩ (by simp [Value.oneCell']) ?_; refine GO.nil ?_; refine kthen_n ?_; refine G.seq ?_; refine G.region ?_; refine GO.loadW rfl rfl rfl (Tk.t (Tk.t Tk.h)) rfl ?_)
  refine GO.call1 rfl rfl (next_none a cap) Tks.n ?_
  rintro _ _ ⟨bl, rfl, rfl⟩
  (refine GO.assign rfl rfl ?_; refine GO.nil ?_; refine kthen_n ?_; refine G.seq ?_; refine G.seq ?_; refine G.region ?_; refine GO.assign rfl rfl ?_; refine GO.nil ?_; refine kthen_n ?_; refine G.block ?_)
  refine G.loop (fun _ : Unit => [(1, ptrV b1), (2, ptrV b2), (3, ptrV b3), (5, i64 0)]) (fun _ => pt b1 (row [i64 0, .slice a 0 cap] 28) :: pt b2 (row [i64 0, .slice none 0 0] 28) :: pt b3 (row [i64 0, .slice none 0 0] 28) :: F) (fun _ => True) (fun _ => 0) () trivial ?_ ?_ ?_
  · (refine SubE.c rfl rfl ?_; refine SubE.c rfl rfl ?_; refine SubE.c rfl rfl ?_; refine SubE.c rfl rfl ?_; exact SubE.n)
  · ((refine Sb.c (Tk.t (Tk.t Tk.h)) ?_; refine Sb.c (Tk.t Tk.h) ?_; refine Sb.c Tk.h ?_); (exact Sb.r))
  rintro _ _
  (refine G.seq ?_; refine G.seq ?_; refine G.region ?_; refine GO.move rfl rfl ?_; refine GO.fieldAddr rfl rfl ?_; refine GO.load1 rfl rfl rfl Tk.h rfl ?_; refine GO.lti rfl rfl rfl ?_; refine GO.nil ?_; refine kthen_n ?_; refine G.condF rfl rfl ?_; refine G.exit ?_; refine kthen_x ?_; refine kthen_x ?_; refine kblock_x ?_; refine kthen_n ?_; refine G.seq ?_; refine G.region ?_; refine GO.loadW rfl rfl rfl (Tk.t (Tk.t Tk.h)) rfl ?_; refine GO.storeW rfl rfl (Tk.t Tk.h) ⟨rfl, rfl⟩ (by simp [Value.oneCell']) ?_; refine GO.nil ?_; refine kthen_n ?_; refine G.ret ?_)
  refine KF2.r1 rfl (RV.cW (n := 2) rfl rfl (by (exact Tk.h)) rfl) ⟨rfl, rfl⟩ (ImpS.sb ?_)
  (skip; (refine Sb.s ?_; refine Sb.s ?_; refine Sb.s ?_; exact Sb.r))
theorem cloO_wf {o : OptM} {X : Nat → Nat → Bool} (wo : WfM o) (hX : CloR o X) : WfM (cloO o X) := by
  match o, wo, hX with
  | none, wo, _ => exact wo
  | some (s, C), wo, hX =>
    intro t Y e
    change some (s, X) = some (t, Y) at e
    injection e with e
    injection e with e1 e2
    subst e1 e2
    exact ⟨(wo s C rfl).1, (hX s C rfl).in (wo s C rfl).2⟩
theorem rCloseO (z : HP) (ra : Value) (o : OptM) (wo : WfM o) (X : Nat → Nat → Bool) (hX : CloR o X) (hra : RefO z ra o) :
    Fn Tryd.prog 49 #[ra] [z] (fun r Q => ∃ rv z', r = rv ∧ RefO z' rv (cloO o X) ∧ Sup z z' ∧ Q = [z']) := by
  match o, wo, hX, hra with
  | none, _, _, hra =>
    obtain ⟨v, rfl, _, a, cap, rfl, _⟩ := hra
    change Fn _ _ #[refV 0 (.slice a (castL (cellsX noX)).length cap)] _ _
    rw [castL_len, cells_no]
    refine ((close_none a cap).frame [z]).mono ?_
    rintro _ _ ⟨_, ⟨rfl, rfl⟩, rfl⟩
    exact ⟨_, z, rfl, RefO.nil z, Sup.refl z, rfl⟩
  | some (s, C), wo, hX, hra =>
    have h := close_spec z ra s C X hra (wo s C rfl).1.1 (wo s C rfl).1.2 (wo s C rfl).2 (hX s C rfl)
    unfold Fn at *
    intro F w hw
    refine (h F w hw).mono ?_
    rintro e w' ⟨v, Q, e1, e2, ⟨u, p, rfl, hone, hp, rfl⟩, d⟩
    exact ⟨_, [star [p, z]], e1, e2, ⟨_, star [p, z], rfl, hp.left, Sup.right p z, rfl⟩, sat_flat.2 d⟩
end Go.Proofs.YtpfcgfgkmgnaaaaDoor
namespace Go.Proofs.YtpfcgfgkmgnaaaaDoor
open Go
theorem lenO_clo (o : OptM) (X : Nat → Nat → Bool) : (castL (cellsX (setO (cloO o X)))).length = lenO o X := by
  rw [castL_len]
  match o with
  | none => exact congrArg List.length cells_no
  | some (s, C) => exact cellsX_len X
theorem KeepO.ptr {K : HP} {v : Value} {o : OptM} {X : Nat → Nat → Bool} (h : KeepO K v o X) : ∃ p, v = .pointer p := by
  rcases h with ⟨rfl, rfl⟩ | ⟨s, S, bk, d, rfl, rfl, rfl⟩
  · exact ⟨_, rfl⟩
  · exact ⟨_, rfl⟩
attribute [local irreducible] G GO GR GT Fn FnV pt init exs pur sat own ImpS mat posL allV orL restX cellsX cellsV cntX
theorem get_none (i j : Int) : Fn Tryd.prog 63 #[.pointer none, i64 i, i64 j] [] (fun r Q => r = .tuple #[.bool false, i64 1] ∧ Q = []) := by
  refine Fn.mk2 Tryd.func63 rfl rfl fun w0 F => ?_
  (refine G.seq ?_; refine G.region ?_; refine GO.assign rfl rfl ?_; refine GO.assign rfl rfl ?_; refine GO.nil ?_; refine kthen_n ?_; refine G.seq ?_; refine G.block ?_; refine G.seq ?_; refine G.region ?_; refine GO.move rfl rfl ?_)
  refine GO.call1 rfl rfl (is_nil) Tks.n ?_
  rintro _ _ ⟨rfl, rfl⟩
  (refine GO.not rfl rfl ?_; refine GO.assign rfl rfl ?_; refine GO.nil ?_; refine kthen_n ?_; refine G.condT rfl rfl ?_; refine G.seq ?_; refine G.region ?_; refine GO.assign rfl rfl ?_; refine GO.assign rfl rfl ?_; refine GO.nil ?_; refine kthen_n ?_; refine G.ret ?_; refine kblock_r ?_; refine kthen_r ?_)
  refine KF2.r2 rfl (RV.t rfl) (RV.t rfl) ⟨rfl, rfl⟩ (ImpS.sb ?_)
  (skip; (exact Sb.r))
set_option maxHeartbeats 4000000 in
theorem set_none (i j : Int) : Fn Tryd.prog 26 #[.pointer none, i64 i, i64 j] [] (fun r Q => r = .tuple #[.bool false, i64 1] ∧ Q = []) := by
  refine Fn.mk2 Tryd.func26 rfl rfl fun w0 F => ?_
  (refine G.seq ?_; refine G.region ?_; refine GO.assign rfl rfl ?_; refine GO.assign rfl rfl ?_; refine GO.nil ?_; refine kthen_n ?_; refine G.seq ?_; refine G.region ?_; refine GO.move rfl rfl ?_; refine GO.move rfl rfl ?_; refine GO.move rfl rfl ?_)
  refine GO.call3 rfl rfl rfl rfl (get_none i j) Tks.n ?_
  rintro _ _ ⟨rfl, rfl⟩
  (refine GO.move rfl rfl ?_; refine GO.extract rfl rfl rfl ?_; refine GO.extract rfl rfl rfl ?_; refine GO.assign rfl rfl ?_; refine GO.assign rfl rfl ?_; refine GO.nil ?_; refine kthen_n ?_; refine G.seq ?_; refine G.seq ?_; refine G.region ?_; refine GO.move rfl rfl ?_; refine GO.nei rfl rfl rfl ?_; refine GO.move rfl rfl ?_; refine GO.gF rfl rfl rfl rfl ?_; refine GO.pickT rfl rfl rfl ?_; refine GO.nil ?_; refine kthen_n ?_; refine G.condT rfl rfl ?_; refine G.seq ?_; refine G.region ?_; refine GO.move rfl rfl ?_; refine GO.assign rfl rfl ?_; refine GO.assign rfl rfl ?_; refine GO.nil ?_; refine kthen_n ?_; refine G.ret ?_; refine kthen_r ?_)
  refine KF2.r2 rfl (RV.t rfl) (RV.t rfl) ⟨rfl, rfl⟩ (ImpS.sb ?_)
  (skip; (exact Sb.r))
/-- Whatever is set in a matrix that may be none: it is a matrix, or none. -/
theorem set_any (p : HP) (v : Value) (o : OptM) (wo : WfM o) (h : MatO p v o) (i j : Int) : Fn Tryd.prog 26 #[v, i64 i, i64 j] [p] (fun r Q => ∃ p', Q = [p']) := by
  rcases h with ⟨rfl, rfl⟩ | ⟨s, X, b, rfl, rfl, rfl⟩
  · exact ((set_none i j).frame [p]).mono fun v Q ⟨Q', ⟨_, h2⟩, h3⟩ => ⟨p, by rw [h3, h2]; rfl⟩
  · refine (set_mat s b X i j (wo s X rfl).1.2).mono ?_
    rintro v Q (⟨m, n, _, _, _, _, _, rfl⟩ | ⟨_, _, rfl⟩)
    · exact ⟨_, rfl⟩
    · exact ⟨_, rfl⟩
set_option maxHeartbeats 8000000 in
theorem look_spec (q : HP) (hq : Tab q) (K z : HP) (v ra : Value) (o : OptM) (wo : WfM o) (X : Nat → Nat → Bool) (hX : CloR o X) (h : KeepO K v o X) (hra : RefO z ra o) :
    Fn Tryd.prog 16 #[v, ra] [K, z, q] (fun r Q => r = .bool true ∧ ∃ z', Sup z z' ∧ Q = [K, z', q]) := by
  have hCl := rCloseO z ra o wo X hX hra
  obtain ⟨va, rfl, hone⟩ := hra.slR
  change Fn _ _ #[refV (sideO o) va] _ _ at hCl
  have hll := lenO_clo o X
  have wc := cloO_wf wo hX
  have hfit := cells_fit (cloO o X)
  have hM := kMatrixO K v o wo X hX h
  have hS := kSideO K v o X h
  have hL := kLenO K v o X h
  have dS : decide (((sideO o : Nat) : Int) = ((sideO o : Nat) : Int)) = true := decide_eq_true rfl
  obtain ⟨pv, rfl⟩ := h.ptr
  refine Fn.mk2 Tryd.func16 rfl rfl fun w0 F => ?_
  (refine G.seq ?_; refine G.region ?_; refine GO.box rfl rfl rfl fun b3 => ?_; refine GO.assign rfl rfl ?_; refine GO.nil ?_; refine kthen_n ?_; refine G.seq ?_; refine G.region ?_; refine GO.fieldAddr rfl rfl ?_; refine GO.loadW rfl rfl rfl Tk.h rfl ?_)
  refine GO.call1 rfl rfl (hCl) (Tks.c (Tk.t (Tk.t Tk.h)) Tks.n) ?_
  rintro _ _ ⟨rv, z', rfl, hz', hs, rfl⟩
  generalize cloO o X = oc at hz' hll wc hfit hM
  obtain ⟨vc, rfl, hone2, a, cap, rfl, hcap, hrd⟩ := id hz'
  generalize sideO oc = sc at hz'
  rw [hll] at hz' hcap ⊢
  generalize lenO o X = n at *
  have dL : decide (((n : Nat) : Int) = ((n : Nat) : Int)) = true := decide_eq_true rfl
  (refine GO.alloc rfl fun b5 => ?_; refine GO.storeW rfl rfl Tk.h ⟨rfl, rfl⟩ (by simp [Value.oneCell']) ?_; refine GO.nil ?_; refine kthen_n ?_; refine G.seq ?_; refine G.region ?_; refine GO.move rfl rfl ?_)
  refine GO.call1 rfl rfl (hM) (Tks.c (Tk.t (Tk.t (Tk.t Tk.h))) Tks.n) ?_
  rintro _ _ ⟨p, hp, rfl⟩
  (refine GO.assign rfl rfl ?_; refine GO.nil ?_; refine kthen_n ?_; refine G.seq ?_)
  refine G.draw 19 (by kernel_rfl) ?_
  ((apply GQ.step; focus (intro Z; refine GO.move rfl rfl ?_; exact KQ.z)))
  apply GQ.step; focus (intro Z; refine GO.call1 rfl rfl (hS) (Tks.c (Tk.t Tk.h) Tks.n) ?_; rintro _ _ ⟨rfl, rfl⟩; refine GO.nil (KQ.s ?_); ((refine Sb.c (Tk.t Tk.h) ?_; refine Sb.c Tk.h ?_; refine Sb.c Tk.h ?_; refine Sb.c Tk.h ?_; refine Sb.c Tk.h ?_; refine Sb.c Tk.h ?_); (exact Sb.r)))
  ((apply GQ.step; focus (intro Z; refine GO.fieldAddr rfl rfl ?_; exact KQ.z)); (apply GQ.step; focus (intro Z; refine GO.fieldAddr rfl rfl ?_; exact KQ.z)); (apply GQ.step; focus (intro Z; refine GO.load1 rfl rfl rfl (Tk.t (Tk.t (Tk.t (Tk.t Tk.h)))) rfl ?_; exact KQ.z)); (apply GQ.step; focus (intro Z; refine GO.eqT rfl rfl rfl rfl ?_; exact KQ.z)); (apply GQ.step; focus (intro Z; refine GO.move rfl rfl ?_; exact KQ.z)); (apply GQ.step; focus (intro Z; refine GO.gT rfl rfl rfl ?_; refine GO.move rfl rfl ?_; exact KQ.z)))
  apply GQ.step; focus (intro Z; refine GO.gT rfl rfl rfl ?_; refine GO.call1 rfl rfl (hL) (Tks.c (Tk.t Tk.h) Tks.n) ?_; rintro _ _ ⟨rfl, rfl⟩; refine GO.nil (KQ.s ?_); ((refine Sb.c (Tk.t Tk.h) ?_; refine Sb.c Tk.h ?_; refine Sb.c Tk.h ?_; refine Sb.c Tk.h ?_; refine Sb.c Tk.h ?_; refine Sb.c Tk.h ?_); (exact Sb.r)))
  ((apply GQ.step; focus (intro Z; refine GO.gT rfl rfl rfl ?_; refine GO.fieldAddr rfl rfl ?_; exact KQ.z)); (apply GQ.step; focus (intro Z; refine GO.gT rfl rfl rfl ?_; refine GO.load1 rfl rfl rfl (Tk.t (Tk.t Tk.h)) rfl ?_; exact KQ.z)); (apply GQ.step; focus (intro Z; refine GO.gT rfl rfl rfl ?_; refine GO.lenS rfl rfl ?_; exact KQ.z)); (apply GQ.step; focus (intro Z; refine GO.gT rfl rfl rfl ?_; refine GO.eqT rfl rfl rfl rfl ?_; exact KQ.z)); (apply GQ.step; focus (intro Z; refine GO.pickT rfl rfl rfl ?_; exact KQ.z)); (apply GQ.step; focus (intro Z; refine GO.move rfl rfl ?_; exact KQ.z)); (apply GQ.step; focus (intro Z; refine GO.gT rfl rfl rfl ?_; refine GO.move rfl rfl ?_; exact KQ.z)); (apply GQ.step; focus (intro Z; refine GO.gT rfl rfl rfl ?_; refine GO.loadW rfl rfl rfl (Tk.t (Tk.t Tk.h)) rfl ?_; exact KQ.z)))
  apply GQ.step; focus (intro Z; refine GO.gT rfl rfl rfl ?_; refine GO.call2 rfl rfl rfl (osame_spec p z' q hq _ _ oc hp.has hz' wc.wf hfit) (Tks.c Tk.h (Tks.c (Tk.t (Tk.t Tk.h)) (Tks.c (Tk.t (Tk.t (Tk.t Tk.h))) Tks.n))) ?_; rintro _ _ ⟨rfl, rfl⟩; refine GO.nil (KQ.s ?_); ((refine Sb.c Tk.h ?_; refine Sb.c (Tk.t (Tk.t Tk.h)) ?_; refine Sb.c (Tk.t (Tk.t Tk.h)) ?_; refine Sb.c Tk.h ?_; refine Sb.c (Tk.t Tk.h) ?_; refine Sb.c Tk.h ?_); (exact Sb.r)))
  ((apply GQ.step; focus (intro Z; refine GO.pickT rfl rfl rfl ?_; exact KQ.z)); refine GQ.nil ?_)
  (refine GO.assign rfl rfl ?_; refine GO.nil ?_; refine kthen_n ?_; refine G.seq ?_; refine G.region ?_; refine GO.move rfl rfl ?_)
  refine GO.call3 rfl rfl rfl rfl (set_any p _ oc wc hp 0 0) (Tks.c Tk.h Tks.n) ?_
  rintro _ _ ⟨p', rfl⟩
  (refine GO.nil ?_; refine kthen_n ?_; refine G.seq ?_; refine G.region ?_; refine GO.move rfl rfl ?_; refine GO.assign rfl rfl ?_; refine GO.nil ?_; refine kthen_n ?_; refine G.ret ?_)
  refine KF2.r1 rfl (RV.t rfl) ⟨rfl, z', hs, rfl⟩ (ImpS.sb ?_)
  ((refine Sb.c (Tk.t Tk.h) ?_; refine Sb.c (Tk.t (Tk.t Tk.h)) ?_; refine Sb.c (Tk.t (Tk.t (Tk.t Tk.h))) ?_); (refine Sb.s ?_; refine Sb.s ?_; refine Sb.s ?_; exact Sb.r))
end Go.Proofs.YtpfcgfgkmgnaaaaDoor
namespace Go.Proofs.YtpfcgfgkmgnaaaaDoor
open Go
/-- A step as it lies in the script. -/
def opV (d a b i j s : Int) (u : Value) : Value := .agg #[i64 d, i64 a, i64 b, i64 i, i64 j, i64 s, u]
theorem addL_fit (o : OptM) (X : Nat → Nat → Bool) (i j : Int) : (addL o X i j).length ≤ 1048576 := by
  unfold addL
  split
  · rw [cellsX_len]; have := cnt_max (diffX (stepX X i.toNat j.toNat) X); omega
  · exact Nat.zero_le _
theorem over_get {xs : List Value} {k m : Nat} {a b : Value} (hk : k * 2 + 2 ≤ xs.length) (hm : (k + 1) * 2 ≤ m) : (xs.take (k * 2) ++ [a, b] ++ xs.drop (k * 2 + 2))[m]? = xs[m]? := by
  have hl : (xs.take (k * 2) ++ [a, b]).length = k * 2 + 2 := by simp; omega
  rw [List.getElem?_append_right (by omega), hl, List.getElem?_drop]
  congr 1; omega
theorem over_len {xs : List Value} {k : Nat} {a b : Value} (hk : k * 2 + 2 ≤ xs.length) : (xs.take (k * 2) ++ [a, b] ++ xs.drop (k * 2 + 2)).length = xs.length := by
  simp; omega
theorem built_c77 : Tryd.prog.built 63 [(0, i64 77)] = some [i64 77, i64 0].toArray := by kernel_rfl
attribute [local irreducible] G GO GR GT Fn FnV pt init exs pur sat own ImpS mat posL allV orL restX cellsX cellsV cntX
set_option maxHeartbeats 16000000 in
theorem doneAdd (K z : HP) (v ra : Value) (o : OptM) (wo : WfM o) (X : Nat → Nat → Bool) (hX : CloR o X) (h : KeepO K v o X) (hra : RefO z ra o) (a b i j s t : Int) (u vm vg : Value) (hu : u.oneCell' = true) (hg : vg.oneCell' = true) :
    Fn Tryd.prog 15 #[v, ra, opV 2 a b i j s u, vm, .agg #[i64 t, vg]] [K, z] (fun r Q => ∃ rv K' z', r = .tuple #[rv, .bool true] ∧ KeepO K' v (addS o i j) (addC o X i j) ∧ RefO z' rv (addS o i j) ∧ Sup z z' ∧ Q = [K', z']) := by
  have hA := kAddO K v o wo X hX h i j
  have hR := rKAddO z ra o wo X hX hra i j
  have hn := addL_fit o X i j
  generalize addL o X i j = L at *
  generalize addS o i j = o' at *
  generalize addC o X i j = X' at *
  obtain ⟨va, rfl, hone⟩ := hra.slR
  obtain ⟨pv, rfl⟩ := h.ptr
  change Fn _ _ #[refV (sideO o) va, _, _] _ _ at hR
  generalize wrO (sideO o) i j = e at *
  have de : decide (e = e) = true := decide_eq_true rfl
  refine Fn.mk2 Tryd.func15 rfl rfl fun w0 F => ?_
  (refine G.seq ?_; refine G.region ?_; refine GO.box rfl rfl rfl fun b6 => ?_; refine GO.box rfl rfl rfl fun b7 => ?_; refine GO.box rfl rfl rfl fun b9 => ?_; refine GO.alloc rfl fun b10 => ?_; refine GO.assign rfl rfl ?_; refine GO.nil ?_; refine kthen_n ?_; refine G.seq ?_; refine G.seq ?_; refine G.region ?_; refine GO.fieldAddr rfl rfl ?_; refine GO.load1 rfl rfl rfl (Tk.t (Tk.t Tk.h)) rfl ?_; refine GO.nil ?_; refine kthen_n ?_; refine G.block ?_; refine G.seq ?_; refine G.region ?_; refine GO.eqT rfl rfl rfl rfl ?_; refine GO.assign rfl rfl ?_; refine GO.nil ?_; refine kthen_n ?_; refine G.condT rfl rfl ?_; refine G.seq ?_; refine G.region ?_; refine GO.move rfl rfl ?_; refine GO.fieldAddr rfl rfl ?_; refine GO.load1 rfl rfl rfl (Tk.t (Tk.t Tk.h)) rfl ?_; refine GO.fieldAddr rfl rfl ?_; refine GO.load1 rfl rfl rfl (Tk.t (Tk.t Tk.h)) rfl ?_)
  refine GO.call3 rfl rfl rfl rfl (hA) (Tks.c (Tk.t (Tk.t (Tk.t (Tk.t Tk.h)))) Tks.n) ?_
  rintro _ _ ⟨K', v', rfl, hK', rfl⟩
  (refine GO.move rfl rfl ?_; refine GO.extract rfl rfl rfl ?_; refine GO.extract rfl rfl rfl ?_; refine GO.assign rfl rfl ?_; refine GO.assign rfl rfl ?_; refine GO.nil ?_; refine kthen_n ?_; refine G.seq ?_; refine G.region ?_; refine GO.loadW rfl rfl rfl (Tk.t (Tk.t (Tk.t (Tk.t (Tk.t Tk.h))))) rfl ?_; refine GO.fieldAddr rfl rfl ?_; refine GO.load1 rfl rfl rfl (Tk.t (Tk.t (Tk.t (Tk.t Tk.h)))) rfl ?_; refine GO.fieldAddr rfl rfl ?_; refine GO.load1 rfl rfl rfl (Tk.t (Tk.t (Tk.t (Tk.t Tk.h)))) rfl ?_)
  refine GO.call3 rfl rfl rfl rfl (hR) (Tks.c (Tk.t (Tk.t (Tk.t (Tk.t (Tk.t (Tk.t Tk.h)))))) Tks.n) ?_
  rintro _ _ ⟨rv, mv, z', rfl, hz', hmv, hsup, rfl⟩
  obtain ⟨v1, rfl, hone1⟩ := hz'.slR
  obtain ⟨a15, c15, rfl, hc15, hr15⟩ := hmv
  rw [castL_len] at hc15 hr15 ⊢
  have dl : decide (((L.length : Nat) : Int) = ((L.length : Nat) : Int)) = true := decide_eq_true rfl
  (refine GO.move rfl rfl ?_; refine GO.extract rfl rfl rfl ?_; refine GO.extract rfl rfl rfl ?_; refine GO.extract rfl rfl rfl ?_; refine GO.alloc rfl fun b14 => ?_; refine GO.storeW rfl rfl Tk.h ⟨rfl, rfl⟩ (by simp [Value.oneCell']; assumption) ?_; refine GO.assign rfl rfl ?_; refine GO.assign rfl rfl ?_; refine GO.nil ?_; refine kthen_n ?_; refine G.seq ?_; refine G.region ?_; refine GO.move rfl rfl ?_; refine GO.move rfl rfl ?_; refine GO.eqT rfl rfl rfl rfl ?_; refine GO.move rfl rfl ?_; refine GO.gT rfl rfl rfl ?_; refine GO.move rfl rfl ?_; refine GO.gT rfl rfl rfl ?_; refine GO.lenOwn rfl rfl (Tk.t (Tk.t Tk.h)) ?_; refine GO.gT rfl rfl rfl ?_; refine GO.move rfl rfl ?_; refine GO.gT rfl rfl rfl ?_; refine GO.lenS rfl rfl ?_; refine GO.gT rfl rfl rfl ?_; refine GO.eqT rfl rfl rfl rfl ?_; refine GO.pickT rfl rfl rfl ?_; refine GO.assign rfl rfl ?_; refine GO.nil ?_; refine kthen_n ?_; refine G.seq ?_; refine G.seq ?_; refine G.region ?_; refine GO.assign rfl rfl ?_; refine GO.nil ?_; refine kthen_n ?_; refine G.block ?_)
  refine G.loop2 (fun (k : Nat) (_ : List Value) => [(12, v'), (15, .slice a15 L.length c15), (14, ptrV b14), (10, ptrV b10), (17, .bool true), (18, i64 (k : Nat))])
    (fun k xs => own 63 2 L.length v' xs :: z' :: K' :: pt b14 (row [i64 (sideO o' : Nat), v1] 30) :: pt b10 (row [i64 0, .slice none 0 0] 30) :: F)
    (fun k xs => k ≤ L.length ∧ xs.length = L.length * 2 ∧ ∀ m, k * 2 ≤ m → xs[m]? = (pairsV L)[m]?) (fun k _ => L.length - k) 0 (pairsV L) ⟨Nat.zero_le _, by unfold pairsV; rw [cellsV_len, castL_len], fun _ _ => rfl⟩ ?_ ?_ ?_
  · (refine SubE.c rfl rfl ?_; refine SubE.c rfl rfl ?_; refine SubE.c rfl rfl ?_; refine SubE.c rfl rfl ?_; refine SubE.c rfl rfl ?_; refine SubE.c rfl rfl ?_; exact SubE.n)
  · ((refine Sb.c (Tk.t (Tk.t Tk.h)) ?_; refine Sb.c (Tk.t Tk.h) ?_; refine Sb.c (Tk.t Tk.h) ?_; refine Sb.c Tk.h ?_; refine Sb.c Tk.h ?_); (refine Sb.s ?_; refine Sb.s ?_; refine Sb.s ?_; exact Sb.r))
  · rintro k xs ⟨hk, hxl, hxs⟩
    (refine G.seq ?_; refine G.seq ?_; refine G.region ?_; refine GO.move rfl rfl ?_; refine GO.move rfl rfl ?_; refine GO.gT rfl rfl rfl ?_; refine GO.move rfl rfl ?_; refine GO.gT rfl rfl rfl ?_; refine GO.move rfl rfl ?_; refine GO.gT rfl rfl rfl ?_; refine GO.lenOwn rfl rfl Tk.h ?_; refine GO.gT rfl rfl rfl ?_; refine GO.lti rfl rfl rfl ?_; refine GO.pickT rfl rfl rfl ?_; refine GO.nil ?_; refine kthen_n ?_)
    refine G.condD rfl (fun hlt => ?_) (fun hge => ?_)
    · have hkl : k < L.length := by omega
      obtain ⟨p, hp⟩ : ∃ p, L[k]? = some p := ⟨_, List.getElem?_eq_getElem hkl⟩
      have hpc : (castL L)[k]? = some ((p.1 : Int), (p.2 : Int)) := by unfold castL; rw [List.getElem?_map, hp]; rfl
      obtain ⟨b15, o15, rfl, hr2⟩ := hr15 (by omega)
      have e1 : (pairsV L)[k * 2]? = some (i64 (p.1 : Nat)) := (cellsV_get hpc).1
      have e2 : (pairsV L)[k * 2 + 1]? = some (i64 (p.2 : Nat)) := (cellsV_get hpc).2
      have r1 : Rd z' ⟨b15, o15 + k * 2, none⟩ (i64 ((p.1 : Nat) : Int)) := hr2 _ _ (cellsV_get hpc).1
      have r2 : Rd z' ⟨b15, o15 + k * 2 + 1, none⟩ (i64 ((p.2 : Nat) : Int)) := hr2 _ _ (cellsV_get hpc).2
      refine G.ownForm (by omega) Tk.h fun b12 c12 e12 _ _ _ => ?_
      subst e12
      have r3 : Rd (own 63 2 L.length (.slice (some ⟨b12, 0, none⟩) L.length c12) xs) ⟨b12, 0 + k * 2, none⟩ (i64 ((p.1 : Nat) : Int)) := Rd.own (by rw [Nat.zero_add, hxs _ (Nat.le_refl _)]; exact e1)
      have r4 : Rd (own 63 2 L.length (.slice (some ⟨b12, 0, none⟩) L.length c12) xs) ⟨b12, 0 + k * 2 + 1, none⟩ (i64 ((p.2 : Nat) : Int)) := Rd.own (by rw [Nat.zero_add, hxs _ (by omega)]; exact e2)
      have hceq := EqR.celC (d := 9998) ((p.1 : Int), (p.2 : Int)) ((p.1 : Int), (p.2 : Int))
      rw [decide_eq_true rfl] at hceq
      (refine G.skip ?_; refine kthen_n ?_; refine G.seq ?_; refine G.block ?_; refine G.seq ?_)
      refine G.draw 9 (by kernel_rfl) ?_
      ((apply GQ.step; focus (intro Z; refine GO.move rfl rfl ?_; exact KQ.z)); (apply GQ.step; focus (intro Z; refine GO.move rfl rfl ?_; exact KQ.z)); (apply GQ.step; focus (intro Z; refine GO.idxS rfl rfl rfl ⟨rfl, by omega⟩ ?_; exact KQ.z)); (apply GQ.step; focus (intro Z; refine GO.load2 rfl rfl rfl Tk.h (by assumption) (by assumption) ?_; exact KQ.z)); (apply GQ.step; focus (intro Z; refine GO.move rfl rfl ?_; exact KQ.z)); (apply GQ.step; focus (intro Z; refine GO.move rfl rfl ?_; exact KQ.z)); (apply GQ.step; focus (intro Z; refine GO.idxS rfl rfl rfl ⟨rfl, by omega⟩ ?_; exact KQ.z)); (apply GQ.step; focus (intro Z; refine GO.load2 rfl rfl rfl (Tk.t Tk.h) (by assumption) (by assumption) ?_; exact KQ.z)))
      apply GQ.step; focus (intro Z; refine GO.eqlA hceq rfl rfl rfl ?_; exact KQ.z)
      (refine GQ.nil ?_)
      (refine GO.assign rfl rfl ?_; refine GO.nil ?_; refine kthen_n ?_; refine G.region ?_; refine GO.move rfl rfl ?_; refine GO.move rfl rfl ?_)
      refine GO.buildPart1 built_c77 rfl rfl ?_
      (refine GO.idxS rfl rfl rfl ⟨rfl, by omega⟩ ?_)
      refine GO.storeOwn (w0 := 2) (vs := [i64 77, i64 0]) rfl rfl rfl rfl Tk.h (by rw [hxl]; omega) (by simp [Value.oneCell']) ?_
      rw [Nat.zero_add]
      (refine GO.nil ?_; refine kblock_n ?_; refine kthen_n ?_; refine G.region ?_; refine GO.move rfl rfl ?_; refine GO.addi rfl rfl rfl (by omega) ?_; refine GO.assign rfl rfl ?_; refine GO.nil ?_; refine kthen_n ?_)
      refine ⟨k + 1, xs.take (k * 2) ++ [i64 77, i64 0] ++ xs.drop (k * 2 + 2), ⟨by omega, (over_len (by omega)).trans hxl, fun m hm => (over_get (by omega) hm).trans (hxs m (by omega))⟩, by omega, ?_, ?_⟩
      · (refine SubE.c rfl rfl ?_; refine SubE.c rfl rfl ?_; refine SubE.c rfl rfl ?_; refine SubE.c rfl rfl ?_; refine SubE.c rfl rfl ?_; refine SubE.c rfl rfl ?_; exact SubE.n)
      · ((refine Sb.c Tk.h ?_; refine Sb.c Tk.h ?_; refine Sb.c Tk.h ?_; refine Sb.c Tk.h ?_; refine Sb.c Tk.h ?_); (exact Sb.r))
    · (refine G.exit ?_; refine kthen_x ?_; refine kthen_x ?_; refine kblock_x ?_; refine kthen_n ?_; refine G.seq ?_; refine G.region ?_; refine GO.loadW rfl rfl rfl (Tk.t (Tk.t (Tk.t Tk.h))) rfl ?_; refine GO.move rfl rfl ?_; refine GO.storeW rfl rfl (Tk.t (Tk.t (Tk.t (Tk.t Tk.h)))) ⟨rfl, rfl⟩ (by simp [Value.oneCell']; assumption) ?_; refine GO.assign rfl rfl ?_; refine GO.nil ?_; refine kthen_n ?_; refine G.ret ?_; refine kblock_r ?_; refine kthen_r ?_)
      refine KF2.r2 rfl (RV.cW (n := 2) rfl rfl (by (exact Tk.h)) rfl) (RV.t rfl) ⟨_, K', z', rfl, hK', hz', hsup, rfl⟩ (ImpS.sb ?_)
      ((refine Sb.c (Tk.t (Tk.t (Tk.t Tk.h))) ?_; refine Sb.c (Tk.t (Tk.t Tk.h)) ?_); (refine Sb.s ?_; refine Sb.s ?_; refine Sb.s ?_; exact Sb.r))
end Go.Proofs.YtpfcgfgkmgnaaaaDoor
namespace Go.Proofs.YtpfcgfgkmgnaaaaDoor
open Go
theorem joinM_wf {o g : OptM} {X : Nat → Nat → Bool} (wo : WfM o) (wg : WfM g) (hX : CloR o X) : WfM (joinM o g X) := by
  intro t Y e
  have hcl := joinC_clo wo wg hX
  have hwf := joinO_wf wo wg
  unfold joinM at e
  by_cases he : pairE (sideO o) (sideO g) = 0
  · rw [if_pos he] at e
    injection e with e
    injection e with e1 e2
    obtain ⟨h0, h1⟩ := pairE_zero he
    have ho := some_ofS (o := o) h0
    have hg := some_ofS (o := g) (by rw [h1]; exact h0)
    rw [h1] at hg
    unfold joinC at hcl
    rw [if_pos he] at hcl
    generalize setO o = C at *
    generalize setO g = D at *
    generalize sideO o = s at *
    subst ho hg e1 e2
    rw [joinO_same] at hcl hwf
    have h2 := hwf s _ rfl
    refine ⟨h2.1, fun r c h => ?_⟩
    have h3 := (hcl s _ rfl).in h2.2
    apply h3
    unfold diffX at h
    simp only [Bool.and_eq_true] at h
    exact h.1
  · rw [if_neg he] at e
    cases e
attribute [local irreducible] G GO GR GT Fn FnV pt init exs pur sat own ImpS mat posL allV orL restX cellsX cellsV cntX
set_option maxHeartbeats 16000000 in
theorem doneJoin (q : HP) (hq : Tab q) (K z pm : HP) (v ra vm rb : Value) (o g : OptM) (wo : WfM o) (wg : WfM g) (X : Nat → Nat → Bool) (hX : CloR o X) (h : KeepO K v o X) (hra : RefO z ra o) (hrb : RefO z rb g) (hm : MatO pm vm g) (a b i j s : Int) (u : Value) (hu : u.oneCell' = true) :
    Fn Tryd.prog 15 #[v, ra, opV 3 a b i j s u, vm, rb] [K, z, pm, q] (fun r Q => ∃ rv K' z', r = .tuple #[rv, .bool true] ∧ KeepO K' v (joinO o g) (joinC o g X) ∧ RefO z' rv (joinO o g) ∧ Sup z z' ∧ Q = [K', z', q]) := by
  have hA := kJoinO q hq K pm v vm o g wo wg X hX h hm
  have hR := rKJoinO z ra rb o g wo wg X hX hra hrb
  have wj := joinM_wf wo wg hX
  have hf := cells_fit (joinM o g X)
  have hfg := cells_fit g
  generalize joinM o g X = mo at *
  generalize joinC o g X = X' at *
  generalize joinO o g = o' at *
  have hrb0 := hrb
  obtain ⟨va, rfl, hone⟩ := hra.slR
  obtain ⟨vb, rfl, honeb⟩ := hrb.slR
  obtain ⟨pv, rfl⟩ := h.ptr
  obtain ⟨pw, rfl⟩ := hm.has.ptr
  change Fn _ _ #[refV (sideO o) va, refV (sideO g) vb] _ _ at hR
  generalize pairE (sideO o) (sideO g) = e at *
  have de : decide (e = e) = true := decide_eq_true rfl
  refine Fn.mk2 Tryd.func15 rfl rfl fun w0 F => ?_
  (refine G.seq ?_; refine G.region ?_; refine GO.box rfl rfl rfl fun b6 => ?_; refine GO.box rfl rfl rfl fun b7 => ?_; refine GO.box rfl rfl rfl fun b9 => ?_; refine GO.alloc rfl fun b10 => ?_; refine GO.assign rfl rfl ?_; refine GO.nil ?_; refine kthen_n ?_; refine G.seq ?_; refine G.seq ?_; refine G.region ?_; refine GO.fieldAddr rfl rfl ?_; refine GO.load1 rfl rfl rfl (Tk.t (Tk.t Tk.h)) rfl ?_; refine GO.nil ?_; refine kthen_n ?_; refine G.block ?_; refine G.seq ?_; refine G.region ?_; refine GO.eqi rfl rfl rfl ?_; refine GO.assign rfl rfl ?_; refine GO.nil ?_; refine kthen_n ?_; refine G.condF rfl rfl ?_; refine G.seq ?_; refine G.region ?_; refine GO.eqT rfl rfl rfl rfl ?_; refine GO.assign rfl rfl ?_; refine GO.nil ?_; refine kthen_n ?_; refine G.condT rfl rfl ?_; refine G.seq ?_; refine G.region ?_; refine GO.move rfl rfl ?_; refine GO.move rfl rfl ?_)
  refine GO.call2 rfl rfl rfl (hA) (Tks.c (Tk.t (Tk.t (Tk.t (Tk.t Tk.h)))) (Tks.c (Tk.t (Tk.t (Tk.t (Tk.t (Tk.t Tk.h))))) (Tks.c (Tk.t (Tk.t (Tk.t (Tk.t (Tk.t Tk.h))))) Tks.n))) ?_
  rintro _ _ ⟨K', po, vo, rfl, hK', hpo, rfl⟩
  obtain ⟨px, rfl⟩ := hpo.has.ptr
  (refine GO.move rfl rfl ?_; refine GO.extract rfl rfl rfl ?_; refine GO.extract rfl rfl rfl ?_; refine GO.assign rfl rfl ?_; refine GO.assign rfl rfl ?_; refine GO.nil ?_; refine kthen_n ?_; refine G.seq ?_; refine G.region ?_; refine GO.loadW rfl rfl rfl (Tk.t (Tk.t (Tk.t (Tk.t (Tk.t (Tk.t (Tk.t Tk.h))))))) rfl ?_; refine GO.loadW rfl rfl rfl (Tk.t (Tk.t (Tk.t (Tk.t (Tk.t Tk.h))))) rfl ?_)
  refine GO.call2 rfl rfl rfl (hR) (Tks.c (Tk.t (Tk.t (Tk.t (Tk.t (Tk.t (Tk.t (Tk.t (Tk.t Tk.h)))))))) Tks.n) ?_
  rintro _ _ ⟨rv, mv, z', rfl, hz', hmv, hsup, rfl⟩
  obtain ⟨v1, rfl, hone1⟩ := hz'.slR
  obtain ⟨v2, rfl, hone2⟩ := hmv.slR
  (refine GO.move rfl rfl ?_; refine GO.extract rfl rfl rfl ?_; refine GO.extract rfl rfl rfl ?_; refine GO.extract rfl rfl rfl ?_; refine GO.alloc rfl fun b21 => ?_; refine GO.alloc rfl fun b22 => ?_; refine GO.storeW rfl rfl (Tk.t Tk.h) ⟨rfl, rfl⟩ (by simp [Value.oneCell']; assumption) ?_; refine GO.storeW rfl rfl (Tk.t Tk.h) ⟨rfl, rfl⟩ (by simp [Value.oneCell']; assumption) ?_; refine GO.assign rfl rfl ?_; refine GO.nil ?_; refine kthen_n ?_; refine G.seq ?_; refine G.region ?_; refine GO.move rfl rfl ?_; refine GO.move rfl rfl ?_; refine GO.eqT rfl rfl rfl rfl ?_; refine GO.move rfl rfl ?_; refine GO.gT rfl rfl rfl ?_; refine GO.move rfl rfl ?_; refine GO.gT rfl rfl rfl ?_; refine GO.loadW rfl rfl rfl Tk.h rfl ?_; refine GO.gT rfl rfl rfl ?_)
  refine GO.call2 rfl rfl rfl (osame_spec po z' q hq _ _ mo hpo.has hmv wj.wf hf) (Tks.c (Tk.t (Tk.t (Tk.t Tk.h))) (Tks.c (Tk.t (Tk.t Tk.h)) (Tks.c (Tk.t (Tk.t (Tk.t (Tk.t Tk.h)))) Tks.n))) ?_
  rintro _ _ ⟨rfl, rfl⟩
  (refine GO.pickT rfl rfl rfl ?_; refine GO.move rfl rfl ?_; refine GO.gT rfl rfl rfl ?_; refine GO.move rfl rfl ?_; refine GO.gT rfl rfl rfl ?_; refine GO.loadW rfl rfl rfl (Tk.t (Tk.t (Tk.t (Tk.t (Tk.t (Tk.t (Tk.t (Tk.t Tk.h)))))))) rfl ?_; refine GO.gT rfl rfl rfl ?_)
  refine GO.call2 rfl rfl rfl (osame_spec pm z' q hq _ _ g hm.has (RefO.sup hsup hrb0) wg.wf hfg) (Tks.c (Tk.t (Tk.t (Tk.t (Tk.t (Tk.t (Tk.t Tk.h)))))) (Tks.c (Tk.t Tk.h) (Tks.c (Tk.t Tk.h) Tks.n))) ?_
  rintro _ _ ⟨rfl, rfl⟩
  (refine GO.pickT rfl rfl rfl ?_; refine GO.assign rfl rfl ?_; refine GO.nil ?_; refine kthen_n ?_; refine G.seq ?_; refine G.region ?_; refine GO.move rfl rfl ?_)
  refine GO.call3 rfl rfl rfl rfl (set_any po _ mo wj hpo 0 0) (Tks.c (Tk.t (Tk.t (Tk.t Tk.h))) Tks.n) ?_
  rintro _ _ ⟨po', rfl⟩
  (refine GO.nil ?_; refine kthen_n ?_; refine G.seq ?_; refine G.region ?_; refine GO.move rfl rfl ?_)
  refine GO.call3 rfl rfl rfl rfl (set_any pm _ g wg hm 0 0) (Tks.c (Tk.t Tk.h) Tks.n) ?_
  rintro _ _ ⟨pm', rfl⟩
  (refine GO.nil ?_; refine kthen_n ?_; refine G.seq ?_; refine G.region ?_; refine GO.loadW rfl rfl rfl (Tk.t (Tk.t (Tk.t (Tk.t (Tk.t Tk.h))))) rfl ?_; refine GO.move rfl rfl ?_; refine GO.storeW rfl rfl (Tk.t (Tk.t (Tk.t (Tk.t (Tk.t (Tk.t (Tk.t Tk.h))))))) ⟨rfl, rfl⟩ (by simp [Value.oneCell']; assumption) ?_; refine GO.assign rfl rfl ?_; refine GO.nil ?_; refine kthen_n ?_; refine G.ret ?_; refine kblock_r ?_; refine kthen_r ?_)
  refine KF2.r2 rfl (RV.cW (n := 2) rfl rfl (by (exact Tk.h)) rfl) (RV.t rfl) ⟨_, K', z', rfl, hK', hz', hsup, rfl⟩ (ImpS.sb ?_)
  ((refine Sb.c (Tk.t (Tk.t (Tk.t (Tk.t (Tk.t (Tk.t (Tk.t Tk.h))))))) ?_; refine Sb.c (Tk.t (Tk.t (Tk.t Tk.h))) ?_; refine Sb.c (Tk.t (Tk.t (Tk.t Tk.h))) ?_); (refine Sb.s ?_; refine Sb.s ?_; refine Sb.s ?_; refine Sb.s ?_; refine Sb.s ?_; refine Sb.s ?_; refine Sb.s ?_; refine Sb.s ?_; exact Sb.r))
end Go.Proofs.YtpfcgfgkmgnaaaaDoor
