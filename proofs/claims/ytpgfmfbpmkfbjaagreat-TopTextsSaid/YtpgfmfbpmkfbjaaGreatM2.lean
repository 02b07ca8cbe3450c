/-
  The law TopTexts, part 2.
-/
import Derived.Test.YtpgfmfbpmkfbjaaGreatM1
namespace Go.Proofs.YtpgfmfbpmkfbjaaGreat
open Go
theorem goU_lt {ms : List MarkD} {i j : Nat} (h : goU ms i = some j) : i ≤ j ∧ i < ms.length := by
  refine ⟨goU_le h, ?_⟩
  unfold goU at h
  split at h
  · rename_i hb
    refine kAt_lt fun h0 => ?_
    rw [h0] at hb
    exact absurd hb (by decide)
  · cases h
theorem goA_lt {ms : List MarkD} {i j : Nat} (h : goA ms i = some j) : i ≤ j ∧ i < ms.length := by
  refine ⟨goA_le h, ?_⟩
  unfold goA at h
  split at h
  · exact kAt_lt (by omega)
  · cases h
abbrev bxP (b1 br : Nat) : HP := pt b1 (row [ptrV br] 131)
attribute [local irreducible] G GO GR GT Fn FnX FnV FnXV pt init exs pur sat own ImpS kAt placeAt
set_option maxHeartbeats 16000000 in
theorem part1_spec (q : HP) (v : Value) (ms : List MarkD) (hq : MarksR q v ms) (br b1 e i : Nat) (hi : i ≤ ms.length) (hms : ¬ 1048576 < ms.length) (ex : Nat → PR) (hin : ∀ j, i ≤ j → j ≤ ms.length → FnX Tryz.prog 124 #[ptrV br] [rdP br v e j, q] (ResR q br v e (unitF ms ex j)) (ResE q br v ms e (unitF ms ex j))) :
    FnX Tryz.prog 125 #[ptrV b1] [rdP br v e i, q, bxP b1 br] (fun r Q => (goU ms i = none ∧ r = .tuple #[.slice none 0 0, .bool false] ∧ Q = [rdP br v e i, q, bxP b1 br]) ∨ (∃ j l k vv, goU ms i = some j ∧ unitF ms ex j = .ok (l, k) ∧ r = .tuple #[vv, .bool true] ∧ Q = [own 64 3 l.length vv (nodesV l), rdP br v e k, q, bxP b1 br]))
      (fun x Q => ∃ j k, goU ms i = some j ∧ unitF ms ex j = .error k ∧ x = wrongV (placeAt ms e k) ∧ Q = [rdP br v e k, q, bxP b1 br]) := by
  have hkind := rkind_spec q v ms hq br e i hi
  refine FnX.mk Tryz.func125 rfl rfl fun w0 F => ?_
  (refine G.seq ?_; refine G.region ?_; refine GO.assign rfl rfl ?_; refine GO.assign rfl rfl ?_; refine GO.nil ?_; refine kthen_n ?_; refine G.seq ?_; refine G.seq ?_; refine G.region ?_; refine GO.load1 rfl rfl rfl (Tk.t (Tk.t Tk.h)) rfl ?_)
  refine GO.call1 rfl rfl (hkind) (Tks.c Tk.h (Tks.c Tk.h Tks.n)) ?_
  rintro _ _ ⟨rfl, rfl⟩
  skip
  refine GO.call1 rfl rfl (begins_spec (kAt ms i)) Tks.n ?_
  rintro _ _ ⟨rfl, rfl⟩
  by_cases hb : beginsK (kAt ms i) = true
  · have hgo : goU ms i = some i := by unfold goU; rw [if_pos hb]
    have hx := hin i (Nat.le_refl _) hi
    clear hin hkind
    generalize hr : unitF ms ex i = res at *
    rw [hb]
    (refine GO.not rfl rfl ?_; refine GO.nil ?_; refine kthen_n ?_; refine G.condF rfl rfl ?_; refine G.skip ?_; refine kthen_n ?_; refine G.seq ?_; refine G.region ?_; refine GO.load1 rfl rfl rfl (Tk.t (Tk.t Tk.h)) rfl ?_)
    refine GO.callX1 rfl rfl (hx) (Tks.c Tk.h (Tks.c Tk.h Tks.n)) ?_ ?_
    · rintro _ _ ⟨k, rfl, rfl, rfl⟩
      (repeat (first | refine kthen_p ?_ | refine kblock_p ?_ | refine kscope_p ?_))
      refine KFX.p ⟨_, k, hgo, hr, rfl, rfl⟩ (ImpS.sb ?_)
      ((refine Sb.c Tk.h ?_; refine Sb.c Tk.h ?_; refine Sb.c Tk.h ?_); (exact Sb.r))
    rintro r _ ⟨l, k, rfl, rfl⟩
    refine GO.ownOne Tk.h fun hone => ?_
    (refine GO.assign rfl rfl ?_; refine GO.assign rfl rfl ?_; refine GO.nil ?_; refine kthen_n ?_; refine G.ret ?_)
    refine KFX.r2 rfl (RV.t rfl) (RV.t rfl) (.inr ⟨_, l, k, r, hgo, hr, rfl, rfl⟩) (ImpS.sb ?_)
    ((refine Sb.c Tk.h ?_; refine Sb.c Tk.h ?_; refine Sb.c Tk.h ?_; refine Sb.c Tk.h ?_); (exact Sb.r))
  · have hgo : goU ms i = none := by unfold goU; rw [if_neg hb]
    have hb2 : beginsK (kAt ms i) = false := by simpa using hb
    rw [hb2]
    (refine GO.not rfl rfl ?_; refine GO.nil ?_; refine kthen_n ?_; refine G.condT rfl rfl ?_; refine G.seq ?_; refine G.region ?_; refine GO.assign rfl rfl ?_; refine GO.assign rfl rfl ?_; refine GO.nil ?_; refine kthen_n ?_; refine G.ret ?_; refine kthen_r ?_)
    refine KFX.r2 rfl (RV.t rfl) (RV.t rfl) (.inl ⟨hgo, rfl, rfl⟩) (ImpS.sb ?_)
    ((refine Sb.c Tk.h ?_; refine Sb.c Tk.h ?_; refine Sb.c Tk.h ?_); (exact Sb.r))
set_option maxHeartbeats 16000000 in
theorem part_spec (q : HP) (v : Value) (ms : List MarkD) (hq : MarksR q v ms) (br e i : Nat) (hi : i ≤ ms.length) (hms : ¬ 1048576 < ms.length) (ex : Nat → PR) (hgo : Goes ms (unitF ms ex)) (hin : ∀ j, i ≤ j → j ≤ ms.length → FnX Tryz.prog 124 #[ptrV br] [rdP br v e j, q] (ResR q br v e (unitF ms ex j)) (ResE q br v ms e (unitF ms ex j))) :
    FnX Tryz.prog 110 #[ptrV br] [rdP br v e i, q] (ResR q br v e (partF ms ex i)) (ResE q br v ms e (partF ms ex i)) := by
  have h0 := hin i (Nat.le_refl _) hi
  have hgi := hgo i
  unfold partF
  generalize hr : unitF ms ex i = ri at h0 hgi ⊢
  refine FnX.mk Tryz.func110 rfl rfl fun w0 F => ?_
  (refine G.seq ?_; refine G.region ?_; refine GO.box rfl rfl rfl fun b1 => ?_; refine GO.assign rfl rfl ?_; refine GO.nil ?_; refine kthen_n ?_; refine G.seq ?_; refine G.region ?_; refine GO.load1 rfl rfl rfl Tk.h rfl ?_)
  refine GO.callX1 rfl rfl (h0) (Tks.c (Tk.t Tk.h) (Tks.c (Tk.t Tk.h) Tks.n)) ?_ ?_
  · rintro _ _ ⟨k, rfl, rfl, rfl⟩
    (repeat (first | refine kthen_p ?_ | refine kblock_p ?_ | refine kscope_p ?_))
    refine KFX.p ⟨k, rfl, rfl, rfl⟩ (ImpS.sb ?_)
    ((refine Sb.c Tk.h ?_; refine Sb.c Tk.h ?_); (refine Sb.s ?_; exact Sb.r))
  rintro r _ ⟨l, k, rfl, rfl⟩
  obtain ⟨g1, g2, g3⟩ := hgi l k rfl
  have hm := many_spec q (bxP b1 br) v ms br e k g2 hms (unitF ms ex) (goU ms) hgo (fun _ _ => goU_lt) (.func (.func 125) #[] #[ptrV b1]) 4 (fun j hj hj2 => FnXV.of (args := []) (caps := [ptrV b1]) (part1_spec q v ms hq br b1 e j hj2 hms ex fun k' hk hk2 => hin k' (by omega) hk2)) r l i g1 g3
  clear hin hq h0
  dsimp only
  (refine GO.makeFunc1 rfl rfl ?_)
  refine GO.callX3 rfl rfl rfl rfl (hm) (Tks.c Tk.h (Tks.c Tk.h (Tks.c Tk.h (Tks.c Tk.h Tks.n)))) ?_ ?_
  · rintro _ _ ⟨k', hr', rfl, rfl⟩
    (repeat (first | refine kthen_p ?_ | refine kblock_p ?_ | refine kscope_p ?_))
    refine KFX.p ⟨k', hr', rfl, rfl⟩ (ImpS.sb ?_)
    ((refine Sb.c Tk.h ?_; refine Sb.c Tk.h ?_); (refine Sb.s ?_; exact Sb.r))
  rintro r' _ ⟨l', k', hr', rfl⟩
  (refine GO.assign rfl rfl ?_; refine GO.nil ?_; refine kthen_n ?_; refine G.ret ?_)
  refine KFX.r1 rfl (RV.t rfl) ⟨l', k', hr', rfl⟩ (ImpS.sb ?_)
  ((refine Sb.c Tk.h ?_; refine Sb.c Tk.h ?_; refine Sb.c Tk.h ?_); (refine Sb.s ?_; exact Sb.r))
set_option maxHeartbeats 16000000 in
theorem expression1_spec (q : HP) (v : Value) (ms : List MarkD) (hq : MarksR q v ms) (br b1 e i : Nat) (hi : i ≤ ms.length) (hms : ¬ 1048576 < ms.length) (ex : Nat → PR) (hin : ∀ j, i ≤ j → j ≤ ms.length → FnX Tryz.prog 110 #[ptrV br] [rdP br v e j, q] (ResR q br v e (partF ms ex j)) (ResE q br v ms e (partF ms ex j))) :
    FnX Tryz.prog 111 #[ptrV b1] [rdP br v e i, q, bxP b1 br] (fun r Q => (goA ms i = none ∧ r = .tuple #[.slice none 0 0, .bool false] ∧ Q = [rdP br v e i, q, bxP b1 br]) ∨ (∃ j l k vv, goA ms i = some j ∧ partF ms ex j = .ok (l, k) ∧ r = .tuple #[vv, .bool true] ∧ Q = [own 64 3 l.length vv (nodesV l), rdP br v e k, q, bxP b1 br]))
      (fun x Q => ∃ j k, goA ms i = some j ∧ partF ms ex j = .error k ∧ x = wrongV (placeAt ms e k) ∧ Q = [rdP br v e k, q, bxP b1 br]) := by
  have hkind := rkind_spec q v ms hq br e i hi
  refine FnX.mk Tryz.func111 rfl rfl fun w0 F => ?_
  (refine G.seq ?_; refine G.region ?_; refine GO.assign rfl rfl ?_; refine GO.assign rfl rfl ?_; refine GO.nil ?_; refine kthen_n ?_; refine G.seq ?_; refine G.seq ?_; refine G.region ?_; refine GO.load1 rfl rfl rfl (Tk.t (Tk.t Tk.h)) rfl ?_)
  refine GO.call1 rfl rfl (hkind) (Tks.c Tk.h (Tks.c Tk.h Tks.n)) ?_
  rintro _ _ ⟨rfl, rfl⟩
  by_cases hb : kAt ms i = 6
  · have hgo : goA ms i = some (i + 1) := by unfold goA; rw [if_pos hb]
    have hlt := kAt_lt (ms := ms) (i := i) (by omega)
    have hx := hin (i + 1) (by omega) hlt
    have d6 : decide ((kAt ms i : Int) ≠ 6) = false := decide_eq_false (by omega)
    clear hin hkind
    generalize hr : partF ms ex (i + 1) = res at *
    (refine GO.nei rfl rfl rfl ?_; refine GO.nil ?_; refine kthen_n ?_; refine G.condF rfl (by assumption) ?_; refine G.skip ?_; refine kthen_n ?_; refine G.seq ?_; refine G.region ?_; refine GO.load1 rfl rfl rfl (Tk.t (Tk.t Tk.h)) rfl ?_; refine GO.nilCheck rfl rfl ?_; refine GO.fieldAddr rfl rfl ?_; refine GO.load1 rfl rfl rfl Tk.h rfl ?_; refine GO.addi rfl rfl rfl (by omega) ?_; refine GO.nilCheck rfl rfl ?_; refine GO.fieldAddr rfl rfl ?_; refine GO.store1 rfl rfl rfl Tk.h (by simp) ?_; refine GO.nil ?_; refine kthen_n ?_; refine G.seq ?_; refine G.region ?_; refine GO.load1 rfl rfl rfl (Tk.t (Tk.t Tk.h)) rfl ?_)
    refine GO.callX1 rfl rfl (hx) (Tks.c Tk.h (Tks.c Tk.h Tks.n)) ?_ ?_
    · rintro _ _ ⟨k, rfl, rfl, rfl⟩
      (repeat (first | refine kthen_p ?_ | refine kblock_p ?_ | refine kscope_p ?_))
      refine KFX.p ⟨_, k, hgo, hr, rfl, rfl⟩ (ImpS.sb ?_)
      ((refine Sb.c Tk.h ?_; refine Sb.c Tk.h ?_; refine Sb.c Tk.h ?_); (exact Sb.r))
    rintro r _ ⟨l, k, rfl, rfl⟩
    refine GO.ownOne Tk.h fun hone => ?_
    (refine GO.assign rfl rfl ?_; refine GO.assign rfl rfl ?_; refine GO.nil ?_; refine kthen_n ?_; refine G.ret ?_)
    refine KFX.r2 rfl (RV.t rfl) (RV.t rfl) (.inr ⟨_, l, k, r, hgo, hr, rfl, rfl⟩) (ImpS.sb ?_)
    ((refine Sb.c Tk.h ?_; refine Sb.c Tk.h ?_; refine Sb.c Tk.h ?_; refine Sb.c Tk.h ?_); (exact Sb.r))
  · have hgo : goA ms i = none := by unfold goA; rw [if_neg hb]
    have d6 : decide ((kAt ms i : Int) ≠ 6) = true := decide_eq_true (by omega)
    (refine GO.nei rfl rfl rfl ?_; refine GO.nil ?_; refine kthen_n ?_; refine G.condT rfl (by assumption) ?_; refine G.seq ?_; refine G.region ?_; refine GO.assign rfl rfl ?_; refine GO.assign rfl rfl ?_; refine GO.nil ?_; refine kthen_n ?_; refine G.ret ?_; refine kthen_r ?_)
    refine KFX.r2 rfl (RV.t rfl) (RV.t rfl) (.inl ⟨hgo, rfl, rfl⟩) (ImpS.sb ?_)
    ((refine Sb.c Tk.h ?_; refine Sb.c Tk.h ?_; refine Sb.c Tk.h ?_); (exact Sb.r))
set_option maxHeartbeats 16000000 in
theorem expression_spec (q : HP) (v : Value) (ms : List MarkD) (hq : MarksR q v ms) (br e i : Nat) (hi : i ≤ ms.length) (hms : ¬ 1048576 < ms.length) (ex : Nat → PR) (hgo : Goes ms (partF ms ex)) (hin : ∀ j, i ≤ j → j ≤ ms.length → FnX Tryz.prog 110 #[ptrV br] [rdP br v e j, q] (ResR q br v e (partF ms ex j)) (ResE q br v ms e (partF ms ex j))) :
    FnX Tryz.prog 85 #[ptrV br] [rdP br v e i, q] (ResR q br v e ((match partF ms ex i with | .error j => .error j | .ok (l, j) => manyR 5 (manyL (partF ms ex) (goA ms) ms.length l 1 j)))) (ResE q br v ms e ((match partF ms ex i with | .error j => .error j | .ok (l, j) => manyR 5 (manyL (partF ms ex) (goA ms) ms.length l 1 j)))) := by
  have h0 := hin i (Nat.le_refl _) hi
  have hgi := hgo i
  generalize hr : partF ms ex i = ri at h0 hgi ⊢
  refine FnX.mk Tryz.func85 rfl rfl fun w0 F => ?_
  (refine G.seq ?_; refine G.region ?_; refine GO.box rfl rfl rfl fun b1 => ?_; refine GO.assign rfl rfl ?_; refine GO.nil ?_; refine kthen_n ?_; refine G.seq ?_; refine G.region ?_; refine GO.load1 rfl rfl rfl Tk.h rfl ?_)
  refine GO.callX1 rfl rfl (h0) (Tks.c (Tk.t Tk.h) (Tks.c (Tk.t Tk.h) Tks.n)) ?_ ?_
  · rintro _ _ ⟨k, rfl, rfl, rfl⟩
    (repeat (first | refine kthen_p ?_ | refine kblock_p ?_ | refine kscope_p ?_))
    refine KFX.p ⟨k, rfl, rfl, rfl⟩ (ImpS.sb ?_)
    ((refine Sb.c Tk.h ?_; refine Sb.c Tk.h ?_); (refine Sb.s ?_; exact Sb.r))
  rintro r _ ⟨l, k, rfl, rfl⟩
  obtain ⟨g1, g2, g3⟩ := hgi l k rfl
  have hm := many_spec q (bxP b1 br) v ms br e k g2 hms (partF ms ex) (goA ms) hgo (fun _ _ => goA_lt) (.func (.func 111) #[] #[ptrV b1]) 5 (fun j hj hj2 => FnXV.of (args := []) (caps := [ptrV b1]) (expression1_spec q v ms hq br b1 e j hj2 hms ex fun k' hk hk2 => hin k' (by omega) hk2)) r l i g1 g3
  clear hin hq h0
  dsimp only
  (refine GO.makeFunc1 rfl rfl ?_)
  refine GO.callX3 rfl rfl rfl rfl (hm) (Tks.c Tk.h (Tks.c Tk.h (Tks.c Tk.h (Tks.c Tk.h Tks.n)))) ?_ ?_
  · rintro _ _ ⟨k', hr', rfl, rfl⟩
    (repeat (first | refine kthen_p ?_ | refine kblock_p ?_ | refine kscope_p ?_))
    refine KFX.p ⟨k', hr', rfl, rfl⟩ (ImpS.sb ?_)
    ((refine Sb.c Tk.h ?_; refine Sb.c Tk.h ?_); (refine Sb.s ?_; exact Sb.r))
  rintro r' _ ⟨l', k', hr', rfl⟩
  (refine GO.assign rfl rfl ?_; refine GO.nil ?_; refine kthen_n ?_; refine G.ret ?_)
  refine KFX.r1 rfl (RV.t rfl) ⟨l', k', hr', rfl⟩ (ImpS.sb ?_)
  ((refine Sb.c Tk.h ?_; refine Sb.c Tk.h ?_; refine Sb.c Tk.h ?_); (refine Sb.s ?_; exact Sb.r))
/-- An expression is read as told. -/
theorem expr_ok (q : HP) (v : Value) (ms : List MarkD) (hq : MarksR q v ms) (br e : Nat) (hms : ¬ 1048576 < ms.length) : ∀ (f i : Nat), i ≤ ms.length → ms.length - i < f → ExOK q br v ms e i (exprF ms f i)
  | 0, i, _, h => by omega
  | f + 1, i, hi, h => by
    have ih := expr_ok q v ms hq br e hms f
    have hu : ∀ j, i ≤ j → j ≤ ms.length → FnX Tryz.prog 124 #[ptrV br] [rdP br v e j, q] (ResR q br v e (unitF ms (exprF ms f) j)) (ResE q br v ms e (unitF ms (exprF ms f) j)) := fun j hj hj2 =>
      unit_spec q v ms hq br e j hj2 hms (exprF ms f) (exprF_goes ms f) fun k hk hk2 => ih k hk2 (by omega)
    have hp : ∀ j, i ≤ j → j ≤ ms.length → FnX Tryz.prog 110 #[ptrV br] [rdP br v e j, q] (ResR q br v e (partF ms (exprF ms f) j)) (ResE q br v ms e (partF ms (exprF ms f) j)) := fun j hj hj2 =>
      part_spec q v ms hq br e j hj2 hms (exprF ms f) (unitF_goes (exprF_goes ms f)) fun k hk hk2 => hu k (by omega) hk2
    exact expression_spec q v ms hq br e i hi hms (exprF ms f) (partF_goes (exprF_goes ms f)) hp
end Go.Proofs.YtpgfmfbpmkfbjaaGreat
namespace Go.Proofs.YtpgfmfbpmkfbjaaGreat
open Go
theorem takeWhile_take {α : Type} (f : α → Bool) : ∀ (l : List α) (n : Nat), (l.take n).takeWhile f = (l.takeWhile f).take n
  | [], n => by simp
  | x :: l, 0 => by simp
  | x :: l, n + 1 => by
    rw [List.take_succ_cons, List.takeWhile_cons, List.takeWhile_cons]
    split
    · rw [List.take_succ_cons, takeWhile_take f l n]
    · rfl
theorem run_cut (f : UInt8 → Bool) (s : List UInt8) {i p : Nat} (h1 : i ≤ p) (h2 : p ≤ s.length) : i + (((s.take p).drop i).takeWhile f).length = min p (i + ((s.drop i).takeWhile f).length) := by
  rw [List.drop_take, takeWhile_take, List.length_take]
  omega
theorem skipN_cut (s : List UInt8) {i p : Nat} (h1 : i ≤ p) (h2 : p ≤ s.length) : skipN (s.take p) i = min p (skipN s i) := run_cut blankB s h1 h2
theorem wordN_cut (s : List UInt8) {i p : Nat} (h1 : i ≤ p) (h2 : p ≤ s.length) : wordN (s.take p) i = min p (wordN s i) := run_cut innerB s h1 h2
theorem nextM_place (s : List UInt8) (i : Nat) : (nextM s i).place = skipN s i := by
  unfold nextM
  cases s[skipN s i]? with
  | none => rfl
  | some b =>
    dsimp only
    split
    · rfl
    · split <;> rfl
/-- Cut ahead of the next mark. -/
theorem nextM_before {s : List UInt8} {i p : Nat} (h1 : i ≤ p) (h2 : p ≤ s.length) (h : p ≤ (nextM s i).place) : nextM (s.take p) i = ⟨0, p, []⟩ := by
  rw [nextM_place] at h
  have e : skipN (s.take p) i = p := by rw [skipN_cut s h1 h2]; omega
  unfold nextM
  rw [e, List.getElem?_eq_none (by rw [List.length_take]; omega)]
theorem nextM_behind {s : List UInt8} {i p : Nat} (h2 : p ≤ s.length) (hk : (nextM s i).kind ≠ 0) (h : (nextM s i).place + (nextM s i).text.length ≤ p) (hi : i ≤ s.length) : nextM (s.take p) i = nextM s i := by
  obtain ⟨g1, g2, g3⟩ := nextM_le hi
  have hp := g3 hk
  rw [nextM_place] at g1 h g2
  have h1 : i ≤ p := Nat.le_trans g1 (by omega)
  have e : skipN (s.take p) i = skipN s i := by rw [skipN_cut s h1 h2]; omega
  unfold nextM at hk h hp ⊢
  rw [e]
  have eg : (s.take p)[skipN s i]? = s[skipN s i]? := by rw [List.getElem?_take, if_pos (by omega)]
  rw [eg]
  cases hb : s[skipN s i]? with
  | none => exact absurd (by rw [hb]) hk
  | some b =>
    rw [hb] at h hp hk
    dsimp only at h hp hk ⊢
    have hlt : skipN s i < s.length := (List.getElem?_eq_some_iff.1 hb).1
    split
    · rfl
    · rename_i hk0
      rw [if_neg hk0] at h hp
      split
      · rename_i hk3
        rw [if_pos hk3] at h hp
        simp only at h hp
        have hw : wordN s (skipN s i + 1) ≤ s.length := wordN_le (by omega)
        rw [List.length_take, List.length_drop] at h
        have hw2 : skipN s i + 1 ≤ wordN s (skipN s i + 1) := by unfold wordN; omega
        rw [wordN_cut s (by omega) h2, show min p (wordN s (skipN s i + 1)) = wordN s (skipN s i + 1) by omega, List.drop_take, List.take_take]
        congr 2
        omega
      · rename_i hk3
        rw [if_neg hk3] at h hp
        rw [List.drop_take, List.take_take]
        simp only [List.length_take, List.length_drop] at h
        congr 2
        omega
theorem scan_ge (s : List UInt8) : ∀ (f i j : Nat), i ≤ s.length → s.length - i < f → i ≤ placeAt (scanL s f i) (scanE s f i) j ∧ placeAt (scanL s f i) (scanE s f i) j ≤ s.length
  | 0, _, _, _, h => by omega
  | f + 1, i, j, hi, hf => by
    obtain ⟨h1, h2, h3⟩ := nextM_le hi
    simp only [scanL, scanE]
    by_cases hk : (nextM s i).kind = 0
    · rw [if_pos hk, if_pos hk]
      show i ≤ (nextM s i).place ∧ (nextM s i).place ≤ s.length
      omega
    · rw [if_neg hk, if_neg hk]
      have := h3 hk
      cases j with
      | zero => show i ≤ (nextM s i).place ∧ (nextM s i).place ≤ s.length; omega
      | succ j =>
        have := scan_ge s f _ j h2 (by omega)
        show i ≤ placeAt (scanL s f _) (scanE s f _) j ∧ placeAt (scanL s f _) (scanE s f _) j ≤ s.length
        omega
theorem scan_stop {s : List UInt8} {i : Nat} (f : Nat) (h : (nextM s i).kind = 0) : scanL s (f + 1) i = [] ∧ scanE s (f + 1) i = (nextM s i).place := by
  simp only [scanL, scanE]
  rw [if_pos h, if_pos h]
  exact ⟨rfl, rfl⟩
theorem scan_go {s : List UInt8} {i : Nat} (f : Nat) (h : (nextM s i).kind ≠ 0) : scanL s (f + 1) i = nextM s i :: scanL s f ((nextM s i).place + (nextM s i).text.length) ∧ scanE s (f + 1) i = scanE s f ((nextM s i).place + (nextM s i).text.length) := by
  simp only [scanL, scanE]
  rw [if_neg h, if_neg h]
  exact ⟨rfl, rfl⟩
theorem scan_before {s : List UInt8} {i p : Nat} (f : Nat) (h1 : i ≤ p) (h2 : p ≤ s.length) (h : p ≤ (nextM s i).place) : scanL (s.take p) (f + 1) i = [] ∧ scanE (s.take p) (f + 1) i = p := by
  have e := nextM_before h1 h2 h
  have := scan_stop (s := s.take p) (i := i) f (by rw [e])
  rw [e] at this
  exact this
/-- The marks of a text that is cut ahead of its j-th mark, or behind its last. -/
theorem scan_cut (s : List UInt8) : ∀ (f i j f' : Nat), i ≤ s.length → s.length - i < f → j ≤ (scanL s f i).length → placeAt (scanL s f i) (scanE s f i) j - i < f' →
    scanL (s.take (placeAt (scanL s f i) (scanE s f i) j)) f' i = (scanL s f i).take j ∧ scanE (s.take (placeAt (scanL s f i) (scanE s f i) j)) f' i = placeAt (scanL s f i) (scanE s f i) j
  | 0, _, _, _, _, h, _, _ => by omega
  | f + 1, i, j, 0, hi, hf, hj, hf' => by omega
  | f + 1, i, j, f' + 1, hi, hf, hj, hf' => by
    obtain ⟨h1, h2, h3⟩ := nextM_le hi
    obtain ⟨g1, g2⟩ := scan_ge s (f + 1) i j hi hf
    by_cases hk : (nextM s i).kind = 0
    · obtain ⟨e1, e2⟩ := scan_stop f hk
      rw [e1, e2] at g1 g2 hf' ⊢
      change i ≤ (nextM s i).place at g1
      change (nextM s i).place ≤ s.length at g2
      change scanL (s.take (nextM s i).place) (f' + 1) i = [].take j ∧ scanE (s.take (nextM s i).place) (f' + 1) i = (nextM s i).place
      rw [List.take_nil]
      exact scan_before f' g1 g2 (Nat.le_refl _)
    · obtain ⟨e1, e2⟩ := scan_go f hk
      rw [e1] at hj
      rw [e1, e2] at g1 g2 hf' ⊢
      have := h3 hk
      cases j with
      | zero => exact scan_before f' g1 g2 (Nat.le_refl _)
      | succ j =>
        have hge := (scan_ge s f ((nextM s i).place + (nextM s i).text.length) j h2 (by omega)).1
        simp only [List.length_cons] at hj
        change placeAt (scanL s f _) (scanE s f _) j ≤ s.length at g2
        change placeAt (scanL s f _) (scanE s f _) j - i < f' + 1 at hf'
        generalize hi2 : (nextM s i).place + (nextM s i).text.length = i2 at *
        change scanL (s.take (placeAt (scanL s f i2) (scanE s f i2) j)) (f' + 1) i = nextM s i :: (scanL s f i2).take j ∧ scanE (s.take (placeAt (scanL s f i2) (scanE s f i2) j)) (f' + 1) i = placeAt (scanL s f i2) (scanE s f i2) j
        have hb := nextM_behind g2 hk (by omega) hi
        obtain ⟨k1, k2⟩ := scan_cut s f i2 j f' h2 (by omega) (by omega) (by omega)
        generalize placeAt (scanL s f i2) (scanE s f i2) j = p at *
        obtain ⟨d1, d2⟩ := scan_go (s := s.take p) (i := i) f' (by rw [hb]; exact hk)
        rw [d1, d2, hb, hi2, k1, k2]
        exact ⟨rfl, rfl⟩
theorem marks_cut (s : List UInt8) {j : Nat} (hj : j ≤ (marksF s).length) : marksF (s.take (placeAt (marksF s) (badF s) j)) = (marksF s).take j ∧ badF (s.take (placeAt (marksF s) (badF s) j)) = placeAt (marksF s) (badF s) j := by
  have hle := (scan_ge s (s.length + 1) 0 j (Nat.zero_le _) (by omega)).2
  have := scan_cut s (s.length + 1) 0 j ((s.take (placeAt (marksF s) (badF s) j)).length + 1) (Nat.zero_le _) (by omega) hj (by
    change _ ≤ _ at hle
    rw [List.length_take]
    unfold marksF badF
    omega)
  exact this
theorem placeAt_le (s : List UInt8) (j : Nat) : placeAt (marksF s) (badF s) j ≤ s.length := (scan_ge s (s.length + 1) 0 j (Nat.zero_le _) (by omega)).2
theorem marks_all (s : List UInt8) : marksF (s.take (badF s)) = marksF s ∧ badF (s.take (badF s)) = badF s := by
  have := marks_cut s (Nat.le_refl (marksF s).length)
  rw [placeAt_none (Nat.le_refl _), List.take_length] at this
  exact this
/-! ## Behind a place -/
def shiftM (a : Nat) (m : MarkD) : MarkD := ⟨m.kind, m.place + a, m.text⟩
theorem skipN_drop (s : List UInt8) (a i : Nat) : skipN s (a + i) = skipN (s.drop a) i + a := by
  unfold skipN
  rw [List.drop_drop]
  omega
theorem wordN_drop (s : List UInt8) (a i : Nat) : wordN s (a + i) = wordN (s.drop a) i + a := by
  unfold wordN
  rw [List.drop_drop]
  omega
theorem nextM_drop (s : List UInt8) (a i : Nat) : nextM s (a + i) = shiftM a (nextM (s.drop a) i) := by
  unfold nextM
  rw [skipN_drop]
  have e : s[skipN (s.drop a) i + a]? = (s.drop a)[skipN (s.drop a) i]? := by rw [List.getElem?_drop, Nat.add_comm]
  rw [e]
  cases (s.drop a)[skipN (s.drop a) i]? with
  | none => rfl
  | some b =>
    dsimp only
    have ed : s.drop (skipN (s.drop a) i + a) = (s.drop a).drop (skipN (s.drop a) i) := by rw [List.drop_drop, Nat.add_comm]
    split
    · rfl
    · split
      · rw [show skipN (s.drop a) i + a + 1 = a + (skipN (s.drop a) i + 1) by omega, wordN_drop, ed]
        show MarkD.mk _ _ _ = MarkD.mk _ _ _
        congr 2
        omega
      · rw [ed]; rfl
theorem scan_drop (s : List UInt8) (a : Nat) : ∀ (f i : Nat), scanL s f (a + i) = (scanL (s.drop a) f i).map (shiftM a) ∧ scanE s f (a + i) = scanE (s.drop a) f i + a
  | 0, i => ⟨rfl, by show a + i = i + a; omega⟩
  | f + 1, i => by
    simp only [scanL, scanE]
    rw [nextM_drop]
    show (if (nextM (s.drop a) i).kind = 0 then _ else _) = _ ∧ (if (nextM (s.drop a) i).kind = 0 then _ else _) = _
    split
    · exact ⟨rfl, rfl⟩
    · have e : (shiftM a (nextM (s.drop a) i)).place + (shiftM a (nextM (s.drop a) i)).text.length = a + ((nextM (s.drop a) i).place + (nextM (s.drop a) i).text.length) := by
        show (nextM (s.drop a) i).place + a + (nextM (s.drop a) i).text.length = _
        omega
      rw [e, (scan_drop s a f _).1, (scan_drop s a f _).2]
      exact ⟨rfl, rfl⟩
/-- From the place of the j-th mark on. -/
theorem nextM_again {s : List UInt8} {i : Nat} (hk : (nextM s i).kind ≠ 0) : nextM s (nextM s i).place = nextM s i := by
  have hs : skipN s (skipN s i) = skipN s i := by
    have : ∃ b, s[skipN s i]? = some b ∧ blankB b = false := by
      unfold nextM at hk
      cases hb : s[skipN s i]? with
      | none => rw [hb] at hk; exact absurd rfl hk
      | some b =>
        refine ⟨b, rfl, ?_⟩
        rw [hb] at hk
        dsimp only at hk
        cases hbl : blankB b with
        | false => rfl
        | true =>
          refine absurd ?_ hk
          have : kindB b = 0 := by
            unfold blankB at hbl
            simp only [Bool.or_eq_true, decide_eq_true_eq] at hbl
            unfold kindB innerB
            rw [if_neg (by omega), if_neg (by omega), if_neg (by omega), if_neg (by omega), if_neg (by omega), if_neg (by omega), if_neg (by omega), if_neg (by omega), if_neg (by omega), if_neg (by omega), if_neg (by omega), if_neg]
            simp only [Bool.or_eq_true, Bool.and_eq_true, decide_eq_true_eq]
            omega
          rw [if_pos this]
    obtain ⟨b, hb, hbl⟩ := this
    exact run_stop hb hbl
  rw [nextM_place]
  unfold nextM
  rw [hs]
theorem scan_fuel (s : List UInt8) : ∀ (f f' i : Nat), i ≤ s.length → s.length - i < f → s.length - i < f' → scanL s f i = scanL s f' i ∧ scanE s f i = scanE s f' i
  | 0, _, _, _, h, _ => by omega
  | _ + 1, 0, _, _, _, h => by omega
  | f + 1, f' + 1, i, hi, hf, hf' => by
    obtain ⟨h1, h2, h3⟩ := nextM_le hi
    by_cases hk : (nextM s i).kind = 0
    · rw [(scan_stop f hk).1, (scan_stop f hk).2, (scan_stop f' hk).1, (scan_stop f' hk).2]
      exact ⟨rfl, rfl⟩
    · have := h3 hk
      obtain ⟨k1, k2⟩ := scan_fuel s f f' _ h2 (by omega) (by omega)
      rw [(scan_go f hk).1, (scan_go f hk).2, (scan_go f' hk).1, (scan_go f' hk).2, k1, k2]
      exact ⟨rfl, rfl⟩
theorem scan_from (s : List UInt8) : ∀ (f i j f' : Nat), i ≤ s.length → s.length - i < f → j < (scanL s f i).length → s.length - placeAt (scanL s f i) (scanE s f i) j < f' →
    scanL s f' (placeAt (scanL s f i) (scanE s f i) j) = (scanL s f i).drop j ∧ scanE s f' (placeAt (scanL s f i) (scanE s f i) j) = scanE s f i
  | 0, _, _, _, _, h, _, _ => by omega
  | _ + 1, _, _, 0, _, _, _, h => by omega
  | f + 1, i, j, f' + 1, hi, hf, hj, hf' => by
    obtain ⟨h1, h2, h3⟩ := nextM_le hi
    by_cases hk : (nextM s i).kind = 0
    · rw [(scan_stop f hk).1] at hj
      simp at hj
    · have := h3 hk
      obtain ⟨e1, e2⟩ := scan_go f hk
      rw [e1] at hj
      rw [e1, e2] at hf' ⊢
      cases j with
      | zero =>
        change s.length - (nextM s i).place < f' + 1 at hf'
        change scanL s (f' + 1) (nextM s i).place = nextM s i :: _ ∧ scanE s (f' + 1) (nextM s i).place = _
        have ha := nextM_again hk
        obtain ⟨d1, d2⟩ := scan_go (s := s) (i := (nextM s i).place) f' (by rw [ha]; exact hk)
        rw [ha] at d1 d2
        obtain ⟨k1, k2⟩ := scan_fuel s f f' ((nextM s i).place + (nextM s i).text.length) h2 (by omega) (by omega)
        rw [d1, d2, k1, k2]
        exact ⟨rfl, rfl⟩
      | succ j =>
        simp only [List.length_cons] at hj
        exact scan_from s f ((nextM s i).place + (nextM s i).text.length) j (f' + 1) h2 (by omega) (by omega) hf'
end Go.Proofs.YtpgfmfbpmkfbjaaGreat
namespace Go.Proofs.YtpgfmfbpmkfbjaaGreat
open Go
/-- What Read answers: the nodes, a place, an error. -/
def readF (s : List UInt8) : List NodeD × Nat × Nat :=
  if 2048 < s.length then ([], 0, 3) else
  match exprF (marksF s) ((marksF s).length + 1) 0 with
  | .error k => ([], placeAt (marksF s) (badF s) k, 172)
  | .ok (l, k) => if k < (marksF s).length ∨ badF s < s.length then ([], placeAt (marksF s) (badF s) k, 172) else (l, 0, 0)
theorem ImpS.ownNil0 {T : TypeId} {H : List HP} : ImpS H (Go.Proofs.YtpgfmfbpmkfbjaaGreat.own T 3 ([] : List NodeD).length (.slice none 0 0) (nodesV []) :: H) := fun _ _ s => own_nil s
attribute [local irreducible] G GO GR GT Fn FnX FnV FnXV Dfr pt init exs pur sat own ImpS kAt placeAt
set_option maxHeartbeats 4000000 in
theorem read1_calm (c2 c3 c4 : Nat) : Dfr Tryz.prog 84 #[ptrV c2, ptrV c3, ptrV c4] .returning .returning [] (fun _ Q => Q = []) := by
  refine Dfr.mk Tryz.func84 rfl rfl rfl rfl Rcv.calm fun w0 F => ?_
  (refine G.seq ?_; refine G.region ?_; refine GO.move rfl rfl ?_)
  refine GO.neqIfN rfl rfl ?_
  (refine GO.nil ?_; refine kthen_n ?_; refine G.condF rfl rfl ?_; refine G.skip ?_)
  refine KF2.n0 rfl rfl (ImpS.sb ?_)
  (skip; (exact Sb.r))
set_option maxHeartbeats 4000000 in
theorem read1_caught (c2 c3 c4 i : Nat) (x y z : Value) : Dfr Tryz.prog 84 #[ptrV c2, ptrV c3, ptrV c4] (.panicking (chn (wrongV i))) (.panicking [{ v := wrongV i, recovered := true }]) [pt c2 (row [x] 58), pt c3 (row [y] 3), pt c4 (row [z] 23)]
    (fun _ Q => Q = [pt c2 (row [.slice none 0 0] 58), pt c3 (row [i64 (i : Nat)] 3), pt c4 (row [i64 172] 23)]) := by
  refine Dfr.mk Tryz.func84 rfl rfl rfl rfl (Rcv.caught (wrongV i)) fun w0 F => ?_
  (refine G.seq ?_; refine G.region ?_; refine GO.move rfl rfl ?_)
  refine GO.neqIf rfl rfl ?_
  (refine GO.nil ?_; refine kthen_n ?_; refine G.condT rfl rfl ?_; refine G.seq ?_; refine G.region ?_; refine GO.move rfl rfl ?_)
  refine GO.assertT rfl rfl rfl ?_
  (refine GO.move rfl rfl ?_; refine GO.extract rfl rfl rfl ?_; refine GO.extract rfl rfl rfl ?_; refine GO.alloc rfl fun b4 => ?_; refine GO.storeW rfl rfl Tk.h ⟨rfl, rfl⟩ (by simp [Value.oneCell']) ?_; refine GO.assign rfl rfl ?_; refine GO.nil ?_; refine kthen_n ?_; refine G.seq ?_; refine G.seq ?_; refine G.region ?_; refine GO.move rfl rfl ?_; refine GO.not rfl rfl ?_; refine GO.nil ?_; refine kthen_n ?_; refine G.condF rfl rfl ?_; refine G.skip ?_; refine kthen_n ?_)
  refine G.drawT 5 28 [pt b4 (row [i64 (i : Nat)] 129)] (pt c2 (row [x] 58) :: pt c3 (row [y] 3) :: pt c4 (row [z] 23) :: F) (by kernel_rfl) (keys_of rfl) (ImpS.sb (by ((refine Sb.c Tk.h ?_; refine Sb.c Tk.h ?_; refine Sb.c Tk.h ?_; refine Sb.c Tk.h ?_); (exact Sb.r)))) ?_
  ((apply GR.step rfl; focus (intro Z; refine GO.fieldAddr rfl rfl ?_; exact KQ.z)); (apply GR.step rfl; focus (intro Z; refine GO.load1 rfl rfl rfl Tk.h rfl ?_; exact KQ.z)); refine GR.skip rfl ?_; refine GR.skip rfl ?_; refine GR.skip rfl ?_; refine GR.nil ?_)
  (repeat refine GT.skip rfl ?_)
  refine GT.step rfl ?_
  (refine GO.store1 rfl rfl rfl (Tk.t Tk.h) (by simp) ?_; refine GO.nil ?_)
  refine ⟨rfl, .tuple #[], pt c2 (row [.slice none 0 0] 58) :: pt c3 (row [y] 3) :: pt c4 (row [z] 23) :: F, rfl, ImpS.sb (by ((refine Sb.c (Tk.t Tk.h) ?_; refine Sb.c Tk.h ?_; refine Sb.c Tk.h ?_; refine Sb.c Tk.h ?_); (exact Sb.r))), ?_⟩
  (repeat refine GT.skip rfl ?_)
  refine GT.step rfl ?_
  (refine GO.store1 rfl rfl rfl (Tk.t (Tk.t Tk.h)) (by simp) ?_; refine GO.nil ?_)
  refine ⟨rfl, .tuple #[], pt c2 (row [.slice none 0 0] 58) :: pt c3 (row [i64 (i : Nat)] 3) :: pt c4 (row [z] 23) :: F, rfl, ImpS.sb (by ((refine Sb.c (Tk.t Tk.h) ?_; refine Sb.c (Tk.t Tk.h) ?_; refine Sb.c Tk.h ?_; refine Sb.c Tk.h ?_); (exact Sb.r))), ?_⟩
  (repeat refine GT.skip rfl ?_)
  refine GT.step rfl ?_
  (refine GO.store1 rfl rfl rfl (Tk.t (Tk.t (Tk.t Tk.h))) (by simp) ?_; refine GO.nil ?_)
  refine ⟨rfl, .tuple #[], pt c2 (row [.slice none 0 0] 58) :: pt c3 (row [i64 (i : Nat)] 3) :: pt c4 (row [i64 172] 23) :: F, rfl, ImpS.sb (by ((refine Sb.c (Tk.t Tk.h) ?_; refine Sb.c (Tk.t Tk.h) ?_; refine Sb.c (Tk.t Tk.h) ?_; refine Sb.c Tk.h ?_); (exact Sb.r))), ?_⟩
  refine GT.nil ?_
  (refine GO.nil ?_)
  refine KF2.n0 rfl rfl (ImpS.sb ?_)
  ((refine Sb.c (Tk.t Tk.h) ?_; refine Sb.c (Tk.t Tk.h) ?_; refine Sb.c (Tk.t Tk.h) ?_); (refine Sb.s ?_; exact Sb.r))
/-- What Read answers, as it lies in memory. -/
def ReadR (z : List NodeD × Nat × Nat) : Value → List HP → Prop := fun r Q => ∃ v, r = .tuple #[v, i64 (z.2.1 : Nat), i64 (z.2.2 : Nat)] ∧ v.oneCell' = true ∧ Q = [own 64 3 z.1.length v (nodesV z.1)]
theorem built_reader (n : Nat) : Tryz.prog.built 133 [(2, i64 (n : Nat))] = some [.slice none 0 0, i64 0, i64 (n : Nat)].toArray := by kernel_rfl
theorem scan_whole (s : List UInt8) (hs : ¬ 1048576 < s.length) : Fn Tryz.prog 13 #[str (s.take (badF s))] [] (fun r Q => ∃ v, r = .tuple #[v, i64 0, i64 0] ∧ v.oneCell' = true ∧ Q = [own 54 3 (marksF s).length v (marksV (marksF s))]) := by
  obtain ⟨h1, h2⟩ := marks_all s
  have hb := badF_le s
  refine (scan_spec (s.take (badF s)) (by rw [List.length_take]; omega)).mono ?_
  rintro r Q (⟨h, _⟩ | ⟨_, v, h3, h4, h5⟩)
  · rw [h2, List.length_take] at h; omega
  · rw [h1] at h5
    exact ⟨v, h3, h4, h5⟩
set_option maxHeartbeats 32000000 in
set_option maxRecDepth 40000 in
theorem read_spec (s : List UInt8) : Fn Tryz.prog 52 #[str s] [] (ReadR (readF s)) := by
  refine Fn.mkD Tryz.func52 rfl rfl fun w0 F => ?_
  refine GZ.seq ?_
  (refine G.region ?_; refine GO.alloc rfl fun b2 => ?_; refine GO.alloc rfl fun b3 => ?_; refine GO.alloc rfl fun b4 => ?_; refine GO.nil ?_; refine kthen_n ?_)
  refine GZ.seq ?_
  by_cases hlen : 2048 < s.length
  · have e1 : decide ((2048 : Int) < (s.length : Int)) = true := decide_eq_true (by omega)
    have hr : readF s = ([], 0, 3) := by unfold readF; rw [if_pos hlen]
    rw [hr]
    (refine G.seq ?_; refine G.region ?_; refine GO.move rfl rfl ?_; refine GO.strLen rfl rfl ?_; refine GO.gti rfl rfl rfl ?_; refine GO.nil ?_; refine kthen_n ?_; refine G.condT rfl (by assumption) ?_; refine G.seq ?_; refine G.region ?_; refine GO.store1 rfl rfl rfl (Tk.t (Tk.t Tk.h)) (by decide) ?_; refine GO.store1 rfl rfl rfl (Tk.t (Tk.t Tk.h)) (by decide) ?_; refine GO.store1 rfl rfl rfl (Tk.t (Tk.t Tk.h)) (by decide) ?_; refine GO.nil ?_; refine kthen_n ?_; refine G.ret ?_; refine kthen_r ?_)
    refine KF2.r3 rfl (RV.c1 rfl rfl (Tk.t (Tk.t Tk.h)) rfl) (RV.c1 rfl rfl (Tk.t Tk.h) rfl) (RV.c1 rfl rfl Tk.h rfl) ⟨.slice none 0 0, rfl, rfl, rfl⟩ (ImpS.trans (ImpS.sb (M := F) ?_) ImpS.ownNil0)
    (skip; (refine Sb.s ?_; refine Sb.s ?_; refine Sb.s ?_; exact Sb.r))
  have e1 : decide ((2048 : Int) < (s.length : Int)) = false := decide_eq_false (by omega)
  have hlM := marksF_len s
  have hbl := badF_le s
  have hwh := scan_whole s (by omega)
  have hrd : readF s = match exprF (marksF s) ((marksF s).length + 1) 0 with
      | .error k => ([], placeAt (marksF s) (badF s) k, 172)
      | .ok (l, k) => if k < (marksF s).length ∨ badF s < s.length then ([], placeAt (marksF s) (badF s) k, 172) else (l, 0, 0) := by
    unfold readF; rw [if_neg hlen]
  have hex : ∀ q v br e, MarksR q v (marksF s) → ExOK q br v (marksF s) e 0 (exprF (marksF s) ((marksF s).length + 1) 0) := fun q v br e hq => expr_ok q v (marksF s) hq br e (by omega) _ 0 (Nat.zero_le _) (by omega)
  have hfl : ∀ q v br e i, MarksR q v (marksF s) → i ≤ (marksF s).length → _ := fun q v br e i hq => fail_spec q v (marksF s) hq br e i
  have hgo := exprF_goes (marksF s) ((marksF s).length + 1) 0
  have hsc := scan_spec s (by omega)
  generalize exprF (marksF s) ((marksF s).length + 1) 0 = ex at hrd hex hgo
  rw [hrd]
  generalize badF s = bad at *
  generalize marksF s = ms at *
  clear hrd
  (refine G.seq ?_; refine G.region ?_; refine GO.move rfl rfl ?_; refine GO.strLen rfl rfl ?_; refine GO.gti rfl rfl rfl ?_; refine GO.nil ?_; refine kthen_n ?_; refine G.condF rfl (by assumption) ?_; refine G.skip ?_; refine kthen_n ?_)
  refine GZ.defer (vs := [ptrV b2, ptrV b3, ptrV b4]) rfl ⟨rfl, rfl, rfl, trivial⟩ ?_
  (refine G.seq ?_; refine G.region ?_; refine GO.move rfl rfl ?_; refine GO.strLen rfl rfl ?_)
  refine GO.buildPart1 (built_reader s.length) rfl rfl ?_
  (refine GO.box rfl rfl rfl fun b16 => ?_; refine GO.assign rfl rfl ?_; refine GO.nil ?_; refine kthen_n ?_; refine G.seq ?_; refine G.region ?_; refine GO.move rfl rfl ?_)
  refine GO.call1 rfl rfl (hsc) Tks.n ?_
  rintro _ _ (⟨hb, rfl, rfl⟩ | ⟨hb, v, rfl, hv1, rfl⟩)
  · have d1 : decide ((160 : Int) ≠ 0) = true := rfl
    (refine GO.move rfl rfl ?_; refine GO.extract rfl rfl rfl ?_; refine GO.extract rfl rfl rfl ?_; refine GO.extract rfl rfl rfl ?_; refine GO.assign rfl rfl ?_; refine GO.assign rfl rfl ?_; refine GO.assign rfl rfl ?_; refine GO.nil ?_; refine kthen_n ?_; refine G.seq ?_; refine G.seq ?_; refine G.region ?_; refine GO.move rfl rfl ?_; refine GO.nei rfl rfl rfl ?_; refine GO.nil ?_; refine kthen_n ?_; refine G.condT rfl rfl ?_; refine G.seq ?_; refine G.region ?_; refine GO.move rfl rfl ?_; refine GO.move rfl rfl ?_; refine GO.nilCheck rfl rfl ?_; refine GO.fieldAddr rfl rfl ?_; refine GO.store1 rfl rfl rfl Tk.h (by simp) ?_; refine GO.nil ?_; refine kthen_n ?_; refine G.region ?_; refine GO.move rfl rfl ?_; refine GO.move rfl rfl ?_)
    refine GO.strHi rfl rfl rfl ⟨rfl, by omega⟩ ?_
    skip
    refine GO.call1 rfl rfl (hwh) Tks.n ?_
    rintro _ _ ⟨v, rfl, hv1, rfl⟩
    (refine GO.move rfl rfl ?_; refine GO.extract rfl rfl rfl ?_; refine GO.extract rfl rfl rfl ?_; refine GO.extract rfl rfl rfl ?_; refine GO.assign rfl rfl ?_; refine GO.nil ?_; refine kthen_n ?_; refine G.seq ?_; refine G.region ?_; refine GO.move rfl rfl ?_; refine GO.move rfl rfl ?_; refine GO.nilCheck rfl rfl ?_; refine GO.fieldAddr rfl rfl ?_; refine GO.store1 rfl rfl (by assumption) (Tk.t Tk.h) (by simp) ?_; refine GO.nil ?_; refine kthen_n ?_; refine G.seq ?_; refine G.region ?_; refine GO.move rfl rfl ?_)
    refine GO.ownRd (n := ms.length) (v := v) (xs := marksV ms) (Tk.t Tk.h) fun q hq => ?_
    obtain ⟨am, cm, rfl⟩ := marks_sl hq
    have hx := hex q _ b16 bad hq
    have hf := fun k (hk : k ≤ ms.length) => fail_spec q _ ms hq b16 bad k hk
    unfold ExOK at hx
    clear hq hex hfl
    skip
    refine GO.callX1 rfl rfl (hx) (Tks.c (Tk.t Tk.h) (Tks.c Tk.h Tks.n)) ?_ ?_
    · rintro _ _ ⟨k, rfl, rfl, rfl⟩
      (repeat (first | refine kthen_p ?_ | refine kblock_p ?_ | refine kscope_p ?_))
      refine KFD.p3 (read1_caught b2 b3 b4 (placeAt ms bad k) _ _ _) (X := F) (ImpS.sb (by ((refine Sb.c (Tk.t (Tk.t (Tk.t (Tk.t Tk.h)))) ?_; refine Sb.c (Tk.t (Tk.t (Tk.t Tk.h))) ?_; refine Sb.c (Tk.t (Tk.t Tk.h)) ?_); (refine Sb.s ?_; refine Sb.s ?_; exact Sb.r)))) rfl (RV.c1 rfl rfl Tk.h rfl) (RV.c1 rfl rfl (Tk.t Tk.h) rfl) (RV.c1 rfl rfl (Tk.t (Tk.t Tk.h)) rfl) ⟨.slice none 0 0, rfl, rfl, rfl⟩ (ImpS.trans (ImpS.sb (M := F) ?_) ImpS.ownNil0)
      (skip; (refine Sb.s ?_; refine Sb.s ?_; refine Sb.s ?_; exact Sb.r))
    rintro r _ ⟨l, k, rfl, rfl⟩
    obtain ⟨g1, g2, g3⟩ := hgo l k rfl
    refine GO.ownOne Tk.h fun hone => ?_
    (refine GO.store1 rfl rfl (by assumption) (Tk.t (Tk.t (Tk.t (Tk.t (Tk.t Tk.h))))) (by decide) ?_; refine GO.nil ?_; refine kthen_n ?_; refine G.seq ?_; refine G.seq ?_)
    dsimp only
    by_cases hk : k < ms.length
    · have c1 : decide ((k : Int) < (ms.length : Int)) = true := decide_eq_true (by omega)
      rw [if_pos (.inl hk)]
      refine G.draw 14 (by kernel_rfl) ?_
      ((apply GQ.step; focus (intro Z; refine GO.move rfl rfl ?_; exact KQ.z)); (apply GQ.step; focus (intro Z; refine GO.nilCheck rfl rfl ?_; exact KQ.z)); (apply GQ.step; focus (intro Z; refine GO.fieldAddr rfl rfl ?_; exact KQ.z)); (apply GQ.step; focus (intro Z; refine GO.load1 rfl rfl rfl (Tk.t (Tk.t Tk.h)) rfl ?_; exact KQ.z)); (apply GQ.step; focus (intro Z; refine GO.move rfl rfl ?_; exact KQ.z)); (apply GQ.step; focus (intro Z; refine GO.nilCheck rfl rfl ?_; exact KQ.z)); (apply GQ.step; focus (intro Z; refine GO.fieldAddr rfl rfl ?_; exact KQ.z)); (apply GQ.step; focus (intro Z; refine GO.load1 rfl rfl rfl (Tk.t (Tk.t Tk.h)) rfl ?_; exact KQ.z)); (apply GQ.step; focus (intro Z; refine GO.lenS rfl rfl ?_; exact KQ.z)); (apply GQ.step; focus (intro Z; refine GO.lti rfl rfl rfl ?_; exact KQ.z)); (apply GQ.step; focus (intro Z; refine GO.move rfl rfl ?_; exact KQ.z)); (apply GQ.step; focus (intro Z; refine GO.gF rfl rfl rfl (by assumption) ?_; exact KQ.z)); (apply GQ.step; focus (intro Z; refine GO.gF rfl rfl rfl (by assumption) ?_; exact KQ.z)); (apply GQ.step; focus (intro Z; refine GO.pickTa rfl rfl (by assumption) rfl ?_; exact KQ.z)); refine GQ.nil ?_)
      (refine GO.nil ?_; refine kthen_n ?_; refine G.condT rfl rfl ?_; refine G.region ?_; refine GO.move rfl rfl ?_)
      refine GO.callX1 rfl rfl (hf k (by omega)) (Tks.c (Tk.t (Tk.t Tk.h)) (Tks.c (Tk.t (Tk.t Tk.h)) Tks.n)) ?_ ?_
      · rintro _ _ ⟨rfl, rfl⟩
        (repeat (first | refine kthen_p ?_ | refine kblock_p ?_ | refine kscope_p ?_))
        refine KFD.p3 (read1_caught b2 b3 b4 (placeAt ms bad k) _ _ _) (X := F) (ImpS.sb (by ((refine Sb.c (Tk.t (Tk.t Tk.h)) ?_; refine Sb.c (Tk.t (Tk.t (Tk.t (Tk.t Tk.h)))) ?_; refine Sb.c (Tk.t (Tk.t (Tk.t Tk.h))) ?_); (refine Sb.s ?_; refine Sb.s ?_; refine Sb.s ?_; exact Sb.r)))) rfl (RV.c1 rfl rfl Tk.h rfl) (RV.c1 rfl rfl (Tk.t Tk.h) rfl) (RV.c1 rfl rfl (Tk.t (Tk.t Tk.h)) rfl) ⟨.slice none 0 0, rfl, rfl, rfl⟩ (ImpS.trans (ImpS.sb (M := F) ?_) ImpS.ownNil0)
        (skip; (refine Sb.s ?_; refine Sb.s ?_; refine Sb.s ?_; exact Sb.r))
      · intro _ _ h
        exact h.elim
    · have c1 : decide ((k : Int) < (ms.length : Int)) = false := decide_eq_false (by omega)
      rw [if_pos (.inr hb)]
      refine G.draw 14 (by kernel_rfl) ?_
      ((apply GQ.step; focus (intro Z; refine GO.move rfl rfl ?_; exact KQ.z)); (apply GQ.step; focus (intro Z; refine GO.nilCheck rfl rfl ?_; exact KQ.z)); (apply GQ.step; focus (intro Z; refine GO.fieldAddr rfl rfl ?_; exact KQ.z)); (apply GQ.step; focus (intro Z; refine GO.load1 rfl rfl rfl (Tk.t (Tk.t Tk.h)) rfl ?_; exact KQ.z)); (apply GQ.step; focus (intro Z; refine GO.move rfl rfl ?_; exact KQ.z)); (apply GQ.step; focus (intro Z; refine GO.nilCheck rfl rfl ?_; exact KQ.z)); (apply GQ.step; focus (intro Z; refine GO.fieldAddr rfl rfl ?_; exact KQ.z)); (apply GQ.step; focus (intro Z; refine GO.load1 rfl rfl rfl (Tk.t (Tk.t Tk.h)) rfl ?_; exact KQ.z)); (apply GQ.step; focus (intro Z; refine GO.lenS rfl rfl ?_; exact KQ.z)); (apply GQ.step; focus (intro Z; refine GO.lti rfl rfl rfl ?_; exact KQ.z)); (apply GQ.step; focus (intro Z; refine GO.move rfl rfl ?_; exact KQ.z)); (apply GQ.step; focus (intro Z; refine GO.gT rfl rfl (by assumption) ?_; refine GO.move rfl rfl ?_; exact KQ.z)); (apply GQ.step; focus (intro Z; refine GO.gT rfl rfl (by assumption) ?_; refine GO.nei rfl rfl rfl ?_; exact KQ.z)); (apply GQ.step; focus (intro Z; refine GO.pickFa rfl rfl (by assumption) rfl ?_; exact KQ.z)); refine GQ.nil ?_)
      (refine GO.nil ?_; refine kthen_n ?_; refine G.condT rfl rfl ?_; refine G.region ?_; refine GO.move rfl rfl ?_)
      refine GO.callX1 rfl rfl (hf k (by omega)) (Tks.c (Tk.t (Tk.t Tk.h)) (Tks.c (Tk.t (Tk.t Tk.h)) Tks.n)) ?_ ?_
      · rintro _ _ ⟨rfl, rfl⟩
        (repeat (first | refine kthen_p ?_ | refine kblock_p ?_ | refine kscope_p ?_))
        refine KFD.p3 (read1_caught b2 b3 b4 (placeAt ms bad k) _ _ _) (X := F) (ImpS.sb (by ((refine Sb.c (Tk.t (Tk.t Tk.h)) ?_; refine Sb.c (Tk.t (Tk.t (Tk.t (Tk.t Tk.h)))) ?_; refine Sb.c (Tk.t (Tk.t (Tk.t Tk.h))) ?_); (refine Sb.s ?_; refine Sb.s ?_; refine Sb.s ?_; exact Sb.r)))) rfl (RV.c1 rfl rfl Tk.h rfl) (RV.c1 rfl rfl (Tk.t Tk.h) rfl) (RV.c1 rfl rfl (Tk.t (Tk.t Tk.h)) rfl) ⟨.slice none 0 0, rfl, rfl, rfl⟩ (ImpS.trans (ImpS.sb (M := F) ?_) ImpS.ownNil0)
        (skip; (refine Sb.s ?_; refine Sb.s ?_; refine Sb.s ?_; exact Sb.r))
      · intro _ _ h
        exact h.elim
  · subst hb
    (refine GO.move rfl rfl ?_; refine GO.extract rfl rfl rfl ?_; refine GO.extract rfl rfl rfl ?_; refine GO.extract rfl rfl rfl ?_; refine GO.assign rfl rfl ?_; refine GO.assign rfl rfl ?_; refine GO.assign rfl rfl ?_; refine GO.nil ?_; refine kthen_n ?_; refine G.seq ?_; refine G.seq ?_; refine G.region ?_; refine GO.move rfl rfl ?_; refine GO.neF rfl rfl rfl rfl ?_; refine GO.nil ?_; refine kthen_n ?_; refine G.condF rfl rfl ?_; refine G.skip ?_; refine kthen_n ?_; refine G.seq ?_; refine G.region ?_; refine GO.move rfl rfl ?_; refine GO.move rfl rfl ?_; refine GO.nilCheck rfl rfl ?_; refine GO.fieldAddr rfl rfl ?_; refine GO.store1 rfl rfl (by assumption) (Tk.t Tk.h) (by simp) ?_; refine GO.nil ?_; refine kthen_n ?_; refine G.seq ?_; refine G.region ?_; refine GO.move rfl rfl ?_)
    refine GO.ownRd (n := ms.length) (v := v) (xs := marksV ms) (Tk.t Tk.h) fun q hq => ?_
    obtain ⟨am, cm, rfl⟩ := marks_sl hq
    have hx := hex q _ b16 s.length hq
    have hf := fun k (hk : k ≤ ms.length) => fail_spec q _ ms hq b16 s.length k hk
    unfold ExOK at hx
    clear hq hex hfl
    skip
    refine GO.callX1 rfl rfl (hx) (Tks.c (Tk.t Tk.h) (Tks.c Tk.h Tks.n)) ?_ ?_
    · rintro _ _ ⟨k, rfl, rfl, rfl⟩
      (repeat (first | refine kthen_p ?_ | refine kblock_p ?_ | refine kscope_p ?_))
      refine KFD.p3 (read1_caught b2 b3 b4 (placeAt ms s.length k) _ _ _) (X := F) (ImpS.sb (by ((refine Sb.c (Tk.t (Tk.t (Tk.t (Tk.t Tk.h)))) ?_; refine Sb.c (Tk.t (Tk.t (Tk.t Tk.h))) ?_; refine Sb.c (Tk.t (Tk.t Tk.h)) ?_); (refine Sb.s ?_; refine Sb.s ?_; exact Sb.r)))) rfl (RV.c1 rfl rfl Tk.h rfl) (RV.c1 rfl rfl (Tk.t Tk.h) rfl) (RV.c1 rfl rfl (Tk.t (Tk.t Tk.h)) rfl) ⟨.slice none 0 0, rfl, rfl, rfl⟩ (ImpS.trans (ImpS.sb (M := F) ?_) ImpS.ownNil0)
      (skip; (refine Sb.s ?_; refine Sb.s ?_; refine Sb.s ?_; exact Sb.r))
    rintro r _ ⟨l, k, rfl, rfl⟩
    obtain ⟨g1, g2, g3⟩ := hgo l k rfl
    refine GO.ownOne Tk.h fun hone => ?_
    (refine GO.store1 rfl rfl (by assumption) (Tk.t (Tk.t (Tk.t (Tk.t (Tk.t Tk.h))))) (by decide) ?_; refine GO.nil ?_; refine kthen_n ?_; refine G.seq ?_; refine G.seq ?_)
    dsimp only
    by_cases hk : k < ms.length
    · have c1 : decide ((k : Int) < (ms.length : Int)) = true := decide_eq_true (by omega)
      rw [if_pos (.inl hk)]
      refine G.draw 14 (by kernel_rfl) ?_
      ((apply GQ.step; focus (intro Z; refine GO.move rfl rfl ?_; exact KQ.z)); (apply GQ.step; focus (intro Z; refine GO.nilCheck rfl rfl ?_; exact KQ.z)); (apply GQ.step; focus (intro Z; refine GO.fieldAddr rfl rfl ?_; exact KQ.z)); (apply GQ.step; focus (intro Z; refine GO.load1 rfl rfl rfl (Tk.t (Tk.t Tk.h)) rfl ?_; exact KQ.z)); (apply GQ.step; focus (intro Z; refine GO.move rfl rfl ?_; exact KQ.z)); (apply GQ.step; focus (intro Z; refine GO.nilCheck rfl rfl ?_; exact KQ.z)); (apply GQ.step; focus (intro Z; refine GO.fieldAddr rfl rfl ?_; exact KQ.z)); (apply GQ.step; focus (intro Z; refine GO.load1 rfl rfl rfl (Tk.t (Tk.t Tk.h)) rfl ?_; exact KQ.z)); (apply GQ.step; focus (intro Z; refine GO.lenS rfl rfl ?_; exact KQ.z)); (apply GQ.step; focus (intro Z; refine GO.lti rfl rfl rfl ?_; exact KQ.z)); (apply GQ.step; focus (intro Z; refine GO.move rfl rfl ?_; exact KQ.z)); (apply GQ.step; focus (intro Z; refine GO.gF rfl rfl rfl (by assumption) ?_; exact KQ.z)); (apply GQ.step; focus (intro Z; refine GO.gF rfl rfl rfl (by assumption) ?_; exact KQ.z)); (apply GQ.step; focus (intro Z; refine GO.pickTa rfl rfl (by assumption) rfl ?_; exact KQ.z)); refine GQ.nil ?_)
      (refine GO.nil ?_; refine kthen_n ?_; refine G.condT rfl rfl ?_; refine G.region ?_; refine GO.move rfl rfl ?_)
      refine GO.callX1 rfl rfl (hf k (by omega)) (Tks.c (Tk.t (Tk.t Tk.h)) (Tks.c (Tk.t (Tk.t Tk.h)) Tks.n)) ?_ ?_
      · rintro _ _ ⟨rfl, rfl⟩
        (repeat (first | refine kthen_p ?_ | refine kblock_p ?_ | refine kscope_p ?_))
        refine KFD.p3 (read1_caught b2 b3 b4 (placeAt ms s.length k) _ _ _) (X := F) (ImpS.sb (by ((refine Sb.c (Tk.t (Tk.t Tk.h)) ?_; refine Sb.c (Tk.t (Tk.t (Tk.t (Tk.t Tk.h)))) ?_; refine Sb.c (Tk.t (Tk.t (Tk.t Tk.h))) ?_); (refine Sb.s ?_; refine Sb.s ?_; refine Sb.s ?_; exact Sb.r)))) rfl (RV.c1 rfl rfl Tk.h rfl) (RV.c1 rfl rfl (Tk.t Tk.h) rfl) (RV.c1 rfl rfl (Tk.t (Tk.t Tk.h)) rfl) ⟨.slice none 0 0, rfl, rfl, rfl⟩ (ImpS.trans (ImpS.sb (M := F) ?_) ImpS.ownNil0)
        (skip; (refine Sb.s ?_; refine Sb.s ?_; refine Sb.s ?_; exact Sb.r))
      · intro _ _ h
        exact h.elim
    · have c1 : decide ((k : Int) < (ms.length : Int)) = false := decide_eq_false (by omega)
      rw [if_neg (by omega)]
      refine G.draw 14 (by kernel_rfl) ?_
      ((apply GQ.step; focus (intro Z; refine GO.move rfl rfl ?_; exact KQ.z)); (apply GQ.step; focus (intro Z; refine GO.nilCheck rfl rfl ?_; exact KQ.z)); (apply GQ.step; focus (intro Z; refine GO.fieldAddr rfl rfl ?_; exact KQ.z)); (apply GQ.step; focus (intro Z; refine GO.load1 rfl rfl rfl (Tk.t (Tk.t Tk.h)) rfl ?_; exact KQ.z)); (apply GQ.step; focus (intro Z; refine GO.move rfl rfl ?_; exact KQ.z)); (apply GQ.step; focus (intro Z; refine GO.nilCheck rfl rfl ?_; exact KQ.z)); (apply GQ.step; focus (intro Z; refine GO.fieldAddr rfl rfl ?_; exact KQ.z)); (apply GQ.step; focus (intro Z; refine GO.load1 rfl rfl rfl (Tk.t (Tk.t Tk.h)) rfl ?_; exact KQ.z)); (apply GQ.step; focus (intro Z; refine GO.lenS rfl rfl ?_; exact KQ.z)); (apply GQ.step; focus (intro Z; refine GO.lti rfl rfl rfl ?_; exact KQ.z)); (apply GQ.step; focus (intro Z; refine GO.move rfl rfl ?_; exact KQ.z)); (apply GQ.step; focus (intro Z; refine GO.gT rfl rfl (by assumption) ?_; refine GO.move rfl rfl ?_; exact KQ.z)); (apply GQ.step; focus (intro Z; refine GO.gT rfl rfl (by assumption) ?_; refine GO.neF rfl rfl rfl rfl ?_; exact KQ.z)); (apply GQ.step; focus (intro Z; refine GO.pickFa rfl rfl (by assumption) rfl ?_; exact KQ.z)); refine GQ.nil ?_)
      (refine GO.nil ?_; refine kthen_n ?_; refine G.condF rfl rfl ?_; refine G.skip ?_; refine kthen_n ?_; refine G.seq ?_; refine G.region ?_; refine GO.load1 rfl rfl rfl Tk.h rfl ?_; refine GO.store1 rfl rfl (by assumption) Tk.h (by simp) ?_; refine GO.store1 rfl rfl rfl (Tk.t (Tk.t (Tk.t (Tk.t (Tk.t Tk.h))))) (by decide) ?_; refine GO.store1 rfl rfl rfl (Tk.t (Tk.t (Tk.t (Tk.t (Tk.t Tk.h))))) (by decide) ?_; refine GO.nil ?_; refine kthen_n ?_; refine G.ret ?_)
      refine KFD.r3 (read1_calm b2 b3 b4) rfl (RV.c1 rfl rfl (Tk.t (Tk.t Tk.h)) rfl) (RV.c1 rfl rfl (Tk.t Tk.h) rfl) (RV.c1 rfl rfl Tk.h rfl) ⟨r, rfl, hone, rfl⟩ (ImpS.sb ?_)
      ((refine Sb.c (Tk.t (Tk.t (Tk.t Tk.h))) ?_); (refine Sb.s ?_; refine Sb.s ?_; refine Sb.s ?_; refine Sb.s ?_; refine Sb.s ?_; exact Sb.r))
end Go.Proofs.YtpgfmfbpmkfbjaaGreat
namespace Go.Proofs.YtpgfmfbpmkfbjaaGreat
open Go
def upperB (b : UInt8) : Bool := decide (65 ≤ (b.toNat : Int)) && decide ((b.toNat : Int) ≤ 90)
def lowerB (b : UInt8) : Bool := decide (97 ≤ (b.toNat : Int)) && decide ((b.toNat : Int) ≤ 122)
def nameB (b : UInt8) : Bool := upperB b || lowerB b || (decide (48 ≤ (b.toNat : Int)) && decide ((b.toNat : Int) ≤ 57)) || decide ((b.toNat : Int) = 95)
def namedF (s : List UInt8) (first : UInt8 → Bool) : Bool := match s with
  | [] => false
  | b :: _ => decide (s.length ≤ 16) && (first b && s.all nameB)
def mayN (m : NodeD) : Bool :=
  if m.kind = 1 then decide (m.name = []) && decide (m.kids = 0) else if m.kind = 2 then decide (m.kids = 0) && namedF m.name upperB else if m.kind = 3 then decide (m.kids = 0) && namedF m.name lowerB
  else if m.kind = 4 ∨ m.kind = 5 then decide (m.name = []) && decide (2 ≤ m.kids) else if m.kind = 6 ∨ m.kind = 7 ∨ m.kind = 8 then decide (m.name = []) && decide (m.kids = 1) else false
def wholeL (n : Nat) : Nat → List NodeD → Option Nat
  | o, [] => some o
  | o, m :: r => if o = 0 ∨ mayN m = false ∨ n < m.kids then none else wholeL n (o + m.kids - 1) r
def wholeF (l : List NodeD) : Bool := decide (wholeL l.length 1 l = some 0) && decide (0 < l.length)
/-- How many kids are wanted still, of each node above, the nearest first: without those that want none. -/
def popA : Nat → List Nat → List Nat
  | n + 1, r => (n + 1) :: r
  | 0, [] => []
  | 0, c :: r => popA (c - 1) r
def heightL : Nat → List Nat → List NodeD → Nat
  | most, _, [] => most
  | most, over, m :: r => heightL (max most (over.length + 1)) (popA m.kids over) r
def heightF (l : List NodeD) : Nat := heightL 0 [] l
/-- A tree. -/
inductive Tree where
  | node (kind : Nat) (name : List UInt8) (kids : List Tree)
mutual
def flat : Tree → List NodeD
  | .node k n ts => ⟨k, n, ts.length⟩ :: flats ts
def flats : List Tree → List NodeD
  | [] => []
  | t :: ts => flat t ++ flats ts
end
mutual
def okT : Tree → Bool
  | .node k n ts => mayN ⟨k, n, ts.length⟩ && okTs ts
def okTs : List Tree → Bool
  | [] => true
  | t :: ts => okT t && okTs ts
end
def Tree.kind : Tree → Nat
  | .node k _ _ => k
def Tree.name : Tree → List UInt8
  | .node _ n _ => n
def Tree.kids : Tree → List Tree
  | .node _ _ ts => ts
theorem flat_eq (t : Tree) : flat t = ⟨t.kind, t.name, t.kids.length⟩ :: flats t.kids := by cases t; rw [flat]; rfl
theorem flats_app : ∀ ts us : List Tree, flats (ts ++ us) = flats ts ++ flats us
  | [], us => by rw [flats]; rfl
  | t :: ts, us => by rw [List.cons_append, flats, flats, flats_app ts us, List.append_assoc]
theorem flat_pos (t : Tree) : 0 < (flat t).length := by rw [flat_eq]; simp
theorem okTs_app : ∀ ts us : List Tree, okTs (ts ++ us) = (okTs ts && okTs us)
  | [], us => by rw [okTs]; rfl
  | t :: ts, us => by rw [List.cons_append, okTs, okTs, okTs_app ts us, Bool.and_assoc]
theorem okTs_mem : ∀ {ts : List Tree} {t : Tree}, okTs ts = true → t ∈ ts → okT t = true
  | u :: ts, t, h, ht => by
    rw [okTs, Bool.and_eq_true] at h
    rcases List.mem_cons.1 ht with rfl | ht
    · exact h.1
    · exact okTs_mem h.2 ht
/-- A list that opens so many trees, and shuts them all, is these trees. -/
theorem whole_trees (n : Nat) : ∀ (l : List NodeD) (o : Nat), wholeL n o l = some 0 → ∃ ts : List Tree, ts.length = o ∧ flats ts = l ∧ okTs ts = true
  | [], o, h => by
    simp only [wholeL, Option.some.injEq] at h
    subst h
    exact ⟨[], rfl, by rw [flats], by rw [okTs]⟩
  | m :: r, o, h => by
    simp only [wholeL] at h
    split at h
    · cases h
    · rename_i hc
      have hm : mayN m = true := by
        cases e : mayN m with
        | true => rfl
        | false => exact absurd (.inr (.inl e)) hc
      have ho : o ≠ 0 := fun e => hc (.inl e)
      obtain ⟨ts, h1, h2, h3⟩ := whole_trees n r _ h
      refine ⟨.node m.kind m.name (ts.take m.kids) :: ts.drop m.kids, ?_, ?_, ?_⟩
      · rw [List.length_cons, List.length_drop]; omega
      · have hl : (ts.take m.kids).length = m.kids := by rw [List.length_take]; omega
        rw [flats, flat, hl, List.cons_append, ← flats_app, List.take_append_drop, h2]
      · have hl : (ts.take m.kids).length = m.kids := by rw [List.length_take]; omega
        rw [okTs, okT, hl]
        rw [← List.take_append_drop m.kids ts, okTs_app, Bool.and_eq_true] at h3
        rw [h3.1, h3.2, hm]; rfl
theorem whole_tree {l : List NodeD} (h : wholeF l = true) : ∃ t : Tree, flat t = l ∧ okT t = true := by
  unfold wholeF at h
  rw [Bool.and_eq_true] at h
  obtain ⟨ts, h1, h2, h3⟩ := whole_trees _ _ _ (of_decide_eq_true h.1)
  match ts, h1 with
  | [t], _ =>
    rw [flats, flats, List.append_nil] at h2
    rw [okTs, okTs, Bool.and_true] at h3
    exact ⟨t, h2, h3⟩
end Go.Proofs.YtpgfmfbpmkfbjaaGreat
namespace Go.Proofs.YtpgfmfbpmkfbjaaGreat
open Go
attribute [local irreducible] G GO GR GT Fn FnX FnV FnXV Dfr pt init exs pur sat own ImpS
set_option maxHeartbeats 4000000 in
theorem upper_spec (b : UInt8) : Fn Tryz.prog 128 #[u8 b] [] (fun r Q => r = .bool (upperB b) ∧ Q = []) := by
  refine Fn.mk2 Tryz.func128 rfl rfl fun w0 F => ?_
  unfold upperB
  cases e1 : decide (65 ≤ (b.toNat : Int))
  · (refine G.seq ?_; refine G.region ?_; refine GO.assign rfl rfl ?_; refine GO.nil ?_; refine kthen_n ?_; refine G.seq ?_; refine G.region ?_; refine GO.move rfl rfl ?_; refine GO.gei rfl rfl rfl ?_; refine GO.move rfl rfl ?_; refine GO.gF rfl rfl rfl (by assumption) ?_; refine GO.gF rfl rfl rfl (by assumption) ?_; refine GO.pickFa rfl rfl (by assumption) rfl ?_; refine GO.assign rfl rfl ?_; refine GO.nil ?_; refine kthen_n ?_; refine G.ret ?_)
    refine KF2.r1 rfl (RV.t rfl) ⟨rfl, rfl⟩ (ImpS.sb ?_)
    (skip; (exact Sb.r))
  · (refine G.seq ?_; refine G.region ?_; refine GO.assign rfl rfl ?_; refine GO.nil ?_; refine kthen_n ?_; refine G.seq ?_; refine G.region ?_; refine GO.move rfl rfl ?_; refine GO.gei rfl rfl rfl ?_; refine GO.move rfl rfl ?_; refine GO.gT rfl rfl (by assumption) ?_; refine GO.move rfl rfl ?_; refine GO.gT rfl rfl (by assumption) ?_; refine GO.lei rfl rfl rfl ?_; refine GO.pickTa rfl rfl (by assumption) rfl ?_; refine GO.assign rfl rfl ?_; refine GO.nil ?_; refine kthen_n ?_; refine G.ret ?_)
    refine KF2.r1 rfl (RV.t rfl) ⟨rfl, rfl⟩ (ImpS.sb ?_)
    (skip; (exact Sb.r))
set_option maxHeartbeats 4000000 in
theorem lower_spec (b : UInt8) : Fn Tryz.prog 129 #[u8 b] [] (fun r Q => r = .bool (lowerB b) ∧ Q = []) := by
  refine Fn.mk2 Tryz.func129 rfl rfl fun w0 F => ?_
  unfold lowerB
  cases e1 : decide (97 ≤ (b.toNat : Int))
  · (refine G.seq ?_; refine G.region ?_; refine GO.assign rfl rfl ?_; refine GO.nil ?_; refine kthen_n ?_; refine G.seq ?_; refine G.region ?_; refine GO.move rfl rfl ?_; refine GO.gei rfl rfl rfl ?_; refine GO.move rfl rfl ?_; refine GO.gF rfl rfl rfl (by assumption) ?_; refine GO.gF rfl rfl rfl (by assumption) ?_; refine GO.pickFa rfl rfl (by assumption) rfl ?_; refine GO.assign rfl rfl ?_; refine GO.nil ?_; refine kthen_n ?_; refine G.ret ?_)
    refine KF2.r1 rfl (RV.t rfl) ⟨rfl, rfl⟩ (ImpS.sb ?_)
    (skip; (exact Sb.r))
  · (refine G.seq ?_; refine G.region ?_; refine GO.assign rfl rfl ?_; refine GO.nil ?_; refine kthen_n ?_; refine G.seq ?_; refine G.region ?_; refine GO.move rfl rfl ?_; refine GO.gei rfl rfl rfl ?_; refine GO.move rfl rfl ?_; refine GO.gT rfl rfl (by assumption) ?_; refine GO.move rfl rfl ?_; refine GO.gT rfl rfl (by assumption) ?_; refine GO.lei rfl rfl rfl ?_; refine GO.pickTa rfl rfl (by assumption) rfl ?_; refine GO.assign rfl rfl ?_; refine GO.nil ?_; refine kthen_n ?_; refine G.ret ?_)
    refine KF2.r1 rfl (RV.t rfl) ⟨rfl, rfl⟩ (ImpS.sb ?_)
    (skip; (exact Sb.r))
set_option maxHeartbeats 16000000 in
theorem named_spec (s : List UInt8) (fv : Value) (first : UInt8 → Bool) (hf : ∀ b, FnV Tryz.prog fv [u8 b] [] (fun r Q => r = .bool (first b) ∧ Q = [])) : Fn Tryz.prog 127 #[str s, fv] [] (fun r Q => r = .bool (namedF s first) ∧ Q = []) := by
  refine Fn.mk2 Tryz.func127 rfl rfl fun w0 F => ?_
  cases s with
  | nil =>
    rw [show namedF [] first = false from rfl]
    (refine G.seq ?_; refine G.region ?_; refine GO.assign rfl rfl ?_; refine GO.nil ?_; refine kthen_n ?_; refine G.seq ?_; refine G.seq ?_; refine G.region ?_; refine GO.move rfl rfl ?_; refine GO.strLen rfl rfl ?_; refine GO.lti rfl rfl rfl ?_; refine GO.move rfl rfl ?_; refine GO.gF rfl rfl rfl rfl ?_; refine GO.gF rfl rfl rfl rfl ?_; refine GO.gF rfl rfl rfl rfl ?_; refine GO.pickT rfl rfl rfl ?_; refine GO.move rfl rfl ?_; refine GO.gF rfl rfl rfl rfl ?_; refine GO.gF rfl rfl rfl rfl ?_; refine GO.gF rfl rfl rfl rfl ?_; refine GO.gF rfl rfl rfl rfl ?_; refine GO.gF rfl rfl rfl rfl ?_; refine GO.pickT rfl rfl rfl ?_; refine GO.nil ?_; refine kthen_n ?_; refine G.condT rfl rfl ?_; refine G.seq ?_; refine G.region ?_; refine GO.assign rfl rfl ?_; refine GO.nil ?_; refine kthen_n ?_; refine G.ret ?_; refine kthen_r ?_)
    refine KF2.r1 rfl (RV.t rfl) ⟨rfl, rfl⟩ (ImpS.sb ?_)
    (skip; (exact Sb.r))
  | cons b0 s0 =>
  have hb0 : (b0 :: s0)[0]? = some b0 := rfl
  have hn : namedF (b0 :: s0) first = (decide ((b0 :: s0).length ≤ 16) && (first b0 && (b0 :: s0).all nameB)) := rfl
  have hpos : 0 < (b0 :: s0).length := by simp
  rw [hn]
  generalize b0 :: s0 = s at *
  have d1 : decide ((s.length : Int) < 1) = false := decide_eq_false (by omega)
  by_cases h16 : s.length ≤ 16
  · rw [decide_eq_true h16, Bool.true_and]
    have d2 : decide ((16 : Int) < (s.length : Int)) = false := decide_eq_false (by omega)
    (refine G.seq ?_; refine G.region ?_; refine GO.assign rfl rfl ?_; refine GO.nil ?_; refine kthen_n ?_; refine G.seq ?_; refine G.seq ?_; refine G.region ?_; refine GO.move rfl rfl ?_; refine GO.strLen rfl rfl ?_; refine GO.lti rfl rfl rfl ?_; refine GO.move rfl rfl ?_; refine GO.gT rfl rfl (by assumption) ?_; refine GO.move rfl rfl ?_; refine GO.gT rfl rfl (by assumption) ?_; refine GO.strLen rfl rfl ?_; refine GO.gT rfl rfl (by assumption) ?_; refine GO.gti rfl rfl rfl ?_; refine GO.pickFa rfl rfl (by assumption) rfl ?_; refine GO.move rfl rfl ?_; refine GO.gT rfl rfl (by assumption) ?_; refine GO.move rfl rfl ?_; refine GO.gT rfl rfl (by assumption) ?_; refine GO.move rfl rfl ?_; refine GO.gT rfl rfl (by assumption) ?_; refine GO.strIdx rfl rfl rfl rfl (by assumption) ?_; refine GO.gT rfl rfl (by assumption) ?_)
    refine GO.callV1 rfl rfl rfl (hf b0) Tks.n ?_
    rintro _ _ ⟨rfl, rfl⟩
    cases e1 : first b0
    · (refine GO.gT rfl rfl (by assumption) ?_; refine GO.not rfl rfl ?_; refine GO.pickFa rfl rfl (by assumption) rfl ?_; refine GO.nil ?_; refine kthen_n ?_; refine G.condT rfl rfl ?_; refine G.seq ?_; refine G.region ?_; refine GO.assign rfl rfl ?_; refine GO.nil ?_; refine kthen_n ?_; refine G.ret ?_; refine kthen_r ?_)
      refine KF2.r1 rfl (RV.t rfl) ⟨rfl, rfl⟩ (ImpS.sb ?_)
      (skip; (exact Sb.r))
    · rw [Bool.true_and]
      (refine GO.gT rfl rfl (by assumption) ?_; refine GO.not rfl rfl ?_; refine GO.pickFa rfl rfl (by assumption) rfl ?_; refine GO.nil ?_; refine kthen_n ?_; refine G.condF rfl rfl ?_; refine G.skip ?_; refine kthen_n ?_; refine G.seq ?_; refine G.seq ?_; refine G.region ?_; refine GO.move rfl rfl ?_; refine GO.strLen rfl rfl ?_; refine GO.move rfl rfl ?_; refine GO.nil ?_; refine kthen_n ?_; refine G.block ?_)
      refine G.loopI (σ := Nat) (fun k => [(0, str s), (1, fv), (23, i64 (s.length : Nat)), (24, i64 (k : Nat))]) (fun _ => F) (fun k => k ≤ s.length ∧ ∀ j b, j < k → s[j]? = some b → nameB b = true) (fun k => s.length - k) 0 ⟨Nat.zero_le _, fun j b h => by omega⟩ ?_ ?_ ?_
      · (refine SubE.c rfl rfl ?_; refine SubE.c rfl rfl ?_; refine SubE.c rfl rfl ?_; refine SubE.c rfl rfl ?_; exact SubE.n)
      · refine ImpS.sb ?_
        (skip; (exact Sb.r))
      rintro k ⟨hk, hall⟩
      (refine G.seq ?_; refine G.region ?_; refine GO.lti rfl rfl rfl ?_; refine GO.nil ?_; refine kthen_n ?_; refine G.seq ?_)
      by_cases hlt : k < s.length
      · have d3 : decide ((k : Int) < (s.length : Int)) = true := decide_eq_true (by omega)
        obtain ⟨b, hb⟩ : ∃ b, s[k]? = some b := ⟨_, List.getElem?_eq_getElem hlt⟩
        have nob : nameB b = false → s.all nameB = false := fun h => by
          rw [Bool.eq_false_iff]
          intro h2
          have := List.all_eq_true.1 h2 b (List.mem_of_getElem? hb)
          rw [h] at this; cases this
        have yes : nameB b = true → ∀ j b', j < k + 1 → s[j]? = some b' → nameB b' = true := fun h j b' hj hb' => by
          rcases Nat.lt_succ_iff_lt_or_eq.1 hj with h1 | h1
          · exact hall j b' h1 hb'
          · subst h1; rw [hb] at hb'; cases hb'; exact h
        (refine G.condT rfl (by assumption) ?_; refine G.skip ?_; refine kthen_n ?_; refine G.seq ?_; refine G.block ?_; refine G.seq ?_; refine G.region ?_; refine GO.move rfl rfl ?_; refine GO.assign rfl rfl ?_; refine GO.nil ?_; refine kthen_n ?_; refine G.seq ?_; refine G.region ?_; refine GO.move rfl rfl ?_; refine GO.move rfl rfl ?_; refine GO.strIdx rfl rfl rfl rfl (by assumption) ?_; refine GO.assign rfl rfl ?_; refine GO.nil ?_; refine kthen_n ?_; refine G.seq ?_; refine G.region ?_; refine GO.move rfl rfl ?_)
        refine GO.call1 rfl rfl (upper_spec b) Tks.n ?_
        rintro _ _ ⟨rfl, rfl⟩
        cases u1 : upperB b
        · (refine GO.move rfl rfl ?_; refine GO.gT rfl rfl rfl ?_; refine GO.move rfl rfl ?_; refine GO.gT rfl rfl rfl ?_)
          refine GO.call1 rfl rfl (lower_spec b) Tks.n ?_
          rintro _ _ ⟨rfl, rfl⟩
          cases u2 : lowerB b
          · cases u3 : decide (48 ≤ (b.toNat : Int))
            · cases u5 : decide ((b.toNat : Int) = 95)
              · (refine GO.pickF rfl rfl rfl ?_; refine GO.move rfl rfl ?_; refine GO.gT rfl rfl rfl ?_; refine GO.move rfl rfl ?_; refine GO.gT rfl rfl rfl ?_; refine GO.gei rfl rfl rfl ?_; refine GO.gT rfl rfl rfl ?_; refine GO.move rfl rfl ?_; refine GO.gF rfl rfl rfl (by assumption) ?_; refine GO.gF rfl rfl rfl (by assumption) ?_; refine GO.gT rfl rfl rfl ?_; refine GO.pickFa rfl rfl (by assumption) rfl ?_; refine GO.pickF rfl rfl rfl ?_; refine GO.move rfl rfl ?_; refine GO.gT rfl rfl rfl ?_; refine GO.move rfl rfl ?_; refine GO.gT rfl rfl rfl ?_; refine GO.eqi rfl rfl rfl ?_; refine GO.pickF rfl rfl rfl ?_; refine GO.not rfl rfl ?_; refine GO.nil ?_; refine kthen_n ?_)
                refine G.condT rfl (by rw [u5]; rfl) ?_
                (refine G.seq ?_; refine G.region ?_; refine GO.assign rfl rfl ?_; refine GO.nil ?_; refine kthen_n ?_; refine G.ret ?_; refine kblock_r ?_; refine kthen_r ?_; refine kthen_r ?_; refine kblock_r ?_; refine kthen_r ?_)
                refine KF2.r1 rfl (RV.t rfl) ⟨by rw [nob (by unfold nameB; rw [u1, u2, u3, u5]; rfl)], rfl⟩ (ImpS.sb ?_)
                (skip; (exact Sb.r))
              · (refine GO.pickF rfl rfl rfl ?_; refine GO.move rfl rfl ?_; refine GO.gT rfl rfl rfl ?_; refine GO.move rfl rfl ?_; refine GO.gT rfl rfl rfl ?_; refine GO.gei rfl rfl rfl ?_; refine GO.gT rfl rfl rfl ?_; refine GO.move rfl rfl ?_; refine GO.gF rfl rfl rfl (by assumption) ?_; refine GO.gF rfl rfl rfl (by assumption) ?_; refine GO.gT rfl rfl rfl ?_; refine GO.pickFa rfl rfl (by assumption) rfl ?_; refine GO.pickF rfl rfl rfl ?_; refine GO.move rfl rfl ?_; refine GO.gT rfl rfl rfl ?_; refine GO.move rfl rfl ?_; refine GO.gT rfl rfl rfl ?_; refine GO.eqi rfl rfl rfl ?_; refine GO.pickF rfl rfl rfl ?_; refine GO.not rfl rfl ?_; refine GO.nil ?_; refine kthen_n ?_)
                refine G.condF rfl (by rw [u5]; rfl) ?_
                (refine G.skip ?_; refine kblock_n ?_; refine kthen_n ?_; refine G.region ?_; refine GO.addi rfl rfl rfl (by omega) ?_; refine GO.move rfl rfl ?_; refine GO.nil ?_; refine kthen_n ?_)
                refine ⟨k + 1, ⟨by omega, yes (by unfold nameB; rw [u1, u2, u3, u5]; rfl)⟩, by omega, ?_, ImpS.sb ?_⟩
                · (refine SubE.c rfl rfl ?_; refine SubE.c rfl rfl ?_; refine SubE.c rfl rfl ?_; refine SubE.c rfl rfl ?_; exact SubE.n)
                · (skip; (exact Sb.r))
            · cases u4 : decide ((b.toNat : Int) ≤ 57)
              · cases u5 : decide ((b.toNat : Int) = 95)
                · (refine GO.pickF rfl rfl rfl ?_; refine GO.move rfl rfl ?_; refine GO.gT rfl rfl rfl ?_; refine GO.move rfl rfl ?_; refine GO.gT rfl rfl rfl ?_; refine GO.gei rfl rfl rfl ?_; refine GO.gT rfl rfl rfl ?_; refine GO.move rfl rfl ?_; refine GO.gT rfl rfl (by assumption) ?_; refine GO.move rfl rfl ?_; refine GO.gT rfl rfl (by assumption) ?_; refine GO.lei rfl rfl rfl ?_; refine GO.gT rfl rfl rfl ?_; refine GO.pickTa rfl rfl (by assumption) rfl ?_; refine GO.pickF rfl rfl rfl ?_; refine GO.move rfl rfl ?_; refine GO.gT rfl rfl (by assumption) ?_; refine GO.move rfl rfl ?_; refine GO.gT rfl rfl (by assumption) ?_; refine GO.eqi rfl rfl rfl ?_; refine GO.pickFa rfl rfl (by assumption) rfl ?_; refine GO.not rfl rfl ?_; refine GO.nil ?_; refine kthen_n ?_)
                  refine G.condT rfl (by rw [u5]; rfl) ?_
                  (refine G.seq ?_; refine G.region ?_; refine GO.assign rfl rfl ?_; refine GO.nil ?_; refine kthen_n ?_; refine G.ret ?_; refine kblock_r ?_; refine kthen_r ?_; refine kthen_r ?_; refine kblock_r ?_; refine kthen_r ?_)
                  refine KF2.r1 rfl (RV.t rfl) ⟨by rw [nob (by unfold nameB; rw [u1, u2, u3, u4, u5]; rfl)], rfl⟩ (ImpS.sb ?_)
                  (skip; (exact Sb.r))
                · (refine GO.pickF rfl rfl rfl ?_; refine GO.move rfl rfl ?_; refine GO.gT rfl rfl rfl ?_; refine GO.move rfl rfl ?_; refine GO.gT rfl rfl rfl ?_; refine GO.gei rfl rfl rfl ?_; refine GO.gT rfl rfl rfl ?_; refine GO.move rfl rfl ?_; refine GO.gT rfl rfl (by assumption) ?_; refine GO.move rfl rfl ?_; refine GO.gT rfl rfl (by assumption) ?_; refine GO.lei rfl rfl rfl ?_; refine GO.gT rfl rfl rfl ?_; refine GO.pickTa rfl rfl (by assumption) rfl ?_; refine GO.pickF rfl rfl rfl ?_; refine GO.move rfl rfl ?_; refine GO.gT rfl rfl (by assumption) ?_; refine GO.move rfl rfl ?_; refine GO.gT rfl rfl (by assumption) ?_; refine GO.eqi rfl rfl rfl ?_; refine GO.pickFa rfl rfl (by assumption) rfl ?_; refine GO.not rfl rfl ?_; refine GO.nil ?_; refine kthen_n ?_)
                  refine G.condF rfl (by rw [u5]; rfl) ?_
                  (refine G.skip ?_; refine kblock_n ?_; refine kthen_n ?_; refine G.region ?_; refine GO.addi rfl rfl rfl (by omega) ?_; refine GO.move rfl rfl ?_; refine GO.nil ?_; refine kthen_n ?_)
                  refine ⟨k + 1, ⟨by omega, yes (by unfold nameB; rw [u1, u2, u3, u4, u5]; rfl)⟩, by omega, ?_, ImpS.sb ?_⟩
                  · (refine SubE.c rfl rfl ?_; refine SubE.c rfl rfl ?_; refine SubE.c rfl rfl ?_; refine SubE.c rfl rfl ?_; exact SubE.n)
                  · (skip; (exact Sb.r))
              · (refine GO.pickF rfl rfl rfl ?_; refine GO.move rfl rfl ?_; refine GO.gT rfl rfl rfl ?_; refine GO.move rfl rfl ?_; refine GO.gT rfl rfl rfl ?_; refine GO.gei rfl rfl rfl ?_; refine GO.gT rfl rfl rfl ?_; refine GO.move rfl rfl ?_; refine GO.gT rfl rfl (by assumption) ?_; refine GO.move rfl rfl ?_; refine GO.gT rfl rfl (by assumption) ?_; refine GO.lei rfl rfl rfl ?_; refine GO.gT rfl rfl rfl ?_; refine GO.pickTa rfl rfl (by assumption) rfl ?_; refine GO.pickF rfl rfl rfl ?_; refine GO.move rfl rfl ?_; refine GO.gF rfl rfl rfl (by assumption) ?_; refine GO.gF rfl rfl rfl (by assumption) ?_; refine GO.pickTa rfl rfl (by assumption) rfl ?_; refine GO.not rfl rfl ?_; refine GO.nil ?_; refine kthen_n ?_; refine G.condF rfl rfl ?_; refine G.skip ?_; refine kblock_n ?_; refine kthen_n ?_; refine G.region ?_; refine GO.addi rfl rfl rfl (by omega) ?_; refine GO.move rfl rfl ?_; refine GO.nil ?_; refine kthen_n ?_)
                refine ⟨k + 1, ⟨by omega, yes (by unfold nameB; rw [u1, u2, u3, u4]; rfl)⟩, by omega, ?_, ImpS.sb ?_⟩
                · (refine SubE.c rfl rfl ?_; refine SubE.c rfl rfl ?_; refine SubE.c rfl rfl ?_; refine SubE.c rfl rfl ?_; exact SubE.n)
                · (skip; (exact Sb.r))
          · (refine GO.pickF rfl rfl rfl ?_; refine GO.move rfl rfl ?_; refine GO.gF rfl rfl rfl rfl ?_; refine GO.gF rfl rfl rfl rfl ?_; refine GO.gF rfl rfl rfl rfl ?_; refine GO.gU rfl rfl rfl ?_; refine GO.gU rfl rfl rfl ?_; refine GO.gF rfl rfl rfl rfl ?_; refine GO.pickT rfl rfl rfl ?_; refine GO.move rfl rfl ?_; refine GO.gF rfl rfl rfl rfl ?_; refine GO.gF rfl rfl rfl rfl ?_; refine GO.pickT rfl rfl rfl ?_; refine GO.not rfl rfl ?_; refine GO.nil ?_; refine kthen_n ?_; refine G.condF rfl rfl ?_; refine G.skip ?_; refine kblock_n ?_; refine kthen_n ?_; refine G.region ?_; refine GO.addi rfl rfl rfl (by omega) ?_; refine GO.move rfl rfl ?_; refine GO.nil ?_; refine kthen_n ?_)
            refine ⟨k + 1, ⟨by omega, yes (by unfold nameB; rw [u1, u2]; rfl)⟩, by omega, ?_, ImpS.sb ?_⟩
            · (refine SubE.c rfl rfl ?_; refine SubE.c rfl rfl ?_; refine SubE.c rfl rfl ?_; refine SubE.c rfl rfl ?_; exact SubE.n)
            · (skip; (exact Sb.r))
        · (refine GO.move rfl rfl ?_; refine GO.gF rfl rfl rfl rfl ?_; refine GO.gF rfl rfl rfl rfl ?_; refine GO.pickT rfl rfl rfl ?_; refine GO.move rfl rfl ?_; refine GO.gF rfl rfl rfl rfl ?_; refine GO.gF rfl rfl rfl rfl ?_; refine GO.gF rfl rfl rfl rfl ?_; refine GO.gU rfl rfl rfl ?_; refine GO.gU rfl rfl rfl ?_; refine GO.gF rfl rfl rfl rfl ?_; refine GO.pickT rfl rfl rfl ?_; refine GO.move rfl rfl ?_; refine GO.gF rfl rfl rfl rfl ?_; refine GO.gF rfl rfl rfl rfl ?_; refine GO.pickT rfl rfl rfl ?_; refine GO.not rfl rfl ?_; refine GO.nil ?_; refine kthen_n ?_; refine G.condF rfl rfl ?_; refine G.skip ?_; refine kblock_n ?_; refine kthen_n ?_; refine G.region ?_; refine GO.addi rfl rfl rfl (by omega) ?_; refine GO.move rfl rfl ?_; refine GO.nil ?_; refine kthen_n ?_)
          refine ⟨k + 1, ⟨by omega, yes (by unfold nameB; rw [u1]; rfl)⟩, by omega, ?_, ImpS.sb ?_⟩
          · (refine SubE.c rfl rfl ?_; refine SubE.c rfl rfl ?_; refine SubE.c rfl rfl ?_; refine SubE.c rfl rfl ?_; exact SubE.n)
          · (skip; (exact Sb.r))
      · have d3 : decide ((k : Int) < (s.length : Int)) = false := decide_eq_false (by omega)
        have hyes : s.all nameB = true := List.all_eq_true.2 fun b hb => by
          obtain ⟨j, hj⟩ := List.getElem?_of_mem hb
          exact hall j b (by have := (List.getElem?_eq_some_iff.1 hj).1; omega) hj
        rw [hyes]
        (refine G.condF rfl (by assumption) ?_; refine G.exit ?_; refine kthen_x ?_; refine kthen_x ?_; refine kblock_x ?_; refine kthen_n ?_; refine G.seq ?_; refine G.region ?_; refine GO.assign rfl rfl ?_; refine GO.nil ?_; refine kthen_n ?_; refine G.ret ?_)
        refine KF2.r1 rfl (RV.t rfl) ⟨rfl, rfl⟩ (ImpS.sb ?_)
        (skip; (exact Sb.r))
  · rw [decide_eq_false h16, Bool.false_and]
    have d2 : decide ((16 : Int) < (s.length : Int)) = true := decide_eq_true (by omega)
    (refine G.seq ?_; refine G.region ?_; refine GO.assign rfl rfl ?_; refine GO.nil ?_; refine kthen_n ?_; refine G.seq ?_; refine G.seq ?_; refine G.region ?_; refine GO.move rfl rfl ?_; refine GO.strLen rfl rfl ?_; refine GO.lti rfl rfl rfl ?_; refine GO.move rfl rfl ?_; refine GO.gT rfl rfl (by assumption) ?_; refine GO.move rfl rfl ?_; refine GO.gT rfl rfl (by assumption) ?_; refine GO.strLen rfl rfl ?_; refine GO.gT rfl rfl (by assumption) ?_; refine GO.gti rfl rfl rfl ?_; refine GO.pickFa rfl rfl (by assumption) rfl ?_; refine GO.move rfl rfl ?_; refine GO.gF rfl rfl rfl (by assumption) ?_; refine GO.gF rfl rfl rfl (by assumption) ?_; refine GO.gF rfl rfl rfl (by assumption) ?_; refine GO.gF rfl rfl rfl (by assumption) ?_; refine GO.gF rfl rfl rfl (by assumption) ?_; refine GO.pickTa rfl rfl (by assumption) rfl ?_; refine GO.nil ?_; refine kthen_n ?_; refine G.condT rfl rfl ?_; refine G.seq ?_; refine G.region ?_; refine GO.assign rfl rfl ?_; refine GO.nil ?_; refine kthen_n ?_; refine G.ret ?_; refine kthen_r ?_)
    refine KF2.r1 rfl (RV.t rfl) ⟨rfl, rfl⟩ (ImpS.sb ?_)
    (skip; (exact Sb.r))
end Go.Proofs.YtpgfmfbpmkfbjaaGreat
namespace Go.Proofs.YtpgfmfbpmkfbjaaGreat
open Go
theorem upper_fv (b : UInt8) : FnV Tryz.prog (.func (.func 128) #[] #[]) [u8 b] [] (fun r Q => r = .bool (upperB b) ∧ Q = []) := FnV.of (args := [u8 b]) (caps := []) (upper_spec b)
theorem lower_fv (b : UInt8) : FnV Tryz.prog (.func (.func 129) #[] #[]) [u8 b] [] (fun r Q => r = .bool (lowerB b) ∧ Q = []) := FnV.of (args := [u8 b]) (caps := []) (lower_spec b)
attribute [local irreducible] G GO GR GT Fn FnX FnV FnXV Dfr pt init exs pur sat own ImpS namedF
set_option maxHeartbeats 16000000 in
theorem may_spec (m : NodeD) : Fn Tryz.prog 113 #[.agg [i64 (m.kind : Nat), str m.name, i64 (m.kids : Nat)].toArray] [] (fun r Q => r = .bool (mayN m) ∧ Q = []) := by
  refine Fn.mk2 Tryz.func113 rfl rfl fun w0 F => ?_
  unfold mayN
  obtain ⟨kind, name, kids⟩ := m
  dsimp only
  (refine G.seq ?_; refine G.region ?_; refine GO.box rfl rfl rfl fun b1 => ?_; refine GO.assign rfl rfl ?_; refine GO.nil ?_; refine kthen_n ?_; refine G.seq ?_; refine G.seq ?_; refine G.region ?_; refine GO.fieldAddr rfl rfl ?_; refine GO.load1 rfl rfl rfl Tk.h rfl ?_; refine GO.nil ?_; refine kthen_n ?_; refine G.block ?_; refine G.seq ?_; refine G.region ?_; refine GO.eqi rfl rfl rfl ?_; refine GO.assign rfl rfl ?_; refine GO.nil ?_; refine kthen_n ?_)
  by_cases c1 : kind = 1
  · have d1 : decide ((kind : Int) = 1) = true := decide_eq_true (by omega)
    rw [if_pos c1]
    cases e1 : decide (name = [])
    · (refine G.condT rfl (by assumption) ?_; refine G.seq ?_; refine G.region ?_; refine GO.fieldAddr rfl rfl ?_; refine GO.load1 rfl rfl rfl Tk.h rfl ?_; refine GO.binS rfl rfl rfl rfl ?_; refine GO.move rfl rfl ?_; refine GO.gF rfl rfl rfl (by assumption) ?_; refine GO.gF rfl rfl rfl (by assumption) ?_; refine GO.gF rfl rfl rfl (by assumption) ?_; refine GO.pickFa rfl rfl (by assumption) rfl ?_; refine GO.assign rfl rfl ?_; refine GO.nil ?_; refine kthen_n ?_; refine G.ret ?_; refine kblock_r ?_; refine kthen_r ?_)
      refine KF2.r1 rfl (RV.t rfl) ⟨rfl, rfl⟩ (ImpS.sb ?_)
      (skip; (refine Sb.s ?_; exact Sb.r))
    · (refine G.condT rfl (by assumption) ?_; refine G.seq ?_; refine G.region ?_; refine GO.fieldAddr rfl rfl ?_; refine GO.load1 rfl rfl rfl Tk.h rfl ?_; refine GO.binS rfl rfl rfl rfl ?_; refine GO.move rfl rfl ?_; refine GO.gT rfl rfl (by assumption) ?_; refine GO.fieldAddr rfl rfl ?_; refine GO.gT rfl rfl (by assumption) ?_; refine GO.load1 rfl rfl rfl Tk.h rfl ?_; refine GO.gT rfl rfl (by assumption) ?_; refine GO.eqi rfl rfl rfl ?_; refine GO.pickTa rfl rfl (by assumption) rfl ?_; refine GO.assign rfl rfl ?_; refine GO.nil ?_; refine kthen_n ?_; refine G.ret ?_; refine kblock_r ?_; refine kthen_r ?_)
      refine KF2.r1 rfl (RV.t rfl) ⟨by rw [Bool.true_and]; exact congrArg Value.bool (show decide ((kids : Int) = 0) = decide (kids = 0) from decide_eq_decide.2 (by omega)), rfl⟩ (ImpS.sb ?_)
      (skip; (refine Sb.s ?_; exact Sb.r))
  have d1 : decide ((kind : Int) = 1) = false := decide_eq_false (by omega)
  by_cases c2 : kind = 2
  · have d2 : decide ((kind : Int) = 2) = true := decide_eq_true (by omega)
    rw [if_neg c1, if_pos c2, show decide (kids = 0) = decide ((kids : Int) = 0) from decide_eq_decide.2 (by omega)]
    cases e1 : decide ((kids : Int) = 0)
    · (refine G.condF rfl (by assumption) ?_; refine G.seq ?_; refine G.region ?_; refine GO.eqi rfl rfl rfl ?_; refine GO.assign rfl rfl ?_; refine GO.nil ?_; refine kthen_n ?_; refine G.condT rfl (by assumption) ?_; refine G.seq ?_; refine G.region ?_; refine GO.fieldAddr rfl rfl ?_; refine GO.load1 rfl rfl rfl Tk.h rfl ?_; refine GO.eqi rfl rfl rfl ?_; refine GO.move rfl rfl ?_; refine GO.gF rfl rfl rfl (by assumption) ?_; refine GO.gF rfl rfl rfl (by assumption) ?_; refine GO.gF rfl rfl rfl (by assumption) ?_; refine GO.pickFa rfl rfl (by assumption) rfl ?_; refine GO.assign rfl rfl ?_; refine GO.nil ?_; refine kthen_n ?_; refine G.ret ?_; refine kblock_r ?_; refine kthen_r ?_)
      refine KF2.r1 rfl (RV.t rfl) ⟨rfl, rfl⟩ (ImpS.sb ?_)
      (skip; (refine Sb.s ?_; exact Sb.r))
    · (refine G.condF rfl (by assumption) ?_; refine G.seq ?_; refine G.region ?_; refine GO.eqi rfl rfl rfl ?_; refine GO.assign rfl rfl ?_; refine GO.nil ?_; refine kthen_n ?_; refine G.condT rfl (by assumption) ?_; refine G.seq ?_; refine G.region ?_; refine GO.fieldAddr rfl rfl ?_; refine GO.load1 rfl rfl rfl Tk.h rfl ?_; refine GO.eqi rfl rfl rfl ?_; refine GO.move rfl rfl ?_; refine GO.gT rfl rfl (by assumption) ?_; refine GO.fieldAddr rfl rfl ?_; refine GO.gT rfl rfl (by assumption) ?_; refine GO.load1 rfl rfl rfl Tk.h rfl ?_; refine GO.gT rfl rfl (by assumption) ?_)
      refine GO.call2 rfl rfl rfl (named_spec name (.func (.func 128) #[] #[]) upperB upper_fv) Tks.n ?_
      rintro _ _ ⟨rfl, rfl⟩
      (refine GO.pickTa rfl rfl (by assumption) rfl ?_; refine GO.assign rfl rfl ?_; refine GO.nil ?_; refine kthen_n ?_; refine G.ret ?_; refine kblock_r ?_; refine kthen_r ?_)
      refine KF2.r1 rfl (RV.t rfl) ⟨rfl, rfl⟩ (ImpS.sb ?_)
      (skip; (refine Sb.s ?_; exact Sb.r))
  have d2 : decide ((kind : Int) = 2) = false := decide_eq_false (by omega)
  by_cases c3 : kind = 3
  · have d3 : decide ((kind : Int) = 3) = true := decide_eq_true (by omega)
    rw [if_neg c1, if_neg c2, if_pos c3, show decide (kids = 0) = decide ((kids : Int) = 0) from decide_eq_decide.2 (by omega)]
    cases e1 : decide ((kids : Int) = 0)
    · (refine G.condF rfl (by assumption) ?_; refine G.seq ?_; refine G.region ?_; refine GO.eqi rfl rfl rfl ?_; refine GO.assign rfl rfl ?_; refine GO.nil ?_; refine kthen_n ?_; refine G.condF rfl (by assumption) ?_; refine G.seq ?_; refine G.region ?_; refine GO.eqi rfl rfl rfl ?_; refine GO.assign rfl rfl ?_; refine GO.nil ?_; refine kthen_n ?_; refine G.condT rfl (by assumption) ?_; refine G.seq ?_; refine G.region ?_; refine GO.fieldAddr rfl rfl ?_; refine GO.load1 rfl rfl rfl Tk.h rfl ?_; refine GO.eqi rfl rfl rfl ?_; refine GO.move rfl rfl ?_; refine GO.gF rfl rfl rfl (by assumption) ?_; refine GO.gF rfl rfl rfl (by assumption) ?_; refine GO.gF rfl rfl rfl (by assumption) ?_; refine GO.pickFa rfl rfl (by assumption) rfl ?_; refine GO.assign rfl rfl ?_; refine GO.nil ?_; refine kthen_n ?_; refine G.ret ?_; refine kblock_r ?_; refine kthen_r ?_)
      refine KF2.r1 rfl (RV.t rfl) ⟨rfl, rfl⟩ (ImpS.sb ?_)
      (skip; (refine Sb.s ?_; exact Sb.r))
    · (refine G.condF rfl (by assumption) ?_; refine G.seq ?_; refine G.region ?_; refine GO.eqi rfl rfl rfl ?_; refine GO.assign rfl rfl ?_; refine GO.nil ?_; refine kthen_n ?_; refine G.condF rfl (by assumption) ?_; refine G.seq ?_; refine G.region ?_; refine GO.eqi rfl rfl rfl ?_; refine GO.assign rfl rfl ?_; refine GO.nil ?_; refine kthen_n ?_; refine G.condT rfl (by assumption) ?_; refine G.seq ?_; refine G.region ?_; refine GO.fieldAddr rfl rfl ?_; refine GO.load1 rfl rfl rfl Tk.h rfl ?_; refine GO.eqi rfl rfl rfl ?_; refine GO.move rfl rfl ?_; refine GO.gT rfl rfl (by assumption) ?_; refine GO.fieldAddr rfl rfl ?_; refine GO.gT rfl rfl (by assumption) ?_; refine GO.load1 rfl rfl rfl Tk.h rfl ?_; refine GO.gT rfl rfl (by assumption) ?_)
      refine GO.call2 rfl rfl rfl (named_spec name (.func (.func 129) #[] #[]) lowerB lower_fv) Tks.n ?_
      rintro _ _ ⟨rfl, rfl⟩
      (refine GO.pickTa rfl rfl (by assumption) rfl ?_; refine GO.assign rfl rfl ?_; refine GO.nil ?_; refine kthen_n ?_; refine G.ret ?_; refine kblock_r ?_; refine kthen_r ?_)
      refine KF2.r1 rfl (RV.t rfl) ⟨rfl, rfl⟩ (ImpS.sb ?_)
      (skip; (refine Sb.s ?_; exact Sb.r))
  have d3 : decide ((kind : Int) = 3) = false := decide_eq_false (by omega)
  by_cases c4 : kind = 4
  · have d4 : decide ((kind : Int) = 4) = true := decide_eq_true (by omega)
    rw [if_neg c1, if_neg c2, if_neg c3, if_pos (by omega)]
    cases e1 : decide (name = [])
    · (refine G.condF rfl (by assumption) ?_; refine G.seq ?_; refine G.region ?_; refine GO.eqi rfl rfl rfl ?_; refine GO.assign rfl rfl ?_; refine GO.nil ?_; refine kthen_n ?_; refine G.condF rfl (by assumption) ?_; refine G.seq ?_; refine G.region ?_; refine GO.eqi rfl rfl rfl ?_; refine GO.assign rfl rfl ?_; refine GO.nil ?_; refine kthen_n ?_; refine G.condF rfl (by assumption) ?_; refine G.seq ?_; refine G.seq ?_; refine G.region ?_; refine GO.eqi rfl rfl rfl ?_; refine GO.assign rfl rfl ?_; refine GO.nil ?_; refine kthen_n ?_; refine G.condT rfl (by assumption) ?_; refine G.skip ?_; refine kthen_n ?_; refine G.condT rfl (by assumption) ?_; refine G.seq ?_; refine G.region ?_; refine GO.fieldAddr rfl rfl ?_; refine GO.load1 rfl rfl rfl Tk.h rfl ?_; refine GO.binS rfl rfl rfl rfl ?_; refine GO.move rfl rfl ?_; refine GO.gF rfl rfl rfl (by assumption) ?_; refine GO.gF rfl rfl rfl (by assumption) ?_; refine GO.gF rfl rfl rfl (by assumption) ?_; refine GO.pickFa rfl rfl (by assumption) rfl ?_; refine GO.assign rfl rfl ?_; refine GO.nil ?_; refine kthen_n ?_; refine G.ret ?_; refine kblock_r ?_; refine kthen_r ?_)
      refine KF2.r1 rfl (RV.t rfl) ⟨rfl, rfl⟩ (ImpS.sb ?_)
      (skip; (refine Sb.s ?_; exact Sb.r))
    · (refine G.condF rfl (by assumption) ?_; refine G.seq ?_; refine G.region ?_; refine GO.eqi rfl rfl rfl ?_; refine GO.assign rfl rfl ?_; refine GO.nil ?_; refine kthen_n ?_; refine G.condF rfl (by assumption) ?_; refine G.seq ?_; refine G.region ?_; refine GO.eqi rfl rfl rfl ?_; refine GO.assign rfl rfl ?_; refine GO.nil ?_; refine kthen_n ?_; refine G.condF rfl (by assumption) ?_; refine G.seq ?_; refine G.seq ?_; refine G.region ?_; refine GO.eqi rfl rfl rfl ?_; refine GO.assign rfl rfl ?_; refine GO.nil ?_; refine kthen_n ?_; refine G.condT rfl (by assumption) ?_; refine G.skip ?_; refine kthen_n ?_; refine G.condT rfl (by assumption) ?_; refine G.seq ?_; refine G.region ?_; refine GO.fieldAddr rfl rfl ?_; refine GO.load1 rfl rfl rfl Tk.h rfl ?_; refine GO.binS rfl rfl rfl rfl ?_; refine GO.move rfl rfl ?_; refine GO.gT rfl rfl (by assumption) ?_; refine GO.fieldAddr rfl rfl ?_; refine GO.gT rfl rfl (by assumption) ?_; refine GO.load1 rfl rfl rfl Tk.h rfl ?_; refine GO.gT rfl rfl (by assumption) ?_; refine GO.gei rfl rfl rfl ?_; refine GO.pickTa rfl rfl (by assumption) rfl ?_; refine GO.assign rfl rfl ?_; refine GO.nil ?_; refine kthen_n ?_; refine G.ret ?_; refine kblock_r ?_; refine kthen_r ?_)
      refine KF2.r1 rfl (RV.t rfl) ⟨by rw [Bool.true_and]; exact congrArg Value.bool (show decide ((2 : Int) ≤ (kids : Int)) = decide (2 ≤ kids) from decide_eq_decide.2 (by omega)), rfl⟩ (ImpS.sb ?_)
      (skip; (refine Sb.s ?_; exact Sb.r))
  have d4 : decide ((kind : Int) = 4) = false := decide_eq_false (by omega)
  by_cases c5 : kind = 5
  · have d5 : decide ((kind : Int) = 5) = true := decide_eq_true (by omega)
    rw [if_neg c1, if_neg c2, if_neg c3, if_pos (by omega)]
    cases e1 : decide (name = [])
    · (refine G.condF rfl (by assumption) ?_; refine G.seq ?_; refine G.region ?_; refine GO.eqi rfl rfl rfl ?_; refine GO.assign rfl rfl ?_; refine GO.nil ?_; refine kthen_n ?_; refine G.condF rfl (by assumption) ?_; refine G.seq ?_; refine G.region ?_; refine GO.eqi rfl rfl rfl ?_; refine GO.assign rfl rfl ?_; refine GO.nil ?_; refine kthen_n ?_; refine G.condF rfl (by assumption) ?_; refine G.seq ?_; refine G.seq ?_; refine G.region ?_; refine GO.eqi rfl rfl rfl ?_; refine GO.assign rfl rfl ?_; refine GO.nil ?_; refine kthen_n ?_; refine G.condF rfl (by assumption) ?_; refine G.region ?_; refine GO.eqi rfl rfl rfl ?_; refine GO.assign rfl rfl ?_; refine GO.nil ?_; refine kthen_n ?_; refine G.condT rfl (by assumption) ?_; refine G.seq ?_; refine G.region ?_; refine GO.fieldAddr rfl rfl ?_; refine GO.load1 rfl rfl rfl Tk.h rfl ?_; refine GO.binS rfl rfl rfl rfl ?_; refine GO.move rfl rfl ?_; refine GO.gF rfl rfl rfl (by assumption) ?_; refine GO.gF rfl rfl rfl (by assumption) ?_; refine GO.gF rfl rfl rfl (by assumption) ?_; refine GO.pickFa rfl rfl (by assumption) rfl ?_; refine GO.assign rfl rfl ?_; refine GO.nil ?_; refine kthen_n ?_; refine G.ret ?_; refine kblock_r ?_; refine kthen_r ?_)
      refine KF2.r1 rfl (RV.t rfl) ⟨rfl, rfl⟩ (ImpS.sb ?_)
      (skip; (refine Sb.s ?_; exact Sb.r))
    · (refine G.condF rfl (by assumption) ?_; refine G.seq ?_; refine G.region ?_; refine GO.eqi rfl rfl rfl ?_; refine GO.assign rfl rfl ?_; refine GO.nil ?_; refine kthen_n ?_; refine G.condF rfl (by assumption) ?_; refine G.seq ?_; refine G.region ?_; refine GO.eqi rfl rfl rfl ?_; refine GO.assign rfl rfl ?_; refine GO.nil ?_; refine kthen_n ?_; refine G.condF rfl (by assumption) ?_; refine G.seq ?_; refine G.seq ?_; refine G.region ?_; refine GO.eqi rfl rfl rfl ?_; refine GO.assign rfl rfl ?_; refine GO.nil ?_; refine kthen_n ?_; refine G.condF rfl (by assumption) ?_; refine G.region ?_; refine GO.eqi rfl rfl rfl ?_; refine GO.assign rfl rfl ?_; refine GO.nil ?_; refine kthen_n ?_; refine G.condT rfl (by assumption) ?_; refine G.seq ?_; refine G.region ?_; refine GO.fieldAddr rfl rfl ?_; refine GO.load1 rfl rfl rfl Tk.h rfl ?_; refine GO.binS rfl rfl rfl rfl ?_; refine GO.move rfl rfl ?_; refine GO.gT rfl rfl (by assumption) ?_; refine GO.fieldAddr rfl rfl ?_; refine GO.gT rfl rfl (by assumption) ?_; refine GO.load1 rfl rfl rfl Tk.h rfl ?_; refine GO.gT rfl rfl (by assumption) ?_; refine GO.gei rfl rfl rfl ?_; refine GO.pickTa rfl rfl (by assumption) rfl ?_; refine GO.assign rfl rfl ?_; refine GO.nil ?_; refine kthen_n ?_; refine G.ret ?_; refine kblock_r ?_; refine kthen_r ?_)
      refine KF2.r1 rfl (RV.t rfl) ⟨by rw [Bool.true_and]; exact congrArg Value.bool (show decide ((2 : Int) ≤ (kids : Int)) = decide (2 ≤ kids) from decide_eq_decide.2 (by omega)), rfl⟩ (ImpS.sb ?_)
      (skip; (refine Sb.s ?_; exact Sb.r))
  have d5 : decide ((kind : Int) = 5) = false := decide_eq_false (by omega)
  by_cases c6 : kind = 6
  · have d6 : decide ((kind : Int) = 6) = true := decide_eq_true (by omega)
    rw [if_neg c1, if_neg c2, if_neg c3, if_neg (by omega), if_pos (by omega)]
    cases e1 : decide (name = [])
    · (refine G.condF rfl (by assumption) ?_; refine G.seq ?_; refine G.region ?_; refine GO.eqi rfl rfl rfl ?_; refine GO.assign rfl rfl ?_; refine GO.nil ?_; refine kthen_n ?_; refine G.condF rfl (by assumption) ?_; refine G.seq ?_; refine G.region ?_; refine GO.eqi rfl rfl rfl ?_; refine GO.assign rfl rfl ?_; refine GO.nil ?_; refine kthen_n ?_; refine G.condF rfl (by assumption) ?_; refine G.seq ?_; refine G.seq ?_; refine G.region ?_; refine GO.eqi rfl rfl rfl ?_; refine GO.assign rfl rfl ?_; refine GO.nil ?_; refine kthen_n ?_; refine G.condF rfl (by assumption) ?_; refine G.region ?_; refine GO.eqi rfl rfl rfl ?_; refine GO.assign rfl rfl ?_; refine GO.nil ?_; refine kthen_n ?_; refine G.condF rfl (by assumption) ?_; refine G.seq ?_; refine G.seq ?_; refine G.region ?_; refine GO.eqi rfl rfl rfl ?_; refine GO.assign rfl rfl ?_; refine GO.nil ?_; refine kthen_n ?_; refine G.condT rfl (by assumption) ?_; refine G.skip ?_; refine kthen_n ?_; refine G.condT rfl (by assumption) ?_; refine G.seq ?_; refine G.region ?_; refine GO.fieldAddr rfl rfl ?_; refine GO.load1 rfl rfl rfl Tk.h rfl ?_; refine GO.binS rfl rfl rfl rfl ?_; refine GO.move rfl rfl ?_; refine GO.gF rfl rfl rfl (by assumption) ?_; refine GO.gF rfl rfl rfl (by assumption) ?_; refine GO.gF rfl rfl rfl (by assumption) ?_; refine GO.pickFa rfl rfl (by assumption) rfl ?_; refine GO.assign rfl rfl ?_; refine GO.nil ?_; refine kthen_n ?_; refine G.ret ?_; refine kblock_r ?_; refine kthen_r ?_)
      refine KF2.r1 rfl (RV.t rfl) ⟨rfl, rfl⟩ (ImpS.sb ?_)
      (skip; (refine Sb.s ?_; exact Sb.r))
    · (refine G.condF rfl (by assumption) ?_; refine G.seq ?_; refine G.region ?_; refine GO.eqi rfl rfl rfl ?_; refine GO.assign rfl rfl ?_; refine GO.nil ?_; refine kthen_n ?_; refine G.condF rfl (by assumption) ?_; refine G.seq ?_; refine G.region ?_; refine GO.eqi rfl rfl rfl ?_; refine GO.assign rfl rfl ?_; refine GO.nil ?_; refine kthen_n ?_; refine G.condF rfl (by assumption) ?_; refine G.seq ?_; refine G.seq ?_; refine G.region ?_; refine GO.eqi rfl rfl rfl ?_; refine GO.assign rfl rfl ?_; refine GO.nil ?_; refine kthen_n ?_; refine G.condF rfl (by assumption) ?_; refine G.region ?_; refine GO.eqi rfl rfl rfl ?_; refine GO.assign rfl rfl ?_; refine GO.nil ?_; refine kthen_n ?_; refine G.condF rfl (by assumption) ?_; refine G.seq ?_; refine G.seq ?_; refine G.region ?_; refine GO.eqi rfl rfl rfl ?_; refine GO.assign rfl rfl ?_; refine GO.nil ?_; refine kthen_n ?_; refine G.condT rfl (by assumption) ?_; refine G.skip ?_; refine kthen_n ?_; refine G.condT rfl (by assumption) ?_; refine G.seq ?_; refine G.region ?_; refine GO.fieldAddr rfl rfl ?_; refine GO.load1 rfl rfl rfl Tk.h rfl ?_; refine GO.binS rfl rfl rfl rfl ?_; refine GO.move rfl rfl ?_; refine GO.gT rfl rfl (by assumption) ?_; refine GO.fieldAddr rfl rfl ?_; refine GO.gT rfl rfl (by assumption) ?_; refine GO.load1 rfl rfl rfl Tk.h rfl ?_; refine GO.gT rfl rfl (by assumption) ?_; refine GO.eqi rfl rfl rfl ?_; refine GO.pickTa rfl rfl (by assumption) rfl ?_; refine GO.assign rfl rfl ?_; refine GO.nil ?_; refine kthen_n ?_; refine G.ret ?_; refine kblock_r ?_; refine kthen_r ?_)
      refine KF2.r1 rfl (RV.t rfl) ⟨by rw [Bool.true_and]; exact congrArg Value.bool (show decide ((kids : Int) = 1) = decide (kids = 1) from decide_eq_decide.2 (by omega)), rfl⟩ (ImpS.sb ?_)
      (skip; (refine Sb.s ?_; exact Sb.r))
  have d6 : decide ((kind : Int) = 6) = false := decide_eq_false (by omega)
  by_cases c7 : kind = 7
  · have d7 : decide ((kind : Int) = 7) = true := decide_eq_true (by omega)
    rw [if_neg c1, if_neg c2, if_neg c3, if_neg (by omega), if_pos (by omega)]
    cases e1 : decide (name = [])
    · (refine G.condF rfl (by assumption) ?_; refine G.seq ?_; refine G.region ?_; refine GO.eqi rfl rfl rfl ?_; refine GO.assign rfl rfl ?_; refine GO.nil ?_; refine kthen_n ?_; refine G.condF rfl (by assumption) ?_; refine G.seq ?_; refine G.region ?_; refine GO.eqi rfl rfl rfl ?_; refine GO.assign rfl rfl ?_; refine GO.nil ?_; refine kthen_n ?_; refine G.condF rfl (by assumption) ?_; refine G.seq ?_; refine G.seq ?_; refine G.region ?_; refine GO.eqi rfl rfl rfl ?_; refine GO.assign rfl rfl ?_; refine GO.nil ?_; refine kthen_n ?_; refine G.condF rfl (by assumption) ?_; refine G.region ?_; refine GO.eqi rfl rfl rfl ?_; refine GO.assign rfl rfl ?_; refine GO.nil ?_; refine kthen_n ?_; refine G.condF rfl (by assumption) ?_; refine G.seq ?_; refine G.seq ?_; refine G.region ?_; refine GO.eqi rfl rfl rfl ?_; refine GO.assign rfl rfl ?_; refine GO.nil ?_; refine kthen_n ?_; refine G.condF rfl (by assumption) ?_; refine G.seq ?_; refine G.region ?_; refine GO.eqi rfl rfl rfl ?_; refine GO.assign rfl rfl ?_; refine GO.nil ?_; refine kthen_n ?_; refine G.condT rfl (by assumption) ?_; refine G.skip ?_; refine kthen_n ?_; refine G.condT rfl (by assumption) ?_; refine G.seq ?_; refine G.region ?_; refine GO.fieldAddr rfl rfl ?_; refine GO.load1 rfl rfl rfl Tk.h rfl ?_; refine GO.binS rfl rfl rfl rfl ?_; refine GO.move rfl rfl ?_; refine GO.gF rfl rfl rfl (by assumption) ?_; refine GO.gF rfl rfl rfl (by assumption) ?_; refine GO.gF rfl rfl rfl (by assumption) ?_; refine GO.pickFa rfl rfl (by assumption) rfl ?_; refine GO.assign rfl rfl ?_; refine GO.nil ?_; refine kthen_n ?_; refine G.ret ?_; refine kblock_r ?_; refine kthen_r ?_)
      refine KF2.r1 rfl (RV.t rfl) ⟨rfl, rfl⟩ (ImpS.sb ?_)
      (skip; (refine Sb.s ?_; exact Sb.r))
    · (refine G.condF rfl (by assumption) ?_; refine G.seq ?_; refine G.region ?_; refine GO.eqi rfl rfl rfl ?_; refine GO.assign rfl rfl ?_; refine GO.nil ?_; refine kthen_n ?_; refine G.condF rfl (by assumption) ?_; refine G.seq ?_; refine G.region ?_; refine GO.eqi rfl rfl rfl ?_; refine GO.assign rfl rfl ?_; refine GO.nil ?_; refine kthen_n ?_; refine G.condF rfl (by assumption) ?_; refine G.seq ?_; refine G.seq ?_; refine G.region ?_; refine GO.eqi rfl rfl rfl ?_; refine GO.assign rfl rfl ?_; refine GO.nil ?_; refine kthen_n ?_; refine G.condF rfl (by assumption) ?_; refine G.region ?_; refine GO.eqi rfl rfl rfl ?_; refine GO.assign rfl rfl ?_; refine GO.nil ?_; refine kthen_n ?_; refine G.condF rfl (by assumption) ?_; refine G.seq ?_; refine G.seq ?_; refine G.region ?_; refine GO.eqi rfl rfl rfl ?_; refine GO.assign rfl rfl ?_; refine GO.nil ?_; refine kthen_n ?_; refine G.condF rfl (by assumption) ?_; refine G.seq ?_; refine G.region ?_; refine GO.eqi rfl rfl rfl ?_; refine GO.assign rfl rfl ?_; refine GO.nil ?_; refine kthen_n ?_; refine G.condT rfl (by assumption) ?_; refine G.skip ?_; refine kthen_n ?_; refine G.condT rfl (by assumption) ?_; refine G.seq ?_; refine G.region ?_; refine GO.fieldAddr rfl rfl ?_; refine GO.load1 rfl rfl rfl Tk.h rfl ?_; refine GO.binS rfl rfl rfl rfl ?_; refine GO.move rfl rfl ?_; refine GO.gT rfl rfl (by assumption) ?_; refine GO.fieldAddr rfl rfl ?_; refine GO.gT rfl rfl (by assumption) ?_; refine GO.load1 rfl rfl rfl Tk.h rfl ?_; refine GO.gT rfl rfl (by assumption) ?_; refine GO.eqi rfl rfl rfl ?_; refine GO.pickTa rfl rfl (by assumption) rfl ?_; refine GO.assign rfl rfl ?_; refine GO.nil ?_; refine kthen_n ?_; refine G.ret ?_; refine kblock_r ?_; refine kthen_r ?_)
      refine KF2.r1 rfl (RV.t rfl) ⟨by rw [Bool.true_and]; exact congrArg Value.bool (show decide ((kids : Int) = 1) = decide (kids = 1) from decide_eq_decide.2 (by omega)), rfl⟩ (ImpS.sb ?_)
      (skip; (refine Sb.s ?_; exact Sb.r))
  have d7 : decide ((kind : Int) = 7) = false := decide_eq_false (by omega)
  by_cases c8 : kind = 8
  · have d8 : decide ((kind : Int) = 8) = true := decide_eq_true (by omega)
    rw [if_neg c1, if_neg c2, if_neg c3, if_neg (by omega), if_pos (by omega)]
    cases e1 : decide (name = [])
    · (refine G.condF rfl (by assumption) ?_; refine G.seq ?_; refine G.region ?_; refine GO.eqi rfl rfl rfl ?_; refine GO.assign rfl rfl ?_; refine GO.nil ?_; refine kthen_n ?_; refine G.condF rfl (by assumption) ?_; refine G.seq ?_; refine G.region ?_; refine GO.eqi rfl rfl rfl ?_; refine GO.assign rfl rfl ?_; refine GO.nil ?_; refine kthen_n ?_; refine G.condF rfl (by assumption) ?_; refine G.seq ?_; refine G.seq ?_; refine G.region ?_; refine GO.eqi rfl rfl rfl ?_; refine GO.assign rfl rfl ?_; refine GO.nil ?_; refine kthen_n ?_; refine G.condF rfl (by assumption) ?_; refine G.region ?_; refine GO.eqi rfl rfl rfl ?_; refine GO.assign rfl rfl ?_; refine GO.nil ?_; refine kthen_n ?_; refine G.condF rfl (by assumption) ?_; refine G.seq ?_; refine G.seq ?_; refine G.region ?_; refine GO.eqi rfl rfl rfl ?_; refine GO.assign rfl rfl ?_; refine GO.nil ?_; refine kthen_n ?_; refine G.condF rfl (by assumption) ?_; refine G.seq ?_; refine G.region ?_; refine GO.eqi rfl rfl rfl ?_; refine GO.assign rfl rfl ?_; refine GO.nil ?_; refine kthen_n ?_; refine G.condF rfl (by assumption) ?_; refine G.region ?_; refine GO.eqi rfl rfl rfl ?_; refine GO.assign rfl rfl ?_; refine GO.nil ?_; refine kthen_n ?_; refine G.condT rfl (by assumption) ?_; refine G.seq ?_; refine G.region ?_; refine GO.fieldAddr rfl rfl ?_; refine GO.load1 rfl rfl rfl Tk.h rfl ?_; refine GO.binS rfl rfl rfl rfl ?_; refine GO.move rfl rfl ?_; refine GO.gF rfl rfl rfl (by assumption) ?_; refine GO.gF rfl rfl rfl (by assumption) ?_; refine GO.gF rfl rfl rfl (by assumption) ?_; refine GO.pickFa rfl rfl (by assumption) rfl ?_; refine GO.assign rfl rfl ?_; refine GO.nil ?_; refine kthen_n ?_; refine G.ret ?_; refine kblock_r ?_; refine kthen_r ?_)
      refine KF2.r1 rfl (RV.t rfl) ⟨rfl, rfl⟩ (ImpS.sb ?_)
      (skip; (refine Sb.s ?_; exact Sb.r))
    · (refine G.condF rfl (by assumption) ?_; refine G.seq ?_; refine G.region ?_; refine GO.eqi rfl rfl rfl ?_; refine GO.assign rfl rfl ?_; refine GO.nil ?_; refine kthen_n ?_; refine G.condF rfl (by assumption) ?_; refine G.seq ?_; refine G.region ?_; refine GO.eqi rfl rfl rfl ?_; refine GO.assign rfl rfl ?_; refine GO.nil ?_; refine kthen_n ?_; refine G.condF rfl (by assumption) ?_; refine G.seq ?_; refine G.seq ?_; refine G.region ?_; refine GO.eqi rfl rfl rfl ?_; refine GO.assign rfl rfl ?_; refine GO.nil ?_; refine kthen_n ?_; refine G.condF rfl (by assumption) ?_; refine G.region ?_; refine GO.eqi rfl rfl rfl ?_; refine GO.assign rfl rfl ?_; refine GO.nil ?_; refine kthen_n ?_; refine G.condF rfl (by assumption) ?_; refine G.seq ?_; refine G.seq ?_; refine G.region ?_; refine GO.eqi rfl rfl rfl ?_; refine GO.assign rfl rfl ?_; refine GO.nil ?_; refine kthen_n ?_; refine G.condF rfl (by assumption) ?_; refine G.seq ?_; refine G.region ?_; refine GO.eqi rfl rfl rfl ?_; refine GO.assign rfl rfl ?_; refine GO.nil ?_; refine kthen_n ?_; refine G.condF rfl (by assumption) ?_; refine G.region ?_; refine GO.eqi rfl rfl rfl ?_; refine GO.assign rfl rfl ?_; refine GO.nil ?_; refine kthen_n ?_; refine G.condT rfl (by assumption) ?_; refine G.seq ?_; refine G.region ?_; refine GO.fieldAddr rfl rfl ?_; refine GO.load1 rfl rfl rfl Tk.h rfl ?_; refine GO.binS rfl rfl rfl rfl ?_; refine GO.move rfl rfl ?_; refine GO.gT rfl rfl (by assumption) ?_; refine GO.fieldAddr rfl rfl ?_; refine GO.gT rfl rfl (by assumption) ?_; refine GO.load1 rfl rfl rfl Tk.h rfl ?_; refine GO.gT rfl rfl (by assumption) ?_; refine GO.eqi rfl rfl rfl ?_; refine GO.pickTa rfl rfl (by assumption) rfl ?_; refine GO.assign rfl rfl ?_; refine GO.nil ?_; refine kthen_n ?_; refine G.ret ?_; refine kblock_r ?_; refine kthen_r ?_)
      refine KF2.r1 rfl (RV.t rfl) ⟨by rw [Bool.true_and]; exact congrArg Value.bool (show decide ((kids : Int) = 1) = decide (kids = 1) from decide_eq_decide.2 (by omega)), rfl⟩ (ImpS.sb ?_)
      (skip; (refine Sb.s ?_; exact Sb.r))
  have d8 : decide ((kind : Int) = 8) = false := decide_eq_false (by omega)
  rw [if_neg c1, if_neg c2, if_neg c3, if_neg (by omega), if_neg (by omega)]
  (refine G.condF rfl (by assumption) ?_; refine G.seq ?_; refine G.region ?_; refine GO.eqi rfl rfl rfl ?_; refine GO.assign rfl rfl ?_; refine GO.nil ?_; refine kthen_n ?_; refine G.condF rfl (by assumption) ?_; refine G.seq ?_; refine G.region ?_; refine GO.eqi rfl rfl rfl ?_; refine GO.assign rfl rfl ?_; refine GO.nil ?_; refine kthen_n ?_; refine G.condF rfl (by assumption) ?_; refine G.seq ?_; refine G.seq ?_; refine G.region ?_; refine GO.eqi rfl rfl rfl ?_; refine GO.assign rfl rfl ?_; refine GO.nil ?_; refine kthen_n ?_; refine G.condF rfl (by assumption) ?_; refine G.region ?_; refine GO.eqi rfl rfl rfl ?_; refine GO.assign rfl rfl ?_; refine GO.nil ?_; refine kthen_n ?_; refine G.condF rfl (by assumption) ?_; refine G.seq ?_; refine G.seq ?_; refine G.region ?_; refine GO.eqi rfl rfl rfl ?_; refine GO.assign rfl rfl ?_; refine GO.nil ?_; refine kthen_n ?_; refine G.condF rfl (by assumption) ?_; refine G.seq ?_; refine G.region ?_; refine GO.eqi rfl rfl rfl ?_; refine GO.assign rfl rfl ?_; refine GO.nil ?_; refine kthen_n ?_; refine G.condF rfl (by assumption) ?_; refine G.region ?_; refine GO.eqi rfl rfl rfl ?_; refine GO.assign rfl rfl ?_; refine GO.nil ?_; refine kthen_n ?_; refine G.condF rfl (by assumption) ?_; refine G.skip ?_; refine kblock_n ?_; refine kthen_n ?_; refine G.seq ?_; refine G.region ?_; refine GO.assign rfl rfl ?_; refine GO.nil ?_; refine kthen_n ?_; refine G.ret ?_)
  refine KF2.r1 rfl (RV.t rfl) ⟨rfl, rfl⟩ (ImpS.sb ?_)
  (skip; (refine Sb.s ?_; exact Sb.r))
end Go.Proofs.YtpgfmfbpmkfbjaaGreat
namespace Go.Proofs.YtpgfmfbpmkfbjaaGreat
open Go
/-- A slice that can be read, its length at most its capacity. -/
def SlK (q : HP) (v : Value) (n sz : Nat) (l : List Value) : Prop :=
  ∃ a cap, v = .slice a n cap ∧ n ≤ cap ∧ l.length = n * sz ∧ (0 < n → ∃ b o, a = some ⟨b, o, none⟩ ∧ ∀ j u, l[j]? = some u → Rd q ⟨b, o + j, none⟩ u)
theorem SlK.sl {q : HP} {v : Value} {n sz : Nat} {l : List Value} (h : SlK q v n sz l) : Sl q v n sz l := let ⟨a, cap, h1, _, h3, h4⟩ := h; ⟨a, cap, h1, h3, h4⟩
theorem SlK.one {q : HP} {v : Value} {n sz : Nat} {l : List Value} (h : SlK q v n sz l) : v.oneCell' = true := let ⟨_, _, h1, _⟩ := h; by rw [h1]; rfl
theorem GO.ownRdK {P : Program} {c : Cx} {A : Array Oper} {K : Kont} {L : Env} {H : List HP} {el : TypeId} {sz n : Nat} {v : Value} {xs : List Value} {F : List HP} {os : List Oper} (tk : Tk (own el sz n v xs) H F) (k : ∀ q, SlK q v n sz xs → GO P c A os K L (q :: F)) : GO P c A os K L H := by
  refine GO.own_open tk (fun hv hn hx => ?_) (fun b cap rest' hv h1 h2 h3 h4 => ?_)
  · subst hv hn hx
    exact GO.imp (H' := Go.Proofs.YtpgfmfbpmkfbjaaGreat.pur True :: F) (fun _ _ s => sat_pur.2 ⟨trivial, s⟩) (k _ ⟨none, 0, rfl, Nat.le_refl _, by simp, fun h => absurd h (by omega)⟩)
  · subst hv
    refine k _ ⟨_, _, rfl, h2, h1, fun _ => ⟨b, 0, rfl, fun j u hj => ?_⟩⟩
    rw [Nat.zero_add]
    exact Rd.row (by rw [List.getElem?_append_left (List.getElem?_eq_some_iff.1 hj).1]; exact hj)
theorem G.ownRdK {P : Program} {c : Cx} {K : Kont} {L : Env} {H : List HP} {el : TypeId} {sz n : Nat} {v : Value} {xs : List Value} {F : List HP} {C : Code} (tk : Tk (own el sz n v xs) H F) (k : ∀ q, SlK q v n sz xs → G P c C K L (q :: F)) : G P c C K L H := by
  rintro a w ⟨h1, h2, ds, h3, h4, h5⟩
  have s1 : sat (own el sz n v xs :: (F ++ (c.X ++ ds.map dblk))) w := sat_perm (List.Perm.append_right _ tk) h5
  rcases own_shape s1 with ⟨rfl, rfl, rfl, s2⟩ | ⟨b, cap, rest', rfl, g1, g2, _, _, s2⟩
  · exact k (Go.Proofs.YtpgfmfbpmkfbjaaGreat.pur True) ⟨none, 0, rfl, Nat.le_refl _, by simp, fun h => absurd h (by omega)⟩ a w ⟨h1, h2, ds, h3, h4, sat_pur.2 ⟨trivial, s2⟩⟩
  · refine k (pt b (row (xs ++ rest') el)) ⟨_, _, rfl, g2, g1, fun _ => ⟨b, 0, rfl, fun j u hj => ?_⟩⟩ a w ⟨h1, h2, ds, h3, h4, s2⟩
    rw [Nat.zero_add]
    exact Rd.row (by rw [List.getElem?_append_left (List.getElem?_eq_some_iff.1 hj).1]; exact hj)
/-- Nodes, readable in q. -/
abbrev NodesR (q : HP) (v : Value) (l : List NodeD) : Prop := SlK q v l.length 3 (nodesV l)
theorem nodes_rd {q : HP} {v : Value} {l : List NodeD} {i : Nat} {m : NodeD} (hq : NodesR q v l) (h : l[i]? = some m) : ∃ b o cap, v = .slice (some ⟨b, o, none⟩) l.length cap ∧ l.length ≤ cap ∧
    (∀ j u, [i64 (m.kind : Nat), str m.name, i64 (m.kids : Nat)][j]? = some u → Rd q ⟨b, o + i * 3 + j, none⟩ u) := by
  obtain ⟨a, cap, rfl, hcap, _, hr⟩ := hq
  have hi := (List.getElem?_eq_some_iff.1 h).1
  obtain ⟨b, o, rfl, hr2⟩ := hr (by omega)
  refine ⟨b, o, cap, rfl, hcap, fun j u hu => ?_⟩
  have hj : j < 3 := (List.getElem?_eq_some_iff.1 hu).1
  rw [Nat.add_assoc]
  exact hr2 _ _ (by unfold nodesV; rw [flatX_get (enc := nodeVs) (k := 3) (fun _ => rfl) h hj]; exact hu)
theorem nodes_sl {q : HP} {v : Value} {l : List NodeD} (hq : NodesR q v l) : ∃ a cap, v = .slice a l.length cap := let ⟨a, cap, h, _⟩ := hq; ⟨a, cap, h⟩
theorem mul_bound {a b : Nat} (ha : a ≤ 1048576) (hb : b ≤ 1048576) : a * b ≤ 1099511627776 := Nat.le_trans (Nat.mul_le_mul ha hb) (by decide)
attribute [local irreducible] G GO GR GT Fn FnX FnV FnXV Dfr pt init exs pur sat own ImpS mayN
set_option maxHeartbeats 16000000 in
theorem whole_spec (q : HP) (v : Value) (l : List NodeD) (hq : NodesR q v l) (hl : ¬ 1048576 < l.length) : Fn Tryz.prog 87 #[v] [q] (fun r Q => r = .bool (wholeF l) ∧ Q = [q]) := by
  have hrd : ∀ i m, l[i]? = some m → _ := fun i m h => nodes_rd hq h
  obtain ⟨a, cap, rfl⟩ := nodes_sl hq
  clear hq
  unfold wholeF
  refine Fn.mk2 Tryz.func87 rfl rfl fun w0 F => ?_
  generalize hfin : wholeL l.length 1 l = fin
  (refine G.seq ?_; refine G.region ?_; refine GO.assign rfl rfl ?_; refine GO.nil ?_; refine kthen_n ?_; refine G.seq ?_; refine G.region ?_; refine GO.assign rfl rfl ?_; refine GO.nil ?_; refine kthen_n ?_; refine G.seq ?_; refine G.seq ?_; refine G.region ?_; refine GO.move rfl rfl ?_; refine GO.lenS rfl rfl ?_; refine GO.move rfl rfl ?_; refine GO.nil ?_; refine kthen_n ?_; refine G.block ?_)
  refine G.loopI (σ := Nat × Nat) (fun z => [(0, .slice a l.length cap), (3, i64 (z.2 : Nat)), (6, .slice a l.length cap), (7, i64 (l.length : Nat)), (8, i64 (z.1 : Nat))]) (fun _ => q :: F) (fun z => z.1 ≤ l.length ∧ z.2 ≤ 1 + z.1 * l.length ∧ wholeL l.length z.2 (l.drop z.1) = fin) (fun z => l.length - z.1) (0, 1) ⟨Nat.zero_le _, by dsimp only; omega, hfin⟩ ?_ ?_ ?_
  · (refine SubE.c rfl rfl ?_; refine SubE.c rfl rfl ?_; refine SubE.c rfl rfl ?_; refine SubE.c rfl rfl ?_; refine SubE.c rfl rfl ?_; exact SubE.n)
  · refine ImpS.sb ?_
    ((refine Sb.c Tk.h ?_); (exact Sb.r))
  clear hfin
  rintro ⟨i, o⟩ ⟨hi, ho, hw⟩
  dsimp only at hi ho hw ⊢
  have hmb := mul_bound (a := i) (b := l.length) (by omega) (by omega)
  have hsm : (i + 1) * l.length = i * l.length + l.length := by rw [Nat.add_mul, Nat.one_mul]
  (refine G.seq ?_; refine G.region ?_; refine GO.lti rfl rfl rfl ?_; refine GO.nil ?_; refine kthen_n ?_; refine G.seq ?_)
  by_cases hlt : i < l.length
  · have d1 : decide ((i : Int) < (l.length : Int)) = true := decide_eq_true (by omega)
    obtain ⟨m, hm⟩ : ∃ m, l[i]? = some m := ⟨_, List.getElem?_eq_getElem hlt⟩
    obtain ⟨b, o2, cap2, e, _, rm⟩ := hrd i m hm
    injection e with e _ e2
    subst e e2
    rw [drop_at hm] at hw
    simp only [wholeL] at hw
    (refine G.condT rfl (by assumption) ?_; refine G.skip ?_; refine kthen_n ?_; refine G.seq ?_; refine G.block ?_; refine G.seq ?_; refine G.region ?_; refine GO.idxS rfl rfl rfl ⟨rfl, by omega⟩ ?_)
    refine GO.loadM (vs := [i64 (m.kind : Nat), str m.name, i64 (m.kids : Nat)]) rfl rfl rfl Tk.h rfl rm ?_
    (refine GO.alloc rfl fun b5 => ?_; refine GO.storeW rfl rfl Tk.h ⟨rfl, rfl⟩ (by simp [Value.oneCell']) ?_; refine GO.nil ?_; refine kthen_n ?_; refine G.seq ?_; refine G.seq ?_; refine G.region ?_; refine GO.move rfl rfl ?_; refine GO.eqi rfl rfl rfl ?_; refine GO.move rfl rfl ?_)
    by_cases h0 : o = 0
    · rw [if_pos (.inl h0)] at hw
      subst hw
      have d2 : decide ((o : Int) = 0) = true := decide_eq_true (by omega)
      (refine GO.gF rfl rfl rfl (by assumption) ?_; refine GO.gF rfl rfl rfl (by assumption) ?_; refine GO.gF rfl rfl rfl (by assumption) ?_; refine GO.pickTa rfl rfl (by assumption) rfl ?_; refine GO.move rfl rfl ?_; refine GO.gF rfl rfl rfl rfl ?_; refine GO.gF rfl rfl rfl rfl ?_; refine GO.gF rfl rfl rfl rfl ?_; refine GO.gF rfl rfl rfl rfl ?_; refine GO.gF rfl rfl rfl rfl ?_; refine GO.pickT rfl rfl rfl ?_; refine GO.nil ?_; refine kthen_n ?_; refine G.condT rfl rfl ?_; refine G.seq ?_; refine G.region ?_; refine GO.assign rfl rfl ?_; refine GO.nil ?_; refine kthen_n ?_; refine G.ret ?_; refine kthen_r ?_; refine kblock_r ?_; refine kthen_r ?_; refine kthen_r ?_; refine kblock_r ?_; refine kthen_r ?_)
      refine KF2.r1 rfl (RV.t rfl) ⟨rfl, rfl⟩ (ImpS.sb ?_)
      ((refine Sb.c (Tk.t Tk.h) ?_); (refine Sb.s ?_; exact Sb.r))
    have d2 : decide ((o : Int) = 0) = false := decide_eq_false (by omega)
    (refine GO.gT rfl rfl (by assumption) ?_; refine GO.loadW rfl rfl rfl Tk.h rfl ?_; refine GO.gT rfl rfl (by assumption) ?_)
    refine GO.call1 rfl rfl (may_spec m) Tks.n ?_
    rintro _ _ ⟨rfl, rfl⟩
    cases hmay : mayN m
    · rw [if_pos (.inr (.inl hmay))] at hw
      subst hw
      (refine GO.gT rfl rfl (by assumption) ?_; refine GO.not rfl rfl ?_; refine GO.pickFa rfl rfl (by assumption) rfl ?_; refine GO.move rfl rfl ?_; refine GO.gF rfl rfl rfl rfl ?_; refine GO.gF rfl rfl rfl rfl ?_; refine GO.gF rfl rfl rfl rfl ?_; refine GO.gF rfl rfl rfl rfl ?_; refine GO.gF rfl rfl rfl rfl ?_; refine GO.pickT rfl rfl rfl ?_; refine GO.nil ?_; refine kthen_n ?_; refine G.condT rfl rfl ?_; refine G.seq ?_; refine G.region ?_; refine GO.assign rfl rfl ?_; refine GO.nil ?_; refine kthen_n ?_; refine G.ret ?_; refine kthen_r ?_; refine kblock_r ?_; refine kthen_r ?_; refine kthen_r ?_; refine kblock_r ?_; refine kthen_r ?_)
      refine KF2.r1 rfl (RV.t rfl) ⟨rfl, rfl⟩ (ImpS.sb ?_)
      ((refine Sb.c (Tk.t Tk.h) ?_); (refine Sb.s ?_; exact Sb.r))
    by_cases hk : l.length < m.kids
    · rw [if_pos (.inr (.inr hk))] at hw
      subst hw
      have d3 : decide ((l.length : Int) < (m.kids : Int)) = true := decide_eq_true (by omega)
      (refine GO.gT rfl rfl (by assumption) ?_; refine GO.not rfl rfl ?_; refine GO.pickFa rfl rfl (by assumption) rfl ?_; refine GO.move rfl rfl ?_; refine GO.gT rfl rfl rfl ?_; refine GO.fieldAddr rfl rfl ?_; refine GO.gT rfl rfl rfl ?_; refine GO.load1 rfl rfl rfl Tk.h rfl ?_; refine GO.gT rfl rfl rfl ?_; refine GO.move rfl rfl ?_; refine GO.gT rfl rfl rfl ?_; refine GO.lenS rfl rfl ?_; refine GO.gT rfl rfl rfl ?_; refine GO.gti rfl rfl rfl ?_; refine GO.pickF rfl rfl rfl ?_; refine GO.nil ?_; refine kthen_n ?_; refine G.condT rfl (by assumption) ?_; refine G.seq ?_; refine G.region ?_; refine GO.assign rfl rfl ?_; refine GO.nil ?_; refine kthen_n ?_; refine G.ret ?_; refine kthen_r ?_; refine kblock_r ?_; refine kthen_r ?_; refine kthen_r ?_; refine kblock_r ?_; refine kthen_r ?_)
      refine KF2.r1 rfl (RV.t rfl) ⟨rfl, rfl⟩ (ImpS.sb ?_)
      ((refine Sb.c (Tk.t Tk.h) ?_); (refine Sb.s ?_; exact Sb.r))
    rw [if_neg (by rw [hmay]; rintro (h | h | h); exact h0 h; cases h; exact hk h)] at hw
    have d3 : decide ((l.length : Int) < (m.kids : Int)) = false := decide_eq_false (by omega)
    (refine GO.gT rfl rfl (by assumption) ?_; refine GO.not rfl rfl ?_; refine GO.pickFa rfl rfl (by assumption) rfl ?_; refine GO.move rfl rfl ?_; refine GO.gT rfl rfl rfl ?_; refine GO.fieldAddr rfl rfl ?_; refine GO.gT rfl rfl rfl ?_; refine GO.load1 rfl rfl rfl Tk.h rfl ?_; refine GO.gT rfl rfl rfl ?_; refine GO.move rfl rfl ?_; refine GO.gT rfl rfl rfl ?_; refine GO.lenS rfl rfl ?_; refine GO.gT rfl rfl rfl ?_; refine GO.gti rfl rfl rfl ?_; refine GO.pickF rfl rfl rfl ?_; refine GO.nil ?_; refine kthen_n ?_; refine G.condF rfl (by assumption) ?_; refine G.skip ?_; refine kthen_n ?_; refine G.region ?_; refine GO.move rfl rfl ?_; refine GO.fieldAddr rfl rfl ?_; refine GO.load1 rfl rfl rfl Tk.h rfl ?_; refine GO.subi rfl rfl rfl (by omega) ?_; refine GO.addi rfl rfl rfl (by omega) ?_; refine GO.assign rfl rfl ?_; refine GO.nil ?_; refine kblock_n ?_; refine kthen_n ?_; refine G.region ?_; refine GO.addi rfl rfl rfl (by omega) ?_; refine GO.move rfl rfl ?_; refine GO.nil ?_; refine kthen_n ?_)
    refine ⟨(i + 1, o + m.kids - 1), ⟨by dsimp only; omega, by dsimp only; rw [hsm]; omega, hw⟩, by dsimp only; omega, ?_, ImpS.sb ?_⟩
    · (refine SubE.c rfl rfl ?_; (refine SubE.c rfl ?_ ?_; focus (simp; omega)); refine SubE.c rfl rfl ?_; refine SubE.c rfl rfl ?_; refine SubE.c rfl rfl ?_; exact SubE.n)
    · ((refine Sb.c (Tk.t Tk.h) ?_); (refine Sb.s ?_; exact Sb.r))
  · have d1 : decide ((i : Int) < (l.length : Int)) = false := decide_eq_false (by omega)
    rw [List.drop_eq_nil_of_le (by omega)] at hw
    subst hw
    have e1 : decide (wholeL l.length o [] = some 0) = decide ((o : Int) = 0) := decide_eq_decide.2 (by simp only [wholeL, Option.some.injEq]; omega)
    have e2 : decide (0 < l.length) = decide ((0 : Int) < (l.length : Int)) := decide_eq_decide.2 (by omega)
    rw [e1, e2]
    (refine G.condF rfl (by assumption) ?_; refine G.exit ?_; refine kthen_x ?_; refine kthen_x ?_; refine kblock_x ?_; refine kthen_n ?_; refine G.seq ?_; refine G.region ?_; refine GO.move rfl rfl ?_; refine GO.eqi rfl rfl rfl ?_; refine GO.move rfl rfl ?_)
    cases d2 : decide ((o : Int) = 0)
    · (refine GO.gF rfl rfl rfl rfl ?_; refine GO.gF rfl rfl rfl rfl ?_; refine GO.gF rfl rfl rfl rfl ?_; refine GO.pickF rfl rfl rfl ?_; refine GO.assign rfl rfl ?_; refine GO.nil ?_; refine kthen_n ?_; refine G.ret ?_)
      refine KF2.r1 rfl (RV.t rfl) ⟨rfl, rfl⟩ (ImpS.sb ?_)
      ((refine Sb.c Tk.h ?_); (exact Sb.r))
    · (refine GO.gT rfl rfl rfl ?_; refine GO.move rfl rfl ?_; refine GO.gT rfl rfl rfl ?_; refine GO.lenS rfl rfl ?_; refine GO.gT rfl rfl rfl ?_; refine GO.gti rfl rfl rfl ?_; refine GO.pickT rfl rfl rfl ?_; refine GO.assign rfl rfl ?_; refine GO.nil ?_; refine kthen_n ?_; refine G.ret ?_)
      refine KF2.r1 rfl (RV.t rfl) ⟨rfl, rfl⟩ (ImpS.sb ?_)
      ((refine Sb.c Tk.h ?_); (exact Sb.r))
end Go.Proofs.YtpgfmfbpmkfbjaaGreat
namespace Go.Proofs.YtpgfmfbpmkfbjaaGreat
open Go
section
variable {P : Program} {c : Cx} {A : Array Oper} {rest : List Oper} {K : Kont} {L : Env} {H : List HP} {t : TypeId} {p : String} {e : Array Edge} {d : Nat}
/-- s[l:h:h]. -/
theorem GO.sliceLHM {ty el : TypeId} {sz n cap l h b o : Nat} {kk kh km : IntKind} {i j m : Int} {x y z u : Operand} [hu : UL P ty (.slice el)] [hs : SZ P el sz] (hN : Nat.blt d c.N = true) (hx : evl L x = some (.slice (some ⟨b, o, none⟩) n cap)) (hy : evl L y = some (.int kk i)) (hz : evl L z = some (.int kh j)) (hm : evl L u = some (.int km m)) (hi : i = (l : Int) ∧ j = (h : Int) ∧ m = (h : Int) ∧ l < h ∧ h ≤ cap)
    (k : GO P c A rest K ((d, .slice (some ⟨b, o + l * sz, none⟩) (h - l) (h - l)) :: L) H) : GO P c A (⟨some d, .slice ty x (some y) (some z) (some u), t, p, e, none⟩ :: rest) K L H :=
  GO.val hN rfl (fun a w Y hh _ => by
    obtain ⟨rfl, rfl, rfl, h1, h2⟩ := hi
    have hle : (l : Int) ≤ h := by omega
    have hle2 : (h : Int) ≤ cap := by omega
    have hle3 : (h : Int) ≤ h := by omega
    have hne : ¬ h = l := by omega
    simp only [execOp, hh.eval hx, Option.map_some, hh.eval hy, hh.eval hz, hh.eval hm]
    simp [Instr.sliceAt, Instr.slice, Sem.run_bind, run_underlying hu.out, Instr.sliceBounds, run_sliceBound w _ _ _ _ (Int.natCast_nonneg l) hle, run_sliceBound w _ _ _ _ (Int.natCast_nonneg h) hle2, run_sliceBound w _ _ _ _ (Int.natCast_nonneg h) hle3, run_sizeOf_SZ, Result.andThen, hne, add_plain]) k
end
theorem nodes_sub {q : HP} {b o cap c : Nat} {A B C : List NodeD} (hq : NodesR q (.slice (some ⟨b, o, none⟩) (A ++ B ++ C).length cap) (A ++ B ++ C)) (hB : 0 < B.length) (hc : B.length ≤ c) : NodesR q (.slice (some ⟨b, o + A.length * 3, none⟩) B.length c) B := by
  obtain ⟨a, cap', e, _, _, hr⟩ := hq
  injection e with e1 e2 e3
  obtain ⟨b', o', e4, hr⟩ := hr (by simp; omega)
  rw [← e1] at e4
  injection e4 with e4
  injection e4 with e5 e6
  subst e5 e6
  refine ⟨_, c, rfl, hc, nodesV_len B, fun _ => ⟨b, o + A.length * 3, rfl, fun j u hu => ?_⟩⟩
  rw [Nat.add_assoc]
  refine hr _ _ ?_
  have hj : j < (nodesV B).length := (List.getElem?_eq_some_iff.1 hu).1
  rw [nodesV_app, nodesV_app, List.append_assoc, List.getElem?_append_right (by rw [nodesV_len]; omega), nodesV_len, Nat.add_sub_cancel_left, List.getElem?_append_left hj]
  exact hu
/-- The kids, each a slice of its own, of which the first k have come. -/
def KidsR (q : HP) (ts : List Tree) (k : Nat) (vals : List Value) : Prop := vals.length = k ∧ ∀ i u, i < k → ts[i]? = some u → ∃ w, vals[i]? = some w ∧ w.oneCell' = true ∧ NodesR q w (flat u)
theorem KidsR.snoc {q : HP} {ts : List Tree} {k : Nat} {vals : List Value} {u : Tree} {w : Value} (h : KidsR q ts k vals) (hu : ts[k]? = some u) (h1 : w.oneCell' = true) (hw : NodesR q w (flat u)) : KidsR q ts (k + 1) (vals ++ [w]) := by
  refine ⟨by rw [List.length_append, h.1]; rfl, fun i u' hi hu' => ?_⟩
  rcases Nat.lt_succ_iff_lt_or_eq.1 hi with h2 | h2
  · obtain ⟨w', e, g⟩ := h.2 i u' h2 hu'
    exact ⟨w', by rw [List.getElem?_append_left (by rw [h.1]; exact h2)]; exact e, g⟩
  · subst h2
    rw [hu] at hu'; cases hu'
    exact ⟨w, by rw [List.getElem?_append_right (by rw [h.1]; exact Nat.le_refl _), h.1, Nat.sub_self]; rfl, h1, hw⟩
theorem KidsR.one {q : HP} {ts : List Tree} {vals : List Value} (h : KidsR q ts ts.length vals) : ∀ w ∈ vals, w.oneCell' = true := by
  intro w hw
  obtain ⟨i, hi⟩ := List.getElem?_of_mem hw
  have hl := (List.getElem?_eq_some_iff.1 hi).1
  rw [h.1] at hl
  obtain ⟨w', e, g, _⟩ := h.2 i _ hl (List.getElem?_eq_getElem hl)
  rw [hi] at e; cases e; exact g
attribute [local irreducible] G GO GR GT Fn FnX FnV FnXV Dfr pt init exs pur sat own ImpS
theorem kids_le : ∀ ts : List Tree, ts.length ≤ (flats ts).length
  | [] => by simp
  | u :: us => by rw [flats, List.length_append, List.length_cons]; have := flat_pos u; have := kids_le us; omega
set_option maxHeartbeats 32000000 in
theorem kids_spec (q : HP) (v : Value) (t : Tree) (hq : NodesR q v (flat t)) (hl : ¬ 1048576 < (flat t).length) : Fn Tryz.prog 95 #[v] [q] (fun r Q => ∃ vals, KidsR q t.kids t.kids.length vals ∧ Q = [own 58 1 t.kids.length r vals, q]) := by
  have hrd : ∀ i m, (flat t)[i]? = some m → _ := fun i m h => nodes_rd hq h
  have h0 := flat_eq t
  have hk : t.kids.length ≤ (flat t).length := by
    rw [h0, List.length_cons]
    have := kids_le t.kids
    omega
  have hpos := flat_pos t
  have hql := hq
  obtain ⟨b, o, cap, rfl, hcap, rm0⟩ := hrd 0 ⟨t.kind, t.name, t.kids.length⟩ (by rw [h0]; rfl)
  generalize hts : t.kids = ts at *
  have hd1 : (flat t).drop 1 = flats ts := by rw [h0]; rfl
  generalize flat t = l at *
  clear h0
  have r2 := rm0 2 (i64 (ts.length : Nat)) rfl
  refine Fn.mk2 Tryz.func95 rfl rfl fun w0 F => ?_
  refine G.ownNil (T := 58) (sz := 1) ?_
  (refine G.seq ?_; refine G.region ?_; refine GO.assign rfl rfl ?_; refine GO.nil ?_; refine kthen_n ?_; refine G.seq ?_; refine G.region ?_; refine GO.assign rfl rfl ?_; refine GO.nil ?_; refine kthen_n ?_; refine G.seq ?_; refine G.region ?_; refine GO.assign rfl rfl ?_; refine GO.nil ?_; refine kthen_n ?_; refine G.seq ?_; refine G.seq ?_; refine G.region ?_; refine GO.move rfl rfl ?_; refine GO.idxS rfl rfl rfl ⟨rfl, by omega⟩ ?_; refine GO.fieldAddr rfl rfl ?_; refine GO.loadQ rfl rfl rfl (Tk.t Tk.h) (by assumption) ?_; refine GO.move rfl rfl ?_; refine GO.nil ?_; refine kthen_n ?_; refine G.block ?_)
  refine G.loopI (σ := Nat × Nat × List Value × Value) (fun z => [(0, .slice (some ⟨b, o, none⟩) l.length cap), (3, z.2.2.2), (4, i64 (z.2.1 : Nat)), (10, i64 (ts.length : Nat)), (11, i64 (z.1 : Nat))]) (fun z => own 58 1 z.1 z.2.2.2 z.2.2.1 :: q :: F)
    (fun z => z.1 ≤ ts.length ∧ z.2.1 ≤ l.length ∧ l.drop z.2.1 = flats (ts.drop z.1) ∧ KidsR q ts z.1 z.2.2.1) (fun z => ts.length - z.1) (0, 1, [], .slice none 0 0) ⟨Nat.zero_le _, hpos, by rw [List.drop_zero]; exact hd1, rfl, fun i u h => absurd h (Nat.not_lt_zero i)⟩ ?_ ?_ ?_
  · (refine SubE.c rfl rfl ?_; refine SubE.c rfl rfl ?_; refine SubE.c rfl rfl ?_; refine SubE.c rfl rfl ?_; refine SubE.c rfl rfl ?_; exact SubE.n)
  · refine ImpS.sb ?_
    ((refine Sb.c Tk.h ?_; refine Sb.c Tk.h ?_); (exact Sb.r))
  rintro ⟨k, i, vals, v3⟩ ⟨hkn, hi, hdr, hK⟩
  dsimp only at hkn hi hdr hK ⊢
  (refine G.seq ?_; refine G.region ?_; refine GO.lti rfl rfl rfl ?_; refine GO.nil ?_; refine kthen_n ?_; refine G.seq ?_)
  by_cases hlt : k < ts.length
  · have d1 : decide ((k : Int) < (ts.length : Int)) = true := decide_eq_true (by omega)
    obtain ⟨u, hu⟩ : ∃ u, ts[k]? = some u := ⟨_, List.getElem?_eq_getElem hlt⟩
    rw [drop_at hu, flats] at hdr
    generalize hR : flats (ts.drop (k + 1)) = R at hdr
    (refine G.condT rfl (by assumption) ?_; refine G.skip ?_; refine kthen_n ?_; refine G.seq ?_; refine G.block ?_; refine G.seq ?_; refine G.region ?_; refine GO.move rfl rfl ?_; refine GO.assign rfl rfl ?_; refine GO.assign rfl rfl ?_; refine GO.nil ?_; refine kthen_n ?_; refine G.seq ?_; refine G.block ?_)
    refine G.loopI (σ := Nat × List Tree) (fun z => [(0, .slice (some ⟨b, o, none⟩) l.length cap), (3, v3), (4, i64 (z.1 : Nat)), (5, i64 (i : Nat)), (6, i64 (z.2.length : Nat)), (10, i64 (ts.length : Nat)), (11, i64 (k : Nat))]) (fun z => own 58 1 k v3 vals :: q :: F)
      (fun z => z.1 ≤ l.length ∧ l.drop z.1 = flats z.2 ++ R) (fun z => l.length - z.1) (i, [u]) ⟨hi, by rw [hdr, flats, flats, List.append_nil]⟩ ?_ ?_ ?_
    · (refine SubE.c rfl rfl ?_; refine SubE.c rfl rfl ?_; refine SubE.c rfl rfl ?_; refine SubE.c rfl rfl ?_; refine SubE.c rfl rfl ?_; refine SubE.c rfl rfl ?_; refine SubE.c rfl rfl ?_; exact SubE.n)
    · refine ImpS.sb ?_
      ((refine Sb.c Tk.h ?_; refine Sb.c Tk.h ?_); (exact Sb.r))
    rintro ⟨j, us⟩ ⟨hj, hjd⟩
    dsimp only at hj hjd ⊢
    have hlen := congrArg List.length hjd
    rw [List.length_append, List.length_drop] at hlen
    cases us with
    | nil =>
      rw [flats, List.nil_append] at hjd
      have hlr : R.length = l.length - j := by rw [← hjd, List.length_drop]
      have hlu : (flat u).length + R.length = l.length - i := by rw [← List.length_append, ← hdr, List.length_drop]
      have hup := flat_pos u
      have hl3 : l = l.take i ++ flat u ++ R := by rw [List.append_assoc, ← hdr, List.take_append_drop]
      have hsub : NodesR q (.slice (some ⟨b, o + i * 3, none⟩) (flat u).length (flat u).length) (flat u) := by
        have := nodes_sub (q := q) (b := b) (o := o) (cap := cap) (c := (flat u).length) (A := l.take i) (B := flat u) (C := R) (by rw [← hl3]; exact hql) hup (Nat.le_refl _)
        rw [List.length_take, Nat.min_eq_left hi] at this
        exact this
      have d2 : decide ((0 : Int) < (([] : List Tree).length : Int)) = false := rfl
      (refine G.seq ?_; refine G.seq ?_; refine G.region ?_; refine GO.move rfl rfl ?_; refine GO.gti rfl rfl rfl ?_; refine GO.nil ?_; refine kthen_n ?_; refine G.condF rfl rfl ?_; refine G.exit ?_; refine kthen_x ?_; refine kthen_x ?_; refine kblock_x ?_; refine kthen_n ?_; refine G.region ?_; refine GO.move rfl rfl ?_; refine GO.move rfl rfl ?_; refine GO.move rfl rfl ?_; refine GO.move rfl rfl ?_; refine GO.move rfl rfl ?_)
      refine GO.sliceLHM (l := i) (h := j) rfl rfl rfl rfl rfl ⟨rfl, rfl, rfl, by omega, by omega⟩ ?_
      rw [show j - i = (flat u).length by omega]
      refine GO.buildSlice1 rfl rfl (by simp; rfl) rfl ⟨by omega, by omega⟩ fun bs => ?_
      refine GO.appendOwn (m := 1) (news := [.slice (some ⟨b, o + i * 3, none⟩) (flat u).length (flat u).length]) rfl rfl rfl (Tk.t Tk.h) Tk.h rfl (by simp [Value.oneCell']) ⟨by decide, rfl⟩ Nat.one_pos (by unfold maxLen; omega) (by omega) fun v4 => ?_
      (refine GO.assign rfl rfl ?_; refine GO.nil ?_; refine kblock_n ?_; refine kthen_n ?_; refine G.region ?_; refine GO.addi rfl rfl rfl (by omega) ?_; refine GO.move rfl rfl ?_; refine GO.nil ?_; refine kthen_n ?_)
      refine ⟨(k + 1, j, vals ++ [.slice (some ⟨b, o + i * 3, none⟩) (flat u).length (flat u).length], v4), ⟨hlt, hj, by dsimp only; rw [hR]; exact hjd, hK.snoc hu rfl hsub⟩, by dsimp only; omega, ?_, ImpS.sb ?_⟩
      · (refine SubE.c rfl rfl ?_; refine SubE.c rfl rfl ?_; refine SubE.c rfl rfl ?_; refine SubE.c rfl rfl ?_; refine SubE.c rfl rfl ?_; exact SubE.n)
      · ((refine Sb.c Tk.h ?_; refine Sb.c (Tk.t Tk.h) ?_); (refine Sb.s ?_; exact Sb.r))
    | cons u' us =>
      rw [flats, flat_eq, List.cons_append, List.cons_append] at hjd
      have hjl : l[j]? = some ⟨u'.kind, u'.name, u'.kids.length⟩ := by
        have := congrArg (·[0]?) hjd
        simpa [List.getElem?_drop] using this
      have hjlt := (List.getElem?_eq_some_iff.1 hjl).1
      have hjd1 : l.drop (j + 1) = flats (u'.kids ++ us) ++ R := by
        rw [drop_at hjl] at hjd
        rw [flats_app]
        exact (List.cons.injEq _ _ _ _ ▸ hjd).2
      have hlen1 := congrArg List.length hjd1
      have hku := kids_le (u'.kids ++ us)
      rw [List.length_append] at hlen1 hku
      rw [List.length_drop] at hlen1
      obtain ⟨b', o', cap', e, _, rm⟩ := hrd j _ hjl
      injection e with e _ e2
      injection e with e
      injection e with e e3
      subst e e2 e3
      have r2' : Rd q ⟨b, o + j * 3 + 2, none⟩ (i64 (u'.kids.length : Nat)) := rm 2 _ rfl
      have hcl : (u' :: us).length = us.length + 1 := rfl
      clear rm
      have d2 : decide ((0 : Int) < ((u' :: us).length : Int)) = true := decide_eq_true (by rw [List.length_cons]; omega)
      (refine G.seq ?_; refine G.seq ?_; refine G.region ?_; refine GO.move rfl rfl ?_; refine GO.gti rfl rfl rfl ?_; refine GO.nil ?_; refine kthen_n ?_; refine G.condT rfl (by assumption) ?_; refine G.skip ?_; refine kthen_n ?_; refine G.block ?_; refine G.seq ?_; refine G.region ?_; refine GO.move rfl rfl ?_; refine GO.move rfl rfl ?_; refine GO.move rfl rfl ?_; refine GO.idxS rfl rfl rfl ⟨rfl, by omega⟩ ?_; refine GO.fieldAddr rfl rfl ?_; refine GO.loadQ rfl rfl rfl (Tk.t Tk.h) (by assumption) ?_; refine GO.subi rfl rfl rfl (by omega) ?_; refine GO.addi rfl rfl rfl (by omega) ?_; refine GO.assign rfl rfl ?_; refine GO.nil ?_; refine kthen_n ?_; refine G.region ?_; refine GO.move rfl rfl ?_; refine GO.addi rfl rfl rfl (by omega) ?_; refine GO.assign rfl rfl ?_; refine GO.nil ?_; refine kblock_n ?_; refine kthen_n ?_)
      refine ⟨(j + 1, u'.kids ++ us), ⟨hjlt, hjd1⟩, by dsimp only; omega, ?_, ImpS.sb ?_⟩
      · (refine SubE.c rfl rfl ?_; refine SubE.c rfl rfl ?_; refine SubE.c rfl rfl ?_; refine SubE.c rfl rfl ?_; (refine SubE.c rfl ?_ ?_; focus (simp; omega)); refine SubE.c rfl rfl ?_; refine SubE.c rfl rfl ?_; exact SubE.n)
      · ((refine Sb.c Tk.h ?_; refine Sb.c Tk.h ?_); (exact Sb.r))
  · have d1 : decide ((k : Int) < (ts.length : Int)) = false := decide_eq_false (by omega)
    obtain rfl : k = ts.length := by omega
    (refine G.condF rfl (by assumption) ?_; refine G.exit ?_; refine kthen_x ?_; refine kthen_x ?_; refine kblock_x ?_; refine kthen_n ?_; refine G.seq ?_; refine G.region ?_; refine GO.move rfl rfl ?_; refine GO.assign rfl rfl ?_; refine GO.nil ?_; refine kthen_n ?_; refine G.ret ?_)
    refine KF2.r1 rfl (RV.t rfl) ⟨vals, hK, rfl⟩ (ImpS.sb ?_)
    ((refine Sb.c Tk.h ?_; refine Sb.c Tk.h ?_); (exact Sb.r))
end Go.Proofs.YtpgfmfbpmkfbjaaGreat
namespace Go.Proofs.YtpgfmfbpmkfbjaaGreat
open Go
def strsV (l : List (List UInt8)) : List Value := l.map str
theorem strsV_len (l : List (List UInt8)) : (strsV l).length = l.length * 1 := by simp [strsV]
theorem strsV_one (l : List (List UInt8)) : ∀ u ∈ strsV l, u.oneCell' = true := fun u hu => by
  obtain ⟨_, _, rfl⟩ := List.mem_map.1 hu; rfl
theorem strsV_get {l : List (List UInt8)} {i : Nat} {x : List UInt8} (h : l[i]? = some x) : (strsV l)[i]? = some (str x) := by simp [strsV, h]
/-- Strings, readable in q. -/
abbrev StrsR (q : HP) (v : Value) (l : List (List UInt8)) : Prop := SlK q v l.length 1 (strsV l)
def joinF (sep : List UInt8) : List (List UInt8) → List UInt8
  | [] => []
  | x :: r => x ++ r.flatMap fun y => sep ++ y
def sumL (l : List (List UInt8)) : Nat := (l.map List.length).sum
theorem sumL_snoc (l : List (List UInt8)) (x : List UInt8) : sumL (l ++ [x]) = sumL l + x.length := by simp [sumL]
theorem flatMap_len (sep : List UInt8) : ∀ r : List (List UInt8), (r.flatMap fun y => sep ++ y).length = sep.length * r.length + sumL r
  | [] => by simp [sumL]
  | y :: r => by
    rw [List.flatMap_cons, List.length_append, List.length_append, flatMap_len sep r, List.length_cons, Nat.mul_add, Nat.mul_one]
    simp only [sumL, List.map_cons, List.sum_cons]
    omega
theorem joinF_len (sep x : List UInt8) (r : List (List UInt8)) : (joinF sep (x :: r)).length = sep.length * r.length + sumL (x :: r) := by
  show (x ++ r.flatMap fun y => sep ++ y).length = _
  rw [List.length_append, flatMap_len]
  simp only [sumL, List.map_cons, List.sum_cons]
  omega
theorem sumL_app (l k : List (List UInt8)) : sumL (l ++ k) = sumL l + sumL k := by simp [sumL]
theorem sumL_take (l : List (List UInt8)) (k : Nat) : sumL (l.take k) ≤ sumL l := by
  have := sumL_app (l.take k) (l.drop k)
  rw [List.take_append_drop] at this
  omega
theorem sumL_ge {l : List (List UInt8)} (h : ∀ x ∈ l, 0 < x.length) : l.length ≤ sumL l := by
  induction l with
  | nil => simp
  | cons x l ih =>
    have h1 := h x (by simp)
    have h2 := ih fun y hy => h y (by simp [hy])
    simp only [sumL, List.map_cons, List.sum_cons, List.length_cons] at h2 ⊢
    omega
theorem flatMap_take (sep : List UInt8) (r : List (List UInt8)) (k : Nat) : ((r.take k).flatMap fun y => sep ++ y).length ≤ (r.flatMap fun y => sep ++ y).length := by
  have : (r.flatMap fun y => sep ++ y) = ((r.take k).flatMap fun y => sep ++ y) ++ ((r.drop k).flatMap fun y => sep ++ y) := by rw [← List.flatMap_append, List.take_append_drop]
  rw [this, List.length_append]
  omega
theorem strs_rd {q : HP} {v : Value} {l : List (List UInt8)} {i : Nat} {x : List UInt8} (hq : StrsR q v l) (h : l[i]? = some x) : ∃ b o cap, v = .slice (some ⟨b, o, none⟩) l.length cap ∧ l.length ≤ cap ∧ Rd q ⟨b, o + i * 1, none⟩ (str x) := by
  obtain ⟨a, cap, rfl, hcap, _, hr⟩ := hq
  have hi := (List.getElem?_eq_some_iff.1 h).1
  obtain ⟨b, o, rfl, hr2⟩ := hr (by omega)
  exact ⟨b, o, cap, rfl, hcap, by rw [Nat.mul_one]; exact hr2 _ _ (strsV_get h)⟩
attribute [local irreducible] G GO GR GT Fn FnX FnV FnXV pt init exs pur sat own ImpS sumL
set_option maxHeartbeats 32000000 in
theorem join_spec (q : HP) (v : Value) (sep : List UInt8) (l : List (List UInt8)) (hq : StrsR q v l) (hne : ∀ x ∈ l, 0 < x.length) (hsep : 0 < sep.length ∨ l.length ≤ 1) (hb : ¬ 1048576 < (joinF sep l).length) :
    Fn Tryz.prog 96 #[v, str sep] [q] (fun r Q => r = str (joinF sep l) ∧ Q = [q]) := by
  have hrd : ∀ i x, l[i]? = some x → _ := fun i x h => strs_rd hq h
  obtain ⟨a, cap, rfl, hcap, _⟩ := id hq
  refine Fn.mk2 Tryz.func96 rfl rfl fun w0 F => ?_
  match l, hrd, hne, hsep, hb, hcap with
  | [], hrd, hne, hsep, hb, hcap =>
    (refine G.seq ?_; refine G.region ?_; refine GO.assign rfl rfl ?_; refine GO.nil ?_; refine kthen_n ?_; refine G.seq ?_; refine G.seq ?_; refine G.region ?_; refine GO.move rfl rfl ?_; refine GO.lenS rfl rfl ?_; refine GO.nil ?_; refine kthen_n ?_; refine G.block ?_; refine G.seq ?_; refine G.region ?_; refine GO.eqT rfl rfl rfl rfl ?_; refine GO.assign rfl rfl ?_; refine GO.nil ?_; refine kthen_n ?_; refine G.condT rfl rfl ?_; refine G.seq ?_; refine G.region ?_; refine GO.assign rfl rfl ?_; refine GO.nil ?_; refine kthen_n ?_; refine G.ret ?_; refine kblock_r ?_; refine kthen_r ?_)
    refine KF2.r1 rfl (RV.t rfl) ⟨rfl, rfl⟩ (ImpS.sb ?_)
    ((refine Sb.c Tk.h ?_); (exact Sb.r))
  | [x], hrd, hne, hsep, hb, hcap =>
    obtain ⟨b, o, cap2, e, _, r0⟩ := hrd 0 x rfl
    injection e with e _ e2
    subst e e2
    (refine G.seq ?_; refine G.region ?_; refine GO.assign rfl rfl ?_; refine GO.nil ?_; refine kthen_n ?_; refine G.seq ?_; refine G.seq ?_; refine G.region ?_; refine GO.move rfl rfl ?_; refine GO.lenS rfl rfl ?_; refine GO.nil ?_; refine kthen_n ?_; refine G.block ?_; refine G.seq ?_; refine G.region ?_; refine GO.eqi rfl rfl rfl ?_; refine GO.assign rfl rfl ?_; refine GO.nil ?_; refine kthen_n ?_; refine G.condF rfl rfl ?_; refine G.seq ?_; refine G.region ?_; refine GO.eqT rfl rfl rfl rfl ?_; refine GO.assign rfl rfl ?_; refine GO.nil ?_; refine kthen_n ?_; refine G.condT rfl rfl ?_; refine G.seq ?_; refine G.region ?_; refine GO.move rfl rfl ?_; refine GO.idxS (j := 0) rfl rfl rfl ⟨rfl, by simp⟩ ?_; refine GO.loadQ rfl rfl rfl Tk.h (by assumption) ?_; refine GO.assign rfl rfl ?_; refine GO.nil ?_; refine kthen_n ?_; refine G.ret ?_; refine kblock_r ?_; refine kthen_r ?_)
    refine KF2.r1 rfl (RV.t rfl) ⟨by simp [joinF], rfl⟩ (ImpS.sb ?_)
    ((refine Sb.c Tk.h ?_); (exact Sb.r))
  | x :: y :: r, hrd, hne, hsep, hb, hcap =>
    have hj : joinF sep (x :: y :: r) = x ++ (y :: r).flatMap fun z => sep ++ z := rfl
    have hjl := joinF_len sep x (y :: r)
    have hft := fun k => flatMap_take sep (y :: r) k
    have hge := sumL_ge hne
    have hx := hne x (by simp)
    have hR : ∀ k, (y :: r)[k]? = (x :: y :: r)[k + 1]? := fun k => rfl
    have hRl : (y :: r).length + 1 = (x :: y :: r).length := rfl
    have hR1 : 1 ≤ (y :: r).length := by simp
    have h0 : (x :: y :: r)[0]? = some x := rfl
    have hst := fun k => sumL_take (x :: y :: r) k
    have hsn : ∀ k z, (x :: y :: r)[k]? = some z → sumL ((x :: y :: r).take (k + 1)) = sumL ((x :: y :: r).take k) + z.length := fun k z h => by rw [take_snoc h, sumL_snoc]
    have htl : (x :: y :: r).take (x :: y :: r).length = x :: y :: r := List.take_length
    rw [hj] at hjl ⊢
    rw [hj] at hb
    generalize y :: r = R at *
    generalize hLe : x :: R = L at *
    obtain ⟨b, o, cap2, e, _, r0⟩ := hrd 0 x h0
    injection e with e _ e2
    subst e e2
    rw [hjl] at hb
    have hpl : 0 < sep.length := by rcases hsep with h | h <;> omega
    have hW : ∀ k, (x ++ (R.take k).flatMap fun z => sep ++ z).length ≤ sep.length * R.length + sumL L := fun k => by
      have := hft k
      rw [List.length_append] at hjl ⊢
      omega
    have hmul : (sep.length : Int) * ((L.length : Int) - 1) = ((sep.length * R.length : Nat) : Int) := by
      rw [Int.natCast_mul]; congr 1; omega
    have hquo : ¬ (9223372036854775807 / ((L.length : Int) - 1) ≤ (sep.length : Int)) := by
      have h1 : ((sep.length : Int) + 1) * ((L.length : Int) - 1) ≤ 9223372036854775807 := by
        rw [Int.add_mul, hmul]; omega
      have := Int.le_ediv_of_mul_le (show (0 : Int) < (L.length : Int) - 1 by omega) h1
      omega
    generalize hP : sep.length * R.length = p at *
    have hsl : sep.length ≤ p := by
      rw [← hP]; exact Nat.le_mul_of_pos_right _ hR1
    have d0 : decide ((L.length : Int) = 0) = false := decide_eq_false (by omega)
    have d1 : decide ((L.length : Int) = 1) = false := decide_eq_false (by omega)
    have d2 : decide ((0 : Int) < (sep.length : Int)) = true := decide_eq_true (by omega)
    have d3 : decide (9223372036854775807 / ((L.length : Int) - 1) ≤ (sep.length : Int)) = false := decide_eq_false hquo
    (refine G.seq ?_; refine G.region ?_; refine GO.assign rfl rfl ?_; refine GO.nil ?_; refine kthen_n ?_; refine G.seq ?_; refine G.seq ?_; refine G.region ?_; refine GO.move rfl rfl ?_; refine GO.lenS rfl rfl ?_; refine GO.nil ?_; refine kthen_n ?_; refine G.block ?_; refine G.seq ?_; refine G.region ?_; refine GO.eqi rfl rfl rfl ?_; refine GO.assign rfl rfl ?_; refine GO.nil ?_; refine kthen_n ?_; refine G.condF rfl (by assumption) ?_; refine G.seq ?_; refine G.region ?_; refine GO.eqi rfl rfl rfl ?_; refine GO.assign rfl rfl ?_; refine GO.nil ?_; refine kthen_n ?_; refine G.condF rfl (by assumption) ?_; refine G.skip ?_; refine kblock_n ?_; refine kthen_n ?_; refine G.seq ?_; refine G.region ?_; refine GO.assign rfl rfl ?_; refine GO.nil ?_; refine kthen_n ?_; refine G.seq ?_; refine G.seq ?_; refine G.region ?_; refine GO.move rfl rfl ?_; refine GO.strLen rfl rfl ?_; refine GO.gti rfl rfl rfl ?_; refine GO.nil ?_; refine kthen_n ?_; refine G.condT rfl (by assumption) ?_; refine G.seq ?_; refine G.seq ?_; refine G.region ?_; refine GO.move rfl rfl ?_; refine GO.strLen rfl rfl ?_; refine GO.move rfl rfl ?_; refine GO.lenS rfl rfl ?_; refine GO.subi rfl rfl rfl (by omega) ?_; refine GO.quoi rfl rfl rfl (by omega) ?_; refine GO.gei rfl rfl rfl ?_; refine GO.nil ?_; refine kthen_n ?_; refine G.condF rfl (by assumption) ?_; refine G.skip ?_; refine kthen_n ?_; refine G.region ?_; refine GO.move rfl rfl ?_; refine GO.move rfl rfl ?_; refine GO.strLen rfl rfl ?_; refine GO.move rfl rfl ?_; refine GO.lenS rfl rfl ?_; refine GO.subi rfl rfl rfl (by omega) ?_; refine GO.muli rfl rfl rfl (by omega) ?_; refine GO.addi rfl rfl rfl (by omega) ?_; refine GO.assign rfl rfl ?_; refine GO.nil ?_; refine kthen_n ?_; refine G.seq ?_; refine G.seq ?_; refine G.region ?_; refine GO.move rfl rfl ?_; refine GO.lenS rfl rfl ?_; refine GO.move rfl rfl ?_; refine GO.nil ?_; refine kthen_n ?_; refine G.block ?_)
    refine G.loopI (σ := Nat) (fun k => [(0, .slice (some ⟨b, o, none⟩) L.length cap), (1, str sep), (5, i64 ((p + sumL (L.take k) : Nat) : Int)), (39, .slice (some ⟨b, o, none⟩) L.length cap), (40, i64 (L.length : Nat)), (41, i64 (k : Nat))]) (fun _ => q :: F) (fun k => k ≤ L.length) (fun k => L.length - k) 0 (Nat.zero_le _) ?_ ?_ ?_
    · rw [List.take_zero, show sumL [] = 0 by unfold sumL; rfl]
      (refine SubE.c rfl rfl ?_; refine SubE.c rfl rfl ?_; (refine SubE.c rfl ?_ ?_; focus (simp; omega)); refine SubE.c rfl rfl ?_; refine SubE.c rfl rfl ?_; refine SubE.c rfl rfl ?_; exact SubE.n)
    · refine ImpS.sb ?_
      ((refine Sb.c Tk.h ?_); (exact Sb.r))
    intro k hk
    (refine G.seq ?_; refine G.region ?_; refine GO.lti rfl rfl rfl ?_; refine GO.nil ?_; refine kthen_n ?_; refine G.seq ?_)
    by_cases hlt : k < L.length
    · have d4 : decide ((k : Int) < (L.length : Int)) = true := decide_eq_true (by omega)
      obtain ⟨z, hz⟩ : ∃ z, L[k]? = some z := ⟨_, List.getElem?_eq_getElem hlt⟩
      obtain ⟨b', o', cap', e, _, rz⟩ := hrd k z hz
      injection e with e _ e2
      injection e with e
      injection e with e e3
      subst e e2 e3
      have hs1 := hsn k z hz
      have hs2 := hst (k + 1)
      rw [hs1] at hs2
      generalize sumL (L.take k) = sk at *
      have d5 : decide (9223372036854775807 - ((p + sk : Nat) : Int) < (z.length : Int)) = false := decide_eq_false (by omega)
      (refine G.condT rfl (by assumption) ?_; refine G.skip ?_; refine kthen_n ?_; refine G.seq ?_; refine G.block ?_; refine G.seq ?_; refine G.region ?_; refine GO.idxS rfl rfl rfl ⟨rfl, by omega⟩ ?_; refine GO.loadQ rfl rfl rfl Tk.h (by assumption) ?_; refine GO.assign rfl rfl ?_; refine GO.nil ?_; refine kthen_n ?_; refine G.seq ?_; refine G.seq ?_; refine G.region ?_; refine GO.move rfl rfl ?_; refine GO.strLen rfl rfl ?_; refine GO.move rfl rfl ?_; refine GO.subi rfl rfl rfl (by omega) ?_; refine GO.gti rfl rfl rfl ?_; refine GO.nil ?_; refine kthen_n ?_; refine G.condF rfl (by assumption) ?_; refine G.skip ?_; refine kthen_n ?_; refine G.region ?_; refine GO.move rfl rfl ?_; refine GO.move rfl rfl ?_; refine GO.strLen rfl rfl ?_; refine GO.addi rfl rfl rfl (by omega) ?_; refine GO.assign rfl rfl ?_; refine GO.nil ?_; refine kblock_n ?_; refine kthen_n ?_; refine G.region ?_; refine GO.addi rfl rfl rfl (by omega) ?_; refine GO.move rfl rfl ?_; refine GO.nil ?_; refine kthen_n ?_)
      refine ⟨k + 1, hlt, by omega, ?_, ImpS.sb ?_⟩
      · rw [hs1]
        (refine SubE.c rfl rfl ?_; refine SubE.c rfl rfl ?_; (refine SubE.c rfl ?_ ?_; focus (simp; omega)); refine SubE.c rfl rfl ?_; refine SubE.c rfl rfl ?_; refine SubE.c rfl rfl ?_; exact SubE.n)
      · ((refine Sb.c Tk.h ?_); (exact Sb.r))
    · have d4 : decide ((k : Int) < (L.length : Int)) = false := decide_eq_false (by omega)
      obtain rfl : k = L.length := by omega
      rw [htl]
      (refine G.condF rfl (by assumption) ?_; refine G.exit ?_; refine kthen_x ?_; refine kthen_x ?_; refine kblock_x ?_; refine kthen_n ?_; refine G.seq ?_; refine G.region ?_; refine GO.alloc rfl fun b8 => ?_; refine GO.nil ?_; refine kthen_n ?_; refine G.seq ?_; refine G.region ?_; refine GO.move rfl rfl ?_)
      refine GO.call2 rfl rfl rfl (bgrow_spec b8 (p + sumL L) (by omega) (by omega)) (Tks.c Tk.h Tks.n) ?_
      rintro _ _ ⟨v8, rfl⟩
      have hL0 : 0 < L.length := by omega
      have hw0 : ¬ 140737488355328 < ([] : List UInt8).length + x.length := by
        rw [List.length_append] at hjl
        show ¬ 140737488355328 < 0 + x.length
        omega
      (refine GO.nil ?_; refine kthen_n ?_; refine G.seq ?_; refine G.region ?_; refine GO.move rfl rfl ?_; refine GO.idxS rfl rfl rfl ⟨rfl, by omega⟩ ?_; refine GO.loadQ rfl rfl rfl (Tk.t (Tk.t Tk.h)) (by assumption) ?_)
      refine GO.call2 rfl rfl rfl (bwrite_spec b8 (ptrV b8) v8 (.inr rfl) [] x hx hw0) (Tks.c Tk.h (Tks.c Tk.h Tks.n)) ?_
      rintro _ _ ⟨rfl, v9, rfl⟩
      rw [List.nil_append]
      (refine GO.nil ?_; refine kthen_n ?_; refine G.seq ?_; refine G.seq ?_; refine G.region ?_; refine GO.move rfl rfl ?_)
      refine GO.sliceLo (l := 1) rfl rfl rfl ⟨rfl, by omega, by omega⟩ ?_
      (refine GO.lenS rfl rfl ?_; refine GO.move rfl rfl ?_; refine GO.nil ?_; refine kthen_n ?_; refine G.block ?_)
      refine G.loopI (σ := Nat × Value) (fun z => [(0, .slice (some ⟨b, o, none⟩) L.length cap), (1, str sep), (8, ptrV b8), (63, .slice (some ⟨b, o + 1 * 1, none⟩) (L.length - 1) (cap - 1)), (64, i64 ((L.length - 1 : Nat) : Int)), (65, i64 (z.1 : Nat))]) (fun z => bldP b8 (ptrV b8) z.2 :: bufP z.2 (x ++ (R.take z.1).flatMap fun y => sep ++ y) :: q :: F) (fun z => z.1 ≤ R.length) (fun z => R.length - z.1) (0, v9) (Nat.zero_le _) ?_ ?_ ?_
      · (refine SubE.c rfl rfl ?_; refine SubE.c rfl rfl ?_; refine SubE.c rfl rfl ?_; refine SubE.c rfl rfl ?_; refine SubE.c rfl rfl ?_; refine SubE.c rfl rfl ?_; exact SubE.n)
      · rw [List.take_zero, List.flatMap_nil, List.append_nil]
        refine ImpS.sb ?_
        ((refine Sb.c Tk.h ?_; refine Sb.c Tk.h ?_; refine Sb.c Tk.h ?_); (exact Sb.r))
      rintro ⟨k, v10⟩ hk
      dsimp only at hk ⊢
      (refine G.seq ?_; refine G.region ?_; refine GO.lti rfl rfl rfl ?_; refine GO.nil ?_; refine kthen_n ?_; refine G.seq ?_)
      by_cases hlt : k < R.length
      · have d4 : decide ((k : Int) < ((L.length - 1 : Nat) : Int)) = true := decide_eq_true (by omega)
        obtain ⟨z, hz⟩ : ∃ z, R[k]? = some z := ⟨_, List.getElem?_eq_getElem hlt⟩
        have hz1 := hz
        rw [hR] at hz1
        obtain ⟨b', o', cap', e, _, rz⟩ := hrd (k + 1) z hz1
        injection e with e _ e2
        injection e with e
        injection e with e e3
        subst e e2 e3
        rw [show o + (k + 1) * 1 = o + 1 * 1 + k * 1 by omega] at rz
        have hzp : 0 < z.length := hne z (List.mem_of_getElem? hz1)
        have hw1 := hW (k + 1)
        rw [take_snoc hz, List.flatMap_append, List.flatMap_cons, List.flatMap_nil, List.append_nil, ← List.append_assoc, ← List.append_assoc] at hw1
        have hW2 : (x ++ (R.take (k + 1)).flatMap fun y => sep ++ y) = (x ++ (R.take k).flatMap fun y => sep ++ y) ++ sep ++ z := by
          rw [take_snoc hz, List.flatMap_append, List.flatMap_cons, List.flatMap_nil, List.append_nil]; simp only [List.append_assoc]
        generalize (x ++ (R.take k).flatMap fun y => sep ++ y) = wk at *
        rw [List.length_append, List.length_append] at hw1
        (refine G.condT rfl (by assumption) ?_; refine G.skip ?_; refine kthen_n ?_; refine G.seq ?_; refine G.block ?_; refine G.seq ?_; refine G.region ?_; refine GO.idxS rfl rfl rfl ⟨rfl, by omega⟩ ?_; refine GO.loadQ rfl rfl rfl (Tk.t (Tk.t Tk.h)) (by assumption) ?_; refine GO.assign rfl rfl ?_; refine GO.nil ?_; refine kthen_n ?_; refine G.seq ?_; refine G.region ?_; refine GO.move rfl rfl ?_)
        refine GO.call2 rfl rfl rfl (bwrite_spec b8 (ptrV b8) v10 (.inr rfl) wk sep hpl (by omega)) (Tks.c Tk.h (Tks.c Tk.h Tks.n)) ?_
        rintro _ _ ⟨rfl, v11, rfl⟩
        (refine GO.nil ?_; refine kthen_n ?_; refine G.region ?_; refine GO.move rfl rfl ?_)
        refine GO.call2 rfl rfl rfl (bwrite_spec b8 (ptrV b8) v11 (.inr rfl) (wk ++ sep) z hzp (by rw [List.length_append]; omega)) (Tks.c Tk.h (Tks.c Tk.h Tks.n)) ?_
        rintro _ _ ⟨rfl, v12, rfl⟩
        (refine GO.nil ?_; refine kblock_n ?_; refine kthen_n ?_; refine G.region ?_; refine GO.addi rfl rfl rfl (by omega) ?_; refine GO.move rfl rfl ?_; refine GO.nil ?_; refine kthen_n ?_)
        refine ⟨(k + 1, v12), hlt, by dsimp only; omega, ?_, ?_⟩
        · (refine SubE.c rfl rfl ?_; refine SubE.c rfl rfl ?_; refine SubE.c rfl rfl ?_; refine SubE.c rfl rfl ?_; refine SubE.c rfl rfl ?_; refine SubE.c rfl rfl ?_; exact SubE.n)
        · dsimp only
          rw [hW2]
          refine ImpS.sb ?_
          ((refine Sb.c Tk.h ?_; refine Sb.c Tk.h ?_; refine Sb.c Tk.h ?_); (exact Sb.r))
      · have d4 : decide ((k : Int) < ((L.length - 1 : Nat) : Int)) = false := decide_eq_false (by omega)
        obtain rfl : k = R.length := by omega
        rw [List.take_length]
        have hn0 : x ++ R.flatMap (fun y => sep ++ y) ≠ [] := by
          intro h
          have := congrArg List.length h
          rw [List.length_append, List.length_nil] at this
          omega
        (refine G.condF rfl (by assumption) ?_; refine G.exit ?_; refine kthen_x ?_; refine kthen_x ?_; refine kblock_x ?_; refine kthen_n ?_; refine G.seq ?_; refine G.region ?_)
        refine GO.call1 rfl rfl (bstr_spec b8 (ptrV b8) v10 (x ++ R.flatMap fun y => sep ++ y) hn0) (Tks.c Tk.h (Tks.c Tk.h Tks.n)) ?_
        rintro _ _ ⟨rfl, rfl⟩
        (refine GO.assign rfl rfl ?_; refine GO.nil ?_; refine kthen_n ?_; refine G.ret ?_)
        refine KF2.r1 rfl (RV.t rfl) ⟨rfl, rfl⟩ (ImpS.sb ?_)
        ((refine Sb.c (Tk.t Tk.h) ?_); (refine Sb.s ?_; exact Sb.r))
end Go.Proofs.YtpgfmfbpmkfbjaaGreat
namespace Go.Proofs.YtpgfmfbpmkfbjaaGreat
open Go
def betF (k : Nat) : List UInt8 := if k = 5 then [32, 124, 32] else if k = 4 then [32] else []
def signF (k : Nat) : List UInt8 := if k = 6 then [42] else if k = 7 then [43] else if k = 8 then [63] else []
def wrapT (k j : Nat) (s : List UInt8) : List UInt8 := if j = 5 ∨ (j = 4 ∧ k ≠ 5) then [40] ++ s ++ [41] else s
mutual
def textT : Tree → List UInt8
  | .node k n ts => if k = 1 then [37] else if k = 2 ∨ k = 3 then n else joinF (betF k) (textTs k ts) ++ signF k
def textTs (k : Nat) : List Tree → List (List UInt8)
  | [] => []
  | t :: ts => wrapT k t.kind (textT t) :: textTs k ts
end
theorem textTs_map (k : Nat) : ∀ ts : List Tree, textTs k ts = ts.map fun t => wrapT k t.kind (textT t)
  | [] => by rw [textTs]; rfl
  | t :: ts => by rw [textTs, textTs_map k ts]; rfl
theorem textT_eq (t : Tree) : textT t = if t.kind = 1 then [37] else if t.kind = 2 ∨ t.kind = 3 then t.name else joinF (betF t.kind) (t.kids.map fun u => wrapT t.kind u.kind (textT u)) ++ signF t.kind := by
  cases t; rw [textT, textTs_map]; rfl
theorem flats_sum : ∀ ts : List Tree, (flats ts).length = (ts.map fun t => (flat t).length).sum
  | [] => by rw [flats]; rfl
  | t :: ts => by rw [flats, List.length_append, flats_sum ts]; rfl
theorem flat_kid {t u : Tree} (h : u ∈ t.kids) : (flat u).length < (flat t).length := by
  rw [flat_eq t, List.length_cons, flats_sum]
  have : ∀ ts : List Tree, u ∈ ts → (flat u).length ≤ (ts.map fun t => (flat t).length).sum := by
    intro ts
    induction ts with
    | nil => intro h; cases h
    | cons x ts ih =>
      intro h
      rw [List.map_cons, List.sum_cons]
      rcases List.mem_cons.1 h with rfl | h
      · omega
      · have := ih h; omega
  have := this _ h
  omega
theorem okT_eq (t : Tree) : okT t = (mayN ⟨t.kind, t.name, t.kids.length⟩ && okTs t.kids) := by cases t; rw [okT]; rfl
/-- A property of trees by their kids. -/
theorem Tree.ind {p : Tree → Prop} (h : ∀ t : Tree, (∀ u ∈ t.kids, p u) → p t) (t : Tree) : p t := by
  have : ∀ n, ∀ t : Tree, (flat t).length ≤ n → p t := by
    intro n
    induction n with
    | zero => intro t ht; have := flat_pos t; omega
    | succ n ih => intro t ht; exact h t fun u hu => ih u (by have := flat_kid hu; omega)
  exact this _ t (Nat.le_refl _)
theorem namedF_len {s : List UInt8} {f : UInt8 → Bool} (h : namedF s f = true) : 0 < s.length ∧ s.length ≤ 16 := by
  match s, h with
  | b :: r, h =>
    simp only [namedF, Bool.and_eq_true, decide_eq_true_eq] at h
    exact ⟨by simp, h.1⟩
/-- What a node that may be is. -/
theorem mayN_cases {m : NodeD} (h : mayN m = true) : (m.kind = 1 ∧ m.name = [] ∧ m.kids = 0) ∨ (m.kind = 2 ∧ m.kids = 0 ∧ namedF m.name upperB = true) ∨ (m.kind = 3 ∧ m.kids = 0 ∧ namedF m.name lowerB = true) ∨ ((m.kind = 4 ∨ m.kind = 5) ∧ m.name = [] ∧ 2 ≤ m.kids) ∨ ((m.kind = 6 ∨ m.kind = 7 ∨ m.kind = 8) ∧ m.name = [] ∧ m.kids = 1) := by
  unfold mayN at h
  split at h
  · simp only [Bool.and_eq_true, decide_eq_true_eq] at h; exact .inl ⟨by assumption, h⟩
  split at h
  · simp only [Bool.and_eq_true, decide_eq_true_eq] at h; exact .inr (.inl ⟨by assumption, h⟩)
  split at h
  · simp only [Bool.and_eq_true, decide_eq_true_eq] at h; exact .inr (.inr (.inl ⟨by assumption, h⟩))
  split at h
  · simp only [Bool.and_eq_true, decide_eq_true_eq] at h; exact .inr (.inr (.inr (.inl ⟨by assumption, h⟩)))
  split at h
  · simp only [Bool.and_eq_true, decide_eq_true_eq] at h; exact .inr (.inr (.inr (.inr ⟨by assumption, h⟩)))
  · cases h
theorem betF_le (k : Nat) : (betF k).length ≤ 3 := by
  unfold betF
  split
  · decide
  split <;> decide
theorem signF_le (k : Nat) : (signF k).length ≤ 1 := by
  unfold signF
  split
  · decide
  split
  · decide
  split <;> decide
theorem wrapT_len (k j : Nat) (s : List UInt8) : s.length ≤ (wrapT k j s).length ∧ (wrapT k j s).length ≤ s.length + 2 := by unfold wrapT; split <;> simp <;> omega
theorem joinF_le (sep : List UInt8) (h : sep.length ≤ 3) (l : List (List UInt8)) : (joinF sep l).length + 3 ≤ sumL l + 3 * l.length + (if l = [] then 3 else 0) := by
  cases l with
  | nil => simp [joinF]
  | cons x r =>
    rw [joinF_len, if_neg (by simp), List.length_cons]
    have := Nat.mul_le_mul_right r.length h
    omega
theorem joinF_pos {sep x : List UInt8} {r : List (List UInt8)} (h : 0 < x.length) : 0 < (joinF sep (x :: r)).length := by
  rw [joinF_len]; simp only [sumL, List.map_cons, List.sum_cons]; omega
theorem textT_len (t : Tree) : okT t = true → 0 < (textT t).length ∧ (textT t).length + 5 ≤ 22 * (flat t).length := by
  refine Tree.ind (p := fun t => okT t = true → 0 < (textT t).length ∧ (textT t).length + 5 ≤ 22 * (flat t).length) (fun t ih => ?_) t
  intro h
  rw [okT_eq, Bool.and_eq_true] at h
  have hp := flat_pos t
  have hk := fun u hu => ih u hu (okTs_mem h.2 hu)
  rw [textT_eq]
  rcases mayN_cases h.1 with ⟨h1, _, _⟩ | ⟨h1, _, h2⟩ | ⟨h1, _, h2⟩ | h3
  · have h1' : t.kind = 1 := h1
    rw [if_pos h1']
    exact ⟨by decide, by show 1 + 5 ≤ _; omega⟩
  · have h1' : t.kind = 2 := h1
    rw [if_neg (by omega), if_pos (.inl h1')]
    have := namedF_len h2
    dsimp only at this
    omega
  · have h1' : t.kind = 3 := h1
    rw [if_neg (by omega), if_pos (.inr h1')]
    have := namedF_len h2
    dsimp only at this
    omega
  · have h3' : 4 ≤ t.kind ∧ 1 ≤ t.kids.length := by rcases h3 with ⟨h, _, h'⟩ | ⟨h, _, h'⟩ <;> dsimp only at h h' <;> omega
    rw [if_neg (by omega), if_neg (by omega), List.length_append]
    have hs := signF_le t.kind
    have hb := joinF_le (betF t.kind) (betF_le t.kind) (t.kids.map fun u => wrapT t.kind u.kind (textT u))
    have hsum : ∀ ts : List Tree, (∀ u ∈ ts, 0 < (textT u).length ∧ (textT u).length + 5 ≤ 22 * (flat u).length) → sumL (ts.map fun u => wrapT t.kind u.kind (textT u)) + 3 * ts.length ≤ 22 * (flats ts).length := by
      intro ts
      induction ts with
      | nil => intro _; simp [sumL]
      | cons x ts ih =>
        intro h
        have h1 := h x (by simp)
        have h2 := ih fun u hu => h u (by simp [hu])
        have h3 := wrapT_len t.kind x.kind (textT x)
        rw [flats, List.length_append, List.map_cons, List.length_cons]
        simp only [sumL, List.map_cons, List.sum_cons] at h2 ⊢
        omega
    have := hsum _ hk
    have hf : (flat t).length = (flats t.kids).length + 1 := by rw [flat_eq t, List.length_cons]
    have hpos : 0 < (joinF (betF t.kind) (t.kids.map fun u => wrapT t.kind u.kind (textT u))).length := by
      cases hk2 : t.kids with
      | nil => rw [hk2] at h3'; exact absurd h3'.2 (by decide)
      | cons x r =>
        rw [List.map_cons]
        refine joinF_pos ?_
        have := hk x (by rw [hk2]; simp)
        have := wrapT_len t.kind x.kind (textT x)
        omega
    rw [List.length_map] at hb
    have hne : t.kids.map (fun u => wrapT t.kind u.kind (textT u)) ≠ [] := by intro h; have := congrArg List.length h; rw [List.length_map] at this; simp at this; rw [this] at h3'; exact absurd h3'.2 (by decide)
    rw [if_neg hne] at hb
    omega
attribute [local irreducible] G GO GR GT Fn FnX FnV FnXV Dfr pt init exs pur sat own ImpS mayN
set_option maxHeartbeats 8000000 in
theorem sign_spec (k : Nat) : Fn Tryz.prog 97 #[i64 (k : Nat)] [] (fun r Q => r = str (signF k) ∧ Q = []) := by
  refine Fn.mk2 Tryz.func97 rfl rfl fun w0 F => ?_
  unfold signF
  (refine G.seq ?_; refine G.region ?_; refine GO.assign rfl rfl ?_; refine GO.nil ?_; refine kthen_n ?_; refine G.seq ?_; refine G.seq ?_; refine G.region ?_; refine GO.move rfl rfl ?_; refine GO.nil ?_; refine kthen_n ?_; refine G.block ?_; refine G.seq ?_; refine G.region ?_; refine GO.eqi rfl rfl rfl ?_; refine GO.assign rfl rfl ?_; refine GO.nil ?_; refine kthen_n ?_)
  by_cases h6 : k = 6
  · have c1 : decide ((k : Int) = 6) = true := decide_eq_true (by omega)
    rw [if_pos h6]
    (refine G.condT rfl (by assumption) ?_; refine G.seq ?_; refine G.region ?_; refine GO.assign rfl rfl ?_; refine GO.nil ?_; refine kthen_n ?_; refine G.ret ?_; refine kblock_r ?_; refine kthen_r ?_)
    refine KF2.r1 rfl (RV.t rfl) ⟨rfl, rfl⟩ (ImpS.sb ?_)
    (skip; (exact Sb.r))
  have c1 : decide ((k : Int) = 6) = false := decide_eq_false (by omega)
  rw [if_neg h6]
  by_cases h7 : k = 7
  · have c2 : decide ((k : Int) = 7) = true := decide_eq_true (by omega)
    rw [if_pos h7]
    (refine G.condF rfl (by assumption) ?_; refine G.seq ?_; refine G.region ?_; refine GO.eqi rfl rfl rfl ?_; refine GO.assign rfl rfl ?_; refine GO.nil ?_; refine kthen_n ?_; refine G.condT rfl (by assumption) ?_; refine G.seq ?_; refine G.region ?_; refine GO.assign rfl rfl ?_; refine GO.nil ?_; refine kthen_n ?_; refine G.ret ?_; refine kblock_r ?_; refine kthen_r ?_)
    refine KF2.r1 rfl (RV.t rfl) ⟨rfl, rfl⟩ (ImpS.sb ?_)
    (skip; (exact Sb.r))
  have c2 : decide ((k : Int) = 7) = false := decide_eq_false (by omega)
  rw [if_neg h7]
  by_cases h8 : k = 8
  · have c3 : decide ((k : Int) = 8) = true := decide_eq_true (by omega)
    rw [if_pos h8]
    (refine G.condF rfl (by assumption) ?_; refine G.seq ?_; refine G.region ?_; refine GO.eqi rfl rfl rfl ?_; refine GO.assign rfl rfl ?_; refine GO.nil ?_; refine kthen_n ?_; refine G.condF rfl (by assumption) ?_; refine G.seq ?_; refine G.region ?_; refine GO.eqi rfl rfl rfl ?_; refine GO.assign rfl rfl ?_; refine GO.nil ?_; refine kthen_n ?_; refine G.condT rfl (by assumption) ?_; refine G.seq ?_; refine G.region ?_; refine GO.assign rfl rfl ?_; refine GO.nil ?_; refine kthen_n ?_; refine G.ret ?_; refine kblock_r ?_; refine kthen_r ?_)
    refine KF2.r1 rfl (RV.t rfl) ⟨rfl, rfl⟩ (ImpS.sb ?_)
    (skip; (exact Sb.r))
  have c3 : decide ((k : Int) = 8) = false := decide_eq_false (by omega)
  rw [if_neg h8]
  (refine G.condF rfl (by assumption) ?_; refine G.seq ?_; refine G.region ?_; refine GO.eqi rfl rfl rfl ?_; refine GO.assign rfl rfl ?_; refine GO.nil ?_; refine kthen_n ?_; refine G.condF rfl (by assumption) ?_; refine G.seq ?_; refine G.region ?_; refine GO.eqi rfl rfl rfl ?_; refine GO.assign rfl rfl ?_; refine GO.nil ?_; refine kthen_n ?_; refine G.condF rfl (by assumption) ?_; refine G.skip ?_; refine kblock_n ?_; refine kthen_n ?_; refine G.seq ?_; refine G.region ?_; refine GO.assign rfl rfl ?_; refine GO.nil ?_; refine kthen_n ?_; refine G.ret ?_)
  refine KF2.r1 rfl (RV.t rfl) ⟨rfl, rfl⟩ (ImpS.sb ?_)
  (skip; (exact Sb.r))
end Go.Proofs.YtpgfmfbpmkfbjaaGreat
namespace Go.Proofs.YtpgfmfbpmkfbjaaGreat
open Go
attribute [local irreducible] G GO GR GT Fn FnX FnV FnXV Dfr pt init exs pur sat own ImpS mayN
set_option maxHeartbeats 32000000 in
theorem text_spec (n : Nat) : ∀ (q : HP) (v : Value) (t : Tree), NodesR q v (flat t) → okT t = true → (flat t).length ≤ n → ¬ 4096 < (flat t).length →
    Fn Tryz.prog 72 #[v] [q] (fun r Q => r = str (textT t) ∧ Q = [q]) := by
  induction n with
  | zero => intro q v t _ _ h; have := flat_pos t; omega
  | succ n ih =>
  intro q v t hq hok hn hb
  have h0 := flat_eq t
  have hlen := textT_len t hok
  have hks := kids_spec q v t hq (by omega)
  have hmay := okT_eq t
  rw [hok] at hmay
  have hmay := (Bool.and_eq_true _ _).mp hmay.symm
  have hkid : ∀ u ∈ t.kids, okT u = true ∧ (flat u).length < (flat t).length := fun u hu => ⟨okTs_mem hmay.2 hu, flat_kid hu⟩
  have hm := mayN_cases hmay.1
  dsimp only at hm
  obtain ⟨b, o, cap, rfl, hcap, rm⟩ := nodes_rd hq (i := 0) (m := ⟨t.kind, t.name, t.kids.length⟩) (by rw [h0]; rfl)
  have hpos := flat_pos t
  rw [textT_eq] at hlen ⊢
  generalize hk : t.kind = k at *
  refine Fn.mk2 Tryz.func72 rfl rfl fun w0 F => ?_
  (refine G.seq ?_; refine G.region ?_; refine GO.assign rfl rfl ?_; refine GO.nil ?_; refine kthen_n ?_; refine G.seq ?_; refine G.region ?_; refine GO.move rfl rfl ?_; refine GO.idxS rfl rfl rfl ⟨rfl, by omega⟩ ?_)
  refine GO.loadM (vs := [i64 (k : Nat), str t.name, i64 (t.kids.length : Nat)]) rfl rfl rfl Tk.h rfl rm ?_
  (refine GO.alloc rfl fun b3 => ?_; refine GO.storeW rfl rfl Tk.h ⟨rfl, rfl⟩ (by simp [Value.oneCell']) ?_; refine GO.nil ?_; refine kthen_n ?_; refine G.seq ?_; refine G.region ?_; refine GO.assign rfl rfl ?_; refine GO.nil ?_; refine kthen_n ?_; refine G.seq ?_; refine G.seq ?_; refine G.region ?_; refine GO.fieldAddr rfl rfl ?_; refine GO.load1 rfl rfl rfl Tk.h rfl ?_; refine GO.nil ?_; refine kthen_n ?_; refine G.block ?_; refine G.seq ?_; refine G.region ?_; refine GO.eqi rfl rfl rfl ?_; refine GO.assign rfl rfl ?_; refine GO.nil ?_; refine kthen_n ?_)
  by_cases h1 : k = 1
  · have c1 : decide ((k : Int) = 1) = true := decide_eq_true (by omega)
    rw [if_pos h1]
    (refine G.condT rfl (by assumption) ?_; refine G.seq ?_; refine G.region ?_; refine GO.assign rfl rfl ?_; refine GO.nil ?_; refine kthen_n ?_; refine G.ret ?_; refine kblock_r ?_; refine kthen_r ?_)
    refine KF2.r1 rfl (RV.t rfl) ⟨rfl, rfl⟩ (ImpS.sb ?_)
    ((refine Sb.c (Tk.t Tk.h) ?_); (refine Sb.s ?_; exact Sb.r))
  have c1 : decide ((k : Int) = 1) = false := decide_eq_false (by omega)
  rw [if_neg h1] at hlen ⊢
  by_cases h2 : k = 2
  · have c2 : decide ((k : Int) = 2) = true := decide_eq_true (by omega)
    rw [if_pos (.inl h2)]
    (refine G.condF rfl (by assumption) ?_; refine G.seq ?_; refine G.seq ?_; refine G.region ?_; refine GO.eqi rfl rfl rfl ?_; refine GO.assign rfl rfl ?_; refine GO.nil ?_; refine kthen_n ?_; refine G.condT rfl (by assumption) ?_; refine G.skip ?_; refine kthen_n ?_; refine G.condT rfl (by assumption) ?_; refine G.seq ?_; refine G.region ?_; refine GO.fieldAddr rfl rfl ?_; refine GO.load1 rfl rfl rfl Tk.h rfl ?_; refine GO.assign rfl rfl ?_; refine GO.nil ?_; refine kthen_n ?_; refine G.ret ?_; refine kblock_r ?_; refine kthen_r ?_)
    refine KF2.r1 rfl (RV.t rfl) ⟨rfl, rfl⟩ (ImpS.sb ?_)
    ((refine Sb.c (Tk.t Tk.h) ?_); (refine Sb.s ?_; exact Sb.r))
  have c2 : decide ((k : Int) = 2) = false := decide_eq_false (by omega)
  by_cases h3 : k = 3
  · have c3 : decide ((k : Int) = 3) = true := decide_eq_true (by omega)
    rw [if_pos (.inr h3)]
    (refine G.condF rfl (by assumption) ?_; refine G.seq ?_; refine G.seq ?_; refine G.region ?_; refine GO.eqi rfl rfl rfl ?_; refine GO.assign rfl rfl ?_; refine GO.nil ?_; refine kthen_n ?_; refine G.condF rfl (by assumption) ?_; refine G.region ?_; refine GO.eqi rfl rfl rfl ?_; refine GO.assign rfl rfl ?_; refine GO.nil ?_; refine kthen_n ?_; refine G.condT rfl (by assumption) ?_; refine G.seq ?_; refine G.region ?_; refine GO.fieldAddr rfl rfl ?_; refine GO.load1 rfl rfl rfl Tk.h rfl ?_; refine GO.assign rfl rfl ?_; refine GO.nil ?_; refine kthen_n ?_; refine G.ret ?_; refine kblock_r ?_; refine kthen_r ?_)
    refine KF2.r1 rfl (RV.t rfl) ⟨rfl, rfl⟩ (ImpS.sb ?_)
    ((refine Sb.c (Tk.t Tk.h) ?_); (refine Sb.s ?_; exact Sb.r))
  have c3 : decide ((k : Int) = 3) = false := decide_eq_false (by omega)
  rw [if_neg (by omega)] at hlen ⊢
  refine G.midB [(0, .slice (some ⟨b, o, none⟩) (flat t).length cap), (3, ptrV b3), (4, str (betF k))] (pt b3 (row [i64 (k : Nat), str t.name, i64 (t.kids.length : Nat)] 64) :: q :: F) ?_ ?_
  · unfold betF
    (refine G.condF rfl (by assumption) ?_; refine G.seq ?_; refine G.seq ?_; refine G.region ?_; refine GO.eqi rfl rfl rfl ?_; refine GO.assign rfl rfl ?_; refine GO.nil ?_; refine kthen_n ?_; refine G.condF rfl (by assumption) ?_; refine G.region ?_; refine GO.eqi rfl rfl rfl ?_; refine GO.assign rfl rfl ?_; refine GO.nil ?_; refine kthen_n ?_; refine G.condF rfl (by assumption) ?_; refine G.seq ?_; refine G.region ?_; refine GO.eqi rfl rfl rfl ?_; refine GO.assign rfl rfl ?_; refine GO.nil ?_; refine kthen_n ?_)
    by_cases h5 : k = 5
    · have c5 : decide ((k : Int) = 5) = true := decide_eq_true (by omega)
      rw [if_pos h5]
      (refine G.condT rfl (by assumption) ?_; refine G.region ?_; refine GO.assign rfl rfl ?_; refine GO.nil ?_; refine kblock_n ?_; refine kthen_n ?_)
      refine ⟨?_, ImpS.sb ?_⟩
      · (refine SubE.c rfl rfl ?_; refine SubE.c rfl rfl ?_; refine SubE.c rfl rfl ?_; exact SubE.n)
      · ((refine Sb.c Tk.h ?_; refine Sb.c Tk.h ?_); (exact Sb.r))
    have c5 : decide ((k : Int) = 5) = false := decide_eq_false (by omega)
    rw [if_neg h5]
    by_cases h4 : k = 4
    · have c4 : decide ((k : Int) = 4) = true := decide_eq_true (by omega)
      rw [if_pos h4]
      (refine G.condF rfl (by assumption) ?_; refine G.seq ?_; refine G.region ?_; refine GO.eqi rfl rfl rfl ?_; refine GO.assign rfl rfl ?_; refine GO.nil ?_; refine kthen_n ?_; refine G.condT rfl (by assumption) ?_; refine G.region ?_; refine GO.assign rfl rfl ?_; refine GO.nil ?_; refine kblock_n ?_; refine kthen_n ?_)
      refine ⟨?_, ImpS.sb ?_⟩
      · (refine SubE.c rfl rfl ?_; refine SubE.c rfl rfl ?_; refine SubE.c rfl rfl ?_; exact SubE.n)
      · ((refine Sb.c Tk.h ?_; refine Sb.c Tk.h ?_); (exact Sb.r))
    have c4 : decide ((k : Int) = 4) = false := decide_eq_false (by omega)
    rw [if_neg h4]
    (refine G.condF rfl (by assumption) ?_; refine G.seq ?_; refine G.region ?_; refine GO.eqi rfl rfl rfl ?_; refine GO.assign rfl rfl ?_; refine GO.nil ?_; refine kthen_n ?_; refine G.condF rfl (by assumption) ?_; refine G.skip ?_; refine kblock_n ?_; refine kthen_n ?_)
    refine ⟨?_, ImpS.sb ?_⟩
    · (refine SubE.c rfl rfl ?_; refine SubE.c rfl rfl ?_; refine SubE.c rfl rfl ?_; exact SubE.n)
    · ((refine Sb.c Tk.h ?_; refine Sb.c Tk.h ?_); (exact Sb.r))
  have hkn : 1 ≤ t.kids.length ∧ ((betF k).length = 0 → t.kids.length = 1) := by
    unfold betF
    rcases hm with h | h | h | ⟨h | h, _, h'⟩ | ⟨h, _, h'⟩
    · omega
    · omega
    · omega
    · rw [if_neg (by omega), if_pos h]; exact ⟨by omega, fun h => by cases h⟩
    · rw [if_pos h]; exact ⟨by omega, fun h => by cases h⟩
    · exact ⟨by omega, fun _ => h'⟩
  have hkl : t.kids.length < (flat t).length := by rw [h0, List.length_cons]; have := kids_le t.kids; omega
  clear h0 hm
  (refine G.seq ?_; refine G.region ?_; refine GO.assign rfl rfl ?_; refine GO.nil ?_; refine kthen_n ?_; refine G.seq ?_; refine G.seq ?_; refine G.region ?_; refine GO.move rfl rfl ?_)
  refine GO.call1 rfl rfl (hks) (Tks.c (Tk.t Tk.h) Tks.n) ?_
  rintro r _ ⟨vals, hK, rfl⟩
  refine GO.ownRdK Tk.h fun qk hqk => ?_
  obtain ⟨ak, capk, rfl, hcapk, _, hkr⟩ := hqk
  obtain ⟨bk, ok, rfl, hkr2⟩ := hkr (by omega)
  generalize hps : t.kids.map (fun u => wrapT k u.kind (textT u)) = ps at *
  have hpl : ps.length = t.kids.length := by rw [← hps, List.length_map]
  have hpg : ∀ j u, t.kids[j]? = some u → ps[j]? = some (wrapT k u.kind (textT u)) := fun j u h => by rw [← hps, List.getElem?_map, h]; rfl
  have hpn : ∀ x ∈ ps, 0 < x.length := fun x hx => by
    rw [← hps] at hx
    obtain ⟨u, hu, rfl⟩ := List.mem_map.1 hx
    have := textT_len u (hkid u hu).1
    have := wrapT_len k u.kind (textT u)
    omega
  refine GO.ownNil (T := 9) (sz := 1) ?_
  (refine GO.lenS rfl rfl ?_; refine GO.move rfl rfl ?_; refine GO.nil ?_; refine kthen_n ?_; refine G.block ?_)
  refine G.loopI (σ := Nat × Value) (fun z => [(0, .slice (some ⟨b, o, none⟩) (flat t).length cap), (3, ptrV b3), (4, str (betF k)), (5, z.2), (26, .slice (some ⟨bk, ok, none⟩) t.kids.length capk), (27, i64 (t.kids.length : Nat)), (28, i64 (z.1 : Nat))]) (fun z => own 9 1 z.1 z.2 (strsV (ps.take z.1)) :: pt b3 (row [i64 (k : Nat), str t.name, i64 (t.kids.length : Nat)] 64) :: qk :: q :: F) (fun z => z.1 ≤ t.kids.length) (fun z => t.kids.length - z.1) (0, .slice none 0 0) (Nat.zero_le _) ?_ ?_ ?_
  · (refine SubE.c rfl rfl ?_; refine SubE.c rfl rfl ?_; refine SubE.c rfl rfl ?_; refine SubE.c rfl rfl ?_; refine SubE.c rfl rfl ?_; refine SubE.c rfl rfl ?_; refine SubE.c rfl rfl ?_; exact SubE.n)
  · refine ImpS.sb ?_
    ((refine Sb.c Tk.h ?_; refine Sb.c (Tk.t (Tk.t Tk.h)) ?_; refine Sb.c Tk.h ?_; refine Sb.c Tk.h ?_); (exact Sb.r))
  rintro ⟨j, v5⟩ hj
  dsimp only at hj ⊢
  (refine G.seq ?_; refine G.region ?_; refine GO.lti rfl rfl rfl ?_; refine GO.nil ?_; refine kthen_n ?_; refine G.seq ?_)
  by_cases hlt : j < t.kids.length
  · have d1 : decide ((j : Int) < (t.kids.length : Int)) = true := decide_eq_true (by omega)
    obtain ⟨u, hu⟩ : ∃ u, t.kids[j]? = some u := ⟨_, List.getElem?_eq_getElem hlt⟩
    obtain ⟨w, hw1, hw2, hw⟩ := hK.2 j u hlt hu
    obtain ⟨hku1, hku2⟩ := hkid u (List.mem_of_getElem? hu)
    have rk : Rd qk ⟨bk, ok + j * 1, none⟩ w := by rw [Nat.mul_one]; exact hkr2 j w hw1
    obtain ⟨bu, ou, cu, rfl, hcu, rmu⟩ := nodes_rd hw (i := 0) (m := ⟨u.kind, u.name, u.kids.length⟩) (by rw [flat_eq u]; rfl)
    have ru : Rd q ⟨bu, ou + 0 * 3 + 0, none⟩ (i64 (u.kind : Nat)) := rmu 0 _ rfl
    have hup := flat_pos u
    have hul := textT_len u hku1
    have hT : strsV (ps.take (j + 1)) = strsV (ps.take j) ++ [str (wrapT k u.kind (textT u))] := by
      unfold strsV
      rw [take_snoc (hpg j u hu), List.map_append]; rfl
    clear rmu
    (refine G.condT rfl (by assumption) ?_; refine G.skip ?_; refine kthen_n ?_; refine G.seq ?_; refine G.block ?_; refine G.seq ?_; refine G.region ?_; refine GO.idxS rfl rfl rfl ⟨rfl, by omega⟩ ?_; refine GO.loadQ rfl rfl rfl (Tk.t (Tk.t Tk.h)) (by assumption) ?_; refine GO.assign rfl rfl ?_; refine GO.nil ?_; refine kthen_n ?_; refine G.seq ?_; refine G.region ?_; refine GO.move rfl rfl ?_)
    refine GO.call1 rfl rfl (ih q (.slice (some ⟨bu, ou, none⟩) (flat u).length cu) u hw hku1 (by omega) (by omega)) (Tks.c (Tk.t (Tk.t (Tk.t Tk.h))) Tks.n) ?_
    rintro _ _ ⟨rfl, rfl⟩
    unfold wrapT at hT
    generalize textT u = s at *
    (refine GO.assign rfl rfl ?_; refine GO.nil ?_; refine kthen_n ?_; refine G.seq ?_; refine G.seq ?_; refine G.region ?_; refine GO.move rfl rfl ?_; refine GO.idxS rfl rfl rfl ⟨rfl, by omega⟩ ?_; refine GO.fieldAddr rfl rfl ?_; refine GO.loadQ rfl rfl rfl Tk.h (by assumption) ?_; refine GO.eqi rfl rfl rfl ?_; refine GO.move rfl rfl ?_)
    by_cases g5 : u.kind = 5
    · have e5 : decide ((u.kind : Int) = 5) = true := decide_eq_true (by omega)
      rw [if_pos (.inl g5)] at hT
      (refine GO.gF rfl rfl rfl (by assumption) ?_; refine GO.gF rfl rfl rfl (by assumption) ?_; refine GO.gF rfl rfl rfl (by assumption) ?_; refine GO.gF rfl rfl rfl (by assumption) ?_; refine GO.gF rfl rfl rfl (by assumption) ?_; refine GO.gF rfl rfl rfl (by assumption) ?_; refine GO.gU rfl rfl rfl ?_; refine GO.gU rfl rfl rfl ?_; refine GO.gU rfl rfl rfl ?_; refine GO.gF rfl rfl rfl (by assumption) ?_; refine GO.pickTa rfl rfl (by assumption) rfl ?_; refine GO.nil ?_; refine kthen_n ?_; refine G.condT rfl rfl ?_; refine G.region ?_; refine GO.move rfl rfl ?_)
      refine GO.strCat (a := [40]) rfl rfl rfl (by rw [show [(40 : UInt8)].length = 1 from rfl]; omega) ?_
      refine GO.strCat (b := [41]) rfl rfl rfl (by rw [List.length_append, show [(40 : UInt8)].length = 1 from rfl, show [(41 : UInt8)].length = 1 from rfl]; omega) ?_
      (refine GO.assign rfl rfl ?_; refine GO.nil ?_; refine kthen_n ?_; refine G.region ?_; refine GO.move rfl rfl ?_; refine GO.move rfl rfl ?_)
      refine GO.buildSlice1 (n := 1) rfl rfl (fun v hv => by rw [List.mem_singleton.1 hv]; rfl) rfl ⟨by decide, by decide⟩ fun bs => ?_
      refine GO.appendOwn (m := 1) (news := [str ([40] ++ s ++ [41])]) rfl rfl rfl (Tk.t (Tk.t Tk.h)) Tk.h rfl (by simp [Value.oneCell', str]) ⟨by decide, rfl⟩ Nat.one_pos (by unfold maxLen; omega) (by omega) fun v6 => ?_
      (refine GO.assign rfl rfl ?_; refine GO.nil ?_; refine kblock_n ?_; refine kthen_n ?_; refine G.region ?_; refine GO.addi rfl rfl rfl (by omega) ?_; refine GO.move rfl rfl ?_; refine GO.nil ?_; refine kthen_n ?_)
      refine ⟨(j + 1, v6), hlt, by dsimp only; omega, ?_, ?_⟩
      · (refine SubE.c rfl rfl ?_; refine SubE.c rfl rfl ?_; refine SubE.c rfl rfl ?_; refine SubE.c rfl rfl ?_; refine SubE.c rfl rfl ?_; refine SubE.c rfl rfl ?_; refine SubE.c rfl rfl ?_; exact SubE.n)
      · dsimp only
        rw [hT]
        refine ImpS.sb ?_
        ((refine Sb.c Tk.h ?_; refine Sb.c (Tk.t (Tk.t Tk.h)) ?_; refine Sb.c (Tk.t (Tk.t Tk.h)) ?_; refine Sb.c (Tk.t Tk.h) ?_); (refine Sb.s ?_; exact Sb.r))
    have e5 : decide ((u.kind : Int) = 5) = false := decide_eq_false (by omega)
    by_cases g4 : u.kind = 4
    · have e4 : decide ((u.kind : Int) = 4) = true := decide_eq_true (by omega)
      by_cases h5 : k = 5
      · have c5 : decide ((k : Int) ≠ 5) = false := decide_eq_false (by omega)
        rw [if_neg (by omega)] at hT
        (refine GO.gT rfl rfl (by assumption) ?_; refine GO.move rfl rfl ?_; refine GO.gT rfl rfl (by assumption) ?_; refine GO.idxS rfl rfl rfl ⟨rfl, by omega⟩ ?_; refine GO.gT rfl rfl (by assumption) ?_; refine GO.fieldAddr rfl rfl ?_; refine GO.gT rfl rfl (by assumption) ?_; refine GO.loadQ rfl rfl rfl Tk.h (by assumption) ?_; refine GO.gT rfl rfl (by assumption) ?_; refine GO.eqi rfl rfl rfl ?_; refine GO.gT rfl rfl (by assumption) ?_; refine GO.move rfl rfl ?_; refine GO.gT rfl rfl (by assumption) ?_; refine GO.fieldAddr rfl rfl ?_; refine GO.gT rfl rfl (by assumption) ?_; refine GO.load1 rfl rfl rfl (Tk.t (Tk.t Tk.h)) rfl ?_; refine GO.gT rfl rfl (by assumption) ?_; refine GO.nei rfl rfl rfl ?_; refine GO.gT rfl rfl (by assumption) ?_; refine GO.pickTa rfl rfl (by assumption) rfl ?_; refine GO.pickFa rfl rfl (by assumption) rfl ?_; refine GO.nil ?_; refine kthen_n ?_; refine G.condF rfl (by assumption) ?_; refine G.skip ?_; refine kthen_n ?_; refine G.region ?_; refine GO.move rfl rfl ?_; refine GO.move rfl rfl ?_)
        refine GO.buildSlice1 (n := 1) rfl rfl (fun v hv => by rw [List.mem_singleton.1 hv]; rfl) rfl ⟨by decide, by decide⟩ fun bs => ?_
        refine GO.appendOwn (m := 1) (news := [str (s)]) rfl rfl rfl (Tk.t (Tk.t Tk.h)) Tk.h rfl (by simp [Value.oneCell', str]) ⟨by decide, rfl⟩ Nat.one_pos (by unfold maxLen; omega) (by omega) fun v6 => ?_
        (refine GO.assign rfl rfl ?_; refine GO.nil ?_; refine kblock_n ?_; refine kthen_n ?_; refine G.region ?_; refine GO.addi rfl rfl rfl (by omega) ?_; refine GO.move rfl rfl ?_; refine GO.nil ?_; refine kthen_n ?_)
        refine ⟨(j + 1, v6), hlt, by dsimp only; omega, ?_, ?_⟩
        · (refine SubE.c rfl rfl ?_; refine SubE.c rfl rfl ?_; refine SubE.c rfl rfl ?_; refine SubE.c rfl rfl ?_; refine SubE.c rfl rfl ?_; refine SubE.c rfl rfl ?_; refine SubE.c rfl rfl ?_; exact SubE.n)
        · dsimp only
          rw [hT]
          refine ImpS.sb ?_
          ((refine Sb.c Tk.h ?_; refine Sb.c (Tk.t (Tk.t Tk.h)) ?_; refine Sb.c (Tk.t (Tk.t Tk.h)) ?_; refine Sb.c (Tk.t Tk.h) ?_); (refine Sb.s ?_; exact Sb.r))
      · have c5 : decide ((k : Int) ≠ 5) = true := decide_eq_true (by omega)
        rw [if_pos (.inr ⟨g4, h5⟩)] at hT
        (refine GO.gT rfl rfl (by assumption) ?_; refine GO.move rfl rfl ?_; refine GO.gT rfl rfl (by assumption) ?_; refine GO.idxS rfl rfl rfl ⟨rfl, by omega⟩ ?_; refine GO.gT rfl rfl (by assumption) ?_; refine GO.fieldAddr rfl rfl ?_; refine GO.gT rfl rfl (by assumption) ?_; refine GO.loadQ rfl rfl rfl Tk.h (by assumption) ?_; refine GO.gT rfl rfl (by assumption) ?_; refine GO.eqi rfl rfl rfl ?_; refine GO.gT rfl rfl (by assumption) ?_; refine GO.move rfl rfl ?_; refine GO.gT rfl rfl (by assumption) ?_; refine GO.fieldAddr rfl rfl ?_; refine GO.gT rfl rfl (by assumption) ?_; refine GO.load1 rfl rfl rfl (Tk.t (Tk.t Tk.h)) rfl ?_; refine GO.gT rfl rfl (by assumption) ?_; refine GO.nei rfl rfl rfl ?_; refine GO.gT rfl rfl (by assumption) ?_; refine GO.pickTa rfl rfl (by assumption) rfl ?_; refine GO.pickFa rfl rfl (by assumption) rfl ?_; refine GO.nil ?_; refine kthen_n ?_; refine G.condT rfl (by assumption) ?_; refine G.region ?_; refine GO.move rfl rfl ?_)
        refine GO.strCat (a := [40]) rfl rfl rfl (by rw [show [(40 : UInt8)].length = 1 from rfl]; omega) ?_
        refine GO.strCat (b := [41]) rfl rfl rfl (by rw [List.length_append, show [(40 : UInt8)].length = 1 from rfl, show [(41 : UInt8)].length = 1 from rfl]; omega) ?_
        (refine GO.assign rfl rfl ?_; refine GO.nil ?_; refine kthen_n ?_; refine G.region ?_; refine GO.move rfl rfl ?_; refine GO.move rfl rfl ?_)
        refine GO.buildSlice1 (n := 1) rfl rfl (fun v hv => by rw [List.mem_singleton.1 hv]; rfl) rfl ⟨by decide, by decide⟩ fun bs => ?_
        refine GO.appendOwn (m := 1) (news := [str ([40] ++ s ++ [41])]) rfl rfl rfl (Tk.t (Tk.t Tk.h)) Tk.h rfl (by simp [Value.oneCell', str]) ⟨by decide, rfl⟩ Nat.one_pos (by unfold maxLen; omega) (by omega) fun v6 => ?_
        (refine GO.assign rfl rfl ?_; refine GO.nil ?_; refine kblock_n ?_; refine kthen_n ?_; refine G.region ?_; refine GO.addi rfl rfl rfl (by omega) ?_; refine GO.move rfl rfl ?_; refine GO.nil ?_; refine kthen_n ?_)
        refine ⟨(j + 1, v6), hlt, by dsimp only; omega, ?_, ?_⟩
        · (refine SubE.c rfl rfl ?_; refine SubE.c rfl rfl ?_; refine SubE.c rfl rfl ?_; refine SubE.c rfl rfl ?_; refine SubE.c rfl rfl ?_; refine SubE.c rfl rfl ?_; refine SubE.c rfl rfl ?_; exact SubE.n)
        · dsimp only
          rw [hT]
          refine ImpS.sb ?_
          ((refine Sb.c Tk.h ?_; refine Sb.c (Tk.t (Tk.t Tk.h)) ?_; refine Sb.c (Tk.t (Tk.t Tk.h)) ?_; refine Sb.c (Tk.t Tk.h) ?_); (refine Sb.s ?_; exact Sb.r))
    · have e4 : decide ((u.kind : Int) = 4) = false := decide_eq_false (by omega)
      rw [if_neg (by omega)] at hT
      (refine GO.gT rfl rfl (by assumption) ?_; refine GO.move rfl rfl ?_; refine GO.gT rfl rfl (by assumption) ?_; refine GO.idxS rfl rfl rfl ⟨rfl, by omega⟩ ?_; refine GO.gT rfl rfl (by assumption) ?_; refine GO.fieldAddr rfl rfl ?_; refine GO.gT rfl rfl (by assumption) ?_; refine GO.loadQ rfl rfl rfl Tk.h (by assumption) ?_; refine GO.gT rfl rfl (by assumption) ?_; refine GO.eqi rfl rfl rfl ?_; refine GO.gT rfl rfl (by assumption) ?_; refine GO.move rfl rfl ?_; refine GO.gF rfl rfl rfl (by assumption) ?_; refine GO.gF rfl rfl rfl (by assumption) ?_; refine GO.gF rfl rfl rfl (by assumption) ?_; refine GO.gT rfl rfl (by assumption) ?_; refine GO.pickFa rfl rfl (by assumption) rfl ?_; refine GO.pickFa rfl rfl (by assumption) rfl ?_; refine GO.nil ?_; refine kthen_n ?_; refine G.condF rfl rfl ?_; refine G.skip ?_; refine kthen_n ?_; refine G.region ?_; refine GO.move rfl rfl ?_; refine GO.move rfl rfl ?_)
      refine GO.buildSlice1 (n := 1) rfl rfl (fun v hv => by rw [List.mem_singleton.1 hv]; rfl) rfl ⟨by decide, by decide⟩ fun bs => ?_
      refine GO.appendOwn (m := 1) (news := [str (s)]) rfl rfl rfl (Tk.t (Tk.t Tk.h)) Tk.h rfl (by simp [Value.oneCell', str]) ⟨by decide, rfl⟩ Nat.one_pos (by unfold maxLen; omega) (by omega) fun v6 => ?_
      (refine GO.assign rfl rfl ?_; refine GO.nil ?_; refine kblock_n ?_; refine kthen_n ?_; refine G.region ?_; refine GO.addi rfl rfl rfl (by omega) ?_; refine GO.move rfl rfl ?_; refine GO.nil ?_; refine kthen_n ?_)
      refine ⟨(j + 1, v6), hlt, by dsimp only; omega, ?_, ?_⟩
      · (refine SubE.c rfl rfl ?_; refine SubE.c rfl rfl ?_; refine SubE.c rfl rfl ?_; refine SubE.c rfl rfl ?_; refine SubE.c rfl rfl ?_; refine SubE.c rfl rfl ?_; refine SubE.c rfl rfl ?_; exact SubE.n)
      · dsimp only
        rw [hT]
        refine ImpS.sb ?_
        ((refine Sb.c Tk.h ?_; refine Sb.c (Tk.t (Tk.t Tk.h)) ?_; refine Sb.c (Tk.t (Tk.t Tk.h)) ?_; refine Sb.c (Tk.t Tk.h) ?_); (refine Sb.s ?_; exact Sb.r))
  · have d1 : decide ((j : Int) < (t.kids.length : Int)) = false := decide_eq_false (by omega)
    obtain rfl : j = t.kids.length := by omega
    rw [show ps.take t.kids.length = ps from List.take_of_length_le (by omega), ← hpl]
    rw [← hpl] at d1
    refine G.ownRdK Tk.h fun qp hqp => ?_
    (refine G.condF rfl (by assumption) ?_; refine G.exit ?_; refine kthen_x ?_; refine kthen_x ?_; refine kblock_x ?_; refine kthen_n ?_; refine G.seq ?_)
    rw [List.length_append] at hlen
    refine G.draw 7 (by kernel_rfl) ?_
    ((apply GQ.step; focus (intro Z; refine GO.move rfl rfl ?_; exact KQ.z)); (apply GQ.step; focus (intro Z; refine GO.move rfl rfl ?_; exact KQ.z)))
    apply GQ.step; focus (intro Z; refine GO.call2 rfl rfl rfl (join_spec qp v5 (betF k) ps hqp hpn (by omega) (by omega)) (Tks.c Tk.h Tks.n) ?_; rintro _ _ ⟨rfl, rfl⟩; refine GO.nil (KQ.s ?_); ((refine Sb.c Tk.h ?_; refine Sb.c Tk.h ?_; refine Sb.c Tk.h ?_; refine Sb.c Tk.h ?_); (exact Sb.r)))
    ((apply GQ.step; focus (intro Z; refine GO.fieldAddr rfl rfl ?_; exact KQ.z)); (apply GQ.step; focus (intro Z; refine GO.load1 rfl rfl rfl (Tk.t Tk.h) rfl ?_; exact KQ.z)))
    apply GQ.step; focus (intro Z; refine GO.call1 rfl rfl (sign_spec k) Tks.n ?_; rintro _ _ ⟨rfl, rfl⟩; refine GO.nil (KQ.s ?_); ((refine Sb.c Tk.h ?_; refine Sb.c Tk.h ?_; refine Sb.c Tk.h ?_; refine Sb.c Tk.h ?_); (exact Sb.r)))
    skip
    apply GQ.step; focus (intro Z; refine GO.strCat rfl rfl rfl (by omega) ?_; exact KQ.z)
    (refine GQ.nil ?_)
    (refine GO.assign rfl rfl ?_; refine GO.nil ?_; refine kthen_n ?_; refine G.ret ?_)
    refine KF2.r1 rfl (RV.t rfl) ⟨rfl, rfl⟩ (ImpS.sb ?_)
    ((refine Sb.c (Tk.t (Tk.t (Tk.t Tk.h))) ?_); (refine Sb.s ?_; refine Sb.s ?_; refine Sb.s ?_; exact Sb.r))
end Go.Proofs.YtpgfmfbpmkfbjaaGreat
namespace Go.Proofs.YtpgfmfbpmkfbjaaGreat
open Go
def natsV (l : List Nat) : List Value := l.map fun (n : Nat) => i64 n
theorem natsV_len (l : List Nat) : (natsV l).length = l.length := by simp [natsV]
theorem natsV_app (l k : List Nat) : natsV (l ++ k) = natsV l ++ natsV k := by simp [natsV]
/-- What stays when all that want none more are shut. -/
def popS : List Nat → List Nat
  | [] => []
  | c :: r => popA c r
theorem GO.max2 {P : Program} {c : Cx} {A : Array Oper} {rest : List Oper} {K : Kont} {L : Env} {H : List HP} {t : TypeId} {p : String} {e : Array Edge} {d : Nat} {x y : Operand} {kx ky : IntKind} {m n : Int} {ats : Array TypeId} (hN : Nat.blt d c.N = true) (hx : evl L x = some (.int kx m)) (hy : evl L y = some (.int ky n))
    (k : GO P c A rest K ((d, .int kx (max m n)) :: L) H) : GO P c A (⟨some d, .call ⟨.builtin .max, #[x, y], ats⟩, t, p, e, none⟩ :: rest) K L H :=
  GO.val hN rfl (fun a w Y h _ => by
    have e1 : (if m < n then n else m) = max m n := by rw [Int.max_def]; split <;> split <;> omega
    simp only [execOp, resolve, invoke, builtin]
    simp [Sem.run_bind, Result.andThen, h.eval hx, h.eval hy, run_max_int2, e1]) k
attribute [local irreducible] G GO GR GT Fn FnX FnV FnXV Dfr pt init exs pur sat own ImpS mayN
set_option maxHeartbeats 32000000 in
theorem height_spec (q : HP) (v : Value) (l : List NodeD) (hq : NodesR q v l) (hl : ¬ 4096 < l.length) (hks : ∀ m ∈ l, ¬ 1048576 < m.kids) : Fn Tryz.prog 88 #[v] [q] (fun r Q => r = i64 (heightF l : Nat) ∧ Q = [q]) := by
  have hrd : ∀ i m, l[i]? = some m → _ := fun i m h => nodes_rd hq h
  obtain ⟨a, cap, rfl⟩ := nodes_sl hq
  clear hq
  refine Fn.mk2 Tryz.func88 rfl rfl fun w0 F => ?_
  unfold heightF
  generalize hfin : heightL 0 [] l = fin
  refine G.ownNil (T := 3) (sz := 1) ?_
  (refine G.seq ?_; refine G.region ?_; refine GO.assign rfl rfl ?_; refine GO.nil ?_; refine kthen_n ?_; refine G.seq ?_; refine G.region ?_; refine GO.assign rfl rfl ?_; refine GO.nil ?_; refine kthen_n ?_; refine G.seq ?_; refine G.region ?_; refine GO.assign rfl rfl ?_; refine GO.nil ?_; refine kthen_n ?_; refine G.seq ?_; refine G.seq ?_; refine G.region ?_; refine GO.move rfl rfl ?_; refine GO.lenS rfl rfl ?_; refine GO.move rfl rfl ?_; refine GO.nil ?_; refine kthen_n ?_; refine G.block ?_)
  refine G.loopI (σ := Nat × Nat × List Nat × Value) (fun z => [(0, .slice a l.length cap), (3, i64 (z.2.1 : Nat)), (4, z.2.2.2), (7, .slice a l.length cap), (8, i64 (l.length : Nat)), (9, i64 (z.1 : Nat))]) (fun z => own 3 1 z.2.2.1.length z.2.2.2 (natsV z.2.2.1.reverse) :: q :: F)
    (fun z => z.1 ≤ l.length ∧ heightL z.2.1 z.2.2.1 (l.drop z.1) = fin ∧ z.2.2.1.length ≤ z.1 ∧ z.2.1 ≤ z.1 ∧ (∀ c ∈ z.2.2.1, 1 ≤ c) ∧ ∀ c ∈ z.2.2.1, ¬ 1048576 < c) (fun z => l.length - z.1) (0, 0, [], .slice none 0 0) ⟨Nat.zero_le _, hfin, Nat.zero_le _, Nat.zero_le _, by simp, by simp⟩ ?_ ?_ ?_
  · (refine SubE.c rfl rfl ?_; refine SubE.c rfl rfl ?_; refine SubE.c rfl rfl ?_; refine SubE.c rfl rfl ?_; refine SubE.c rfl rfl ?_; refine SubE.c rfl rfl ?_; exact SubE.n)
  · refine ImpS.sb ?_
    ((refine Sb.c Tk.h ?_; refine Sb.c Tk.h ?_); (exact Sb.r))
  clear hfin
  rintro ⟨i, most, over, v4⟩ ⟨hi, hw, ho, hmi, hp1, hp2⟩
  dsimp only at hi hw ho hmi hp1 hp2 ⊢
  (refine G.seq ?_; refine G.region ?_; refine GO.lti rfl rfl rfl ?_; refine GO.nil ?_; refine kthen_n ?_; refine G.seq ?_)
  by_cases hlt : i < l.length
  · have d1 : decide ((i : Int) < (l.length : Int)) = true := decide_eq_true (by omega)
    obtain ⟨m, hm⟩ : ∃ m, l[i]? = some m := ⟨_, List.getElem?_eq_getElem hlt⟩
    have hmk := hks m (List.mem_of_getElem? hm)
    obtain ⟨b, o2, cap2, e, _, rm⟩ := hrd i m hm
    injection e with e _ e2
    subst e e2
    rw [drop_at hm, heightL] at hw
    (refine G.condT rfl (by assumption) ?_; refine G.skip ?_; refine kthen_n ?_; refine G.seq ?_; refine G.block ?_; refine G.seq ?_; refine G.region ?_; refine GO.idxS rfl rfl rfl ⟨rfl, by omega⟩ ?_)
    refine GO.loadM (vs := [i64 (m.kind : Nat), str m.name, i64 (m.kids : Nat)]) rfl rfl rfl (Tk.t Tk.h) rfl rm ?_
    (refine GO.alloc rfl fun b6 => ?_; refine GO.storeW rfl rfl Tk.h ⟨rfl, rfl⟩ (by simp [Value.oneCell']) ?_; refine GO.nil ?_; refine kthen_n ?_; refine G.seq ?_; refine G.region ?_; refine GO.move rfl rfl ?_; refine GO.move rfl rfl ?_; refine GO.lenOwn rfl rfl (Tk.t Tk.h) ?_; refine GO.addi rfl rfl rfl (by omega) ?_)
    refine GO.max2 rfl rfl rfl ?_
    rw [show max (most : Int) ((over.length : Int) + 1) = ((max most (over.length + 1) : Nat) : Int) by omega]
    generalize hmx : max most (over.length + 1) = mx at hw ⊢
    (refine GO.assign rfl rfl ?_; refine GO.nil ?_; refine kthen_n ?_; refine G.seq ?_; refine G.region ?_; refine GO.move rfl rfl ?_; refine GO.fieldAddr rfl rfl ?_; refine GO.load1 rfl rfl rfl Tk.h rfl ?_)
    refine GO.buildSlice1 (n := 1) rfl rfl (fun v hv => by rw [List.mem_singleton.1 hv]; rfl) rfl ⟨by decide, by decide⟩ fun bs => ?_
    refine GO.appendOwn (m := 1) (news := [i64 (m.kids : Nat)]) rfl rfl rfl (Tk.t (Tk.t Tk.h)) Tk.h rfl (by simp [Value.oneCell']) ⟨by decide, rfl⟩ Nat.one_pos (by unfold maxLen; omega) (by omega) fun v6 => ?_
    (refine GO.assign rfl rfl ?_; refine GO.nil ?_; refine kthen_n ?_; refine G.block ?_)
    refine G.loopI (σ := List Nat × Value) (fun z => [(0, .slice (some ⟨b, o2, none⟩) l.length cap), (3, i64 (mx : Nat)), (4, z.2), (7, .slice (some ⟨b, o2, none⟩) l.length cap), (8, i64 (l.length : Nat)), (9, i64 (i : Nat))]) (fun z => own 3 1 z.1.length z.2 (natsV z.1.reverse) :: q :: F)
      (fun z => popS z.1 = popA m.kids over ∧ z.1.length ≤ over.length + 1 ∧ (∀ c ∈ z.1.tail, 1 ≤ c) ∧ ∀ c ∈ z.1, ¬ 1048576 < c) (fun z => z.1.length) (m.kids :: over, v6) ⟨rfl, Nat.le_refl _, hp1, fun c hc => by rcases List.mem_cons.1 hc with rfl | hc; exact hmk; exact hp2 c hc⟩ ?_ ?_ ?_
    · (refine SubE.c rfl rfl ?_; refine SubE.c rfl rfl ?_; refine SubE.c rfl rfl ?_; refine SubE.c rfl rfl ?_; refine SubE.c rfl rfl ?_; refine SubE.c rfl rfl ?_; exact SubE.n)
    · dsimp only
      rw [List.reverse_cons, natsV_app]
      refine ImpS.sb ?_
      ((refine Sb.c Tk.h ?_; refine Sb.c (Tk.t (Tk.t Tk.h)) ?_); (refine Sb.s ?_; refine Sb.s ?_; exact Sb.r))
    rintro ⟨s, v7⟩ ⟨hs, hsl, hs1, hs2⟩
    dsimp only at hs hsl hs1 hs2 ⊢
    (refine G.seq ?_; refine G.seq ?_; refine G.region ?_; refine GO.move rfl rfl ?_; refine GO.lenOwn rfl rfl Tk.h ?_; refine GO.gti rfl rfl rfl ?_; refine GO.move rfl rfl ?_)
    cases s with
    | nil =>
      have d2 : decide ((0 : Int) < (([] : List Nat).length : Int)) = false := rfl
      rw [popS] at hs
      rw [← hs] at hw
      (refine GO.gF rfl rfl rfl rfl ?_; refine GO.gF rfl rfl rfl rfl ?_; refine GO.gF rfl rfl rfl rfl ?_; refine GO.gF rfl rfl rfl rfl ?_; refine GO.gF rfl rfl rfl rfl ?_; refine GO.gF rfl rfl rfl rfl ?_; refine GO.gF rfl rfl rfl rfl ?_; refine GO.pickF rfl rfl rfl ?_; refine GO.nil ?_; refine kthen_n ?_; refine G.condF rfl rfl ?_; refine G.exit ?_; refine kthen_x ?_; refine kthen_x ?_; refine kblock_x ?_; refine kblock_n ?_; refine kthen_n ?_; refine G.region ?_; refine GO.addi rfl rfl rfl (by omega) ?_; refine GO.move rfl rfl ?_; refine GO.nil ?_; refine kthen_n ?_)
      refine ⟨(i + 1, mx, [], v7), ⟨hlt, hw, Nat.zero_le _, by dsimp only; omega, by simp, by simp⟩, by dsimp only; omega, ?_, ImpS.sb ?_⟩
      · (refine SubE.c rfl rfl ?_; refine SubE.c rfl rfl ?_; refine SubE.c rfl rfl ?_; refine SubE.c rfl rfl ?_; refine SubE.c rfl rfl ?_; refine SubE.c rfl rfl ?_; exact SubE.n)
      · ((refine Sb.c Tk.h ?_; refine Sb.c Tk.h ?_); (exact Sb.r))
    | cons c r =>
      have hcl : (c :: r).length = r.length + 1 := rfl
      have d2 : decide ((0 : Int) < ((c :: r).length : Int)) = true := decide_eq_true (by omega)
      refine GO.ownForm (by omega) Tk.h fun b7 cap7 e7 hc7 _ _ => ?_
      subst e7
      have r7 : Rd (own 3 1 (c :: r).length (.slice (some ⟨b7, 0, none⟩) (c :: r).length cap7) (natsV (c :: r).reverse)) ⟨b7, 0 + r.length * 1, none⟩ (i64 (c : Nat)) := Rd.own (by
        rw [List.reverse_cons, natsV_app, List.getElem?_append_right (by rw [natsV_len, List.length_reverse]; omega), natsV_len, List.length_reverse, show 0 + r.length * 1 - r.length = 0 by omega]; rfl)
      (refine GO.gT rfl rfl (by assumption) ?_; refine GO.move rfl rfl ?_; refine GO.gT rfl rfl (by assumption) ?_; refine GO.move rfl rfl ?_; refine GO.gT rfl rfl (by assumption) ?_; refine GO.lenS rfl rfl ?_; refine GO.gT rfl rfl (by assumption) ?_; refine GO.subi rfl rfl rfl (by omega) ?_; refine GO.gT rfl rfl (by assumption) ?_)
      refine GO.idxS (j := r.length) rfl rfl rfl ⟨by omega, by omega⟩ ?_
      (refine GO.gT rfl rfl (by assumption) ?_; refine GO.loadQ rfl rfl rfl Tk.h (by assumption) ?_; refine GO.gT rfl rfl (by assumption) ?_; refine GO.eqi rfl rfl rfl ?_; refine GO.pickTa rfl rfl (by assumption) rfl ?_; refine GO.nil ?_; refine kthen_n ?_)
      cases c with
      | succ c =>
        have d3 : decide (((c + 1 : Nat) : Int) = 0) = false := decide_eq_false (by omega)
        rw [popS, popA] at hs
        rw [← hs] at hw
        (refine G.condF rfl rfl ?_; refine G.exit ?_; refine kthen_x ?_; refine kthen_x ?_; refine kblock_x ?_; refine kblock_n ?_; refine kthen_n ?_; refine G.region ?_; refine GO.addi rfl rfl rfl (by omega) ?_; refine GO.move rfl rfl ?_; refine GO.nil ?_; refine kthen_n ?_)
        refine ⟨(i + 1, mx, (c + 1) :: r, .slice (some ⟨b7, 0, none⟩) ((c + 1) :: r).length cap7), ⟨hlt, hw, by dsimp only; omega, by dsimp only; omega, fun d hd => by rcases List.mem_cons.1 hd with rfl | hd; exact Nat.succ_pos _; exact hs1 d hd, hs2⟩, by dsimp only; omega, ?_, ImpS.sb ?_⟩
        · (refine SubE.c rfl rfl ?_; refine SubE.c rfl rfl ?_; refine SubE.c rfl rfl ?_; refine SubE.c rfl rfl ?_; refine SubE.c rfl rfl ?_; refine SubE.c rfl rfl ?_; exact SubE.n)
        · ((refine Sb.c Tk.h ?_; refine Sb.c Tk.h ?_); (exact Sb.r))
      | zero =>
        have d3 : decide (((0 : Nat) : Int) = 0) = true := rfl
        have hcut : (natsV (0 :: r).reverse).take (r.length * 1) = natsV r.reverse := by
          rw [List.reverse_cons, natsV_app, List.take_append_of_le_length (by rw [natsV_len, List.length_reverse]; omega), List.take_of_length_le (by rw [natsV_len, List.length_reverse]; omega)]
        rw [popS] at hs
        (refine G.condT rfl rfl ?_; refine G.skip ?_; refine kthen_n ?_; refine G.block ?_; refine G.seq ?_; refine G.region ?_; refine GO.move rfl rfl ?_; refine GO.move rfl rfl ?_; refine GO.lenS rfl rfl ?_; refine GO.subi rfl rfl rfl (by omega) ?_)
        refine GO.cutOwn (h := r.length) rfl rfl rfl ⟨by omega, by omega⟩ Tk.h fun v8 => ?_
        rw [hcut]
        clear hcut r7
        (refine GO.assign rfl rfl ?_; refine GO.nil ?_; refine kthen_n ?_; refine G.seq ?_; refine G.region ?_; refine GO.move rfl rfl ?_; refine GO.lenOwn rfl rfl Tk.h ?_; refine GO.gti rfl rfl rfl ?_; refine GO.nil ?_; refine kthen_n ?_)
        cases r with
        | nil =>
          have d4 : decide ((0 : Int) < (([] : List Nat).length : Int)) = false := rfl
          (refine G.condF rfl rfl ?_; refine G.skip ?_; refine kblock_n ?_; refine kthen_n ?_)
          refine ⟨([], v8), ⟨by rw [popS, ← hs, popA], Nat.zero_le _, by simp, by simp⟩, by dsimp only; omega, ?_, ImpS.sb ?_⟩
          · (refine SubE.c rfl rfl ?_; refine SubE.c rfl rfl ?_; refine SubE.c rfl rfl ?_; refine SubE.c rfl rfl ?_; refine SubE.c rfl rfl ?_; refine SubE.c rfl rfl ?_; exact SubE.n)
          · ((refine Sb.c Tk.h ?_; refine Sb.c Tk.h ?_); (exact Sb.r))
        | cons c r =>
          have hcl2 : (c :: r).length = r.length + 1 := rfl
          have d4 : decide ((0 : Int) < ((c :: r).length : Int)) = true := decide_eq_true (by omega)
          have hc1 : 1 ≤ c := hs1 c (by simp)
          have hc2 : ¬ 1048576 < c := hs2 c (by simp)
          refine G.ownForm (by omega) Tk.h fun b8 cap8 e8 hc8 _ _ => ?_
          subst e8
          have r8 : Rd (own 3 1 (c :: r).length (.slice (some ⟨b8, 0, none⟩) (c :: r).length cap8) (natsV (c :: r).reverse)) ⟨b8, 0 + r.length * 1, none⟩ (i64 (c : Nat)) := Rd.own (by
            rw [List.reverse_cons, natsV_app, List.getElem?_append_right (by rw [natsV_len, List.length_reverse]; omega), natsV_len, List.length_reverse, show 0 + r.length * 1 - r.length = 0 by omega]; rfl)
          have hst : (natsV (c :: r).reverse).take (0 + r.length * 1) ++ [i64 ((c - 1 : Nat) : Int)] ++ (natsV (c :: r).reverse).drop (0 + r.length * 1 + 1) = natsV ((c - 1) :: r).reverse := by
            rw [List.reverse_cons, List.reverse_cons, natsV_app, natsV_app, show 0 + r.length * 1 = r.length by omega, List.take_append_of_le_length (by rw [natsV_len, List.length_reverse]; omega), List.take_of_length_le (by rw [natsV_len, List.length_reverse]; omega), List.drop_eq_nil_of_le (by rw [List.length_append, natsV_len, natsV_len, List.length_reverse]; exact Nat.le_refl _), List.append_nil]; rfl
          have hxl : (natsV (c :: r).reverse).length = r.length + 1 := by rw [natsV_len, List.length_reverse, List.length_cons]
          have hci : ((c : Int) - 1) = ((c - 1 : Nat) : Int) := by omega
          (refine G.condT rfl (by assumption) ?_; refine G.region ?_; refine GO.move rfl rfl ?_; refine GO.move rfl rfl ?_; refine GO.lenS rfl rfl ?_; refine GO.subi rfl rfl rfl (by omega) ?_)
          refine GO.idxS (j := r.length) rfl rfl rfl ⟨by omega, by omega⟩ ?_
          (refine GO.loadQ rfl rfl rfl Tk.h (by assumption) ?_; refine GO.subi rfl rfl rfl (by omega) ?_)
          refine GO.idxS (j := r.length) rfl rfl rfl ⟨by omega, by omega⟩ ?_
          rw [hci]
          refine GO.storeOwn (w0 := 1) (vs := [i64 ((c - 1 : Nat) : Int)]) rfl rfl rfl rfl Tk.h (by rw [hxl]; omega) (by simp [Value.oneCell']) ?_
          rw [hst]
          clear hst r8
          (refine GO.nil ?_; refine kblock_n ?_; refine kthen_n ?_)
          refine ⟨((c - 1) :: r, .slice (some ⟨b8, 0, none⟩) ((c - 1) :: r).length cap8), ⟨by rw [popS, ← hs, popA], by dsimp only; rw [List.length_cons] at hsl ⊢; omega, fun d hd => hs1 d (by simp only [List.tail_cons] at hd ⊢; exact List.mem_cons_of_mem _ hd), fun d hd => by
            rcases List.mem_cons.1 hd with rfl | hd
            · omega
            · exact hs2 d (by simp [hd])⟩, by dsimp only; rw [List.length_cons, List.length_cons, List.length_cons]; omega, ?_, ImpS.sb ?_⟩
          · (refine SubE.c rfl rfl ?_; refine SubE.c rfl rfl ?_; refine SubE.c rfl rfl ?_; refine SubE.c rfl rfl ?_; refine SubE.c rfl rfl ?_; refine SubE.c rfl rfl ?_; exact SubE.n)
          · ((refine Sb.c Tk.h ?_; refine Sb.c Tk.h ?_); (exact Sb.r))
  · have d1 : decide ((i : Int) < (l.length : Int)) = false := decide_eq_false (by omega)
    rw [List.drop_eq_nil_of_le (by omega), heightL] at hw
    subst hw
    (refine G.condF rfl (by assumption) ?_; refine G.exit ?_; refine kthen_x ?_; refine kthen_x ?_; refine kblock_x ?_; refine kthen_n ?_; refine G.seq ?_; refine G.region ?_; refine GO.move rfl rfl ?_; refine GO.assign rfl rfl ?_; refine GO.nil ?_; refine kthen_n ?_; refine G.ret ?_)
    refine KF2.r1 rfl (RV.t rfl) ⟨rfl, rfl⟩ (ImpS.sb ?_)
    ((refine Sb.c (Tk.t Tk.h) ?_); (refine Sb.s ?_; exact Sb.r))
end Go.Proofs.YtpgfmfbpmkfbjaaGreat
namespace Go.Proofs.YtpgfmfbpmkfbjaaGreat
open Go
/-- The trees that a list is, one behind the other. -/
def stackT : List NodeD → List Tree
  | [] => []
  | m :: r => .node m.kind m.name ((stackT r).take m.kids) :: (stackT r).drop m.kids
def treeL (l : List NodeD) : Tree := match stackT l with
  | t :: _ => t
  | [] => .node 0 [] []
theorem stackT_flat (t : Tree) : ∀ r, stackT (flat t ++ r) = t :: stackT r := by
  refine Tree.ind (p := fun t => ∀ r, stackT (flat t ++ r) = t :: stackT r) (fun t ih => ?_) t
  intro r
  have h : ∀ ts : List Tree, (∀ u ∈ ts, ∀ r, stackT (flat u ++ r) = u :: stackT r) → stackT (flats ts ++ r) = ts ++ stackT r := by
    intro ts
    induction ts with
    | nil => intro _; rw [flats]; rfl
    | cons u us ihu => intro h; rw [flats, List.append_assoc, h u (by simp), ihu fun x hx => h x (by simp [hx])]; rfl
  rw [flat_eq, List.cons_append, stackT, h _ ih]
  dsimp only
  rw [List.take_append_of_le_length (Nat.le_refl _), List.take_length, List.drop_append_of_le_length (Nat.le_refl _), List.drop_length]
  cases t; rfl
theorem treeL_flat (t : Tree) : treeL (flat t) = t := by
  have := stackT_flat t []
  rw [List.append_nil] at this
  unfold treeL
  rw [this]
theorem flat_kids (t : Tree) : ∀ m ∈ flat t, m.kids < (flat t).length := by
  refine Tree.ind (p := fun t => ∀ m ∈ flat t, m.kids < (flat t).length) (fun t ih => ?_) t
  intro m hm
  rw [flat_eq] at hm
  rcases List.mem_cons.1 hm with rfl | hm
  · rw [flat_eq t, List.length_cons]
    have := kids_le t.kids
    dsimp only
    omega
  · have : ∃ u ∈ t.kids, m ∈ flat u := by
      revert hm
      generalize t.kids = ts
      induction ts with
      | nil => intro h; rw [flats] at h; cases h
      | cons u us ihu =>
        intro h
        rw [flats] at h
        rcases List.mem_append.1 h with h | h
        · exact ⟨u, by simp, h⟩
        · obtain ⟨x, hx, hx2⟩ := ihu h
          exact ⟨x, by simp [hx], hx2⟩
    obtain ⟨u, hu, hu2⟩ := this
    have := ih u hu m hu2
    have := flat_kid hu
    omega
def boundF (t : Tree) : Nat := if 16 < heightF (flat t) then 171 else if 2048 < (textT t).length then 174 else 0
def checkF (l : List NodeD) : Nat := if 2048 < l.length then 3 else if wholeF l = true then boundF (treeL l) else 170
def printF (l : List NodeD) : List UInt8 := if checkF l = 0 then textT (treeL l) else []
def HeightF (l : List NodeD) : Nat := if wholeF l = true then heightF l else 0
attribute [local irreducible] G GO GR GT Fn FnX FnV FnXV Dfr pt init exs pur sat own ImpS mayN
set_option maxHeartbeats 8000000 in
set_option maxRecDepth 40000 in
theorem bounded_spec (q : HP) (v : Value) (t : Tree) (hq : NodesR q v (flat t)) (hok : okT t = true) (hl : ¬ 4096 < (flat t).length) : Fn Tryz.prog 94 #[v] [q] (fun r Q => r = i64 (boundF t : Nat) ∧ Q = [q]) := by
  refine Fn.mk2 Tryz.func94 rfl rfl fun w0 F => ?_
  have hk := flat_kids t
  have htl := (textT_len t hok).2
  unfold boundF
  (refine G.seq ?_; refine G.region ?_; refine GO.assign rfl rfl ?_; refine GO.nil ?_; refine kthen_n ?_; refine G.seq ?_; refine G.seq ?_; refine G.region ?_; refine GO.move rfl rfl ?_)
  refine GO.call1 rfl rfl (height_spec q v (flat t) hq hl (fun m hm => by have := hk m hm; omega)) (Tks.c Tk.h Tks.n) ?_
  rintro _ _ ⟨rfl, rfl⟩
  by_cases h : 16 < heightF (flat t)
  · have d1 : decide ((16 : Int) < (heightF (flat t) : Int)) = true := decide_eq_true (by omega)
    rw [if_pos h]
    (refine GO.gti rfl rfl rfl ?_; refine GO.nil ?_; refine kthen_n ?_; refine G.condT rfl (by assumption) ?_; refine G.seq ?_; refine G.region ?_; refine GO.assign rfl rfl ?_; refine GO.nil ?_; refine kthen_n ?_; refine G.ret ?_; refine kthen_r ?_)
    refine KF2.r1 rfl (RV.t rfl) ⟨rfl, rfl⟩ (ImpS.sb ?_)
    ((refine Sb.c Tk.h ?_); (exact Sb.r))
  have d1 : decide ((16 : Int) < (heightF (flat t) : Int)) = false := decide_eq_false (by omega)
  rw [if_neg h]
  (refine GO.gti rfl rfl rfl ?_; refine GO.nil ?_; refine kthen_n ?_; refine G.condF rfl (by assumption) ?_; refine G.skip ?_; refine kthen_n ?_; refine G.seq ?_; refine G.seq ?_; refine G.region ?_; refine GO.move rfl rfl ?_)
  refine GO.call1 rfl rfl (text_spec _ q v t hq hok (Nat.le_refl _) hl) (Tks.c Tk.h Tks.n) ?_
  rintro _ _ ⟨rfl, rfl⟩
  by_cases h2 : 2048 < (textT t).length
  · rw [if_pos h2]
    (refine GO.strLen rfl rfl ?_; refine GO.gti rfl rfl rfl ?_; refine GO.nil ?_; refine kthen_n ?_)
    rw [show decide ((2048 : Int) < ((textT t).length : Int)) = true from decide_eq_true (by omega)]
    (refine G.condT rfl rfl ?_; refine G.seq ?_; refine G.region ?_; refine GO.assign rfl rfl ?_; refine GO.nil ?_; refine kthen_n ?_; refine G.ret ?_; refine kthen_r ?_)
    refine KF2.r1 rfl (RV.t rfl) ⟨rfl, rfl⟩ (ImpS.sb ?_)
    ((refine Sb.c Tk.h ?_); (exact Sb.r))
  rw [if_neg h2]
  (refine GO.strLen rfl rfl ?_; refine GO.gti rfl rfl rfl ?_; refine GO.nil ?_; refine kthen_n ?_)
  rw [show decide ((2048 : Int) < ((textT t).length : Int)) = false from decide_eq_false (by omega)]
  (refine G.condF rfl rfl ?_; refine G.skip ?_; refine kthen_n ?_; refine G.seq ?_; refine G.region ?_; refine GO.assign rfl rfl ?_; refine GO.nil ?_; refine kthen_n ?_; refine G.ret ?_)
  refine KF2.r1 rfl (RV.t rfl) ⟨rfl, rfl⟩ (ImpS.sb ?_)
  ((refine Sb.c Tk.h ?_); (exact Sb.r))
set_option maxHeartbeats 8000000 in
set_option maxRecDepth 40000 in
theorem check_spec (q : HP) (v : Value) (l : List NodeD) (hq : NodesR q v l) (hl : ¬ 1048576 < l.length) : Fn Tryz.prog 71 #[v] [q] (fun r Q => r = i64 (checkF l : Nat) ∧ Q = [q]) := by
  obtain ⟨a, cap, rfl⟩ := nodes_sl hq
  refine Fn.mk2 Tryz.func71 rfl rfl fun w0 F => ?_
  unfold checkF
  (refine G.seq ?_; refine G.region ?_; refine GO.assign rfl rfl ?_; refine GO.nil ?_; refine kthen_n ?_; refine G.seq ?_; refine G.seq ?_; refine G.region ?_; refine GO.move rfl rfl ?_; refine GO.lenS rfl rfl ?_; refine GO.gti rfl rfl rfl ?_; refine GO.nil ?_; refine kthen_n ?_)
  by_cases h : 2048 < l.length
  · rw [show decide ((2048 : Int) < (l.length : Int)) = true from decide_eq_true (by omega), if_pos h]
    (refine G.condT rfl rfl ?_; refine G.seq ?_; refine G.region ?_; refine GO.assign rfl rfl ?_; refine GO.nil ?_; refine kthen_n ?_; refine G.ret ?_; refine kthen_r ?_)
    refine KF2.r1 rfl (RV.t rfl) ⟨rfl, rfl⟩ (ImpS.sb ?_)
    ((refine Sb.c Tk.h ?_); (exact Sb.r))
  rw [show decide ((2048 : Int) < (l.length : Int)) = false from decide_eq_false (by omega), if_neg h]
  (refine G.condF rfl rfl ?_; refine G.skip ?_; refine kthen_n ?_; refine G.seq ?_; refine G.seq ?_; refine G.region ?_; refine GO.move rfl rfl ?_)
  refine GO.call1 rfl rfl (whole_spec q (.slice a l.length cap) l hq hl) (Tks.c Tk.h Tks.n) ?_
  rintro _ _ ⟨rfl, rfl⟩
  cases hw : wholeF l
  · rw [if_neg (by decide)]
    (refine GO.not rfl rfl ?_; refine GO.nil ?_; refine kthen_n ?_; refine G.condT rfl rfl ?_; refine G.seq ?_; refine G.region ?_; refine GO.assign rfl rfl ?_; refine GO.nil ?_; refine kthen_n ?_; refine G.ret ?_; refine kthen_r ?_)
    refine KF2.r1 rfl (RV.t rfl) ⟨rfl, rfl⟩ (ImpS.sb ?_)
    ((refine Sb.c Tk.h ?_); (exact Sb.r))
  obtain ⟨t, rfl, hok⟩ := whole_tree hw
  rw [if_pos rfl, treeL_flat]
  (refine GO.not rfl rfl ?_; refine GO.nil ?_; refine kthen_n ?_; refine G.condF rfl rfl ?_; refine G.skip ?_; refine kthen_n ?_; refine G.seq ?_; refine G.region ?_; refine GO.move rfl rfl ?_)
  refine GO.call1 rfl rfl (bounded_spec q (.slice a (flat t).length cap) t hq hok (by omega)) (Tks.c Tk.h Tks.n) ?_
  rintro _ _ ⟨rfl, rfl⟩
  (refine GO.assign rfl rfl ?_; refine GO.nil ?_; refine kthen_n ?_; refine G.ret ?_)
  refine KF2.r1 rfl (RV.t rfl) ⟨rfl, rfl⟩ (ImpS.sb ?_)
  ((refine Sb.c Tk.h ?_); (exact Sb.r))
theorem checkF_ok {l : List NodeD} (h : checkF l = 0) : ¬ 2048 < l.length ∧ ∃ t, flat t = l ∧ okT t = true ∧ boundF t = 0 := by
  unfold checkF at h
  split at h
  · cases h
  split at h
  · obtain ⟨t, rfl, hok⟩ := whole_tree (by assumption)
    rw [treeL_flat] at h
    exact ⟨by assumption, t, rfl, hok, h⟩
  · cases h
set_option maxHeartbeats 8000000 in
theorem print_spec (q : HP) (v : Value) (l : List NodeD) (hq : NodesR q v l) (hl : ¬ 1048576 < l.length) : Fn Tryz.prog 36 #[v] [q] (fun r Q => r = .tuple #[str (printF l), i64 (checkF l : Nat)] ∧ Q = [q]) := by
  refine Fn.mk2 Tryz.func36 rfl rfl fun w0 F => ?_
  unfold printF
  (refine G.seq ?_; refine G.region ?_; refine GO.assign rfl rfl ?_; refine GO.assign rfl rfl ?_; refine GO.nil ?_; refine kthen_n ?_; refine G.seq ?_; refine G.seq ?_; refine G.region ?_; refine GO.move rfl rfl ?_)
  refine GO.call1 rfl rfl (check_spec q v l hq hl) (Tks.c Tk.h Tks.n) ?_
  rintro _ _ ⟨rfl, rfl⟩
  by_cases h : checkF l = 0
  · have d1 : decide ((checkF l : Int) ≠ 0) = false := decide_eq_false (by omega)
    obtain ⟨hl2, t, rfl, hok, _⟩ := checkF_ok h
    rw [if_pos h, treeL_flat]
    (refine GO.assign rfl rfl ?_; refine GO.nil ?_; refine kthen_n ?_; refine G.seq ?_; refine G.region ?_; refine GO.move rfl rfl ?_; refine GO.nei rfl rfl rfl ?_; refine GO.nil ?_; refine kthen_n ?_; refine G.condF rfl (by assumption) ?_; refine G.skip ?_; refine kthen_n ?_; refine G.seq ?_; refine G.region ?_; refine GO.move rfl rfl ?_)
    refine GO.call1 rfl rfl (text_spec _ q v t hq hok (Nat.le_refl _) (by omega)) (Tks.c Tk.h Tks.n) ?_
    rintro _ _ ⟨rfl, rfl⟩
    rw [h]
    (refine GO.assign rfl rfl ?_; refine GO.assign rfl rfl ?_; refine GO.nil ?_; refine kthen_n ?_; refine G.ret ?_)
    refine KF2.r2 rfl (RV.t rfl) (RV.t rfl) ⟨rfl, rfl⟩ (ImpS.sb ?_)
    ((refine Sb.c Tk.h ?_); (exact Sb.r))
  · have d1 : decide ((checkF l : Int) ≠ 0) = true := decide_eq_true (by omega)
    rw [if_neg h]
    (refine GO.assign rfl rfl ?_; refine GO.nil ?_; refine kthen_n ?_; refine G.seq ?_; refine G.region ?_; refine GO.move rfl rfl ?_; refine GO.nei rfl rfl rfl ?_; refine GO.nil ?_; refine kthen_n ?_; refine G.condT rfl (by assumption) ?_; refine G.seq ?_; refine G.region ?_; refine GO.move rfl rfl ?_; refine GO.assign rfl rfl ?_; refine GO.assign rfl rfl ?_; refine GO.nil ?_; refine kthen_n ?_; refine G.ret ?_; refine kthen_r ?_)
    refine KF2.r2 rfl (RV.t rfl) (RV.t rfl) ⟨rfl, rfl⟩ (ImpS.sb ?_)
    ((refine Sb.c Tk.h ?_); (exact Sb.r))
set_option maxHeartbeats 8000000 in
theorem Height_spec (q : HP) (v : Value) (l : List NodeD) (hq : NodesR q v l) (hl : ¬ 4096 < l.length) : Fn Tryz.prog 60 #[v] [q] (fun r Q => r = i64 (HeightF l : Nat) ∧ Q = [q]) := by
  refine Fn.mk2 Tryz.func60 rfl rfl fun w0 F => ?_
  unfold HeightF
  (refine G.seq ?_; refine G.region ?_; refine GO.assign rfl rfl ?_; refine GO.nil ?_; refine kthen_n ?_; refine G.seq ?_; refine G.seq ?_; refine G.region ?_; refine GO.move rfl rfl ?_)
  refine GO.call1 rfl rfl (whole_spec q v l hq (by omega)) (Tks.c Tk.h Tks.n) ?_
  rintro _ _ ⟨rfl, rfl⟩
  cases hw : wholeF l
  · rw [if_neg (by decide)]
    (refine GO.not rfl rfl ?_; refine GO.nil ?_; refine kthen_n ?_; refine G.condT rfl rfl ?_; refine G.seq ?_; refine G.region ?_; refine GO.assign rfl rfl ?_; refine GO.nil ?_; refine kthen_n ?_; refine G.ret ?_; refine kthen_r ?_)
    refine KF2.r1 rfl (RV.t rfl) ⟨rfl, rfl⟩ (ImpS.sb ?_)
    ((refine Sb.c Tk.h ?_); (exact Sb.r))
  obtain ⟨t, rfl, hok⟩ := whole_tree hw
  have hk := flat_kids t
  rw [if_pos rfl]
  (refine GO.not rfl rfl ?_; refine GO.nil ?_; refine kthen_n ?_; refine G.condF rfl rfl ?_; refine G.skip ?_; refine kthen_n ?_; refine G.seq ?_; refine G.region ?_; refine GO.move rfl rfl ?_)
  refine GO.call1 rfl rfl (height_spec q v (flat t) hq hl (fun m hm => by have := hk m hm; omega)) (Tks.c Tk.h Tks.n) ?_
  rintro _ _ ⟨rfl, rfl⟩
  (refine GO.assign rfl rfl ?_; refine GO.nil ?_; refine kthen_n ?_; refine G.ret ?_)
  refine KF2.r1 rfl (RV.t rfl) ⟨rfl, rfl⟩ (ImpS.sb ?_)
  ((refine Sb.c Tk.h ?_); (exact Sb.r))
end Go.Proofs.YtpgfmfbpmkfbjaaGreat
namespace Go.Proofs.YtpgfmfbpmkfbjaaGreat
open Go
/-- The occurrences, each with its place. -/
def namesL : Nat → List NodeD → List (Nat × List UInt8)
  | _, [] => []
  | i, m :: r => if m.kind = 2 ∨ m.kind = 3 then (i, m.name) :: namesL (i + 1) r else namesL (i + 1) r
def occF (l : List NodeD) : Nat := (namesL 0 l).length
def occA (p : Nat × List UInt8) : List Value := [i64 (p.1 : Nat), str p.2]
theorem namesL_le : ∀ (i : Nat) (l : List NodeD), (namesL i l).length ≤ l.length
  | _, [] => by simp [namesL]
  | i, m :: r => by
    have := namesL_le (i + 1) r
    unfold namesL
    split
    · rw [List.length_cons, List.length_cons]; omega
    · rw [List.length_cons]; omega
attribute [local irreducible] G GO GR GT Fn FnX FnV FnXV Dfr pt init exs pur sat own ImpS mayN
set_option maxHeartbeats 8000000 in
theorem cloneN_spec (q : HP) (v : Value) (l : List NodeD) (hq : NodesR q v l) (hl : ¬ 1048576 < l.length) : Fn Tryz.prog 131 #[v] [q] (fun r Q => Q = [own 64 3 l.length r (nodesV l), q]) := by
  have hsl := hq.sl
  obtain ⟨a, cap, rfl⟩ := nodes_sl hq
  refine Fn.mk2 Tryz.func131 rfl rfl fun w0 F => ?_
  refine G.ownNil (T := 64) (sz := 3) ?_
  (refine G.seq ?_; refine G.region ?_; refine GO.assign rfl rfl ?_; refine GO.nil ?_; refine kthen_n ?_; refine G.seq ?_; refine G.seq ?_; refine G.region ?_; refine GO.move rfl rfl ?_; refine GO.eqNilS rfl rfl ?_; refine GO.nil ?_; refine kthen_n ?_)
  cases a with
  | none =>
    have hss : l = [] := by
      obtain ⟨a', cap', e, _, _, hr⟩ := hq
      injection e with e1 _ _
      subst e1
      cases l with
      | nil => rfl
      | cons s ss => obtain ⟨b, o, h, _⟩ := hr (by simp); cases h
    subst hss
    (refine G.condT rfl rfl ?_; refine G.seq ?_; refine G.region ?_; refine GO.assign rfl rfl ?_; refine GO.nil ?_; refine kthen_n ?_; refine G.ret ?_; refine kthen_r ?_)
    refine KF2.r1 rfl (RV.t rfl) rfl (ImpS.sb ?_)
    ((refine Sb.c Tk.h ?_; refine Sb.c Tk.h ?_); (exact Sb.r))
  | some a =>
    (refine G.condF rfl rfl ?_; refine G.skip ?_; refine kthen_n ?_; refine G.seq ?_; refine G.region ?_)
    refine GO.buildSlice0 rfl fun v5 => ?_
    (refine GO.move rfl rfl ?_)
    refine GO.appendFrom (m := l.length) (q := q) rfl rfl rfl Tk.h (Tk.t Tk.h) hsl (nodesV_one _) ⟨by decide, rfl⟩ (by unfold maxLen; omega) (by omega) fun v7 => ?_
    rw [List.nil_append, Nat.zero_add l.length]
    (refine GO.assign rfl rfl ?_; refine GO.nil ?_; refine kthen_n ?_; refine G.ret ?_)
    refine KF2.r1 rfl (RV.t rfl) rfl (ImpS.sb ?_)
    ((refine Sb.c Tk.h ?_; refine Sb.c (Tk.t Tk.h) ?_); (refine Sb.s ?_; exact Sb.r))
set_option maxHeartbeats 8000000 in
theorem Names_spec (q : HP) (v : Value) (l : List NodeD) (hq : NodesR q v l) (hl : ¬ 1048576 < l.length) : Fn Tryz.prog 117 #[v] [q] (fun r Q => ∃ bx z w, NodesR z w l ∧ r = .func (.func 132) #[] #[ptrV bx] ∧ Q = [pt bx (row [w] 58), z, q]) := by
  obtain ⟨a, cap, rfl⟩ := nodes_sl hq
  refine Fn.mk2 Tryz.func117 rfl rfl fun w0 F => ?_
  (refine G.seq ?_; refine G.region ?_; refine GO.box rfl rfl rfl fun b1 => ?_; refine GO.assign rfl rfl ?_; refine GO.nil ?_; refine kthen_n ?_; refine G.seq ?_; refine G.region ?_; refine GO.load1 rfl rfl rfl Tk.h rfl ?_)
  refine GO.call1 rfl rfl (cloneN_spec q (.slice a l.length cap) l hq hl) (Tks.c (Tk.t Tk.h) Tks.n) ?_
  rintro r _ rfl
  refine GO.ownRdK Tk.h fun z hz => ?_
  obtain ⟨a2, cap2, rfl⟩ := nodes_sl hz
  (refine GO.store1 rfl rfl rfl (Tk.t (Tk.t Tk.h)) (by simp) ?_; refine GO.nil ?_; refine kthen_n ?_; refine G.seq ?_; refine G.region ?_; refine GO.makeFunc1 rfl rfl ?_; refine GO.assign rfl rfl ?_; refine GO.nil ?_; refine kthen_n ?_; refine G.ret ?_)
  refine KF2.r1 rfl (RV.t rfl) ⟨_, z, _, hz, rfl, rfl⟩ (ImpS.sb ?_)
  ((refine Sb.c Tk.h ?_; refine Sb.c Tk.h ?_; refine Sb.c Tk.h ?_); (exact Sb.r))
end Go.Proofs.YtpgfmfbpmkfbjaaGreat
namespace Go.Proofs.YtpgfmfbpmkfbjaaGreat
open Go
theorem namesL_cons (i : Nat) (m : NodeD) (r : List NodeD) : namesL i (m :: r) = if m.kind = 2 ∨ m.kind = 3 then (i, m.name) :: namesL (i + 1) r else namesL (i + 1) r := rfl
theorem namesL_drop {l : List NodeD} {j i : Nat} {p : Nat × List UInt8} {t : List (Nat × List UInt8)} (h : (namesL 0 l).drop j = p :: t) : (namesL 0 l)[j]? = some p ∧ (namesL 0 l).drop (j + 1) = t := by
  have h1 : (namesL 0 l)[j]? = some p := by
    have := congrArg (·[0]?) h
    simpa [List.getElem?_drop] using this
  refine ⟨h1, ?_⟩
  rw [drop_at h1] at h
  exact (List.cons.injEq _ _ _ _ ▸ h).2
attribute [local irreducible] G GO GR GT Fn FnX FnV FnXV Dfr pt init exs pur sat own ImpS mayN
set_option maxHeartbeats 16000000 in
theorem names1_spec (z : HP) (v : Value) (l : List NodeD) (hz : NodesR z v l) (hl : ¬ 1048576 < l.length) (bx : Nat) (y : Value) (J S : Nat → HP)
    (hy : ∀ i u, ((namesL 0 l).map occA)[i]? = some u → FnV Tryz.prog y u [J i] (fun v Q => (v = .bool true ∧ Q = [J (i + 1)]) ∨ (v = .bool false ∧ Q = [S i]))) :
    Fn Tryz.prog 132 #[y, ptrV bx] [J 0, pt bx (row [v] 58), z] (fun _ Q => Q = [J (namesL 0 l).length, pt bx (row [v] 58), z] ∨ ∃ i, i < (namesL 0 l).length ∧ Q = [S i, pt bx (row [v] 58), z]) := by
  have hrd : ∀ i m, l[i]? = some m → _ := fun i m h => nodes_rd hz h
  obtain ⟨a, cap, rfl⟩ := nodes_sl hz
  refine Fn.mk2 Tryz.func132 rfl rfl fun w0 F => ?_
  (refine G.seq ?_; refine G.region ?_; refine GO.load1 rfl rfl rfl (Tk.t Tk.h) rfl ?_; refine GO.lenS rfl rfl ?_; refine GO.move rfl rfl ?_; refine GO.nil ?_; refine kthen_n ?_; refine G.block ?_)
  refine G.loopI (σ := Nat × Nat) (fun s => [(0, y), (1, ptrV bx), (5, .slice a l.length cap), (6, i64 (l.length : Nat)), (7, i64 (s.1 : Nat))]) (fun s => J s.2 :: pt bx (row [.slice a l.length cap] 58) :: z :: F) (fun s => s.1 ≤ l.length ∧ s.2 ≤ (namesL 0 l).length ∧ (namesL 0 l).drop s.2 = namesL s.1 (l.drop s.1)) (fun s => l.length - s.1) (0, 0) ⟨Nat.zero_le _, Nat.zero_le _, rfl⟩ ?_ ?_ ?_
  · (refine SubE.c rfl rfl ?_; refine SubE.c rfl rfl ?_; refine SubE.c rfl rfl ?_; refine SubE.c rfl rfl ?_; refine SubE.c rfl rfl ?_; exact SubE.n)
  · refine ImpS.sb ?_
    ((refine Sb.c Tk.h ?_; refine Sb.c Tk.h ?_; refine Sb.c Tk.h ?_); (exact Sb.r))
  rintro ⟨i, j⟩ ⟨hi, hj, hd⟩
  dsimp only at hi hj hd ⊢
  (refine G.seq ?_; refine G.region ?_; refine GO.lti rfl rfl rfl ?_; refine GO.nil ?_; refine kthen_n ?_; refine G.seq ?_)
  by_cases hlt : i < l.length
  · have d1 : decide ((i : Int) < (l.length : Int)) = true := decide_eq_true (by omega)
    obtain ⟨m, hm⟩ : ∃ m, l[i]? = some m := ⟨_, List.getElem?_eq_getElem hlt⟩
    obtain ⟨b, o, cap2, e, _, rm⟩ := hrd i m hm
    injection e with e _ e2
    subst e e2
    rw [drop_at hm, namesL_cons] at hd
    (refine G.condT rfl (by assumption) ?_; refine G.skip ?_; refine kthen_n ?_; refine G.seq ?_; refine G.block ?_; refine G.seq ?_; refine G.region ?_; refine GO.move rfl rfl ?_; refine GO.idxS rfl rfl rfl ⟨rfl, by omega⟩ ?_)
    refine GO.loadM (vs := [i64 (m.kind : Nat), str m.name, i64 (m.kids : Nat)]) rfl rfl rfl (Tk.t (Tk.t Tk.h)) rfl rm ?_
    (refine GO.alloc rfl fun b4 => ?_; refine GO.assign rfl rfl ?_; refine GO.storeW rfl rfl Tk.h ⟨rfl, rfl⟩ (by simp [Value.oneCell']) ?_; refine GO.nil ?_; refine kthen_n ?_; refine G.seq ?_; refine G.region ?_; refine GO.fieldAddr rfl rfl ?_; refine GO.load1 rfl rfl rfl Tk.h rfl ?_; refine GO.eqi rfl rfl rfl ?_; refine GO.move rfl rfl ?_)
    by_cases hk : m.kind = 2 ∨ m.kind = 3
    · rw [if_pos hk] at hd
      obtain ⟨h1, h2⟩ := namesL_drop (i := i) hd
      have hyi := hy j _ (by rw [List.getElem?_map, h1]; rfl)
      have hjl := (List.getElem?_eq_some_iff.1 h1).1
      rcases Decidable.em (m.kind = 2) with hk2 | hk2
      · have d2 : decide ((m.kind : Int) = 2) = true := decide_eq_true (by omega)
        (refine GO.gF rfl rfl rfl (by assumption) ?_; refine GO.gF rfl rfl rfl (by assumption) ?_; refine GO.gF rfl rfl rfl (by assumption) ?_; refine GO.pickTa rfl rfl (by assumption) rfl ?_; refine GO.move rfl rfl ?_; refine GO.gT rfl rfl rfl ?_; refine GO.move rfl rfl ?_; refine GO.gT rfl rfl rfl ?_; refine GO.move rfl rfl ?_; refine GO.gT rfl rfl rfl ?_; refine GO.fieldAddr rfl rfl ?_; refine GO.gT rfl rfl rfl ?_; refine GO.load1 rfl rfl rfl Tk.h rfl ?_; refine GO.gT rfl rfl rfl ?_)
        refine GO.callV2 rfl rfl rfl rfl (hyi) (Tks.c (Tk.t Tk.h) Tks.n) ?_
        rintro _ _ (⟨rfl, rfl⟩ | ⟨rfl, rfl⟩)
        · (refine GO.gT rfl rfl rfl ?_; refine GO.not rfl rfl ?_; refine GO.pickT rfl rfl rfl ?_; refine GO.nil ?_; refine kthen_n ?_; refine G.condF rfl rfl ?_; refine G.skip ?_; refine kblock_n ?_; refine kthen_n ?_; refine G.region ?_; refine GO.addi rfl rfl rfl (by omega) ?_; refine GO.move rfl rfl ?_; refine GO.nil ?_; refine kthen_n ?_)
          refine ⟨(i + 1, j + 1), ⟨hlt, hjl, h2⟩, by dsimp only; omega, ?_, ImpS.sb ?_⟩
          · (refine SubE.c rfl rfl ?_; refine SubE.c rfl rfl ?_; refine SubE.c rfl rfl ?_; refine SubE.c rfl rfl ?_; refine SubE.c rfl rfl ?_; exact SubE.n)
          · ((refine Sb.c Tk.h ?_; refine Sb.c (Tk.t Tk.h) ?_; refine Sb.c (Tk.t Tk.h) ?_); (refine Sb.s ?_; exact Sb.r))
        · (refine GO.gT rfl rfl rfl ?_; refine GO.not rfl rfl ?_; refine GO.pickT rfl rfl rfl ?_; refine GO.nil ?_; refine kthen_n ?_; refine G.condT rfl rfl ?_; refine G.ret ?_; refine kblock_r ?_; refine kthen_r ?_; refine kthen_r ?_; refine kblock_r ?_)
          refine KF2.r0 rfl (.inr ⟨j, hjl, rfl⟩) (ImpS.sb ?_)
          ((refine Sb.c Tk.h ?_; refine Sb.c (Tk.t Tk.h) ?_; refine Sb.c (Tk.t Tk.h) ?_); (refine Sb.s ?_; exact Sb.r))
      · have d2 : decide ((m.kind : Int) = 2) = false := decide_eq_false (by omega)
        have d3 : decide ((m.kind : Int) = 3) = true := decide_eq_true (by omega)
        (refine GO.gT rfl rfl (by assumption) ?_; refine GO.fieldAddr rfl rfl ?_; refine GO.gT rfl rfl (by assumption) ?_; refine GO.load1 rfl rfl rfl Tk.h rfl ?_; refine GO.gT rfl rfl (by assumption) ?_; refine GO.eqi rfl rfl rfl ?_; refine GO.pickFa rfl rfl (by assumption) rfl ?_; refine GO.move rfl rfl ?_; refine GO.gT rfl rfl (by assumption) ?_; refine GO.move rfl rfl ?_; refine GO.gT rfl rfl (by assumption) ?_; refine GO.move rfl rfl ?_; refine GO.gT rfl rfl (by assumption) ?_; refine GO.fieldAddr rfl rfl ?_; refine GO.gT rfl rfl (by assumption) ?_; refine GO.load1 rfl rfl rfl Tk.h rfl ?_; refine GO.gT rfl rfl (by assumption) ?_)
        refine GO.callV2 rfl rfl rfl rfl (hyi) (Tks.c (Tk.t Tk.h) Tks.n) ?_
        rintro _ _ (⟨rfl, rfl⟩ | ⟨rfl, rfl⟩)
        · (refine GO.gT rfl rfl (by assumption) ?_; refine GO.not rfl rfl ?_; refine GO.pickTa rfl rfl (by assumption) rfl ?_; refine GO.nil ?_; refine kthen_n ?_; refine G.condF rfl rfl ?_; refine G.skip ?_; refine kblock_n ?_; refine kthen_n ?_; refine G.region ?_; refine GO.addi rfl rfl rfl (by omega) ?_; refine GO.move rfl rfl ?_; refine GO.nil ?_; refine kthen_n ?_)
          refine ⟨(i + 1, j + 1), ⟨hlt, hjl, h2⟩, by dsimp only; omega, ?_, ImpS.sb ?_⟩
          · (refine SubE.c rfl rfl ?_; refine SubE.c rfl rfl ?_; refine SubE.c rfl rfl ?_; refine SubE.c rfl rfl ?_; refine SubE.c rfl rfl ?_; exact SubE.n)
          · ((refine Sb.c Tk.h ?_; refine Sb.c (Tk.t Tk.h) ?_; refine Sb.c (Tk.t Tk.h) ?_); (refine Sb.s ?_; exact Sb.r))
        · (refine GO.gT rfl rfl (by assumption) ?_; refine GO.not rfl rfl ?_; refine GO.pickTa rfl rfl (by assumption) rfl ?_; refine GO.nil ?_; refine kthen_n ?_; refine G.condT rfl rfl ?_; refine G.ret ?_; refine kblock_r ?_; refine kthen_r ?_; refine kthen_r ?_; refine kblock_r ?_)
          refine KF2.r0 rfl (.inr ⟨j, hjl, rfl⟩) (ImpS.sb ?_)
          ((refine Sb.c Tk.h ?_; refine Sb.c (Tk.t Tk.h) ?_; refine Sb.c (Tk.t Tk.h) ?_); (refine Sb.s ?_; exact Sb.r))
    · rw [if_neg hk] at hd
      have d2 : decide ((m.kind : Int) = 2) = false := decide_eq_false (by omega)
      have d3 : decide ((m.kind : Int) = 3) = false := decide_eq_false (by omega)
      (refine GO.gT rfl rfl (by assumption) ?_; refine GO.fieldAddr rfl rfl ?_; refine GO.gT rfl rfl (by assumption) ?_; refine GO.load1 rfl rfl rfl Tk.h rfl ?_; refine GO.gT rfl rfl (by assumption) ?_; refine GO.eqi rfl rfl rfl ?_; refine GO.pickFa rfl rfl (by assumption) rfl ?_; refine GO.move rfl rfl ?_; refine GO.gF rfl rfl rfl (by assumption) ?_; refine GO.gF rfl rfl rfl (by assumption) ?_; refine GO.gF rfl rfl rfl (by assumption) ?_; refine GO.gF rfl rfl rfl (by assumption) ?_; refine GO.gF rfl rfl rfl (by assumption) ?_; refine GO.gF rfl rfl rfl (by assumption) ?_; refine GO.pickFa rfl rfl (by assumption) rfl ?_; refine GO.nil ?_; refine kthen_n ?_; refine G.condF rfl rfl ?_; refine G.skip ?_; refine kblock_n ?_; refine kthen_n ?_; refine G.region ?_; refine GO.addi rfl rfl rfl (by omega) ?_; refine GO.move rfl rfl ?_; refine GO.nil ?_; refine kthen_n ?_)
      refine ⟨(i + 1, j), ⟨hlt, hj, hd⟩, by dsimp only; omega, ?_, ImpS.sb ?_⟩
      · (refine SubE.c rfl rfl ?_; refine SubE.c rfl rfl ?_; refine SubE.c rfl rfl ?_; refine SubE.c rfl rfl ?_; refine SubE.c rfl rfl ?_; exact SubE.n)
      · ((refine Sb.c (Tk.t Tk.h) ?_; refine Sb.c (Tk.t Tk.h) ?_; refine Sb.c (Tk.t Tk.h) ?_); (refine Sb.s ?_; exact Sb.r))
  · have d1 : decide ((i : Int) < (l.length : Int)) = false := decide_eq_false (by omega)
    rw [List.drop_eq_nil_of_le (show l.length ≤ i by omega)] at hd
    have hjl : j = (namesL 0 l).length := by
      have := congrArg List.length hd
      rw [List.length_drop] at this
      simp only [namesL, List.length_nil] at this
      omega
    subst hjl
    (refine G.condF rfl (by assumption) ?_; refine G.exit ?_; refine kthen_x ?_; refine kthen_x ?_; refine kblock_x ?_)
    refine KF2.n0 rfl (.inl rfl) (ImpS.sb ?_)
    ((refine Sb.c Tk.h ?_; refine Sb.c Tk.h ?_; refine Sb.c Tk.h ?_); (exact Sb.r))
theorem names_seq (z : HP) (v : Value) (l : List NodeD) (hz : NodesR z v l) (hl : ¬ 1048576 < l.length) (bx : Nat) : SeqOK Tryz.prog (.func (.func 132) #[] #[ptrV bx]) ((namesL 0 l).map occA) [] [pt bx (row [v] 58), z] :=
  SeqOK.of1 (caps := #[ptrV bx]) fun y J S hy => by rw [List.length_map]; exact names1_spec z v l hz hl bx y J S hy
set_option maxHeartbeats 16000000 in
theorem Occ_spec (q : HP) (v : Value) (l : List NodeD) (hq : NodesR q v l) (hl : ¬ 1048576 < l.length) : Fn Tryz.prog 93 #[v] [q] (fun r Q => r = i64 (occF l : Nat) ∧ Q = [q]) := by
  have hn := namesL_le 0 l
  unfold occF
  refine Fn.mk2 Tryz.func93 rfl rfl fun w0 F => ?_
  (refine G.seq ?_; refine G.region ?_; refine GO.assign rfl rfl ?_; refine GO.nil ?_; refine kthen_n ?_; refine G.seq ?_; refine G.region ?_; refine GO.alloc rfl fun b3 => ?_; refine GO.store1 rfl rfl rfl Tk.h (by decide) ?_; refine GO.nil ?_; refine kthen_n ?_; refine G.seq ?_; refine G.seq ?_; refine G.region ?_; refine GO.move rfl rfl ?_)
  refine GO.call1 rfl rfl (Names_spec q v l hq hl) (Tks.c (Tk.t Tk.h) Tks.n) ?_
  rintro _ _ ⟨bx, z, w, hz, rfl, rfl⟩
  (refine GO.nil ?_; refine kthen_n ?_; refine G.block ?_)
  refine G.rangeF (F := q :: F) (psl := [6, 7]) (v := .func (.func 132) #[] #[ptrV bx]) (xs := (namesL 0 l).map occA) (Sh := []) (Gm := [pt bx (row [w] 58), z])
    (fun i => [pt b3 (row [i64 (i : Nat)] 3)])
    (fun _ _ => [pur False]) (fun _ h => by cases h) rfl (fun u hu => by obtain ⟨p, _, rfl⟩ := List.mem_map.1 hu; rfl) rfl (names_seq z w l hz hl bx) ?_ (fun lp Lr Lb w1 F1 i u hu => ?_) ?_ ?_
  · (refine Tks.c (Tk.t (Tk.t (Tk.t Tk.h))) ?_; exact Tks.n)
  · obtain ⟨m, hm, rfl⟩ : ∃ m, (namesL 0 l)[i]? = some m ∧ u = occA m := by
      rw [List.getElem?_map] at hu
      cases hc : (namesL 0 l)[i]? with
      | none => simp [hc] at hu
      | some p => simp [hc] at hu; exact ⟨p, rfl, hu.symm⟩
    have hil := (List.getElem?_eq_some_iff.1 hm).1
    change G _ _ _ _ ((7, str m.2) :: (6, i64 (m.1 : Nat)) :: _) (pt b3 (row [i64 (i : Nat)] 3) :: F1)
    (refine G.skip ?_)
    refine kA_n ?_
    (refine G.block ?_; refine G.region ?_; refine GO.load1 rfl rfl rfl Tk.h rfl ?_; refine GO.addi rfl rfl rfl (by omega) ?_; refine GO.store1 rfl rfl rfl Tk.h (by simp) ?_; refine GO.nil ?_; refine kblock_n ?_)
    refine kB_n (ImpS.sb ?_)
    ((refine Sb.c Tk.h ?_); (exact Sb.r))
  · rw [List.length_map]
    (refine kblock_n ?_; refine kthen_n ?_; refine G.seq ?_; refine G.region ?_; refine GO.load1 rfl rfl rfl Tk.h rfl ?_; refine GO.assign rfl rfl ?_; refine GO.nil ?_; refine kthen_n ?_; refine G.ret ?_)
    refine KF2.r1 rfl (RV.t rfl) ⟨rfl, rfl⟩ (ImpS.sb ?_)
    ((refine Sb.c (Tk.t (Tk.t (Tk.t Tk.h))) ?_); (refine Sb.s ?_; refine Sb.s ?_; refine Sb.s ?_; exact Sb.r))
  · intro i jc hi
    exact G.pur fun h => h.elim
end Go.Proofs.YtpgfmfbpmkfbjaaGreat
