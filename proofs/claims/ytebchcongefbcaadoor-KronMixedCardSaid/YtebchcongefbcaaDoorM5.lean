/-
  The document's answers, and the law KronMixed.
-/
import Derived.Test.YtebchcongefbcaaDoorM4
import Derived.Test.YtebchcongefbcaaDoorM3
import Derived.Test.YtebchcongefbcaaDoorM2
import Derived.Test.YtebchcongefbcaaDoorP
namespace Go.Proofs.YtebchcongefbcaaDoor
open Go
theorem addX_same {X : Nat → Nat → Bool} {i j : Nat} (h : X i j = true) : addX X i j = X := by
  funext r c
  unfold addX
  by_cases e : r = i ∧ c = j
  · obtain ⟨rfl, rfl⟩ := e
    simp [h]
  · simp [e]
/-- Is anything new? -/
theorem flag_step {C Y : Nat → Nat → Bool} {i j : Nat} (hle : cntX C ≤ cntX Y) (hi : i < 1024) (hj : j < 1024) : (decide (cntX C < cntX Y) || !Y i j) = decide (cntX C < cntX (addX Y i j)) ∧ cntX C ≤ cntX (addX Y i j) := by
  cases h : Y i j with
  | true =>
    rw [addX_same h]
    exact ⟨by simp, hle⟩
  | false =>
    rw [cntX_add hi hj h]
    refine ⟨?_, by omega⟩
    rw [decide_eq_true (show cntX C < cntX Y + 1 by omega)]
    simp
theorem setC_nil (X : Nat → Nat → Bool) : setC X [] = X := rfl
/-- What is laid when k outer cells have come, and m inner ones of the next. -/
def layL (q : Nat) (k l : List (Nat × Nat)) (i m : Nat) : List (Nat × Nat) := kronLL q (k.take i) l ++ (match k[i]? with | some p => (kronL q p l).take m | none => [])
theorem layL_zero (q : Nat) (k l : List (Nat × Nat)) (i : Nat) : layL q k l i 0 = kronLL q (k.take i) l := by
  unfold layL
  cases k[i]? with
  | none => exact List.append_nil _
  | some p => exact List.append_nil _
theorem layL_succ {q : Nat} {k l : List (Nat × Nat)} {i m : Nat} {p x : Nat × Nat} (hp : k[i]? = some p) (hx : l[m]? = some x) : layL q k l i (m + 1) = layL q k l i m ++ [(p.1 * q + x.1, p.2 * q + x.2)] := by
  unfold layL
  rw [hp]
  have h : (kronL q p l)[m]? = some (p.1 * q + x.1, p.2 * q + x.2) := by unfold kronL; rw [List.getElem?_map, hx]; rfl
  show _ ++ (kronL q p l).take (m + 1) = _ ++ (kronL q p l).take m ++ _
  rw [List.take_add_one, h, List.append_assoc]; rfl
theorem layL_end {q : Nat} {k l : List (Nat × Nat)} {i : Nat} {p : Nat × Nat} (hp : k[i]? = some p) : layL q k l i l.length = layL q k l (i + 1) 0 := by
  rw [layL_zero]
  unfold layL kronLL
  rw [hp, List.take_add_one, hp, List.flatMap_append]
  show _ ++ (kronL q p l).take l.length = _
  have : (kronL q p l).take l.length = kronL q p l := List.take_of_length_le (by unfold kronL; rw [List.length_map]; exact Nat.le_refl _)
  rw [this]
  show _ = _ ++ (kronL q p l ++ [])
  rw [List.append_nil]
theorem layL_all {q : Nat} {k l : List (Nat × Nat)} : layL q k l k.length 0 = kronLL q k l := by rw [layL_zero, List.take_length]
theorem setC_snoc (X : Nat → Nat → Bool) (l : List (Nat × Nat)) (p : Nat × Nat) : setC X (l ++ [p]) = addX (setC X l) p.1 p.2 := by rw [setC_app]; rfl
end Go.Proofs.YtebchcongefbcaaDoor
namespace Go.Proofs.YtebchcongefbcaaDoor
open Go
def sqX (q i j : Nat) (C : Nat → Nat → Bool) : Nat → Nat → Bool := fun r s => (decide (r < q) && decide (s < q)) && C (i * q + r) (j * q + s)
def outX (q : Nat) (C : Nat → Nat → Bool) : Nat → Nat → Bool := fun r s => (cellsX C).any fun p => decide (p.1 / q = r) && decide (p.2 / q = s)
def innX (q : Nat) (C : Nat → Nat → Bool) : Nat → Nat → Bool := fun r s => (cellsX C).any fun p => decide (p.1 % q = r) && decide (p.2 % q = s)
def sqF (q i j : Nat) (p : Nat × Nat) : Option (Nat × Nat) := if p.1 / q = i ∧ p.2 / q = j then some (p.1 % q, p.2 % q) else none
def outF (q : Nat) (p : Nat × Nat) : Option (Nat × Nat) := some (p.1 / q, p.2 / q)
def innF (q : Nat) (p : Nat × Nat) : Option (Nat × Nat) := some (p.1 % q, p.2 % q)
/-- The cells that are told of the first k. -/
def pickL (f : Nat × Nat → Option (Nat × Nat)) (l : List (Nat × Nat)) (k : Nat) : List (Nat × Nat) := (l.take k).filterMap f
theorem pickL_zero (f : Nat × Nat → Option (Nat × Nat)) (l : List (Nat × Nat)) : pickL f l 0 = [] := rfl
theorem pickL_no {f : Nat × Nat → Option (Nat × Nat)} {l : List (Nat × Nat)} {k : Nat} {p : Nat × Nat} (h : l[k]? = some p) (hf : f p = none) : pickL f l (k + 1) = pickL f l k := by
  unfold pickL; rw [List.take_add_one, h, List.filterMap_append]; simp [hf]
theorem pickL_yes {f : Nat × Nat → Option (Nat × Nat)} {l : List (Nat × Nat)} {k : Nat} {p x : Nat × Nat} (h : l[k]? = some p) (hf : f p = some x) : pickL f l (k + 1) = pickL f l k ++ [x] := by
  unfold pickL; rw [List.take_add_one, h, List.filterMap_append]; simp [hf]
theorem pick_at (f : Nat × Nat → Option (Nat × Nat)) (l : List (Nat × Nat)) (r c : Nat) : setC noX (pickL f l l.length) r c = true ↔ ∃ p ∈ l, f p = some (r, c) := by
  unfold pickL
  rw [List.take_length, setC_at]
  show (false || _) = true ↔ _
  rw [Bool.false_or, List.any_eq_true]
  constructor
  · rintro ⟨x, hx, h⟩
    simp only [Bool.and_eq_true, decide_eq_true_eq] at h
    obtain ⟨p, hp, hf⟩ := List.mem_filterMap.1 hx
    refine ⟨p, hp, ?_⟩
    rw [hf]
    exact congrArg some (Prod.ext h.1.symm h.2.symm)
  · rintro ⟨p, hp, hf⟩
    exact ⟨(r, c), List.mem_filterMap.2 ⟨p, hp, hf⟩, by simp⟩
theorem back_at {q a i r : Nat} (h : a / q = i) (hr : a % q = r) : a = i * q + r := by
  have := Nat.div_add_mod a q
  rw [h, hr, Nat.mul_comm] at this
  exact this.symm
theorem pick_sq {s q : Nat} {C : Nat → Nat → Bool} (hs : s ≤ 1024) (hin : ∀ r c, C r c = true → r < s ∧ c < s) (hq : 0 < q) (i j : Nat) : setC noX (pickL (sqF q i j) (cellsX C) (cellsX C).length) = sqX q i j C := by
  funext r c
  rw [Bool.eq_iff_iff, pick_at]
  unfold sqX sqF
  simp only [Bool.and_eq_true, decide_eq_true_eq]
  constructor
  · rintro ⟨p, hp, hf⟩
    have hC := cellsX_true hp
    split at hf
    · rename_i h
      injection hf with hf
      have e1 := congrArg Prod.fst hf
      have e2 := congrArg Prod.snd hf
      dsimp only at e1 e2
      refine ⟨⟨by rw [← e1]; exact Nat.mod_lt _ hq, by rw [← e2]; exact Nat.mod_lt _ hq⟩, ?_⟩
      rw [← back_at h.1 e1, ← back_at h.2 e2]
      exact hC
    · cases hf
  · rintro ⟨⟨h1, h2⟩, hC⟩
    obtain ⟨a1, a2⟩ := div_at (i := i) h1
    obtain ⟨b1, b2⟩ := div_at (i := j) h2
    exact ⟨_, cellsX_pos hs hin hC, by dsimp only; rw [a1, a2, b1, b2, if_pos ⟨rfl, rfl⟩]⟩
theorem pick_out (q : Nat) (C : Nat → Nat → Bool) : setC noX (pickL (outF q) (cellsX C) (cellsX C).length) = outX q C := by
  funext r c
  rw [Bool.eq_iff_iff, pick_at]
  unfold outX outF
  rw [List.any_eq_true]
  constructor
  · rintro ⟨p, hp, hf⟩
    injection hf with hf
    have e1 := congrArg Prod.fst hf
    have e2 := congrArg Prod.snd hf
    exact ⟨p, hp, by simp only [Bool.and_eq_true, decide_eq_true_eq]; exact ⟨e1, e2⟩⟩
  · rintro ⟨p, hp, h⟩
    simp only [Bool.and_eq_true, decide_eq_true_eq] at h
    exact ⟨p, hp, by rw [h.1, h.2]⟩
theorem pick_inn (q : Nat) (C : Nat → Nat → Bool) : setC noX (pickL (innF q) (cellsX C) (cellsX C).length) = innX q C := by
  funext r c
  rw [Bool.eq_iff_iff, pick_at]
  unfold innX innF
  rw [List.any_eq_true]
  constructor
  · rintro ⟨p, hp, hf⟩
    injection hf with hf
    have e1 := congrArg Prod.fst hf
    have e2 := congrArg Prod.snd hf
    exact ⟨p, hp, by simp only [Bool.and_eq_true, decide_eq_true_eq]; exact ⟨e1, e2⟩⟩
  · rintro ⟨p, hp, h⟩
    simp only [Bool.and_eq_true, decide_eq_true_eq] at h
    exact ⟨p, hp, by rw [h.1, h.2]⟩
theorem sq_in (q i j : Nat) (C : Nat → Nat → Bool) : ∀ r c, sqX q i j C r c = true → r < q ∧ c < q := fun r c h => by
  unfold sqX at h
  simp only [Bool.and_eq_true, decide_eq_true_eq] at h
  exact h.1
theorem out_in {n q : Nat} {C : Nat → Nat → Bool} (hin : ∀ r c, C r c = true → r < n * q ∧ c < n * q) (hq : 0 < q) : ∀ r c, outX q C r c = true → r < n ∧ c < n := fun r c h => by
  unfold outX at h
  obtain ⟨p, hp, h⟩ := List.any_eq_true.1 h
  simp only [Bool.and_eq_true, decide_eq_true_eq] at h
  have h2 := hin _ _ (cellsX_true hp)
  rw [← h.1, ← h.2]
  exact ⟨(Nat.div_lt_iff_lt_mul hq).2 h2.1, (Nat.div_lt_iff_lt_mul hq).2 h2.2⟩
theorem inn_in {q : Nat} {C : Nat → Nat → Bool} (hq : 0 < q) : ∀ r c, innX q C r c = true → r < q ∧ c < q := fun r c h => by
  unfold innX at h
  obtain ⟨p, hp, h⟩ := List.any_eq_true.1 h
  simp only [Bool.and_eq_true, decide_eq_true_eq] at h
  rw [← h.1, ← h.2]
  exact ⟨Nat.mod_lt _ hq, Nat.mod_lt _ hq⟩
/-! ## A Kronecker product taken apart -/
theorem sq_kron {q : Nat} {A B : Nat → Nat → Bool} (hB : ∀ r c, B r c = true → r < q ∧ c < q) (i j : Nat) : sqX q i j (kronX q A B) = if A i j then B else noX := by
  funext r s
  unfold sqX kronX
  by_cases h : r < q ∧ s < q
  · obtain ⟨a1, a2⟩ := div_at (i := i) h.1
    obtain ⟨b1, b2⟩ := div_at (i := j) h.2
    rw [a1, a2, b1, b2, decide_eq_true h.1, decide_eq_true h.2]
    cases A i j <;> simp [noX]
  · have hb : B r s = false := by
      cases hb : B r s with
      | false => rfl
      | true => exact absurd (hB r s hb) h
    have h2 : (decide (r < q) && decide (s < q)) = false := by
      rw [Bool.eq_false_iff]
      intro h3
      simp only [Bool.and_eq_true, decide_eq_true_eq] at h3
      exact h h3
    rw [h2, Bool.false_and]
    cases A i j <;> simp [noX, hb]
theorem out_kron {s q : Nat} {A B : Nat → Nat → Bool} (hs : s * q ≤ 1024) (hq : 0 < q) (hA : ∀ r c, A r c = true → r < s ∧ c < s) (hB : ∀ r c, B r c = true → r < q ∧ c < q) {x y : Nat} (hxy : B x y = true) : outX q (kronX q A B) = A := by
  funext r c
  rw [Bool.eq_iff_iff]
  unfold outX
  rw [List.any_eq_true]
  constructor
  · rintro ⟨p, hp, h⟩
    simp only [Bool.and_eq_true, decide_eq_true_eq] at h
    have h2 := cellsX_true hp
    unfold kronX at h2
    rw [Bool.and_eq_true, h.1, h.2] at h2
    exact h2.1
  · intro h
    have hb := hB x y hxy
    obtain ⟨a1, a2⟩ := div_at (i := r) hb.1
    obtain ⟨b1, b2⟩ := div_at (i := c) hb.2
    have hk : kronX q A B (r * q + x) (c * q + y) = true := by
      unfold kronX
      rw [a1, a2, b1, b2, h, hxy]; rfl
    exact ⟨_, cellsX_pos hs (kron_in hA hq) hk, by dsimp only; rw [a1, b1]; simp⟩
theorem inn_kron {s q : Nat} {A B : Nat → Nat → Bool} (hs : s * q ≤ 1024) (hq : 0 < q) (hA : ∀ r c, A r c = true → r < s ∧ c < s) (hB : ∀ r c, B r c = true → r < q ∧ c < q) {x y : Nat} (hxy : A x y = true) : innX q (kronX q A B) = B := by
  funext r c
  rw [Bool.eq_iff_iff]
  unfold innX
  rw [List.any_eq_true]
  constructor
  · rintro ⟨p, hp, h⟩
    simp only [Bool.and_eq_true, decide_eq_true_eq] at h
    have h2 := cellsX_true hp
    unfold kronX at h2
    rw [Bool.and_eq_true, h.1, h.2] at h2
    exact h2.2
  · intro h
    have hb := hB r c h
    obtain ⟨a1, a2⟩ := div_at (i := x) hb.1
    obtain ⟨b1, b2⟩ := div_at (i := y) hb.2
    have hk : kronX q A B (x * q + r) (y * q + c) = true := by
      unfold kronX
      rw [a1, a2, b1, b2, h, hxy]; rfl
    exact ⟨_, cellsX_pos hs (kron_in hA hq) hk, by dsimp only; rw [a2, b2]; simp⟩
end Go.Proofs.YtebchcongefbcaaDoor
namespace Go.Proofs.YtebchcongefbcaaDoor
open Go
def thereF (n : Nat) (f : Nat → Nat) : Bool := (List.range n).all fun k => !decide (f k = 0)
theorem thereF_f {n k : Nat} {f : Nat → Nat} (hk : k < n) (h : f k = 0) : thereF n f = false := by
  unfold thereF
  rw [List.all_eq_false]
  exact ⟨k, List.mem_range.2 hk, by rw [decide_eq_true h]; simp⟩
theorem thereF_t {n : Nat} {f : Nat → Nat} (h : ∀ k, k < n → f k ≠ 0) : thereF n f = true := List.all_eq_true.2 fun k hk => by rw [decide_eq_false (h k (List.mem_range.1 hk))]; rfl
/-- The inner one's cells, as they are kept. -/
def innP (b : Nat) (l : List (Nat × Nat)) : HP := exs fun v : Value => star [pt b (row [v] 22), own 59 2 l.length v (pairsV l)]
def layY (q : Nat) (C A B : Nat → Nat → Bool) (i m : Nat) : Nat → Nat → Bool := setC C (layL q (cellsX A) (cellsX B) i m)
theorem layY_zero (q : Nat) (C A B : Nat → Nat → Bool) : layY q C A B 0 0 = C := by unfold layY; rw [layL_zero]; rfl
theorem layY_succ {q : Nat} {C A B : Nat → Nat → Bool} {i m : Nat} {p x : Nat × Nat} (hp : (cellsX A)[i]? = some p) (hx : (cellsX B)[m]? = some x) : layY q C A B i (m + 1) = addX (layY q C A B i m) (p.1 * q + x.1) (p.2 * q + x.2) := by
  unfold layY; rw [layL_succ hp hx, setC_snoc]
theorem layY_end {q : Nat} {C A B : Nat → Nat → Bool} {i : Nat} {p : Nat × Nat} (hp : (cellsX A)[i]? = some p) : layY q C A B i (cellsX B).length = layY q C A B (i + 1) 0 := by unfold layY; rw [layL_end hp]
theorem layY_all (q : Nat) (C A B : Nat → Nat → Bool) : setC C (kronLL q (cellsX A) (cellsX B)) = layY q C A B (cellsX A).length 0 := by unfold layY; rw [layL_all]
theorem layY_le (q : Nat) (C A B : Nat → Nat → Bool) (i m : Nat) : cntX C ≤ cntX (layY q C A B i m) := by
  have h := cnt_sub (Y := C) (Z := layY q C A B i m) (fun r c hc => by unfold layY; rw [setC_at, hc]; rfl)
  omega
attribute [local irreducible] G GO GR GT Fn FnV pt init exs pur sat own ImpS mat posL allV orL restX cellsX cellsV layL layY setC kronLL
set_option maxHeartbeats 4000000 in
theorem there_spec (R S : HP) (v : Value) (vs : List Value) (f : Nat → Nat) (hv : Sl S v vs.length 1 vs) (hl : ∀ k u, vs[k]? = some u → Fn Tryd.prog 23 #[u] [R] (fun r Q => r = i64 (f k) ∧ Q = [R])) (hn : ¬ 9223372036854775806 < vs.length) :
    Fn Tryd.prog 31 #[v] [R, S] (fun r Q => r = .bool (thereF vs.length f) ∧ Q = [R, S]) := by
  obtain ⟨a, cap, rfl, hlen, hrd⟩ := hv
  refine Fn.mk2 Tryd.func31 rfl rfl fun w0 F => ?_
  (refine G.seq ?_; refine G.region ?_; refine GO.assign rfl rfl ?_; refine GO.nil ?_; refine kthen_n ?_; refine G.seq ?_; refine G.seq ?_; refine G.region ?_; refine GO.move rfl rfl ?_; refine GO.lenS rfl rfl ?_; refine GO.move rfl rfl ?_; refine GO.nil ?_; refine kthen_n ?_; refine G.block ?_)
  refine G.loop (fun k : Nat => [(5, .slice a vs.length cap), (6, i64 vs.length), (7, i64 k)]) (fun _ => R :: S :: F) (fun k => k ≤ vs.length ∧ ∀ j, j < k → f j ≠ 0) (fun k => vs.length - k) 0 ⟨by omega, fun j hj => by omega⟩ ?_ ?_ ?_
  · (refine SubE.c rfl rfl ?_; refine SubE.c rfl rfl ?_; refine SubE.c rfl rfl ?_; exact SubE.n)
  · ((refine Sb.c Tk.h ?_; refine Sb.c Tk.h ?_); (exact Sb.r))
  · rintro k ⟨hk, hall⟩
    (refine G.seq ?_; refine G.region ?_; refine GO.lti rfl rfl rfl ?_; refine GO.nil ?_; refine kthen_n ?_; refine G.seq ?_)
    refine G.condD rfl (fun hlt => ?_) (fun hge => ?_)
    · have hk2 : k < vs.length := by omega
      obtain ⟨bo, oo, rfl, hr⟩ := hrd (by omega)
      obtain ⟨u, hu⟩ : ∃ u, vs[k]? = some u := ⟨_, List.getElem?_eq_getElem hk2⟩
      have rd : Rd S ⟨bo, oo + k * 1, none⟩ u := by rw [Nat.mul_one]; exact hr k u hu
      have hsi := hl k u hu
      (refine G.skip ?_; refine kthen_n ?_; refine G.seq ?_; refine G.block ?_; refine G.seq ?_; refine G.region ?_; refine GO.idxS rfl rfl rfl ⟨rfl, by omega⟩ ?_; refine GO.loadQ rfl rfl rfl (Tk.t Tk.h) (by assumption) ?_; refine GO.assign rfl rfl ?_; refine GO.nil ?_; refine kthen_n ?_; refine G.seq ?_; refine G.region ?_; refine GO.move rfl rfl ?_)
      refine GO.call1 rfl rfl (hsi) (Tks.c Tk.h Tks.n) ?_
      rintro _ _ ⟨rfl, rfl⟩
      (refine GO.eqi rfl rfl rfl ?_; refine GO.nil ?_; refine kthen_n ?_)
      refine G.condD rfl (fun h0 => ?_) (fun h0 => ?_)
      · (refine G.seq ?_; refine G.region ?_; refine GO.assign rfl rfl ?_; refine GO.nil ?_; refine kthen_n ?_; refine G.ret ?_; refine kblock_r ?_; refine kthen_r ?_; refine kthen_r ?_; refine kblock_r ?_; refine kthen_r ?_)
        refine KF2.r1 rfl (RV.t rfl) ⟨by rw [thereF_f hk2 (by omega)], rfl⟩ (ImpS.sb ?_)
        ((refine Sb.c Tk.h ?_; refine Sb.c Tk.h ?_); (exact Sb.r))
      · (refine G.skip ?_; refine kblock_n ?_; refine kthen_n ?_; refine G.region ?_; refine GO.addi rfl rfl rfl (by omega) ?_; refine GO.move rfl rfl ?_; refine GO.nil ?_; refine kthen_n ?_)
        refine ⟨k + 1, ⟨by omega, fun j hj => ?_⟩, by omega, ?_, ?_⟩
        · rcases Nat.lt_or_ge j k with h | h
          · exact hall j h
          · obtain rfl : j = k := by omega
            omega
        · (refine SubE.c rfl rfl ?_; refine SubE.c rfl rfl ?_; refine SubE.c rfl rfl ?_; exact SubE.n)
        · ((refine Sb.c Tk.h ?_; refine Sb.c Tk.h ?_); (exact Sb.r))
    · obtain rfl : k = vs.length := by omega
      (refine G.exit ?_; refine kthen_x ?_; refine kthen_x ?_; refine kblock_x ?_; refine kthen_n ?_; refine G.seq ?_; refine G.region ?_; refine GO.assign rfl rfl ?_; refine GO.nil ?_; refine kthen_n ?_; refine G.ret ?_)
      refine KF2.r1 rfl (RV.t rfl) ⟨by rw [thereF_t hall], rfl⟩ (ImpS.sb ?_)
      ((refine Sb.c Tk.h ?_; refine Sb.c Tk.h ?_); (exact Sb.r))
theorem thereK (R : HP) (b9 : Nat) (vs : List Value) (os : List OptM) (n : Nat) (hn : vs.length = n) (hm : os.length = n) (hb : n ≤ 1000) (h : ∀ (k : Nat) (v : Value) (o : OptM), vs[k]? = some v → os[k]? = some o → HasO R v o) :
    Fn Tryd.prog 31 #[.slice (some ⟨b9, 0, none⟩) n n] [R, pt b9 (row vs 27)] (fun r Q => r = .bool (thereF n (sidesL os)) ∧ Q = [R, pt b9 (row vs 27)]) := by
  subst hn
  refine there_spec R (pt b9 (row vs 27)) (.slice (some ⟨b9, 0, none⟩) vs.length vs.length) vs (sidesL os) (row_sl rfl) (fun k u hk => ?_) (by omega)
  have hlt := (List.getElem?_eq_some_iff.1 hk).1
  have ho : os[k]? = some os[k] := List.getElem?_eq_getElem (by omega)
  rw [sidesL_get ho]
  exact (h k u _ hk ho).side
set_option maxHeartbeats 8000000 in
theorem lay_spec (q : HP) (hq : Tab q) (sC bc : Nat) (C : Nat → Nat → Bool) (R : HP) (va vb : Value) (sA sB : Nat) (A B : Nat → Nat → Bool) (ha : HasO (star [mat sC C bc, R]) va (some (sA, A))) (hb : HasO (star [mat sC C bc, R]) vb (some (sB, B)))
    (hs : sA * sB = sC) (h1 : 1 ≤ sA) (h2 : 1 ≤ sB) (h3 : sC ≤ 1024) (hA : ∀ r c, A r c = true → r < sA ∧ c < sA) (hB : ∀ r c, B r c = true → r < sB ∧ c < sB) :
    Fn Tryd.prog 32 #[ptrV bc, va, vb] [star [mat sC C bc, R], q] (fun r Q => r = .bool (decide (cntX C < cntX (uniX C (kronX sB A B)))) ∧ Q = [star [mat sC (uniX C (kronX sB A B)) bc, R], q]) := by
  have hsA : sA ≤ 1024 := Nat.le_trans (Nat.le_mul_of_pos_right sA h2) (by omega)
  have hsB : sB ≤ 1024 := Nat.le_trans (Nat.le_mul_of_pos_left sB h1) (by omega)
  rw [← kron_set (C := C) hsA hsB hA hB, layY_all]
  have hsd := hb.side
  have hcb := hb.cells
  have hca := ha.cells
  change Fn _ _ _ _ (fun r Q => r = i64 (sB : Nat) ∧ _) at hsd
  change Fn _ _ _ _ (fun r Q => ∃ b3 v', _ ∧ Q = [bkM B b3 v', _]) at hcb
  change Fn _ _ _ _ (fun r Q => ∃ b3 v', _ ∧ Q = [bkM A b3 v', _]) at hca
  have hmemA := fun (k : Nat) (p : Nat × Nat) (h : (cellsX A)[k]? = some p) => hA _ _ (cellsX_true (List.mem_of_getElem? h))
  have hmemB := fun (k : Nat) (p : Nat × Nat) (h : (cellsX B)[k]? = some p) => hB _ _ (cellsX_true (List.mem_of_getElem? h))
  have hlB : ¬ 1048576 < (cellsX B).length := by rw [cellsX_len]; have := cnt_max B; omega
  refine Fn.mk2 Tryd.func32 rfl rfl fun w0 F => ?_
  (refine G.seq ?_; refine G.region ?_; refine GO.box rfl rfl rfl fun b3 => ?_; refine GO.assign rfl rfl ?_; refine GO.nil ?_; refine kthen_n ?_; refine G.seq ?_; refine G.region ?_; refine GO.move rfl rfl ?_)
  refine GO.call1 rfl rfl (hsd) (Tks.c (Tk.t Tk.h) Tks.n) ?_
  rintro _ _ ⟨rfl, rfl⟩
  (refine GO.alloc rfl fun b7 => ?_; refine GO.store1 rfl rfl rfl Tk.h (by decide) ?_; refine GO.nil ?_; refine kthen_n ?_; refine G.seq ?_; refine G.region ?_; refine GO.alloc rfl fun b8 => ?_; refine GO.nil ?_; refine kthen_n ?_; refine G.seq ?_; refine G.seq ?_; refine G.region ?_; refine GO.move rfl rfl ?_)
  refine GO.call1 rfl rfl (hcb) (Tks.c (Tk.t (Tk.t Tk.h)) Tks.n) ?_
  rintro _ _ ⟨bI, vI, rfl, rfl⟩
  (refine GO.nil ?_; refine kthen_n ?_; refine G.block ?_)
  refine G.ownNil (T := 59) (sz := 2) ?_
  have hn0 : pairsV (((cellsX B).take 0)) = [] := by unfold pairsV cellsV; rfl
  refine G.impS (H' := innP b8 ((cellsX B).take 0) :: q :: bkM B bI vI :: star [mat sC C bc, R] :: pt b7 (row [i64 (sB : Nat)] 3) :: pt b3 (row [ptrV bc] 27) :: F) (ImpS.exs (.slice none 0 0) (ImpS.flat (by rw [hn0]; exact ImpS.sb (by ((refine Sb.c (Tk.t (Tk.t (Tk.t Tk.h))) ?_; refine Sb.c Tk.h ?_; refine Sb.c (Tk.t (Tk.t (Tk.t (Tk.t Tk.h)))) ?_; refine Sb.c Tk.h ?_; refine Sb.c Tk.h ?_; refine Sb.c Tk.h ?_; refine Sb.c Tk.h ?_); (exact Sb.r)))))) ?_
  refine G.rangeF (F := star [mat sC C bc, R] :: pt b7 (row [i64 (sB : Nat)] 3) :: pt b3 (row [ptrV bc] 27) :: F) (psl := [22, 23]) (v := .func (.func 57) #[] #[.pointer (some ⟨bI, 0, none⟩)]) (xs := (cellsX B).map celV) (Sh := [q]) (Gm := [bkM B bI vI])
    (fun k => [innP b8 ((cellsX B).take k)])
    (fun _ _ => [pur False]) (fun _ h => by cases h) rfl (fun u hu => by obtain ⟨p, _, rfl⟩ := List.mem_map.1 hu; rfl) rfl (mcells_seq q hq B bI vI) ?_ (fun lp Lr Lb w1 F1 k uu huu => ?_) ?_ ?_
  · (exact Tks.n)
  · obtain ⟨p, hp, rfl⟩ : ∃ p, (cellsX B)[k]? = some p ∧ uu = celV p := by
      rw [List.getElem?_map] at huu
      cases hc : (cellsX B)[k]? with
      | none => simp [hc] at huu
      | some p => simp [hc] at huu; exact ⟨p, rfl, huu.symm⟩
    have hkl := (List.getElem?_eq_some_iff.1 hp).1
    have htk : (cellsX B).take (k + 1) = (cellsX B).take k ++ [p] := by rw [List.take_add_one, hp]; rfl
    have htl : ((cellsX B).take k).length ≤ 1048576 := by rw [List.length_take]; omega
    rw [htk]
    generalize (cellsX B).take k = l0 at htl ⊢
    obtain ⟨r, c⟩ := p
    change G _ _ _ _ ((23, i64 (c : Nat)) :: (22, i64 (r : Nat)) :: _) (innP b8 l0 :: q :: F1)
    refine G.exs fun v => G.flat ?_
    change G _ _ _ _ _ (pt b8 (row [v] 22) :: own 59 2 l0.length v (pairsV l0) :: q :: F1)
    (refine G.seq ?_; refine G.region ?_; refine GO.assign rfl rfl ?_; refine GO.nil ?_; refine kthen_n ?_; refine G.region ?_; refine GO.assign rfl rfl ?_; refine GO.nil ?_)
    refine kA_n ?_
    (refine G.block ?_; refine G.region ?_; refine GO.load1 rfl rfl rfl Tk.h rfl ?_; refine GO.move rfl rfl ?_; refine GO.move rfl rfl ?_; refine GO.build2 rfl rfl rfl rfl ?_)
    refine GO.buildSlice1 rfl rfl (by simp; rfl) rfl ⟨by omega, by omega⟩ fun bs => ?_
    refine GO.appendOwn (m := 1) (news := [i64 (r : Nat), i64 (c : Nat)]) rfl rfl rfl (Tk.t (Tk.t Tk.h)) Tk.h rfl (by simp [Value.oneCell']) ⟨by decide, rfl⟩ Nat.one_pos (by unfold maxLen; omega) (by omega) fun v4 => ?_
    refine GO.ownOne Tk.h fun hone4 => ?_
    rw [pairsV_one, show l0.length + 1 = (l0 ++ [(r, c)]).length by rw [List.length_append]; rfl]
    (refine GO.store1 rfl rfl (by assumption) (Tk.t (Tk.t Tk.h)) (by simp) ?_; refine GO.nil ?_; refine kblock_n ?_)
    refine kB_n (ImpS.exs v4 (ImpS.flat (ImpS.sb ?_)))
    ((refine Sb.c Tk.h ?_; refine Sb.c Tk.h ?_; refine Sb.c (Tk.t Tk.h) ?_); (refine Sb.s ?_; exact Sb.r))
  · rw [List.length_map, List.take_length]
    change G _ _ _ _ _ (innP b8 (cellsX B) :: q :: bkM B bI vI :: star [mat sC C bc, R] :: pt b7 (row [i64 (sB : Nat)] 3) :: pt b3 (row [ptrV bc] 27) :: F)
    refine G.exs fun v => G.flat ?_
    change G _ _ _ _ _ (pt b8 (row [v] 22) :: own 59 2 (cellsX B).length v (pairsV (cellsX B)) :: q :: bkM B bI vI :: star [mat sC C bc, R] :: pt b7 (row [i64 (sB : Nat)] 3) :: pt b3 (row [ptrV bc] 27) :: F)
    refine G.ownRd (Tk.t Tk.h) fun z hz => ?_
    obtain ⟨a, cap, rfl, hcap, hrd⟩ := hz
    (refine G.seq ?_; refine G.region ?_; refine GO.alloc rfl fun b11 => ?_; refine GO.store1 rfl rfl rfl Tk.h (by decide) ?_; refine GO.nil ?_; refine kthen_n ?_; refine G.seq ?_; refine G.seq ?_; refine G.region ?_; refine GO.move rfl rfl ?_)
    refine GO.call1 rfl rfl (hca) (Tks.c (Tk.t (Tk.t (Tk.t (Tk.t (Tk.t Tk.h))))) Tks.n) ?_
    rintro _ _ ⟨bJ, vJ, rfl, rfl⟩
    refine GO.unpair (x := mat sC C bc) (y := R) (Tk.t Tk.h) ?_
    (refine GO.nil ?_; refine kthen_n ?_; refine G.block ?_)
    have hz0 := layY_zero sB C A B
    have hd0 : decide (cntX C < cntX (layY sB C A B 0 0)) = false := by rw [hz0]; exact decide_eq_false (by omega)
    refine G.rangeF (F := R :: bkM B bI vI :: F) (psl := [32, 33]) (v := .func (.func 57) #[] #[.pointer (some ⟨bJ, 0, none⟩)]) (xs := (cellsX A).map celV) (Sh := [q]) (Gm := [bkM A bJ vJ])
      (fun k => [pt b11 (row [.bool (decide (cntX C < cntX (layY sB C A B k 0)))] 4), mat sC (layY sB C A B k 0) bc, pt b8 (row [.slice a (cellsX B).length cap] 22), z, pt b7 (row [i64 (sB : Nat)] 3), pt b3 (row [ptrV bc] 27)])
      (fun _ _ => [pur False]) (fun _ h => by cases h) rfl (fun u hu => by obtain ⟨p, _, rfl⟩ := List.mem_map.1 hu; rfl) rfl (mcells_seq q hq A bJ vJ) ?_ (fun lp Lr Lb w1 F1 k uu huu => ?_) ?_ ?_
    · rw [hd0, hz0]
      (refine Tks.c (Tk.t (Tk.t (Tk.t Tk.h))) ?_; refine Tks.c Tk.h ?_; refine Tks.c (Tk.t (Tk.t (Tk.t Tk.h))) ?_; refine Tks.c (Tk.t (Tk.t Tk.h)) ?_; refine Tks.c (Tk.t (Tk.t (Tk.t (Tk.t Tk.h)))) ?_; refine Tks.c (Tk.t (Tk.t (Tk.t (Tk.t Tk.h)))) ?_; refine Tks.c (Tk.t (Tk.t Tk.h)) ?_; refine Tks.c (Tk.t Tk.h) ?_; exact Tks.n)
    · obtain ⟨p, hp, rfl⟩ : ∃ p, (cellsX A)[k]? = some p ∧ uu = celV p := by
        rw [List.getElem?_map] at huu
        cases hc : (cellsX A)[k]? with
        | none => simp [hc] at huu
        | some p => simp [hc] at huu; exact ⟨p, rfl, huu.symm⟩
      have hkl := (List.getElem?_eq_some_iff.1 hp).1
      have hpA := hmemA k p hp
      have hend := layY_end (q := sB) (C := C) (B := B) hp
      have hsuc := fun (m : Nat) (x : Nat × Nat) (hx : (cellsX B)[m]? = some x) => layY_succ (q := sB) (C := C) hp hx
      have hle := layY_le sB C A B k
      rw [← hend]
      obtain ⟨i, j⟩ := p
      dsimp only at hpA hsuc
      have hm1 : (i : Int) * (sB : Int) = ((i * sB : Nat) : Int) := (Int.natCast_mul _ _).symm
      have hm2 : (j : Int) * (sB : Int) = ((j * sB : Nat) : Int) := (Int.natCast_mul _ _).symm
      have hb1 : i * sB + sB ≤ sC := by rw [← hs]; have := Nat.mul_le_mul_right sB (show i + 1 ≤ sA by omega); rw [Nat.add_mul, Nat.one_mul] at this; exact this
      have hb2 : j * sB + sB ≤ sC := by rw [← hs]; have := Nat.mul_le_mul_right sB (show j + 1 ≤ sA by omega); rw [Nat.add_mul, Nat.one_mul] at this; exact this
      generalize i * sB = P1 at hm1 hb1 hsuc
      generalize j * sB = P2 at hm2 hb2 hsuc
      change G _ _ _ _ ((33, i64 (j : Nat)) :: (32, i64 (i : Nat)) :: _) (pt b11 (row [.bool (decide (cntX C < cntX (layY sB C A B k 0)))] 4) :: mat sC (layY sB C A B k 0) bc :: pt b8 (row [.slice a (cellsX B).length cap] 22) :: z :: pt b7 (row [i64 (sB : Nat)] 3) :: pt b3 (row [ptrV bc] 27) :: q :: F1)
      generalize layY sB C A B k = Y at hend hsuc hle ⊢
      (refine G.seq ?_; refine G.region ?_; refine GO.assign rfl rfl ?_; refine GO.nil ?_; refine kthen_n ?_; refine G.region ?_; refine GO.assign rfl rfl ?_; refine GO.nil ?_)
      refine kA_n ?_
      (refine G.block ?_; refine G.seq ?_; refine G.region ?_; refine GO.load1 rfl rfl rfl (Tk.t (Tk.t Tk.h)) rfl ?_; refine GO.lenS rfl rfl ?_; refine GO.move rfl rfl ?_; refine GO.nil ?_; refine kthen_n ?_; refine G.block ?_)
      refine G.loop (fun m : Nat => [(3, ptrV b3), (7, ptrV b7), (8, ptrV b8), (11, ptrV b11), (12, i64 (i : Nat)), (13, i64 (j : Nat)), (34, .slice a (cellsX B).length cap), (35, i64 ((cellsX B).length : Nat)), (36, i64 (m : Nat))])
        (fun m => pt b11 (row [.bool (decide (cntX C < cntX (Y m)))] 4) :: mat sC (Y m) bc :: pt b8 (row [.slice a (cellsX B).length cap] 22) :: z :: pt b7 (row [i64 (sB : Nat)] 3) :: pt b3 (row [ptrV bc] 27) :: q :: F1) (fun m => m ≤ (cellsX B).length) (fun m => (cellsX B).length - m) 0 (by omega) ?_ ?_ ?_
      · (refine SubE.c rfl rfl ?_; refine SubE.c rfl rfl ?_; refine SubE.c rfl rfl ?_; refine SubE.c rfl rfl ?_; refine SubE.c rfl rfl ?_; refine SubE.c rfl rfl ?_; refine SubE.c rfl rfl ?_; refine SubE.c rfl rfl ?_; refine SubE.c rfl rfl ?_; exact SubE.n)
      · ((refine Sb.c Tk.h ?_; refine Sb.c Tk.h ?_; refine Sb.c Tk.h ?_; refine Sb.c Tk.h ?_; refine Sb.c Tk.h ?_; refine Sb.c Tk.h ?_; refine Sb.c Tk.h ?_); (exact Sb.r))
      · rintro m hm
        (refine G.seq ?_; refine G.region ?_; refine GO.lti rfl rfl rfl ?_; refine GO.nil ?_; refine kthen_n ?_; refine G.seq ?_)
        refine G.condD rfl (fun hlt => ?_) (fun hge => ?_)
        · have hml : m < (cellsX B).length := by omega
          obtain ⟨bo, oo, rfl, hr2⟩ := hrd (by omega)
          obtain ⟨⟨x, y⟩, hx⟩ : ∃ x, (cellsX B)[m]? = some x := ⟨_, List.getElem?_eq_getElem hml⟩
          have hxB := hmemB m _ hx
          have hsx := hsuc m _ hx
          dsimp only at hxB hsx
          have hpc : (castL (cellsX B))[m]? = some ((x : Int), (y : Int)) := by unfold castL; rw [List.getElem?_map, hx]; rfl
          have r1 : Rd z ⟨bo, oo + m * 2, none⟩ (i64 (x : Nat)) := hr2 _ _ (cellsV_get hpc).1
          have r2 : Rd z ⟨bo, oo + m * 2 + 1, none⟩ (i64 (y : Nat)) := hr2 _ _ (cellsV_get hpc).2
          have hfl := flag_step (C := C) (Y := Y m) (i := P1 + x) (j := P2 + y) (hle m) (by omega) (by omega)
          rw [← hsx] at hfl
          generalize decide (cntX C < cntX (Y m)) = fl at hfl ⊢
          (refine G.skip ?_; refine kthen_n ?_; refine G.seq ?_; refine G.block ?_; refine G.seq ?_; refine G.region ?_; refine GO.idxS rfl rfl rfl ⟨rfl, by omega⟩ ?_; refine GO.load2 rfl rfl rfl (Tk.t (Tk.t (Tk.t Tk.h))) (by assumption) (by assumption) ?_; refine GO.alloc rfl fun b15 => ?_; refine GO.storeW rfl rfl Tk.h ⟨rfl, rfl⟩ (by simp [Value.oneCell']) ?_; refine GO.nil ?_; refine kthen_n ?_; refine G.seq ?_; refine G.region ?_; refine GO.load1 rfl rfl rfl (Tk.t (Tk.t (Tk.t (Tk.t (Tk.t (Tk.t Tk.h)))))) rfl ?_; refine GO.move rfl rfl ?_; refine GO.load1 rfl rfl rfl (Tk.t (Tk.t (Tk.t (Tk.t (Tk.t Tk.h))))) rfl ?_; refine GO.muli rfl rfl rfl (by omega) ?_; refine GO.fieldAddr rfl rfl ?_; refine GO.load1 rfl rfl rfl Tk.h rfl ?_; refine GO.addi rfl rfl rfl (by omega) ?_; refine GO.move rfl rfl ?_; refine GO.load1 rfl rfl rfl (Tk.t (Tk.t (Tk.t (Tk.t (Tk.t Tk.h))))) rfl ?_; refine GO.muli rfl rfl rfl (by omega) ?_; refine GO.fieldAddr rfl rfl ?_; refine GO.load1 rfl rfl rfl Tk.h rfl ?_; refine GO.addi rfl rfl rfl (by omega) ?_)
          rw [hm1, hm2]
          refine GO.call3 rfl rfl rfl rfl (set_mat sC bc (Y m) ((P1 : Int) + (x : Int)) ((P2 : Int) + (y : Int)) h3) (Tks.c (Tk.t (Tk.t Tk.h)) Tks.n) ?_
          rintro _ _ (⟨r, c, hr, hc, hr3, hc3, rfl, rfl⟩ | ⟨hno, _, _⟩)
          rotate_left 1
          · exfalso
            unfold inM at hno
            simp only [Bool.and_eq_false_iff, decide_eq_false_iff_not] at hno
            omega
          obtain rfl : r = P1 + x := by omega
          obtain rfl : c = P2 + y := by omega
          rw [← hsx]
          cases fl with
          | true =>
            (refine GO.move rfl rfl ?_; refine GO.extract rfl rfl rfl ?_; refine GO.extract rfl rfl rfl ?_; refine GO.assign rfl rfl ?_; refine GO.assign rfl rfl ?_; refine GO.nil ?_; refine kthen_n ?_; refine G.region ?_; refine GO.load1 rfl rfl rfl (Tk.t (Tk.t Tk.h)) rfl ?_; refine GO.move rfl rfl ?_; refine GO.gF rfl rfl rfl rfl ?_; refine GO.pickT rfl rfl rfl ?_; refine GO.store1 rfl rfl rfl (Tk.t (Tk.t Tk.h)) (by decide) ?_; refine GO.nil ?_; refine kblock_n ?_; refine kthen_n ?_; refine G.region ?_; refine GO.addi rfl rfl rfl (by omega) ?_; refine GO.move rfl rfl ?_; refine GO.nil ?_; refine kthen_n ?_)
            refine ⟨m + 1, by omega, by omega, ?_, ?_⟩
            · (refine SubE.c rfl rfl ?_; refine SubE.c rfl rfl ?_; refine SubE.c rfl rfl ?_; refine SubE.c rfl rfl ?_; refine SubE.c rfl rfl ?_; refine SubE.c rfl rfl ?_; refine SubE.c rfl rfl ?_; refine SubE.c rfl rfl ?_; refine SubE.c rfl rfl ?_; exact SubE.n)
            · rw [← hfl.1]
              ((refine Sb.c Tk.h ?_; refine Sb.c Tk.h ?_; refine Sb.c (Tk.t Tk.h) ?_; refine Sb.c (Tk.t Tk.h) ?_; refine Sb.c (Tk.t Tk.h) ?_; refine Sb.c (Tk.t Tk.h) ?_; refine Sb.c (Tk.t Tk.h) ?_); (refine Sb.s ?_; exact Sb.r))
          | false =>
            (refine GO.move rfl rfl ?_; refine GO.extract rfl rfl rfl ?_; refine GO.extract rfl rfl rfl ?_; refine GO.assign rfl rfl ?_; refine GO.assign rfl rfl ?_; refine GO.nil ?_; refine kthen_n ?_; refine G.region ?_; refine GO.load1 rfl rfl rfl (Tk.t (Tk.t Tk.h)) rfl ?_; refine GO.move rfl rfl ?_; refine GO.gT rfl rfl rfl ?_; refine GO.move rfl rfl ?_; refine GO.pickF rfl rfl rfl ?_; refine GO.store1 rfl rfl rfl (Tk.t (Tk.t Tk.h)) (by decide) ?_; refine GO.nil ?_; refine kblock_n ?_; refine kthen_n ?_; refine G.region ?_; refine GO.addi rfl rfl rfl (by omega) ?_; refine GO.move rfl rfl ?_; refine GO.nil ?_; refine kthen_n ?_)
            refine ⟨m + 1, by omega, by omega, ?_, ?_⟩
            · (refine SubE.c rfl rfl ?_; refine SubE.c rfl rfl ?_; refine SubE.c rfl rfl ?_; refine SubE.c rfl rfl ?_; refine SubE.c rfl rfl ?_; refine SubE.c rfl rfl ?_; refine SubE.c rfl rfl ?_; refine SubE.c rfl rfl ?_; refine SubE.c rfl rfl ?_; exact SubE.n)
            · rw [← hfl.1]
              ((refine Sb.c Tk.h ?_; refine Sb.c Tk.h ?_; refine Sb.c (Tk.t Tk.h) ?_; refine Sb.c (Tk.t Tk.h) ?_; refine Sb.c (Tk.t Tk.h) ?_; refine Sb.c (Tk.t Tk.h) ?_; refine Sb.c (Tk.t Tk.h) ?_); (refine Sb.s ?_; exact Sb.r))
        · obtain rfl : m = (cellsX B).length := by omega
          (refine G.exit ?_; refine kthen_x ?_; refine kthen_x ?_; refine kblock_x ?_; refine kblock_n ?_)
          refine kB_n (ImpS.sb ?_)
          ((refine Sb.c Tk.h ?_; refine Sb.c Tk.h ?_; refine Sb.c Tk.h ?_; refine Sb.c Tk.h ?_; refine Sb.c Tk.h ?_; refine Sb.c Tk.h ?_; refine Sb.c Tk.h ?_); (exact Sb.r))
    · rw [List.length_map]
      change G _ _ _ _ _ (pt b11 (row [.bool (decide (cntX C < cntX (layY sB C A B (cellsX A).length 0)))] 4) :: mat sC (layY sB C A B (cellsX A).length 0) bc :: pt b8 (row [.slice a (cellsX B).length cap] 22) :: z :: pt b7 (row [i64 (sB : Nat)] 3) :: pt b3 (row [ptrV bc] 27) :: q :: bkM A bJ vJ :: R :: bkM B bI vI :: F)
      (refine G.seq ?_; refine G.region ?_; refine GO.load1 rfl rfl rfl Tk.h rfl ?_; refine GO.assign rfl rfl ?_; refine GO.nil ?_; refine kthen_n ?_; refine G.ret ?_)
      refine KF2.r1 rfl (RV.t rfl) ⟨rfl, rfl⟩ (ImpS.flat (ImpS.sb ?_))
      ((refine Sb.c (Tk.t Tk.h) ?_; refine Sb.c (Tk.t (Tk.t (Tk.t (Tk.t (Tk.t (Tk.t (Tk.t Tk.h))))))) ?_; refine Sb.c (Tk.t (Tk.t (Tk.t (Tk.t (Tk.t Tk.h))))) ?_); (refine Sb.s ?_; refine Sb.s ?_; refine Sb.s ?_; refine Sb.s ?_; refine Sb.s ?_; refine Sb.s ?_; refine Sb.s ?_; exact Sb.r))
    · intro i jc hi
      exact G.pur fun h => h.elim
  · intro i jc hi
    exact G.pur fun h => h.elim
end Go.Proofs.YtebchcongefbcaaDoor
namespace Go.Proofs.YtebchcongefbcaaDoor
open Go
def kronE (a b : OptM) : Int := if sideO a = 0 then 1 else if sideO b = 0 then 1 else if 1024 < sideO a * sideO b then 5 else 0
def kronO (a b : OptM) : OptM := if kronE a b = 0 then some (sideO a * sideO b, kronX (sideO b) (setO a) (setO b)) else none
def kinE (c a b : OptM) : Int := if sideO c = 0 then 1 else if sideO a = 0 then 1 else if sideO b = 0 then 1 else if sideO c = sideO a * sideO b then 0 else 5
def kinO (c a b : OptM) : OptM := if kinE c a b = 0 then some (sideO c, uniX (setO c) (kronX (sideO b) (setO a) (setO b))) else c
def kinB (c a b : OptM) : Bool := if kinE c a b = 0 then decide (cntX (setO c) < cntX (uniX (setO c) (kronX (sideO b) (setO a) (setO b)))) else false
theorem WfM.side {o : OptM} (h : WfM o) : sideO o ≤ 1024 := by
  match o, h with
  | none, _ => exact Nat.zero_le _
  | some (s, X), h => exact (h _ _ rfl).1.2
theorem WfM.in {o : OptM} (h : WfM o) : ∀ r c, setO o r c = true → r < sideO o ∧ c < sideO o := by
  match o, h with
  | none, _ => exact fun r c h => by cases h
  | some (s, X), h => exact (h _ _ rfl).2
theorem kronE_ok {a b : OptM} (h : kronE a b = 0) : sideO a ≠ 0 ∧ sideO b ≠ 0 ∧ sideO a * sideO b ≤ 1024 := by
  unfold kronE at h
  split at h
  · cases h
  · split at h
    · cases h
    · split at h
      · cases h
      · exact ⟨by assumption, by assumption, by omega⟩
theorem kinE_ok {c a b : OptM} (h : kinE c a b = 0) : sideO c ≠ 0 ∧ sideO a ≠ 0 ∧ sideO b ≠ 0 ∧ sideO c = sideO a * sideO b := by
  unfold kinE at h
  split at h
  · cases h
  · split at h
    · cases h
    · split at h
      · cases h
      · split at h
        · exact ⟨by assumption, by assumption, by assumption, by assumption⟩
        · cases h
theorem some_of {o : OptM} (h : sideO o ≠ 0) : o = some (sideO o, setO o) := by
  match o, h with
  | none, h => exact absurd rfl h
  | some (s, X), _ => rfl
theorem WfM.kron {a b : OptM} (ha : WfM a) : WfM (kronO a b) := by
  unfold kronO
  split
  · rename_i h
    have h2 := kronE_ok h
    intro s X e
    injection e with e
    injection e with e1 e2
    subst e1 e2
    have hp : 0 < sideO a * sideO b := Nat.mul_pos (by omega) (by omega)
    exact ⟨⟨hp, h2.2.2⟩, kron_in ha.in (by omega)⟩
  · exact WfM.no
theorem WfM.kin {c a b : OptM} (hc : WfM c) (ha : WfM a) : WfM (kinO c a b) := by
  unfold kinO
  split
  · rename_i h
    have h2 := kinE_ok h
    intro s X e
    injection e with e
    injection e with e1 e2
    subst e1 e2
    have hcs := hc _ _ (some_of h2.1)
    refine ⟨hcs.1, uni_in hcs.2 ?_⟩
    rw [h2.2.2.2]
    exact kron_in ha.in (by omega)
  · exact hc
attribute [local irreducible] G GO GR GT Fn FnV pt init exs pur sat own ImpS mat posL allV orL restX cellsX cellsV uniX kronX
set_option maxHeartbeats 8000000 in
theorem kProductO (q R : HP) (hq : Tab q) (va vb : Value) (a b : OptM) (ha : HasO R va a) (hb : HasO R vb b) (wa : WfM a) (wb : WfM b) :
    Fn Tryd.prog 11 #[va, vb] [R, q] (fun r Q => ∃ v p, r = .tuple #[v, i64 (kronE a b)] ∧ MatO p v (kronO a b) ∧ Q = [p, R, q]) := by
  have hth := fun b9 => thereK R b9 [va, vb] [a, b] 2 rfl rfl (by omega) (fun k v o h1 h2 => by
    match k, h1, h2 with
    | 0, h1, h2 => injection h1 with h1; injection h2 with h2; subst h1 h2; exact ha
    | 1, h1, h2 => injection h1 with h1; injection h2 with h2; subst h1 h2; exact hb)
  have hsa := ha.side
  have hsb := hb.side
  have hwa := wa.side
  have hwb := wb.side
  obtain ⟨ca, rfl⟩ := ha.ptr
  obtain ⟨cb, rfl⟩ := hb.ptr
  by_cases h0 : sideO a = 0 ∨ sideO b = 0
  · have hE : kronE a b = 1 := by
      unfold kronE
      rcases h0 with h | h
      · rw [if_pos h]
      · by_cases h2 : sideO a = 0
        · rw [if_pos h2]
        · rw [if_neg h2, if_pos h]
    have hO : kronO a b = none := by unfold kronO; rw [hE]; rfl
    have hf : thereF 2 (sidesL [a, b]) = false := by
      rcases h0 with h | h
      · exact thereF_f (k := 0) (by omega) h
      · exact thereF_f (k := 1) (by omega) h
    rw [hf] at hth
    rw [hE, hO]
    refine Fn.mk2 Tryd.func11 rfl rfl fun w0 F => ?_
    (refine G.seq ?_; refine G.region ?_; refine GO.assign rfl rfl ?_; refine GO.assign rfl rfl ?_; refine GO.nil ?_; refine kthen_n ?_; refine G.seq ?_; refine G.seq ?_; refine G.region ?_; refine GO.move rfl rfl ?_; refine GO.move rfl rfl ?_)
    refine GO.buildSlice2 rfl rfl rfl (by simp [Value.cells]) rfl ⟨by omega, by omega⟩ fun b9 => ?_
    rw [show putParts [Value.pointer ca, .pointer cb] = [.pointer ca, .pointer cb] by simp [putParts, Value.cells]]
    refine GO.call1 rfl rfl (hth b9) (Tks.c (Tk.t Tk.h) (Tks.c Tk.h Tks.n)) ?_
    rintro _ _ ⟨rfl, rfl⟩
    (refine GO.not rfl rfl ?_; refine GO.nil ?_; refine kthen_n ?_; refine G.condT rfl rfl ?_; refine G.seq ?_; refine G.region ?_; refine GO.assign rfl rfl ?_; refine GO.assign rfl rfl ?_; refine GO.nil ?_; refine kthen_n ?_; refine G.ret ?_; refine kthen_r ?_)
    refine KF2.r2 rfl (RV.t rfl) (RV.t rfl) ⟨_, star [], rfl, MatO.nil _, rfl⟩ (ImpS.flat (k := []) (M := R :: q :: F) (ImpS.sb ?_))
    ((refine Sb.c Tk.h ?_; refine Sb.c (Tk.t Tk.h) ?_); (refine Sb.s ?_; exact Sb.r))
  have ht : thereF 2 (sidesL [a, b]) = true := thereF_t fun k hk => by
    match k, hk with
    | 0, _ => exact fun h => h0 (.inl h)
    | 1, _ => exact fun h => h0 (.inr h)
  rw [ht] at hth
  have hma : sideO a * sideO b ≤ 1024 * 1024 := Nat.mul_le_mul hwa hwb
  by_cases h1 : 1024 < sideO a * sideO b
  · have hE : kronE a b = 5 := by
      unfold kronE
      rw [if_neg (fun h => h0 (.inl h)), if_neg (fun h => h0 (.inr h)), if_pos h1]
    have hO : kronO a b = none := by unfold kronO; rw [hE]; rfl
    rw [hE, hO]
    have hmul : ((sideO a : Nat) : Int) * ((sideO b : Nat) : Int) = ((sideO a * sideO b : Nat) : Int) := (Int.natCast_mul _ _).symm
    refine Fn.mk2 Tryd.func11 rfl rfl fun w0 F => ?_
    (refine G.seq ?_; refine G.region ?_; refine GO.assign rfl rfl ?_; refine GO.assign rfl rfl ?_; refine GO.nil ?_; refine kthen_n ?_; refine G.seq ?_; refine G.seq ?_; refine G.region ?_; refine GO.move rfl rfl ?_; refine GO.move rfl rfl ?_)
    refine GO.buildSlice2 rfl rfl rfl (by simp [Value.cells]) rfl ⟨by omega, by omega⟩ fun b9 => ?_
    rw [show putParts [Value.pointer ca, .pointer cb] = [.pointer ca, .pointer cb] by simp [putParts, Value.cells]]
    refine GO.call1 rfl rfl (hth b9) (Tks.c (Tk.t Tk.h) (Tks.c Tk.h Tks.n)) ?_
    rintro _ _ ⟨rfl, rfl⟩
    (refine GO.not rfl rfl ?_; refine GO.nil ?_; refine kthen_n ?_; refine G.condF rfl rfl ?_; refine G.skip ?_; refine kthen_n ?_; refine G.seq ?_; refine G.region ?_; refine GO.move rfl rfl ?_)
    refine GO.call1 rfl rfl (hsa) (Tks.c Tk.h Tks.n) ?_
    rintro _ _ ⟨rfl, rfl⟩
    (refine GO.move rfl rfl ?_)
    refine GO.call1 rfl rfl (hsb) (Tks.c Tk.h Tks.n) ?_
    rintro _ _ ⟨rfl, rfl⟩
    refine GO.muli rfl rfl rfl (by rw [hmul]; omega) ?_
    rw [hmul]
    skip
    refine GO.call1 rfl rfl (new_spec ((sideO a * sideO b : Nat) : Int)) Tks.n ?_
    rintro _ _ (⟨n, b', hn, hn1, hn2, rfl, rfl⟩ | ⟨_, rfl, rfl⟩)
    · omega
    · (refine GO.move rfl rfl ?_; refine GO.extract rfl rfl rfl ?_; refine GO.extract rfl rfl rfl ?_; refine GO.assign rfl rfl ?_; refine GO.assign rfl rfl ?_; refine GO.nil ?_; refine kthen_n ?_; refine G.seq ?_; refine G.seq ?_; refine G.region ?_; refine GO.move rfl rfl ?_; refine GO.nei rfl rfl rfl ?_; refine GO.nil ?_; refine kthen_n ?_; refine G.condT rfl rfl ?_; refine G.seq ?_; refine G.region ?_; refine GO.assign rfl rfl ?_; refine GO.assign rfl rfl ?_; refine GO.nil ?_; refine kthen_n ?_; refine G.ret ?_; refine kthen_r ?_)
      refine KF2.r2 rfl (RV.t rfl) (RV.t rfl) ⟨_, star [], rfl, MatO.nil _, rfl⟩ (ImpS.flat (k := []) (M := R :: q :: F) (ImpS.sb ?_))
      ((refine Sb.c Tk.h ?_; refine Sb.c (Tk.t Tk.h) ?_); (refine Sb.s ?_; exact Sb.r))
  · have hE : kronE a b = 0 := by
      unfold kronE
      rw [if_neg (fun h => h0 (.inl h)), if_neg (fun h => h0 (.inr h)), if_neg h1]
    have hO : kronO a b = some (sideO a * sideO b, kronX (sideO b) (setO a) (setO b)) := if_pos hE
    rw [hE, hO]
    have hmul : ((sideO a : Nat) : Int) * ((sideO b : Nat) : Int) = ((sideO a * sideO b : Nat) : Int) := (Int.natCast_mul _ _).symm
    have ha2 : sideO a ≠ 0 := fun h => h0 (.inl h)
    have hb2 : sideO b ≠ 0 := fun h => h0 (.inr h)
    have hp : 0 < sideO a * sideO b := Nat.mul_pos (by omega) (by omega)
    have hsoa := some_of ha2
    have hsob := some_of hb2
    have hlay := fun b' => lay_spec q hq (sideO a * sideO b) b' noX R _ _ (sideO a) (sideO b) (setO a) (setO b) (by rw [← hsoa]; exact HasO.right ha) (by rw [← hsob]; exact HasO.right hb) rfl (by omega) (by omega) (by omega) wa.in wb.in
    rw [uni_no] at hlay
    generalize sideO a * sideO b = sC at hmul hlay hma h1 hp ⊢
    refine Fn.mk2 Tryd.func11 rfl rfl fun w0 F => ?_
    (refine G.seq ?_; refine G.region ?_; refine GO.assign rfl rfl ?_; refine GO.assign rfl rfl ?_; refine GO.nil ?_; refine kthen_n ?_; refine G.seq ?_; refine G.seq ?_; refine G.region ?_; refine GO.move rfl rfl ?_; refine GO.move rfl rfl ?_)
    refine GO.buildSlice2 rfl rfl rfl (by simp [Value.cells]) rfl ⟨by omega, by omega⟩ fun b9 => ?_
    rw [show putParts [Value.pointer ca, .pointer cb] = [.pointer ca, .pointer cb] by simp [putParts, Value.cells]]
    refine GO.call1 rfl rfl (hth b9) (Tks.c (Tk.t Tk.h) (Tks.c Tk.h Tks.n)) ?_
    rintro _ _ ⟨rfl, rfl⟩
    (refine GO.not rfl rfl ?_; refine GO.nil ?_; refine kthen_n ?_; refine G.condF rfl rfl ?_; refine G.skip ?_; refine kthen_n ?_; refine G.seq ?_; refine G.region ?_; refine GO.move rfl rfl ?_)
    refine GO.call1 rfl rfl (hsa) (Tks.c Tk.h Tks.n) ?_
    rintro _ _ ⟨rfl, rfl⟩
    (refine GO.move rfl rfl ?_)
    refine GO.call1 rfl rfl (hsb) (Tks.c Tk.h Tks.n) ?_
    rintro _ _ ⟨rfl, rfl⟩
    refine GO.muli rfl rfl rfl (by rw [hmul]; omega) ?_
    rw [hmul]
    skip
    refine GO.call1 rfl rfl (new_spec ((sC : Nat) : Int)) Tks.n ?_
    rintro _ _ (⟨n, b', hn, hn1, hn2, rfl, rfl⟩ | ⟨hno, _, _⟩)
    rotate_left 1
    · exact absurd ⟨by omega, by omega⟩ hno
    obtain rfl : sC = n := by omega
    (refine GO.move rfl rfl ?_; refine GO.extract rfl rfl rfl ?_; refine GO.extract rfl rfl rfl ?_; refine GO.assign rfl rfl ?_; refine GO.assign rfl rfl ?_; refine GO.nil ?_; refine kthen_n ?_; refine G.seq ?_; refine G.seq ?_; refine G.region ?_; refine GO.move rfl rfl ?_; refine GO.neF rfl rfl rfl rfl ?_; refine GO.nil ?_; refine kthen_n ?_; refine G.condF rfl rfl ?_; refine G.skip ?_; refine kthen_n ?_; refine G.seq ?_; refine G.region ?_; refine GO.move rfl rfl ?_; refine GO.move rfl rfl ?_; refine GO.move rfl rfl ?_)
    refine GO.pair (x := mat sC noX b') (y := R) (Tks.c Tk.h (Tks.c Tk.h Tks.n)) ?_
    refine GO.call3 rfl rfl rfl rfl (hlay b') (Tks.c Tk.h (Tks.c (Tk.t Tk.h) Tks.n)) ?_
    rintro _ _ ⟨rfl, rfl⟩
    refine GO.unpair (x := mat sC (kronX (sideO b) (setO a) (setO b)) b') (y := R) Tk.h ?_
    (refine GO.nil ?_; refine kthen_n ?_; refine G.seq ?_; refine G.region ?_; refine GO.move rfl rfl ?_; refine GO.assign rfl rfl ?_; refine GO.assign rfl rfl ?_; refine GO.nil ?_; refine kthen_n ?_; refine G.ret ?_)
    refine KF2.r2 rfl (RV.t rfl) (RV.t rfl) ⟨_, _, rfl, MatO.one _ _ _, rfl⟩ (ImpS.sb ?_)
    ((refine Sb.c Tk.h ?_; refine Sb.c Tk.h ?_; refine Sb.c Tk.h ?_); (refine Sb.s ?_; exact Sb.r))
set_option maxHeartbeats 8000000 in
theorem kIntoO (q : HP) (hq : Tab q) (pc R : HP) (vc va vb : Value) (c a b : OptM) (hc : MatO pc vc c) (ha : HasO (star [pc, R]) va a) (hb : HasO (star [pc, R]) vb b) (wc : WfM c) (wa : WfM a) (wb : WfM b) :
    Fn Tryd.prog 14 #[vc, va, vb] [star [pc, R], q] (fun r Q => ∃ pc', r = .tuple #[.bool (kinB c a b), i64 (kinE c a b)] ∧ MatO pc' vc (kinO c a b) ∧ Q = [star [pc', R], q]) := by
  have hth := fun b9 => thereK (star [pc, R]) b9 [vc, va, vb] [c, a, b] 3 rfl rfl (by omega) (fun k v o h1 h2 => by
    match k, h1, h2 with
    | 0, h1, h2 => injection h1 with h1; injection h2 with h2; subst h1 h2; exact HasO.left hc.has
    | 1, h1, h2 => injection h1 with h1; injection h2 with h2; subst h1 h2; exact ha
    | 2, h1, h2 => injection h1 with h1; injection h2 with h2; subst h1 h2; exact hb)
  have hsc := (HasO.left (B := R) hc.has).side
  have hsa := ha.side
  have hsb := hb.side
  have hwa := wa.side
  have hwb := wb.side
  have hwc := wc.side
  obtain ⟨cc, rfl⟩ := hc.has.ptr
  obtain ⟨ca, rfl⟩ := ha.ptr
  obtain ⟨cb, rfl⟩ := hb.ptr
  by_cases h0 : sideO c = 0 ∨ sideO a = 0 ∨ sideO b = 0
  · have hE : kinE c a b = 1 := by
      unfold kinE
      by_cases h1 : sideO c = 0
      · rw [if_pos h1]
      rw [if_neg h1]
      by_cases h2 : sideO a = 0
      · rw [if_pos h2]
      rw [if_neg h2, if_pos (by omega)]
    have hO : kinO c a b = c := if_neg (by rw [hE]; omega)
    have hB : kinB c a b = false := if_neg (by rw [hE]; omega)
    have hf : thereF 3 (sidesL [c, a, b]) = false := by
      rcases h0 with h | h | h
      · exact thereF_f (k := 0) (by omega) h
      · exact thereF_f (k := 1) (by omega) h
      · exact thereF_f (k := 2) (by omega) h
    rw [hf] at hth
    rw [hE, hO, hB]
    refine Fn.mk2 Tryd.func14 rfl rfl fun w0 F => ?_
    (refine G.seq ?_; refine G.region ?_; refine GO.assign rfl rfl ?_; refine GO.assign rfl rfl ?_; refine GO.nil ?_; refine kthen_n ?_; refine G.seq ?_; refine G.block ?_; refine G.seq ?_; refine G.region ?_; refine GO.move rfl rfl ?_; refine GO.move rfl rfl ?_; refine GO.move rfl rfl ?_)
    refine GO.buildSlice3 rfl rfl rfl rfl (by simp [Value.cells]) rfl ⟨by omega, by omega⟩ fun b9 => ?_
    rw [show putParts [Value.pointer cc, .pointer ca, .pointer cb] = [.pointer cc, .pointer ca, .pointer cb] by simp [putParts, Value.cells]]
    refine GO.call1 rfl rfl (hth b9) (Tks.c (Tk.t Tk.h) (Tks.c Tk.h Tks.n)) ?_
    rintro _ _ ⟨rfl, rfl⟩
    (refine GO.not rfl rfl ?_; refine GO.assign rfl rfl ?_; refine GO.nil ?_; refine kthen_n ?_; refine G.condT rfl rfl ?_; refine G.seq ?_; refine G.region ?_; refine GO.assign rfl rfl ?_; refine GO.assign rfl rfl ?_; refine GO.nil ?_; refine kthen_n ?_; refine G.ret ?_; refine kblock_r ?_; refine kthen_r ?_)
    refine KF2.r2 rfl (RV.t rfl) (RV.t rfl) ⟨pc, rfl, hc, rfl⟩ (ImpS.sb ?_)
    ((refine Sb.c Tk.h ?_; refine Sb.c (Tk.t Tk.h) ?_); (refine Sb.s ?_; exact Sb.r))
  have ht : thereF 3 (sidesL [c, a, b]) = true := thereF_t fun k hk => by
    match k, hk with
    | 0, _ => exact fun h => h0 (.inl h)
    | 1, _ => exact fun h => h0 (.inr (.inl h))
    | 2, _ => exact fun h => h0 (.inr (.inr h))
  rw [ht] at hth
  have hma : sideO a * sideO b ≤ 1024 * 1024 := Nat.mul_le_mul hwa hwb
  have hmul : ((sideO a : Nat) : Int) * ((sideO b : Nat) : Int) = ((sideO a * sideO b : Nat) : Int) := (Int.natCast_mul _ _).symm
  have hcne : sideO c ≠ 0 := fun h => h0 (.inl h)
  have ha2 : sideO a ≠ 0 := fun h => h0 (.inr (.inl h))
  have hb2 : sideO b ≠ 0 := fun h => h0 (.inr (.inr h))
  by_cases h1 : sideO c = sideO a * sideO b
  · have hE : kinE c a b = 0 := by unfold kinE; rw [if_neg hcne, if_neg ha2, if_neg hb2, if_pos h1]
    have hO : kinO c a b = some (sideO c, uniX (setO c) (kronX (sideO b) (setO a) (setO b))) := if_pos hE
    have hB : kinB c a b = decide (cntX (setO c) < cntX (uniX (setO c) (kronX (sideO b) (setO a) (setO b)))) := if_pos hE
    rw [hE, hO, hB]
    have hsoa := some_of ha2
    have hsob := some_of hb2
    rcases hc with ⟨rfl, _⟩ | ⟨s', C', bc, rfl, e2, rfl⟩
    · exact absurd rfl hcne
    injection e2 with e2
    subst e2
    change s' = sideO a * sideO b at h1
    have hlay := lay_spec q hq s' bc C' R _ _ (sideO a) (sideO b) (setO a) (setO b) (by rw [← hsoa]; exact ha) (by rw [← hsob]; exact hb) h1.symm (by omega) (by omega) hwc wa.in wb.in
    have hdd : decide (((s' : Nat) : Int) ≠ ((sideO a * sideO b : Nat) : Int)) = false := decide_eq_false (by omega)
    change Fn _ _ _ _ (fun r Q => ∃ pc', r = .tuple #[.bool (decide (cntX C' < cntX (uniX C' (kronX (sideO b) (setO a) (setO b))))), i64 0] ∧ MatO pc' _ (some (s', uniX C' (kronX (sideO b) (setO a) (setO b)))) ∧ _)
    change Fn _ _ _ _ (fun r Q => r = i64 (s' : Nat) ∧ _) at hsc
    refine Fn.mk2 Tryd.func14 rfl rfl fun w0 F => ?_
    (refine G.seq ?_; refine G.region ?_; refine GO.assign rfl rfl ?_; refine GO.assign rfl rfl ?_; refine GO.nil ?_; refine kthen_n ?_; refine G.seq ?_; refine G.block ?_; refine G.seq ?_; refine G.region ?_; refine GO.move rfl rfl ?_; refine GO.move rfl rfl ?_; refine GO.move rfl rfl ?_)
    refine GO.buildSlice3 rfl rfl rfl rfl (by simp [Value.cells]) rfl ⟨by omega, by omega⟩ fun b9 => ?_
    rw [show putParts [Value.pointer (some ⟨bc, 0, none⟩), .pointer ca, .pointer cb] = [.pointer (some ⟨bc, 0, none⟩), .pointer ca, .pointer cb] by simp [putParts, Value.cells]]
    refine GO.call1 rfl rfl (hth b9) (Tks.c (Tk.t Tk.h) (Tks.c Tk.h Tks.n)) ?_
    rintro _ _ ⟨rfl, rfl⟩
    (refine GO.not rfl rfl ?_; refine GO.assign rfl rfl ?_; refine GO.nil ?_; refine kthen_n ?_; refine G.condF rfl rfl ?_; refine G.seq ?_; refine G.region ?_; refine GO.move rfl rfl ?_)
    refine GO.call1 rfl rfl (hsc) (Tks.c Tk.h Tks.n) ?_
    rintro _ _ ⟨rfl, rfl⟩
    (refine GO.move rfl rfl ?_)
    refine GO.call1 rfl rfl (hsa) (Tks.c Tk.h Tks.n) ?_
    rintro _ _ ⟨rfl, rfl⟩
    (refine GO.move rfl rfl ?_)
    refine GO.call1 rfl rfl (hsb) (Tks.c Tk.h Tks.n) ?_
    rintro _ _ ⟨rfl, rfl⟩
    refine GO.muli rfl rfl rfl (by rw [hmul]; omega) ?_
    rw [hmul]
    (refine GO.nei rfl rfl rfl ?_; refine GO.assign rfl rfl ?_; refine GO.nil ?_; refine kthen_n ?_; refine G.condF rfl (by assumption) ?_; refine G.skip ?_; refine kblock_n ?_; refine kthen_n ?_; refine G.seq ?_; refine G.region ?_; refine GO.move rfl rfl ?_; refine GO.move rfl rfl ?_; refine GO.move rfl rfl ?_)
    refine GO.call3 rfl rfl rfl rfl (hlay) (Tks.c Tk.h (Tks.c (Tk.t Tk.h) Tks.n)) ?_
    rintro _ _ ⟨rfl, rfl⟩
    (refine GO.assign rfl rfl ?_; refine GO.assign rfl rfl ?_; refine GO.nil ?_; refine kthen_n ?_; refine G.ret ?_)
    refine KF2.r2 rfl (RV.t rfl) (RV.t rfl) ⟨_, rfl, MatO.one _ _ _, rfl⟩ (ImpS.sb ?_)
    ((refine Sb.c Tk.h ?_; refine Sb.c Tk.h ?_); (refine Sb.s ?_; exact Sb.r))
  · have hE : kinE c a b = 5 := by unfold kinE; rw [if_neg hcne, if_neg ha2, if_neg hb2, if_neg h1]
    have hO : kinO c a b = c := if_neg (by rw [hE]; omega)
    have hB : kinB c a b = false := if_neg (by rw [hE]; omega)
    rw [hE, hO, hB]
    have hdd : decide (((sideO c : Nat) : Int) ≠ ((sideO a * sideO b : Nat) : Int)) = true := decide_eq_true (by omega)
    generalize sideO a * sideO b = sC at hmul hma hdd
    refine Fn.mk2 Tryd.func14 rfl rfl fun w0 F => ?_
    (refine G.seq ?_; refine G.region ?_; refine GO.assign rfl rfl ?_; refine GO.assign rfl rfl ?_; refine GO.nil ?_; refine kthen_n ?_; refine G.seq ?_; refine G.block ?_; refine G.seq ?_; refine G.region ?_; refine GO.move rfl rfl ?_; refine GO.move rfl rfl ?_; refine GO.move rfl rfl ?_)
    refine GO.buildSlice3 rfl rfl rfl rfl (by simp [Value.cells]) rfl ⟨by omega, by omega⟩ fun b9 => ?_
    rw [show putParts [Value.pointer cc, .pointer ca, .pointer cb] = [.pointer cc, .pointer ca, .pointer cb] by simp [putParts, Value.cells]]
    refine GO.call1 rfl rfl (hth b9) (Tks.c (Tk.t Tk.h) (Tks.c Tk.h Tks.n)) ?_
    rintro _ _ ⟨rfl, rfl⟩
    (refine GO.not rfl rfl ?_; refine GO.assign rfl rfl ?_; refine GO.nil ?_; refine kthen_n ?_; refine G.condF rfl rfl ?_; refine G.seq ?_; refine G.region ?_; refine GO.move rfl rfl ?_)
    refine GO.call1 rfl rfl (hsc) (Tks.c Tk.h Tks.n) ?_
    rintro _ _ ⟨rfl, rfl⟩
    (refine GO.move rfl rfl ?_)
    refine GO.call1 rfl rfl (hsa) (Tks.c Tk.h Tks.n) ?_
    rintro _ _ ⟨rfl, rfl⟩
    (refine GO.move rfl rfl ?_)
    refine GO.call1 rfl rfl (hsb) (Tks.c Tk.h Tks.n) ?_
    rintro _ _ ⟨rfl, rfl⟩
    refine GO.muli rfl rfl rfl (by rw [hmul]; omega) ?_
    rw [hmul]
    (refine GO.nei rfl rfl rfl ?_; refine GO.assign rfl rfl ?_; refine GO.nil ?_; refine kthen_n ?_; refine G.condT rfl (by assumption) ?_; refine G.seq ?_; refine G.region ?_; refine GO.assign rfl rfl ?_; refine GO.assign rfl rfl ?_; refine GO.nil ?_; refine kthen_n ?_; refine G.ret ?_; refine kblock_r ?_; refine kthen_r ?_)
    refine KF2.r2 rfl (RV.t rfl) (RV.t rfl) ⟨pc, rfl, hc, rfl⟩ (ImpS.sb ?_)
    ((refine Sb.c Tk.h ?_; refine Sb.c (Tk.t Tk.h) ?_); (refine Sb.s ?_; exact Sb.r))
end Go.Proofs.YtebchcongefbcaaDoor
namespace Go.Proofs.YtebchcongefbcaaDoor
open Go
/-- The errors of a matrix in squares. -/
def sqE (o : OptM) (k : Int) : Int := if sideO o = 0 then 1 else if k < 1 then 5 else if (sideO o : Int) % k = 0 then 0 else 5
theorem sqE_ok {o : OptM} {k : Int} (h : sqE o k = 0) : sideO o ≠ 0 ∧ ∃ n m : Nat, k = n ∧ 1 ≤ n ∧ sideO o = m * n ∧ 1 ≤ m := by
  unfold sqE at h
  split at h
  · cases h
  · split at h
    · cases h
    · split at h
      · rename_i h0 h1 h2
        obtain ⟨n, rfl⟩ := Int.eq_ofNat_of_zero_le (show 0 ≤ k by omega)
        have h3 : sideO o % n = 0 := by
          have : ((sideO o % n : Nat) : Int) = 0 := by rw [Int.natCast_emod]; exact h2
          omega
        have h4 := Nat.div_add_mod (sideO o) n
        rw [h3, Nat.add_zero, Nat.mul_comm] at h4
        refine ⟨h0, n, sideO o / n, rfl, by omega, h4.symm, ?_⟩
        rcases Nat.eq_zero_or_pos (sideO o / n) with h5 | h5
        · rw [h5, Nat.zero_mul] at h4; omega
        · exact h5
      · cases h
/-- How many squares each way. -/
def sqN (o : OptM) (k : Int) : Nat := if sqE o k = 0 then sideO o / k.toNat else 0
attribute [local irreducible] G GO GR GT Fn FnV pt init exs pur sat own ImpS mat posL allV orL restX cellsX cellsV pickL setC
set_option maxHeartbeats 4000000 in
theorem squares_spec (R : HP) (va : Value) (o : OptM) (ha : HasO R va o) (wo : WfM o) (k : Int) :
    Fn Tryd.prog 36 #[va, i64 k] [R] (fun r Q => r = .tuple #[i64 (sqN o k), i64 (sqE o k)] ∧ Q = [R]) := by
  have hth := fun b9 => thereK R b9 [va] [o] 1 rfl rfl (by omega) (fun k v o h1 h2 => by
    match k, h1, h2 with
    | 0, h1, h2 => injection h1 with h1; injection h2 with h2; subst h1 h2; exact ha)
  have hsa := ha.side
  have hwa := wo.side
  obtain ⟨ca, rfl⟩ := ha.ptr
  by_cases h0 : sideO o = 0
  · have hE : sqE o k = 1 := if_pos h0
    have hN : sqN o k = 0 := by unfold sqN; rw [hE]; rfl
    have hf : thereF 1 (sidesL [o]) = false := thereF_f (k := 0) (by omega) h0
    rw [hf] at hth
    rw [hE, hN]
    refine Fn.mk2 Tryd.func36 rfl rfl fun w0 F => ?_
    (refine G.seq ?_; refine G.region ?_; refine GO.assign rfl rfl ?_; refine GO.assign rfl rfl ?_; refine GO.nil ?_; refine kthen_n ?_; refine G.seq ?_; refine G.block ?_; refine G.seq ?_; refine G.region ?_; refine GO.move rfl rfl ?_)
    refine GO.buildSlice1 rfl rfl (by simp [Value.cells]) rfl ⟨by omega, by omega⟩ fun b9 => ?_
    rw [show putParts [Value.pointer ca] = [.pointer ca] by simp [putParts, Value.cells]]
    refine GO.call1 rfl rfl (hth b9) (Tks.c (Tk.t Tk.h) (Tks.c Tk.h Tks.n)) ?_
    rintro _ _ ⟨rfl, rfl⟩
    (refine GO.not rfl rfl ?_; refine GO.assign rfl rfl ?_; refine GO.nil ?_; refine kthen_n ?_; refine G.condT rfl rfl ?_; refine G.seq ?_; refine G.region ?_; refine GO.assign rfl rfl ?_; refine GO.assign rfl rfl ?_; refine GO.nil ?_; refine kthen_n ?_; refine G.ret ?_; refine kblock_r ?_; refine kthen_r ?_)
    refine KF2.r2 rfl (RV.t rfl) (RV.t rfl) ⟨rfl, rfl⟩ (ImpS.sb ?_)
    ((refine Sb.c Tk.h ?_); (refine Sb.s ?_; exact Sb.r))
  have ht : thereF 1 (sidesL [o]) = true := thereF_t fun k hk => by
    match k, hk with
    | 0, _ => exact h0
  rw [ht] at hth
  by_cases h1 : k < 1
  · have hE : sqE o k = 5 := by unfold sqE; rw [if_neg h0, if_pos h1]
    have hN : sqN o k = 0 := by unfold sqN; rw [hE]; rfl
    have d1 : decide (k < 1) = true := decide_eq_true h1
    rw [hE, hN]
    refine Fn.mk2 Tryd.func36 rfl rfl fun w0 F => ?_
    (refine G.seq ?_; refine G.region ?_; refine GO.assign rfl rfl ?_; refine GO.assign rfl rfl ?_; refine GO.nil ?_; refine kthen_n ?_; refine G.seq ?_; refine G.block ?_; refine G.seq ?_; refine G.region ?_; refine GO.move rfl rfl ?_)
    refine GO.buildSlice1 rfl rfl (by simp [Value.cells]) rfl ⟨by omega, by omega⟩ fun b9 => ?_
    rw [show putParts [Value.pointer ca] = [.pointer ca] by simp [putParts, Value.cells]]
    refine GO.call1 rfl rfl (hth b9) (Tks.c (Tk.t Tk.h) (Tks.c Tk.h Tks.n)) ?_
    rintro _ _ ⟨rfl, rfl⟩
    (refine GO.not rfl rfl ?_; refine GO.assign rfl rfl ?_; refine GO.nil ?_; refine kthen_n ?_; refine G.condF rfl rfl ?_; refine G.seq ?_; refine G.region ?_; refine GO.move rfl rfl ?_; refine GO.lti rfl rfl rfl ?_; refine GO.move rfl rfl ?_; refine GO.gF rfl rfl rfl (by assumption) ?_; refine GO.gF rfl rfl rfl (by assumption) ?_; refine GO.gF rfl rfl rfl (by assumption) ?_; refine GO.gF rfl rfl rfl (by assumption) ?_; refine GO.gF rfl rfl rfl (by assumption) ?_; refine GO.pickTa rfl rfl (by assumption) rfl ?_; refine GO.assign rfl rfl ?_; refine GO.nil ?_; refine kthen_n ?_; refine G.condT rfl rfl ?_; refine G.seq ?_; refine G.region ?_; refine GO.assign rfl rfl ?_; refine GO.assign rfl rfl ?_; refine GO.nil ?_; refine kthen_n ?_; refine G.ret ?_; refine kblock_r ?_; refine kthen_r ?_)
    refine KF2.r2 rfl (RV.t rfl) (RV.t rfl) ⟨rfl, rfl⟩ (ImpS.sb ?_)
    ((refine Sb.c Tk.h ?_); (refine Sb.s ?_; exact Sb.r))
  have d1 : decide (k < 1) = false := decide_eq_false h1
  by_cases h2 : (sideO o : Int) % k = 0
  · have hE : sqE o k = 0 := by unfold sqE; rw [if_neg h0, if_neg h1, if_pos h2]
    have hN : ((sqN o k : Nat) : Int) = (sideO o : Int) / k := by
      unfold sqN
      rw [if_pos hE, Int.natCast_ediv, Int.toNat_of_nonneg (by omega)]
    have d2 : decide ((sideO o : Int) % k ≠ 0) = false := decide_eq_false (fun h => h h2)
    rw [hE, hN]
    refine Fn.mk2 Tryd.func36 rfl rfl fun w0 F => ?_
    (refine G.seq ?_; refine G.region ?_; refine GO.assign rfl rfl ?_; refine GO.assign rfl rfl ?_; refine GO.nil ?_; refine kthen_n ?_; refine G.seq ?_; refine G.block ?_; refine G.seq ?_; refine G.region ?_; refine GO.move rfl rfl ?_)
    refine GO.buildSlice1 rfl rfl (by simp [Value.cells]) rfl ⟨by omega, by omega⟩ fun b9 => ?_
    rw [show putParts [Value.pointer ca] = [.pointer ca] by simp [putParts, Value.cells]]
    refine GO.call1 rfl rfl (hth b9) (Tks.c (Tk.t Tk.h) (Tks.c Tk.h Tks.n)) ?_
    rintro _ _ ⟨rfl, rfl⟩
    (refine GO.not rfl rfl ?_; refine GO.assign rfl rfl ?_; refine GO.nil ?_; refine kthen_n ?_; refine G.condF rfl rfl ?_; refine G.seq ?_; refine G.region ?_; refine GO.move rfl rfl ?_; refine GO.lti rfl rfl rfl ?_; refine GO.move rfl rfl ?_; refine GO.gT rfl rfl (by assumption) ?_; refine GO.move rfl rfl ?_; refine GO.gT rfl rfl (by assumption) ?_)
    refine GO.call1 rfl rfl (hsa) (Tks.c Tk.h Tks.n) ?_
    rintro _ _ ⟨rfl, rfl⟩
    (refine GO.gT rfl rfl (by assumption) ?_; refine GO.move rfl rfl ?_; refine GO.gT rfl rfl (by assumption) ?_; refine GO.remi rfl rfl rfl (by omega) ?_; refine GO.gT rfl rfl (by assumption) ?_; refine GO.nei rfl rfl rfl ?_; refine GO.pickFa rfl rfl (by assumption) rfl ?_; refine GO.assign rfl rfl ?_; refine GO.nil ?_; refine kthen_n ?_; refine G.condF rfl (by assumption) ?_; refine G.skip ?_; refine kblock_n ?_; refine kthen_n ?_; refine G.seq ?_; refine G.region ?_; refine GO.move rfl rfl ?_)
    refine GO.call1 rfl rfl (hsa) (Tks.c Tk.h Tks.n) ?_
    rintro _ _ ⟨rfl, rfl⟩
    (refine GO.move rfl rfl ?_; refine GO.quoi rfl rfl rfl (by omega) ?_; refine GO.assign rfl rfl ?_; refine GO.assign rfl rfl ?_; refine GO.nil ?_; refine kthen_n ?_; refine G.ret ?_)
    refine KF2.r2 rfl (RV.t rfl) (RV.t rfl) ⟨rfl, rfl⟩ (ImpS.sb ?_)
    ((refine Sb.c Tk.h ?_); (refine Sb.s ?_; exact Sb.r))
  · have hE : sqE o k = 5 := by unfold sqE; rw [if_neg h0, if_neg h1, if_neg h2]
    have hN : sqN o k = 0 := by unfold sqN; rw [hE]; rfl
    have d2 : decide ((sideO o : Int) % k ≠ 0) = true := decide_eq_true h2
    rw [hE, hN]
    refine Fn.mk2 Tryd.func36 rfl rfl fun w0 F => ?_
    (refine G.seq ?_; refine G.region ?_; refine GO.assign rfl rfl ?_; refine GO.assign rfl rfl ?_; refine GO.nil ?_; refine kthen_n ?_; refine G.seq ?_; refine G.block ?_; refine G.seq ?_; refine G.region ?_; refine GO.move rfl rfl ?_)
    refine GO.buildSlice1 rfl rfl (by simp [Value.cells]) rfl ⟨by omega, by omega⟩ fun b9 => ?_
    rw [show putParts [Value.pointer ca] = [.pointer ca] by simp [putParts, Value.cells]]
    refine GO.call1 rfl rfl (hth b9) (Tks.c (Tk.t Tk.h) (Tks.c Tk.h Tks.n)) ?_
    rintro _ _ ⟨rfl, rfl⟩
    (refine GO.not rfl rfl ?_; refine GO.assign rfl rfl ?_; refine GO.nil ?_; refine kthen_n ?_; refine G.condF rfl rfl ?_; refine G.seq ?_; refine G.region ?_; refine GO.move rfl rfl ?_; refine GO.lti rfl rfl rfl ?_; refine GO.move rfl rfl ?_; refine GO.gT rfl rfl (by assumption) ?_; refine GO.move rfl rfl ?_; refine GO.gT rfl rfl (by assumption) ?_)
    refine GO.call1 rfl rfl (hsa) (Tks.c Tk.h Tks.n) ?_
    rintro _ _ ⟨rfl, rfl⟩
    (refine GO.gT rfl rfl (by assumption) ?_; refine GO.move rfl rfl ?_; refine GO.gT rfl rfl (by assumption) ?_; refine GO.remi rfl rfl rfl (by omega) ?_; refine GO.gT rfl rfl (by assumption) ?_; refine GO.nei rfl rfl rfl ?_; refine GO.pickFa rfl rfl (by assumption) rfl ?_; refine GO.assign rfl rfl ?_; refine GO.nil ?_; refine kthen_n ?_; refine G.condT rfl (by assumption) ?_; refine G.seq ?_; refine G.region ?_; refine GO.assign rfl rfl ?_; refine GO.assign rfl rfl ?_; refine GO.nil ?_; refine kthen_n ?_; refine G.ret ?_; refine kblock_r ?_; refine kthen_r ?_)
    refine KF2.r2 rfl (RV.t rfl) (RV.t rfl) ⟨rfl, rfl⟩ (ImpS.sb ?_)
    ((refine Sb.c Tk.h ?_); (refine Sb.s ?_; exact Sb.r))
set_option maxHeartbeats 8000000 in
theorem pick_spec (q : HP) (hq : Tab q) (R T : HP) (va : Value) (s : Nat) (A : Nat → Nat → Bool) (ha : HasO R va (some (s, A))) (hA : ∀ r c, A r c = true → r < s ∧ c < s) (n : Nat) (h1 : 1 ≤ n) (h2 : n ≤ 1024) (fn : Go.Fn) (caps : Array Value) (g : Nat × Nat → Option (Nat × Nat))
    (hat : ∀ r c : Nat, r < s → c < s → FnV Tryd.prog (.func fn #[] caps) [i64 (r : Nat), i64 (c : Nat)] [T] (fun v Q => (∃ x y : Nat, ∃ ok : Bool, v = .tuple #[i64 (x : Nat), i64 (y : Nat), .bool ok] ∧ (ok = true → x < n ∧ y < n ∧ g (r, c) = some (x, y)) ∧ (ok = false → g (r, c) = none)) ∧ Q = [T])) :
    Fn Tryd.prog 37 #[va, i64 (n : Nat), .func fn #[] caps] [R, T, q] (fun r Q => ∃ b, r = ptrV b ∧ Q = [mat n (setC noX (pickL g (cellsX A) (cellsX A).length)) b, R, T, q]) := by
  have hca := ha.cells
  change Fn _ _ _ _ (fun r Q => ∃ b3 v', _ ∧ Q = [bkM A b3 v', _]) at hca
  refine Fn.mk2 Tryd.func37 rfl rfl fun w0 F => ?_
  (refine G.seq ?_; refine G.region ?_; refine GO.box rfl rfl rfl fun b5 => ?_; refine GO.assign rfl rfl ?_; refine GO.nil ?_; refine kthen_n ?_; refine G.seq ?_; refine G.region ?_; refine GO.move rfl rfl ?_)
  refine GO.call1 rfl rfl (new_spec ((n : Nat) : Int)) Tks.n ?_
  rintro _ _ (⟨n', b', hn, hn1, hn2, rfl, rfl⟩ | ⟨hno, _, _⟩)
  rotate_left 1
  · exact absurd ⟨by omega, by omega⟩ hno
  obtain rfl : n = n' := by omega
  (refine GO.move rfl rfl ?_; refine GO.extract rfl rfl rfl ?_; refine GO.extract rfl rfl rfl ?_; refine GO.alloc rfl fun b7 => ?_; refine GO.store1 rfl rfl rfl Tk.h (by decide) ?_; refine GO.assign rfl rfl ?_; refine GO.nil ?_; refine kthen_n ?_; refine G.seq ?_; refine G.seq ?_; refine G.region ?_; refine GO.move rfl rfl ?_)
  refine GO.call1 rfl rfl (hca) (Tks.c (Tk.t (Tk.t (Tk.t Tk.h))) Tks.n) ?_
  rintro _ _ ⟨bI, vI, rfl, rfl⟩
  (refine GO.nil ?_; refine kthen_n ?_; refine G.block ?_)
  have hz : setC noX (pickL g (cellsX A) 0) = noX := by rw [pickL_zero]; exact setC_nil _
  refine G.rangeF (F := R :: F) (psl := [21, 22]) (v := .func (.func 57) #[] #[.pointer (some ⟨bI, 0, none⟩)]) (xs := (cellsX A).map celV) (Sh := [q]) (Gm := [bkM A bI vI])
    (fun k => [mat n (setC noX (pickL g (cellsX A) k)) b', T, pt b5 (row [.func fn #[] caps] 71), pt b7 (row [ptrV b'] 27)])
    (fun _ _ => [pur False]) (fun _ h => by cases h) rfl (fun u hu => by obtain ⟨p, _, rfl⟩ := List.mem_map.1 hu; rfl) rfl (mcells_seq q hq A bI vI) ?_ (fun lp Lr Lb w1 F1 k uu huu => ?_) ?_ ?_
  · rw [hz]
    (refine Tks.c (Tk.t (Tk.t (Tk.t Tk.h))) ?_; refine Tks.c (Tk.t (Tk.t (Tk.t (Tk.t Tk.h)))) ?_; refine Tks.c (Tk.t (Tk.t (Tk.t Tk.h))) ?_; refine Tks.c (Tk.t (Tk.t Tk.h)) ?_; refine Tks.c (Tk.t (Tk.t Tk.h)) ?_; exact Tks.n)
  · obtain ⟨p, hp, rfl⟩ : ∃ p, (cellsX A)[k]? = some p ∧ uu = celV p := by
      rw [List.getElem?_map] at huu
      cases hc : (cellsX A)[k]? with
      | none => simp [hc] at huu
      | some p => simp [hc] at huu; exact ⟨p, rfl, huu.symm⟩
    have hpA := hA _ _ (cellsX_true (List.mem_of_getElem? hp))
    have hno := fun h => pickL_no (f := g) hp h
    have hyes := fun x h => pickL_yes (f := g) (x := x) hp h
    obtain ⟨i, j⟩ := p
    have hfn := hat i j hpA.1 hpA.2
    change G _ _ _ _ ((22, i64 (j : Nat)) :: (21, i64 (i : Nat)) :: _) (mat n (setC noX (pickL g (cellsX A) k)) b' :: T :: pt b5 (row [.func fn #[] caps] 71) :: pt b7 (row [ptrV b'] 27) :: q :: F1)
    (refine G.seq ?_; refine G.region ?_; refine GO.assign rfl rfl ?_; refine GO.nil ?_; refine kthen_n ?_; refine G.region ?_; refine GO.assign rfl rfl ?_; refine GO.nil ?_)
    refine kA_n ?_
    (refine G.block ?_; refine G.seq ?_; refine G.region ?_; refine GO.load1 rfl rfl rfl (Tk.t (Tk.t Tk.h)) rfl ?_; refine GO.move rfl rfl ?_; refine GO.move rfl rfl ?_)
    refine GO.callV2 rfl rfl rfl rfl (hfn) (Tks.c (Tk.t Tk.h) Tks.n) ?_
    rintro _ _ ⟨⟨x, y, ok, rfl, hok, hng⟩, rfl⟩
    cases ok with
    | false =>
      rw [hno (hng rfl)]
      (refine GO.move rfl rfl ?_; refine GO.extract rfl rfl rfl ?_; refine GO.extract rfl rfl rfl ?_; refine GO.extract rfl rfl rfl ?_; refine GO.assign rfl rfl ?_; refine GO.assign rfl rfl ?_; refine GO.assign rfl rfl ?_; refine GO.nil ?_; refine kthen_n ?_; refine G.seq ?_; refine G.region ?_; refine GO.move rfl rfl ?_; refine GO.nil ?_; refine kthen_n ?_; refine G.condF rfl rfl ?_; refine G.skip ?_; refine kblock_n ?_)
      refine kB_n (ImpS.sb ?_)
      ((refine Sb.c (Tk.t Tk.h) ?_; refine Sb.c Tk.h ?_; refine Sb.c Tk.h ?_; refine Sb.c Tk.h ?_; refine Sb.c Tk.h ?_); (exact Sb.r))
    | true =>
      obtain ⟨hx, hy, hg⟩ := hok rfl
      rw [hyes _ hg, setC_snoc]
      (refine GO.move rfl rfl ?_; refine GO.extract rfl rfl rfl ?_; refine GO.extract rfl rfl rfl ?_; refine GO.extract rfl rfl rfl ?_; refine GO.assign rfl rfl ?_; refine GO.assign rfl rfl ?_; refine GO.assign rfl rfl ?_; refine GO.nil ?_; refine kthen_n ?_; refine G.seq ?_; refine G.region ?_; refine GO.move rfl rfl ?_; refine GO.nil ?_; refine kthen_n ?_; refine G.condT rfl rfl ?_; refine G.region ?_; refine GO.load1 rfl rfl rfl (Tk.t (Tk.t (Tk.t Tk.h))) rfl ?_; refine GO.move rfl rfl ?_; refine GO.move rfl rfl ?_)
      refine GO.call3 rfl rfl rfl rfl (set_mat n b' (setC noX (pickL g (cellsX A) k)) (x : Int) (y : Int) h2) (Tks.c (Tk.t Tk.h) Tks.n) ?_
      rintro _ _ (⟨r, c, hr, hc, hr3, hc3, rfl, rfl⟩ | ⟨hno, _, _⟩)
      rotate_left 1
      · exfalso
        unfold inM at hno
        simp only [Bool.and_eq_false_iff, decide_eq_false_iff_not] at hno
        omega
      obtain rfl : r = x := by omega
      obtain rfl : c = y := by omega
      (refine GO.nil ?_; refine kblock_n ?_)
      refine kB_n (ImpS.sb ?_)
      ((refine Sb.c Tk.h ?_; refine Sb.c Tk.h ?_; refine Sb.c Tk.h ?_; refine Sb.c Tk.h ?_; refine Sb.c Tk.h ?_); (exact Sb.r))
  · rw [List.length_map]
    change G _ _ _ _ _ (mat n (setC noX (pickL g (cellsX A) (cellsX A).length)) b' :: T :: pt b5 (row [.func fn #[] caps] 71) :: pt b7 (row [ptrV b'] 27) :: q :: bkM A bI vI :: R :: F)
    (refine G.seq ?_; refine G.region ?_; refine GO.load1 rfl rfl rfl (Tk.t (Tk.t (Tk.t Tk.h))) rfl ?_; refine GO.assign rfl rfl ?_; refine GO.nil ?_; refine kthen_n ?_; refine G.ret ?_)
    refine KF2.r1 rfl (RV.t rfl) ⟨_, rfl, rfl⟩ (ImpS.sb ?_)
    ((refine Sb.c Tk.h ?_; refine Sb.c (Tk.t (Tk.t (Tk.t (Tk.t (Tk.t Tk.h))))) ?_; refine Sb.c Tk.h ?_; refine Sb.c (Tk.t (Tk.t Tk.h)) ?_); (refine Sb.s ?_; refine Sb.s ?_; refine Sb.s ?_; exact Sb.r))
  · intro i jc hi
    exact G.pur fun h => h.elim
end Go.Proofs.YtebchcongefbcaaDoor
namespace Go.Proofs.YtebchcongefbcaaDoor
open Go
attribute [local irreducible] G GO GR GT Fn FnV pt init exs pur sat own ImpS mat posL allV orL restX cellsX cellsV pickL setC sqX outX innX
abbrev sqT (b5 b6 b7 q i j : Nat) : HP := star [pt b5 (row [i64 (q : Nat)] 3), pt b6 (row [i64 (i : Nat)] 3), pt b7 (row [i64 (j : Nat)] 3)]
set_option maxHeartbeats 4000000 in
theorem sqc_spec (b5 b6 b7 q i j r c : Nat) (hq : 1 ≤ q) (hr : r ≤ 1024) (hc : c ≤ 1024) : Fn Tryd.prog 38 #[i64 (r : Nat), i64 (c : Nat), ptrV b5, ptrV b6, ptrV b7] [sqT b5 b6 b7 q i j]
    (fun v Q => v = .tuple #[i64 ((r % q : Nat) : Int), i64 ((c % q : Nat) : Int), .bool (decide (r / q = i) && decide (c / q = j))] ∧ Q = [sqT b5 b6 b7 q i j]) := by
  have e1 : ((r % q : Nat) : Int) = (r : Int) % (q : Int) := Int.natCast_emod _ _
  have e2 : ((c % q : Nat) : Int) = (c : Int) % (q : Int) := Int.natCast_emod _ _
  have e3 : ((r / q : Nat) : Int) = (r : Int) / (q : Int) := Int.natCast_ediv _ _
  have e4 : ((c / q : Nat) : Int) = (c : Int) / (q : Int) := Int.natCast_ediv _ _
  have d3 : decide ((c : Int) / (q : Int) = (j : Int)) = decide (c / q = j) := by rw [← e4]; exact decide_eq_decide.2 (by omega)
  rw [e1, e2]
  refine Fn.mk2 Tryd.func38 rfl rfl fun w0 F => ?_
  refine G.flat ?_
  change G _ _ _ _ _ (pt b5 (row [i64 (q : Nat)] 3) :: pt b6 (row [i64 (i : Nat)] 3) :: pt b7 (row [i64 (j : Nat)] 3) :: F)
  by_cases h : r / q = i
  · have d1 : decide ((r : Int) / (q : Int) = (i : Int)) = true := decide_eq_true (by rw [← e3]; omega)
    rw [decide_eq_true h, Bool.true_and, ← d3]
    (refine G.seq ?_; refine G.region ?_; refine GO.assign rfl rfl ?_; refine GO.assign rfl rfl ?_; refine GO.assign rfl rfl ?_; refine GO.nil ?_; refine kthen_n ?_; refine G.seq ?_)
    refine G.draw 21 (by kernel_rfl) ?_
    ((apply GQ.step; focus (intro Z; refine GO.move rfl rfl ?_; exact KQ.z)); (apply GQ.step; focus (intro Z; refine GO.load1 rfl rfl rfl Tk.h rfl ?_; exact KQ.z)); (apply GQ.step; focus (intro Z; refine GO.remi rfl rfl rfl (by omega) ?_; exact KQ.z)); (apply GQ.step; focus (intro Z; refine GO.move rfl rfl ?_; exact KQ.z)); (apply GQ.step; focus (intro Z; refine GO.load1 rfl rfl rfl Tk.h rfl ?_; exact KQ.z)); (apply GQ.step; focus (intro Z; refine GO.remi rfl rfl rfl (by omega) ?_; exact KQ.z)); (apply GQ.step; focus (intro Z; refine GO.move rfl rfl ?_; exact KQ.z)); (apply GQ.step; focus (intro Z; refine GO.load1 rfl rfl rfl Tk.h rfl ?_; exact KQ.z)); (apply GQ.step; focus (intro Z; refine GO.quoi rfl rfl rfl (by omega) ?_; exact KQ.z)); (apply GQ.step; focus (intro Z; refine GO.load1 rfl rfl rfl (Tk.t Tk.h) rfl ?_; exact KQ.z)); (apply GQ.step; focus (intro Z; refine GO.eqi rfl rfl rfl ?_; exact KQ.z)); (apply GQ.step; focus (intro Z; refine GO.move rfl rfl ?_; exact KQ.z)); (apply GQ.step; focus (intro Z; refine GO.gT rfl rfl (by assumption) ?_; refine GO.move rfl rfl ?_; exact KQ.z)); (apply GQ.step; focus (intro Z; refine GO.gT rfl rfl (by assumption) ?_; refine GO.load1 rfl rfl rfl Tk.h rfl ?_; exact KQ.z)); (apply GQ.step; focus (intro Z; refine GO.gT rfl rfl (by assumption) ?_; refine GO.quoi rfl rfl rfl (by omega) ?_; exact KQ.z)); (apply GQ.step; focus (intro Z; refine GO.gT rfl rfl (by assumption) ?_; refine GO.load1 rfl rfl rfl (Tk.t (Tk.t Tk.h)) rfl ?_; exact KQ.z)); (apply GQ.step; focus (intro Z; refine GO.gT rfl rfl (by assumption) ?_; refine GO.eqi rfl rfl rfl ?_; exact KQ.z)); (apply GQ.step; focus (intro Z; refine GO.pickTa rfl rfl (by assumption) rfl ?_; exact KQ.z)); (apply GQ.step; focus (intro Z; refine GO.assign rfl rfl ?_; exact KQ.z)); (apply GQ.step; focus (intro Z; refine GO.assign rfl rfl ?_; exact KQ.z)); (apply GQ.step; focus (intro Z; refine GO.assign rfl rfl ?_; exact KQ.z)); refine GQ.nil ?_)
    (refine GO.nil ?_; refine kthen_n ?_; refine G.ret ?_)
    refine KF2.r3 rfl (RV.t rfl) (RV.t rfl) (RV.t rfl) ⟨rfl, rfl⟩ (ImpS.flat (ImpS.sb ?_))
    ((refine Sb.c Tk.h ?_; refine Sb.c Tk.h ?_; refine Sb.c Tk.h ?_); (exact Sb.r))
  · have d1 : decide ((r : Int) / (q : Int) = (i : Int)) = false := decide_eq_false (by rw [← e3]; omega)
    rw [decide_eq_false h, Bool.false_and]
    (refine G.seq ?_; refine G.region ?_; refine GO.assign rfl rfl ?_; refine GO.assign rfl rfl ?_; refine GO.assign rfl rfl ?_; refine GO.nil ?_; refine kthen_n ?_; refine G.seq ?_)
    refine G.draw 21 (by kernel_rfl) ?_
    ((apply GQ.step; focus (intro Z; refine GO.move rfl rfl ?_; exact KQ.z)); (apply GQ.step; focus (intro Z; refine GO.load1 rfl rfl rfl Tk.h rfl ?_; exact KQ.z)); (apply GQ.step; focus (intro Z; refine GO.remi rfl rfl rfl (by omega) ?_; exact KQ.z)); (apply GQ.step; focus (intro Z; refine GO.move rfl rfl ?_; exact KQ.z)); (apply GQ.step; focus (intro Z; refine GO.load1 rfl rfl rfl Tk.h rfl ?_; exact KQ.z)); (apply GQ.step; focus (intro Z; refine GO.remi rfl rfl rfl (by omega) ?_; exact KQ.z)); (apply GQ.step; focus (intro Z; refine GO.move rfl rfl ?_; exact KQ.z)); (apply GQ.step; focus (intro Z; refine GO.load1 rfl rfl rfl Tk.h rfl ?_; exact KQ.z)); (apply GQ.step; focus (intro Z; refine GO.quoi rfl rfl rfl (by omega) ?_; exact KQ.z)); (apply GQ.step; focus (intro Z; refine GO.load1 rfl rfl rfl (Tk.t Tk.h) rfl ?_; exact KQ.z)); (apply GQ.step; focus (intro Z; refine GO.eqi rfl rfl rfl ?_; exact KQ.z)); (apply GQ.step; focus (intro Z; refine GO.move rfl rfl ?_; exact KQ.z)); (apply GQ.step; focus (intro Z; refine GO.gF rfl rfl rfl (by assumption) ?_; exact KQ.z)); (apply GQ.step; focus (intro Z; refine GO.gF rfl rfl rfl (by assumption) ?_; exact KQ.z)); (apply GQ.step; focus (intro Z; refine GO.gF rfl rfl rfl (by assumption) ?_; exact KQ.z)); (apply GQ.step; focus (intro Z; refine GO.gF rfl rfl rfl (by assumption) ?_; exact KQ.z)); (apply GQ.step; focus (intro Z; refine GO.gF rfl rfl rfl (by assumption) ?_; exact KQ.z)); (apply GQ.step; focus (intro Z; refine GO.pickFa rfl rfl (by assumption) rfl ?_; exact KQ.z)); (apply GQ.step; focus (intro Z; refine GO.assign rfl rfl ?_; exact KQ.z)); (apply GQ.step; focus (intro Z; refine GO.assign rfl rfl ?_; exact KQ.z)); (apply GQ.step; focus (intro Z; refine GO.assign rfl rfl ?_; exact KQ.z)); refine GQ.nil ?_)
    (refine GO.nil ?_; refine kthen_n ?_; refine G.ret ?_)
    refine KF2.r3 rfl (RV.t rfl) (RV.t rfl) (RV.t rfl) ⟨rfl, rfl⟩ (ImpS.flat (ImpS.sb ?_))
    ((refine Sb.c Tk.h ?_; refine Sb.c Tk.h ?_; refine Sb.c Tk.h ?_); (exact Sb.r))
set_option maxHeartbeats 4000000 in
theorem outc_spec (b3 q r c : Nat) (hq : 1 ≤ q) (hr : r ≤ 1024) (hc : c ≤ 1024) : Fn Tryd.prog 39 #[i64 (r : Nat), i64 (c : Nat), ptrV b3] [pt b3 (row [i64 (q : Nat)] 3)]
    (fun v Q => v = .tuple #[i64 ((r / q : Nat) : Int), i64 ((c / q : Nat) : Int), .bool true] ∧ Q = [pt b3 (row [i64 (q : Nat)] 3)]) := by
  have e1 : ((r / q : Nat) : Int) = (r : Int) / (q : Int) := Int.natCast_ediv _ _
  have e2 : ((c / q : Nat) : Int) = (c : Int) / (q : Int) := Int.natCast_ediv _ _
  rw [e1, e2]
  refine Fn.mk2 Tryd.func39 rfl rfl fun w0 F => ?_
  (refine G.seq ?_; refine G.region ?_; refine GO.assign rfl rfl ?_; refine GO.assign rfl rfl ?_; refine GO.assign rfl rfl ?_; refine GO.nil ?_; refine kthen_n ?_; refine G.seq ?_)
  refine G.draw 9 (by kernel_rfl) ?_
  ((apply GQ.step; focus (intro Z; refine GO.move rfl rfl ?_; exact KQ.z)); (apply GQ.step; focus (intro Z; refine GO.load1 rfl rfl rfl Tk.h rfl ?_; exact KQ.z)); (apply GQ.step; focus (intro Z; refine GO.quoi rfl rfl rfl (by omega) ?_; exact KQ.z)); (apply GQ.step; focus (intro Z; refine GO.move rfl rfl ?_; exact KQ.z)); (apply GQ.step; focus (intro Z; refine GO.load1 rfl rfl rfl Tk.h rfl ?_; exact KQ.z)); (apply GQ.step; focus (intro Z; refine GO.quoi rfl rfl rfl (by omega) ?_; exact KQ.z)); (apply GQ.step; focus (intro Z; refine GO.assign rfl rfl ?_; exact KQ.z)); (apply GQ.step; focus (intro Z; refine GO.assign rfl rfl ?_; exact KQ.z)); (apply GQ.step; focus (intro Z; refine GO.assign rfl rfl ?_; exact KQ.z)); refine GQ.nil ?_)
  (refine GO.nil ?_; refine kthen_n ?_; refine G.ret ?_)
  refine KF2.r3 rfl (RV.t rfl) (RV.t rfl) (RV.t rfl) ⟨rfl, rfl⟩ (ImpS.sb ?_)
  ((refine Sb.c Tk.h ?_); (exact Sb.r))
set_option maxHeartbeats 4000000 in
theorem innc_spec (b3 q r c : Nat) (hq : 1 ≤ q) : Fn Tryd.prog 40 #[i64 (r : Nat), i64 (c : Nat), ptrV b3] [pt b3 (row [i64 (q : Nat)] 3)]
    (fun v Q => v = .tuple #[i64 ((r % q : Nat) : Int), i64 ((c % q : Nat) : Int), .bool true] ∧ Q = [pt b3 (row [i64 (q : Nat)] 3)]) := by
  have e1 : ((r % q : Nat) : Int) = (r : Int) % (q : Int) := Int.natCast_emod _ _
  have e2 : ((c % q : Nat) : Int) = (c : Int) % (q : Int) := Int.natCast_emod _ _
  rw [e1, e2]
  refine Fn.mk2 Tryd.func40 rfl rfl fun w0 F => ?_
  (refine G.seq ?_; refine G.region ?_; refine GO.assign rfl rfl ?_; refine GO.assign rfl rfl ?_; refine GO.assign rfl rfl ?_; refine GO.nil ?_; refine kthen_n ?_; refine G.seq ?_)
  refine G.draw 9 (by kernel_rfl) ?_
  ((apply GQ.step; focus (intro Z; refine GO.move rfl rfl ?_; exact KQ.z)); (apply GQ.step; focus (intro Z; refine GO.load1 rfl rfl rfl Tk.h rfl ?_; exact KQ.z)); (apply GQ.step; focus (intro Z; refine GO.remi rfl rfl rfl (by omega) ?_; exact KQ.z)); (apply GQ.step; focus (intro Z; refine GO.move rfl rfl ?_; exact KQ.z)); (apply GQ.step; focus (intro Z; refine GO.load1 rfl rfl rfl Tk.h rfl ?_; exact KQ.z)); (apply GQ.step; focus (intro Z; refine GO.remi rfl rfl rfl (by omega) ?_; exact KQ.z)); (apply GQ.step; focus (intro Z; refine GO.assign rfl rfl ?_; exact KQ.z)); (apply GQ.step; focus (intro Z; refine GO.assign rfl rfl ?_; exact KQ.z)); (apply GQ.step; focus (intro Z; refine GO.assign rfl rfl ?_; exact KQ.z)); refine GQ.nil ?_)
  (refine GO.nil ?_; refine kthen_n ?_; refine G.ret ?_)
  refine KF2.r3 rfl (RV.t rfl) (RV.t rfl) (RV.t rfl) ⟨rfl, rfl⟩ (ImpS.sb ?_)
  ((refine Sb.c Tk.h ?_); (exact Sb.r))
end Go.Proofs.YtebchcongefbcaaDoor
namespace Go.Proofs.YtebchcongefbcaaDoor
open Go
def squE (o : OptM) (k i j : Int) : Int := if sqE o k = 0 then (if i < 0 then 2 else if j < 0 then 2 else if (sqN o k : Int) ≤ i then 2 else if (sqN o k : Int) ≤ j then 2 else 0) else sqE o k
def squO (o : OptM) (k i j : Int) : OptM := if squE o k i j = 0 then some (k.toNat, sqX k.toNat i.toNat j.toNat (setO o)) else none
def outO (o : OptM) (k : Int) : OptM := if sqE o k = 0 then some (sqN o k, outX k.toNat (setO o)) else none
def innO (o : OptM) (k : Int) : OptM := if sqE o k = 0 then some (k.toNat, innX k.toNat (setO o)) else none
theorem sqN_at {o : OptM} {n m : Nat} (h : sqE o n = 0) (hn : 1 ≤ n) (hm : sideO o = m * n) : sqN o n = m := by
  unfold sqN
  rw [if_pos h, Int.toNat_natCast, hm, Nat.mul_div_cancel _ (by omega)]
theorem WfM.squ (o : OptM) (k i j : Int) (wo : WfM o) : WfM (squO o k i j) := by
  unfold squO
  split
  · rename_i h
    have h0 : sqE o k = 0 := by
      unfold squE at h
      split at h
      · assumption
      · exact absurd h (by assumption)
    obtain ⟨_, n, m, rfl, hn, hm, hm1⟩ := sqE_ok h0
    intro s X e
    injection e with e
    injection e with e1 e2
    subst e1 e2
    rw [Int.toNat_natCast]
    have := wo.side
    have h2 : n ≤ m * n := Nat.le_mul_of_pos_left n hm1
    exact ⟨⟨hn, by omega⟩, sq_in _ _ _ _⟩
  · exact WfM.no
theorem WfM.out (o : OptM) (k : Int) (wo : WfM o) : WfM (outO o k) := by
  unfold outO
  split
  · rename_i h0
    obtain ⟨_, n, m, rfl, hn, hm, hm1⟩ := sqE_ok h0
    rw [sqN_at h0 hn hm]
    intro s X e
    injection e with e
    injection e with e1 e2
    subst e1 e2
    rw [Int.toNat_natCast]
    have := wo.side
    have h2 : m ≤ m * n := Nat.le_mul_of_pos_right m hn
    exact ⟨⟨hm1, by omega⟩, out_in (fun r c h => by rw [← hm]; exact wo.in r c h) hn⟩
  · exact WfM.no
theorem WfM.inn (o : OptM) (k : Int) (wo : WfM o) : WfM (innO o k) := by
  unfold innO
  split
  · rename_i h0
    obtain ⟨_, n, m, rfl, hn, hm, hm1⟩ := sqE_ok h0
    intro s X e
    injection e with e
    injection e with e1 e2
    subst e1 e2
    rw [Int.toNat_natCast]
    have := wo.side
    have h2 : n ≤ m * n := Nat.le_mul_of_pos_left n hm1
    exact ⟨⟨hn, by omega⟩, inn_in hn⟩
  · exact WfM.no
attribute [local irreducible] G GO GR GT Fn FnV pt init exs pur sat own ImpS mat posL allV orL restX cellsX cellsV pickL setC sqX outX innX
set_option maxHeartbeats 8000000 in
theorem kSquareO (q R : HP) (hq : Tab q) (va : Value) (o : OptM) (ha : HasO R va o) (wo : WfM o) (k i j : Int) :
    Fn Tryd.prog 16 #[va, i64 k, i64 i, i64 j] [R, q] (fun r Q => ∃ v p, r = .tuple #[v, i64 (squE o k i j)] ∧ MatO p v (squO o k i j) ∧ Q = [p, R, q]) := by
  have hsq := squares_spec R va o ha wo k
  have bad : ∀ e : Int, squE o k i j = e → e ≠ 0 → squO o k i j = none := fun e h1 h2 => if_neg (by rw [h1]; exact h2)
  by_cases h0 : sqE o k = 0
  · obtain ⟨hs0, n, m, rfl, hn, hm, hm1⟩ := sqE_ok h0
    rw [sqN_at h0 hn hm, h0] at hsq
    have hE0 : squE o n i j = if i < 0 then 2 else if j < 0 then 2 else if (m : Int) ≤ i then 2 else if (m : Int) ≤ j then 2 else 0 := by unfold squE; rw [if_pos h0, sqN_at h0 hn hm]
    have hmw := wo.side
    by_cases h1 : i < 0
    · have hE : squE o n i j = 2 := by rw [hE0, if_pos h1]
      rw [hE, bad 2 hE (by omega)]
      have d1 : decide (i < 0) = true := decide_eq_true h1
      refine Fn.mk2 Tryd.func16 rfl rfl fun w0 F => ?_
      (refine G.seq ?_; refine G.region ?_; refine GO.box rfl rfl rfl fun b5 => ?_; refine GO.box rfl rfl rfl fun b6 => ?_; refine GO.box rfl rfl rfl fun b7 => ?_; refine GO.assign rfl rfl ?_; refine GO.assign rfl rfl ?_; refine GO.nil ?_; refine kthen_n ?_; refine G.seq ?_; refine G.region ?_; refine GO.move rfl rfl ?_; refine GO.load1 rfl rfl rfl (Tk.t (Tk.t Tk.h)) rfl ?_)
      refine GO.call2 rfl rfl rfl (hsq) (Tks.c (Tk.t (Tk.t (Tk.t Tk.h))) Tks.n) ?_
      rintro _ _ ⟨rfl, rfl⟩
      (refine GO.move rfl rfl ?_; refine GO.extract rfl rfl rfl ?_; refine GO.extract rfl rfl rfl ?_; refine GO.assign rfl rfl ?_; refine GO.assign rfl rfl ?_; refine GO.nil ?_; refine kthen_n ?_; refine G.seq ?_; refine G.seq ?_; refine G.region ?_; refine GO.move rfl rfl ?_; refine GO.eqT rfl rfl rfl rfl ?_; refine GO.move rfl rfl ?_; refine GO.gT rfl rfl rfl ?_; refine GO.load1 rfl rfl rfl (Tk.t (Tk.t Tk.h)) rfl ?_; refine GO.gT rfl rfl rfl ?_; refine GO.lti rfl rfl rfl ?_; refine GO.gT rfl rfl rfl ?_; refine GO.move rfl rfl ?_; refine GO.gF rfl rfl rfl (by assumption) ?_; refine GO.gF rfl rfl rfl (by assumption) ?_; refine GO.gT rfl rfl rfl ?_; refine GO.pickTa rfl rfl (by assumption) rfl ?_; refine GO.gT rfl rfl rfl ?_; refine GO.move rfl rfl ?_; refine GO.gF rfl rfl rfl rfl ?_; refine GO.gF rfl rfl rfl rfl ?_; refine GO.gF rfl rfl rfl rfl ?_; refine GO.gT rfl rfl rfl ?_; refine GO.pickT rfl rfl rfl ?_; refine GO.gT rfl rfl rfl ?_; refine GO.move rfl rfl ?_; refine GO.gF rfl rfl rfl rfl ?_; refine GO.gF rfl rfl rfl rfl ?_; refine GO.gF rfl rfl rfl rfl ?_; refine GO.gT rfl rfl rfl ?_; refine GO.pickT rfl rfl rfl ?_; refine GO.pickT rfl rfl rfl ?_; refine GO.nil ?_; refine kthen_n ?_; refine G.condT rfl rfl ?_; refine G.region ?_; refine GO.assign rfl rfl ?_; refine GO.nil ?_; refine kthen_n ?_; refine G.seq ?_; refine G.seq ?_; refine G.region ?_; refine GO.move rfl rfl ?_; refine GO.nei rfl rfl rfl ?_; refine GO.nil ?_; refine kthen_n ?_; refine G.condT rfl rfl ?_; refine G.seq ?_; refine G.region ?_; refine GO.move rfl rfl ?_; refine GO.assign rfl rfl ?_; refine GO.assign rfl rfl ?_; refine GO.nil ?_; refine kthen_n ?_; refine G.ret ?_; refine kthen_r ?_)
      refine KF2.r2 rfl (RV.t rfl) (RV.t rfl) ⟨_, star [], rfl, MatO.nil _, rfl⟩ (ImpS.flat (k := []) (M := R :: q :: F) (ImpS.sb ?_))
      ((refine Sb.c Tk.h ?_; refine Sb.c (Tk.t (Tk.t (Tk.t Tk.h))) ?_); (refine Sb.s ?_; refine Sb.s ?_; refine Sb.s ?_; exact Sb.r))
    have d1 : decide (i < 0) = false := decide_eq_false h1
    by_cases h2 : j < 0
    · have hE : squE o n i j = 2 := by rw [hE0, if_neg h1, if_pos h2]
      rw [hE, bad 2 hE (by omega)]
      have d2 : decide (j < 0) = true := decide_eq_true h2
      refine Fn.mk2 Tryd.func16 rfl rfl fun w0 F => ?_
      (refine G.seq ?_; refine G.region ?_; refine GO.box rfl rfl rfl fun b5 => ?_; refine GO.box rfl rfl rfl fun b6 => ?_; refine GO.box rfl rfl rfl fun b7 => ?_; refine GO.assign rfl rfl ?_; refine GO.assign rfl rfl ?_; refine GO.nil ?_; refine kthen_n ?_; refine G.seq ?_; refine G.region ?_; refine GO.move rfl rfl ?_; refine GO.load1 rfl rfl rfl (Tk.t (Tk.t Tk.h)) rfl ?_)
      refine GO.call2 rfl rfl rfl (hsq) (Tks.c (Tk.t (Tk.t (Tk.t Tk.h))) Tks.n) ?_
      rintro _ _ ⟨rfl, rfl⟩
      (refine GO.move rfl rfl ?_; refine GO.extract rfl rfl rfl ?_; refine GO.extract rfl rfl rfl ?_; refine GO.assign rfl rfl ?_; refine GO.assign rfl rfl ?_; refine GO.nil ?_; refine kthen_n ?_; refine G.seq ?_; refine G.seq ?_; refine G.region ?_; refine GO.move rfl rfl ?_; refine GO.eqT rfl rfl rfl rfl ?_; refine GO.move rfl rfl ?_; refine GO.gT rfl rfl rfl ?_; refine GO.load1 rfl rfl rfl (Tk.t (Tk.t Tk.h)) rfl ?_; refine GO.gT rfl rfl rfl ?_; refine GO.lti rfl rfl rfl ?_; refine GO.gT rfl rfl rfl ?_; refine GO.move rfl rfl ?_; refine GO.gT rfl rfl (by assumption) ?_; refine GO.load1 rfl rfl rfl (Tk.t Tk.h) rfl ?_; refine GO.gT rfl rfl (by assumption) ?_; refine GO.lti rfl rfl rfl ?_; refine GO.gT rfl rfl rfl ?_; refine GO.pickFa rfl rfl (by assumption) rfl ?_; refine GO.gT rfl rfl rfl ?_; refine GO.move rfl rfl ?_; refine GO.gF rfl rfl rfl (by assumption) ?_; refine GO.gF rfl rfl rfl (by assumption) ?_; refine GO.gF rfl rfl rfl (by assumption) ?_; refine GO.gT rfl rfl rfl ?_; refine GO.pickTa rfl rfl (by assumption) rfl ?_; refine GO.gT rfl rfl rfl ?_; refine GO.move rfl rfl ?_; refine GO.gF rfl rfl rfl rfl ?_; refine GO.gF rfl rfl rfl rfl ?_; refine GO.gF rfl rfl rfl rfl ?_; refine GO.gT rfl rfl rfl ?_; refine GO.pickT rfl rfl rfl ?_; refine GO.pickT rfl rfl rfl ?_; refine GO.nil ?_; refine kthen_n ?_; refine G.condT rfl rfl ?_; refine G.region ?_; refine GO.assign rfl rfl ?_; refine GO.nil ?_; refine kthen_n ?_; refine G.seq ?_; refine G.seq ?_; refine G.region ?_; refine GO.move rfl rfl ?_; refine GO.nei rfl rfl rfl ?_; refine GO.nil ?_; refine kthen_n ?_; refine G.condT rfl rfl ?_; refine G.seq ?_; refine G.region ?_; refine GO.move rfl rfl ?_; refine GO.assign rfl rfl ?_; refine GO.assign rfl rfl ?_; refine GO.nil ?_; refine kthen_n ?_; refine G.ret ?_; refine kthen_r ?_)
      refine KF2.r2 rfl (RV.t rfl) (RV.t rfl) ⟨_, star [], rfl, MatO.nil _, rfl⟩ (ImpS.flat (k := []) (M := R :: q :: F) (ImpS.sb ?_))
      ((refine Sb.c Tk.h ?_; refine Sb.c (Tk.t (Tk.t (Tk.t Tk.h))) ?_); (refine Sb.s ?_; refine Sb.s ?_; refine Sb.s ?_; exact Sb.r))
    have d2 : decide (j < 0) = false := decide_eq_false h2
    by_cases h3 : (m : Int) ≤ i
    · have hE : squE o n i j = 2 := by rw [hE0, if_neg h1, if_neg h2, if_pos h3]
      rw [hE, bad 2 hE (by omega)]
      have d3 : decide ((m : Int) ≤ i) = true := decide_eq_true h3
      refine Fn.mk2 Tryd.func16 rfl rfl fun w0 F => ?_
      (refine G.seq ?_; refine G.region ?_; refine GO.box rfl rfl rfl fun b5 => ?_; refine GO.box rfl rfl rfl fun b6 => ?_; refine GO.box rfl rfl rfl fun b7 => ?_; refine GO.assign rfl rfl ?_; refine GO.assign rfl rfl ?_; refine GO.nil ?_; refine kthen_n ?_; refine G.seq ?_; refine G.region ?_; refine GO.move rfl rfl ?_; refine GO.load1 rfl rfl rfl (Tk.t (Tk.t Tk.h)) rfl ?_)
      refine GO.call2 rfl rfl rfl (hsq) (Tks.c (Tk.t (Tk.t (Tk.t Tk.h))) Tks.n) ?_
      rintro _ _ ⟨rfl, rfl⟩
      (refine GO.move rfl rfl ?_; refine GO.extract rfl rfl rfl ?_; refine GO.extract rfl rfl rfl ?_; refine GO.assign rfl rfl ?_; refine GO.assign rfl rfl ?_; refine GO.nil ?_; refine kthen_n ?_; refine G.seq ?_; refine G.seq ?_; refine G.region ?_; refine GO.move rfl rfl ?_; refine GO.eqT rfl rfl rfl rfl ?_; refine GO.move rfl rfl ?_; refine GO.gT rfl rfl rfl ?_; refine GO.load1 rfl rfl rfl (Tk.t (Tk.t Tk.h)) rfl ?_; refine GO.gT rfl rfl rfl ?_; refine GO.lti rfl rfl rfl ?_; refine GO.gT rfl rfl rfl ?_; refine GO.move rfl rfl ?_; refine GO.gT rfl rfl (by assumption) ?_; refine GO.load1 rfl rfl rfl (Tk.t Tk.h) rfl ?_; refine GO.gT rfl rfl (by assumption) ?_; refine GO.lti rfl rfl rfl ?_; refine GO.gT rfl rfl rfl ?_; refine GO.pickFa rfl rfl (by assumption) rfl ?_; refine GO.gT rfl rfl rfl ?_; refine GO.move rfl rfl ?_; refine GO.gT rfl rfl (by assumption) ?_; refine GO.load1 rfl rfl rfl (Tk.t (Tk.t Tk.h)) rfl ?_; refine GO.gT rfl rfl (by assumption) ?_; refine GO.move rfl rfl ?_; refine GO.gT rfl rfl (by assumption) ?_; refine GO.gei rfl rfl rfl ?_; refine GO.gT rfl rfl rfl ?_; refine GO.pickFa rfl rfl (by assumption) rfl ?_; refine GO.gT rfl rfl rfl ?_; refine GO.move rfl rfl ?_; refine GO.gF rfl rfl rfl (by assumption) ?_; refine GO.gF rfl rfl rfl (by assumption) ?_; refine GO.gF rfl rfl rfl (by assumption) ?_; refine GO.gT rfl rfl rfl ?_; refine GO.pickTa rfl rfl (by assumption) rfl ?_; refine GO.pickT rfl rfl rfl ?_; refine GO.nil ?_; refine kthen_n ?_; refine G.condT rfl rfl ?_; refine G.region ?_; refine GO.assign rfl rfl ?_; refine GO.nil ?_; refine kthen_n ?_; refine G.seq ?_; refine G.seq ?_; refine G.region ?_; refine GO.move rfl rfl ?_; refine GO.nei rfl rfl rfl ?_; refine GO.nil ?_; refine kthen_n ?_; refine G.condT rfl rfl ?_; refine G.seq ?_; refine G.region ?_; refine GO.move rfl rfl ?_; refine GO.assign rfl rfl ?_; refine GO.assign rfl rfl ?_; refine GO.nil ?_; refine kthen_n ?_; refine G.ret ?_; refine kthen_r ?_)
      refine KF2.r2 rfl (RV.t rfl) (RV.t rfl) ⟨_, star [], rfl, MatO.nil _, rfl⟩ (ImpS.flat (k := []) (M := R :: q :: F) (ImpS.sb ?_))
      ((refine Sb.c Tk.h ?_; refine Sb.c (Tk.t (Tk.t (Tk.t Tk.h))) ?_); (refine Sb.s ?_; refine Sb.s ?_; refine Sb.s ?_; exact Sb.r))
    have d3 : decide ((m : Int) ≤ i) = false := decide_eq_false h3
    by_cases h4 : (m : Int) ≤ j
    · have hE : squE o n i j = 2 := by rw [hE0, if_neg h1, if_neg h2, if_neg h3, if_pos h4]
      rw [hE, bad 2 hE (by omega)]
      have d4 : decide ((m : Int) ≤ j) = true := decide_eq_true h4
      refine Fn.mk2 Tryd.func16 rfl rfl fun w0 F => ?_
      (refine G.seq ?_; refine G.region ?_; refine GO.box rfl rfl rfl fun b5 => ?_; refine GO.box rfl rfl rfl fun b6 => ?_; refine GO.box rfl rfl rfl fun b7 => ?_; refine GO.assign rfl rfl ?_; refine GO.assign rfl rfl ?_; refine GO.nil ?_; refine kthen_n ?_; refine G.seq ?_; refine G.region ?_; refine GO.move rfl rfl ?_; refine GO.load1 rfl rfl rfl (Tk.t (Tk.t Tk.h)) rfl ?_)
      refine GO.call2 rfl rfl rfl (hsq) (Tks.c (Tk.t (Tk.t (Tk.t Tk.h))) Tks.n) ?_
      rintro _ _ ⟨rfl, rfl⟩
      (refine GO.move rfl rfl ?_; refine GO.extract rfl rfl rfl ?_; refine GO.extract rfl rfl rfl ?_; refine GO.assign rfl rfl ?_; refine GO.assign rfl rfl ?_; refine GO.nil ?_; refine kthen_n ?_; refine G.seq ?_; refine G.seq ?_; refine G.region ?_; refine GO.move rfl rfl ?_; refine GO.eqT rfl rfl rfl rfl ?_; refine GO.move rfl rfl ?_; refine GO.gT rfl rfl rfl ?_; refine GO.load1 rfl rfl rfl (Tk.t (Tk.t Tk.h)) rfl ?_; refine GO.gT rfl rfl rfl ?_; refine GO.lti rfl rfl rfl ?_; refine GO.gT rfl rfl rfl ?_; refine GO.move rfl rfl ?_; refine GO.gT rfl rfl (by assumption) ?_; refine GO.load1 rfl rfl rfl (Tk.t Tk.h) rfl ?_; refine GO.gT rfl rfl (by assumption) ?_; refine GO.lti rfl rfl rfl ?_; refine GO.gT rfl rfl rfl ?_; refine GO.pickFa rfl rfl (by assumption) rfl ?_; refine GO.gT rfl rfl rfl ?_; refine GO.move rfl rfl ?_; refine GO.gT rfl rfl (by assumption) ?_; refine GO.load1 rfl rfl rfl (Tk.t (Tk.t Tk.h)) rfl ?_; refine GO.gT rfl rfl (by assumption) ?_; refine GO.move rfl rfl ?_; refine GO.gT rfl rfl (by assumption) ?_; refine GO.gei rfl rfl rfl ?_; refine GO.gT rfl rfl rfl ?_; refine GO.pickFa rfl rfl (by assumption) rfl ?_; refine GO.gT rfl rfl rfl ?_; refine GO.move rfl rfl ?_; refine GO.gT rfl rfl (by assumption) ?_; refine GO.load1 rfl rfl rfl (Tk.t Tk.h) rfl ?_; refine GO.gT rfl rfl (by assumption) ?_; refine GO.move rfl rfl ?_; refine GO.gT rfl rfl (by assumption) ?_; refine GO.gei rfl rfl rfl ?_; refine GO.gT rfl rfl rfl ?_; refine GO.pickFa rfl rfl (by assumption) rfl ?_; refine GO.pickT rfl rfl rfl ?_; refine GO.nil ?_; refine kthen_n ?_; refine G.condT rfl (by assumption) ?_; refine G.region ?_; refine GO.assign rfl rfl ?_; refine GO.nil ?_; refine kthen_n ?_; refine G.seq ?_; refine G.seq ?_; refine G.region ?_; refine GO.move rfl rfl ?_; refine GO.nei rfl rfl rfl ?_; refine GO.nil ?_; refine kthen_n ?_; refine G.condT rfl rfl ?_; refine G.seq ?_; refine G.region ?_; refine GO.move rfl rfl ?_; refine GO.assign rfl rfl ?_; refine GO.assign rfl rfl ?_; refine GO.nil ?_; refine kthen_n ?_; refine G.ret ?_; refine kthen_r ?_)
      refine KF2.r2 rfl (RV.t rfl) (RV.t rfl) ⟨_, star [], rfl, MatO.nil _, rfl⟩ (ImpS.flat (k := []) (M := R :: q :: F) (ImpS.sb ?_))
      ((refine Sb.c Tk.h ?_; refine Sb.c (Tk.t (Tk.t (Tk.t Tk.h))) ?_); (refine Sb.s ?_; refine Sb.s ?_; refine Sb.s ?_; exact Sb.r))
    have d4 : decide ((m : Int) ≤ j) = false := decide_eq_false h4
    have hE : squE o n i j = 0 := by rw [hE0, if_neg h1, if_neg h2, if_neg h3, if_neg h4]
    have hO : squO o n i j = some (n, sqX n i.toNat j.toNat (setO o)) := by unfold squO; rw [if_pos hE, Int.toNat_natCast]
    rw [hE, hO]
    obtain ⟨i', rfl⟩ := Int.eq_ofNat_of_zero_le (show 0 ≤ i by omega)
    obtain ⟨j', rfl⟩ := Int.eq_ofNat_of_zero_le (show 0 ≤ j by omega)
    rw [Int.toNat_natCast, Int.toNat_natCast]
    have hin := wo.in
    have hn2 : n ≤ m * n := Nat.le_mul_of_pos_left n hm1
    have ha2 := ha
    rw [some_of hs0] at ha2
    have hpx := pick_sq hmw hin hn i' j'
    have hat := fun (b5 b6 b7 r c : Nat) (hr : r < sideO o) (hc : c < sideO o) => FnV.of (args := [i64 (r : Nat), i64 (c : Nat)]) (caps := [ptrV b5, ptrV b6, ptrV b7]) ((sqc_spec b5 b6 b7 n i' j' r c hn (by omega) (by omega)).mono (R' := fun v Q => (∃ x y : Nat, ∃ ok : Bool, v = .tuple #[i64 (x : Nat), i64 (y : Nat), .bool ok] ∧ (ok = true → x < n ∧ y < n ∧ sqF n i' j' (r, c) = some (x, y)) ∧ (ok = false → sqF n i' j' (r, c) = none)) ∧ Q = [sqT b5 b6 b7 n i' j']) (fun v Q h => ⟨⟨_, _, _, h.1, fun hok => by
      simp only [Bool.and_eq_true, decide_eq_true_eq] at hok
      exact ⟨Nat.mod_lt _ hn, Nat.mod_lt _ hn, by unfold sqF; rw [if_pos hok]⟩, fun hno => by
      simp only [Bool.and_eq_false_iff, decide_eq_false_iff_not] at hno
      unfold sqF
      rw [if_neg (fun h => hno.elim (fun h2 => h2 h.1) (fun h2 => h2 h.2))]⟩, h.2⟩))
    have hpk := fun b5 b6 b7 => pick_spec q hq R (sqT b5 b6 b7 n i' j') va (sideO o) (setO o) ha2 hin n hn (by omega) _ _ (sqF n i' j') (hat b5 b6 b7)
    rw [hpx] at hpk
    refine Fn.mk2 Tryd.func16 rfl rfl fun w0 F => ?_
    (refine G.seq ?_; refine G.region ?_; refine GO.box rfl rfl rfl fun b5 => ?_; refine GO.box rfl rfl rfl fun b6 => ?_; refine GO.box rfl rfl rfl fun b7 => ?_; refine GO.assign rfl rfl ?_; refine GO.assign rfl rfl ?_; refine GO.nil ?_; refine kthen_n ?_; refine G.seq ?_; refine G.region ?_; refine GO.move rfl rfl ?_; refine GO.load1 rfl rfl rfl (Tk.t (Tk.t Tk.h)) rfl ?_)
    refine GO.call2 rfl rfl rfl (hsq) (Tks.c (Tk.t (Tk.t (Tk.t Tk.h))) Tks.n) ?_
    rintro _ _ ⟨rfl, rfl⟩
    (refine GO.move rfl rfl ?_; refine GO.extract rfl rfl rfl ?_; refine GO.extract rfl rfl rfl ?_; refine GO.assign rfl rfl ?_; refine GO.assign rfl rfl ?_; refine GO.nil ?_; refine kthen_n ?_; refine G.seq ?_; refine G.seq ?_; refine G.region ?_; refine GO.move rfl rfl ?_; refine GO.eqT rfl rfl rfl rfl ?_; refine GO.move rfl rfl ?_; refine GO.gT rfl rfl rfl ?_; refine GO.load1 rfl rfl rfl (Tk.t (Tk.t Tk.h)) rfl ?_; refine GO.gT rfl rfl rfl ?_; refine GO.lti rfl rfl rfl ?_; refine GO.gT rfl rfl rfl ?_; refine GO.move rfl rfl ?_; refine GO.gT rfl rfl rfl ?_; refine GO.load1 rfl rfl rfl (Tk.t Tk.h) rfl ?_; refine GO.gT rfl rfl rfl ?_; refine GO.lti rfl rfl rfl ?_; refine GO.gT rfl rfl rfl ?_; refine GO.pickF rfl rfl rfl ?_; refine GO.gT rfl rfl rfl ?_; refine GO.move rfl rfl ?_; refine GO.gT rfl rfl rfl ?_; refine GO.load1 rfl rfl rfl (Tk.t (Tk.t Tk.h)) rfl ?_; refine GO.gT rfl rfl rfl ?_; refine GO.move rfl rfl ?_; refine GO.gT rfl rfl rfl ?_; refine GO.gei rfl rfl rfl ?_; refine GO.gT rfl rfl rfl ?_; refine GO.pickF rfl rfl rfl ?_; refine GO.gT rfl rfl rfl ?_; refine GO.move rfl rfl ?_; refine GO.gT rfl rfl (by assumption) ?_; refine GO.load1 rfl rfl rfl (Tk.t Tk.h) rfl ?_; refine GO.gT rfl rfl (by assumption) ?_; refine GO.move rfl rfl ?_; refine GO.gT rfl rfl (by assumption) ?_; refine GO.gei rfl rfl rfl ?_; refine GO.gT rfl rfl rfl ?_; refine GO.pickFa rfl rfl (by assumption) rfl ?_; refine GO.pickT rfl rfl rfl ?_; refine GO.nil ?_; refine kthen_n ?_; refine G.condF rfl (by assumption) ?_; refine G.skip ?_; refine kthen_n ?_; refine G.seq ?_; refine G.seq ?_; refine G.region ?_; refine GO.move rfl rfl ?_; refine GO.neF rfl rfl rfl rfl ?_; refine GO.nil ?_; refine kthen_n ?_; refine G.condF rfl rfl ?_; refine G.skip ?_; refine kthen_n ?_; refine G.seq ?_; refine G.region ?_; refine GO.move rfl rfl ?_; refine GO.load1 rfl rfl rfl (Tk.t (Tk.t (Tk.t Tk.h))) rfl ?_; refine GO.makeFunc3 rfl rfl rfl rfl ?_)
    refine GO.keep (H' := sqT b5 b6 b7 n i' j' :: R :: q :: F) (ImpS.flat (ImpS.sb (by ((refine Sb.c (Tk.t (Tk.t (Tk.t Tk.h))) ?_; refine Sb.c (Tk.t (Tk.t Tk.h)) ?_; refine Sb.c (Tk.t Tk.h) ?_; refine Sb.c Tk.h ?_; refine Sb.c Tk.h ?_); (exact Sb.r))))) ?_
    refine GO.call3 rfl rfl rfl rfl (hpk b5 b6 b7) (Tks.c (Tk.t Tk.h) (Tks.c Tk.h (Tks.c Tk.h Tks.n))) ?_
    rintro _ _ ⟨bm, rfl, rfl⟩
    (refine GO.assign rfl rfl ?_; refine GO.assign rfl rfl ?_; refine GO.nil ?_; refine kthen_n ?_; refine G.ret ?_)
    refine KF2.r2 rfl (RV.t rfl) (RV.t rfl) ⟨_, _, rfl, MatO.one _ _ _, rfl⟩ (ImpS.sb ?_)
    ((refine Sb.c Tk.h ?_; refine Sb.c Tk.h ?_; refine Sb.c (Tk.t Tk.h) ?_); (refine Sb.s ?_; exact Sb.r))
  · have hE : squE o k i j = sqE o k := if_neg h0
    have hO := bad _ hE h0
    have hN : sqN o k = 0 := if_neg h0
    rw [hN] at hsq
    rw [hE, hO]
    have d1 : decide (sqE o k = 0) = false := decide_eq_false h0
    have d2 : decide (sqE o k ≠ 0) = true := decide_eq_true h0
    generalize sqE o k = e at hsq d1 d2 ⊢
    refine Fn.mk2 Tryd.func16 rfl rfl fun w0 F => ?_
    (refine G.seq ?_; refine G.region ?_; refine GO.box rfl rfl rfl fun b5 => ?_; refine GO.box rfl rfl rfl fun b6 => ?_; refine GO.box rfl rfl rfl fun b7 => ?_; refine GO.assign rfl rfl ?_; refine GO.assign rfl rfl ?_; refine GO.nil ?_; refine kthen_n ?_; refine G.seq ?_; refine G.region ?_; refine GO.move rfl rfl ?_; refine GO.load1 rfl rfl rfl (Tk.t (Tk.t Tk.h)) rfl ?_)
    refine GO.call2 rfl rfl rfl (hsq) (Tks.c (Tk.t (Tk.t (Tk.t Tk.h))) Tks.n) ?_
    rintro _ _ ⟨rfl, rfl⟩
    (refine GO.move rfl rfl ?_; refine GO.extract rfl rfl rfl ?_; refine GO.extract rfl rfl rfl ?_; refine GO.assign rfl rfl ?_; refine GO.assign rfl rfl ?_; refine GO.nil ?_; refine kthen_n ?_; refine G.seq ?_; refine G.seq ?_; refine G.region ?_; refine GO.move rfl rfl ?_; refine GO.eqi rfl rfl rfl ?_; refine GO.move rfl rfl ?_; refine GO.gF rfl rfl rfl (by assumption) ?_; refine GO.gF rfl rfl rfl (by assumption) ?_; refine GO.gF rfl rfl rfl (by assumption) ?_; refine GO.gU rfl rfl rfl ?_; refine GO.gU rfl rfl rfl ?_; refine GO.gF rfl rfl rfl (by assumption) ?_; refine GO.gF rfl rfl rfl (by assumption) ?_; refine GO.gU rfl rfl rfl ?_; refine GO.gU rfl rfl rfl ?_; refine GO.gU rfl rfl rfl ?_; refine GO.gF rfl rfl rfl (by assumption) ?_; refine GO.gF rfl rfl rfl (by assumption) ?_; refine GO.gU rfl rfl rfl ?_; refine GO.gU rfl rfl rfl ?_; refine GO.gU rfl rfl rfl ?_; refine GO.gF rfl rfl rfl (by assumption) ?_; refine GO.pickFa rfl rfl (by assumption) rfl ?_; refine GO.nil ?_; refine kthen_n ?_; refine G.condF rfl rfl ?_; refine G.skip ?_; refine kthen_n ?_; refine G.seq ?_; refine G.seq ?_; refine G.region ?_; refine GO.move rfl rfl ?_; refine GO.nei rfl rfl rfl ?_; refine GO.nil ?_; refine kthen_n ?_; refine G.condT rfl (by assumption) ?_; refine G.seq ?_; refine G.region ?_; refine GO.move rfl rfl ?_; refine GO.assign rfl rfl ?_; refine GO.assign rfl rfl ?_; refine GO.nil ?_; refine kthen_n ?_; refine G.ret ?_; refine kthen_r ?_)
    refine KF2.r2 rfl (RV.t rfl) (RV.t rfl) ⟨_, star [], rfl, MatO.nil _, rfl⟩ (ImpS.flat (k := []) (M := R :: q :: F) (ImpS.sb ?_))
    ((refine Sb.c Tk.h ?_; refine Sb.c (Tk.t (Tk.t (Tk.t Tk.h))) ?_); (refine Sb.s ?_; refine Sb.s ?_; refine Sb.s ?_; exact Sb.r))
set_option maxHeartbeats 8000000 in
theorem kOuterO (q R : HP) (hq : Tab q) (va : Value) (o : OptM) (ha : HasO R va o) (wo : WfM o) (k : Int) :
    Fn Tryd.prog 17 #[va, i64 k] [R, q] (fun r Q => ∃ v p, r = .tuple #[v, i64 (sqE o k)] ∧ MatO p v (outO o k) ∧ Q = [p, R, q]) := by
  have hsq := squares_spec R va o ha wo k
  by_cases h0 : sqE o k = 0
  · obtain ⟨hs0, n, m, rfl, hn, hm, hm1⟩ := sqE_ok h0
    have hO : outO o n = some (m, outX n (setO o)) := by unfold outO; rw [if_pos h0, sqN_at h0 hn hm, Int.toNat_natCast]
    rw [sqN_at h0 hn hm, h0] at hsq
    have hmw := wo.side
    rw [h0, hO]
    have hin := wo.in
    have hn2 : n ≤ m * n := Nat.le_mul_of_pos_left n hm1
    have hm2 : m ≤ m * n := Nat.le_mul_of_pos_right m hn
    have ha2 := ha
    rw [some_of hs0] at ha2
    have hpx := pick_out n (setO o)
    have hat := fun (b3 r c : Nat) (hr : r < sideO o) (hc : c < sideO o) => FnV.of (args := [i64 (r : Nat), i64 (c : Nat)]) (caps := [ptrV b3]) ((outc_spec b3 n r c hn (by omega) (by omega)).mono (R' := fun v Q => (∃ x y : Nat, ∃ ok : Bool, v = .tuple #[i64 (x : Nat), i64 (y : Nat), .bool ok] ∧ (ok = true → x < m ∧ y < m ∧ outF n (r, c) = some (x, y)) ∧ (ok = false → outF n (r, c) = none)) ∧ Q = [pt b3 (row [i64 (n : Nat)] 3)]) (fun v Q h => ⟨⟨_, _, _, h.1, fun _ => ⟨by rw [hm] at hr; exact (Nat.div_lt_iff_lt_mul hn).2 hr, by rw [hm] at hc; exact (Nat.div_lt_iff_lt_mul hn).2 hc, rfl⟩, fun hno => by cases hno⟩, h.2⟩))
    have hpk := fun b3 => pick_spec q hq R (pt b3 (row [i64 (n : Nat)] 3)) va (sideO o) (setO o) ha2 hin m (by omega) (by omega) _ _ (outF n) (hat b3)
    rw [hpx] at hpk
    refine Fn.mk2 Tryd.func17 rfl rfl fun w0 F => ?_
    (refine G.seq ?_; refine G.region ?_; refine GO.box rfl rfl rfl fun b3 => ?_; refine GO.assign rfl rfl ?_; refine GO.assign rfl rfl ?_; refine GO.nil ?_; refine kthen_n ?_; refine G.seq ?_; refine G.region ?_; refine GO.move rfl rfl ?_; refine GO.load1 rfl rfl rfl Tk.h rfl ?_)
    refine GO.call2 rfl rfl rfl (hsq) (Tks.c (Tk.t Tk.h) Tks.n) ?_
    rintro _ _ ⟨rfl, rfl⟩
    (refine GO.move rfl rfl ?_; refine GO.extract rfl rfl rfl ?_; refine GO.extract rfl rfl rfl ?_; refine GO.assign rfl rfl ?_; refine GO.assign rfl rfl ?_; refine GO.nil ?_; refine kthen_n ?_; refine G.seq ?_; refine G.seq ?_; refine G.region ?_; refine GO.move rfl rfl ?_; refine GO.neF rfl rfl rfl rfl ?_; refine GO.nil ?_; refine kthen_n ?_; refine G.condF rfl rfl ?_; refine G.skip ?_; refine kthen_n ?_; refine G.seq ?_; refine G.region ?_; refine GO.move rfl rfl ?_; refine GO.move rfl rfl ?_; refine GO.makeFunc1 rfl rfl ?_)
    refine GO.call3 rfl rfl rfl rfl (hpk b3) (Tks.c Tk.h (Tks.c Tk.h (Tks.c Tk.h Tks.n))) ?_
    rintro _ _ ⟨bm, rfl, rfl⟩
    (refine GO.assign rfl rfl ?_; refine GO.assign rfl rfl ?_; refine GO.nil ?_; refine kthen_n ?_; refine G.ret ?_)
    refine KF2.r2 rfl (RV.t rfl) (RV.t rfl) ⟨_, _, rfl, MatO.one _ _ _, rfl⟩ (ImpS.sb ?_)
    ((refine Sb.c Tk.h ?_; refine Sb.c Tk.h ?_; refine Sb.c (Tk.t Tk.h) ?_); (refine Sb.s ?_; exact Sb.r))
  · have hO : outO o k = none := if_neg h0
    have hN : sqN o k = 0 := if_neg h0
    rw [hN] at hsq
    rw [hO]
    have d2 : decide (sqE o k ≠ 0) = true := decide_eq_true h0
    generalize sqE o k = e at hsq d2 ⊢
    refine Fn.mk2 Tryd.func17 rfl rfl fun w0 F => ?_
    (refine G.seq ?_; refine G.region ?_; refine GO.box rfl rfl rfl fun b3 => ?_; refine GO.assign rfl rfl ?_; refine GO.assign rfl rfl ?_; refine GO.nil ?_; refine kthen_n ?_; refine G.seq ?_; refine G.region ?_; refine GO.move rfl rfl ?_; refine GO.load1 rfl rfl rfl Tk.h rfl ?_)
    refine GO.call2 rfl rfl rfl (hsq) (Tks.c (Tk.t Tk.h) Tks.n) ?_
    rintro _ _ ⟨rfl, rfl⟩
    (refine GO.move rfl rfl ?_; refine GO.extract rfl rfl rfl ?_; refine GO.extract rfl rfl rfl ?_; refine GO.assign rfl rfl ?_; refine GO.assign rfl rfl ?_; refine GO.nil ?_; refine kthen_n ?_; refine G.seq ?_; refine G.seq ?_; refine G.region ?_; refine GO.move rfl rfl ?_; refine GO.nei rfl rfl rfl ?_; refine GO.nil ?_; refine kthen_n ?_; refine G.condT rfl (by assumption) ?_; refine G.seq ?_; refine G.region ?_; refine GO.move rfl rfl ?_; refine GO.assign rfl rfl ?_; refine GO.assign rfl rfl ?_; refine GO.nil ?_; refine kthen_n ?_; refine G.ret ?_; refine kthen_r ?_)
    refine KF2.r2 rfl (RV.t rfl) (RV.t rfl) ⟨_, star [], rfl, MatO.nil _, rfl⟩ (ImpS.flat (k := []) (M := R :: q :: F) (ImpS.sb ?_))
    ((refine Sb.c Tk.h ?_; refine Sb.c (Tk.t Tk.h) ?_); (refine Sb.s ?_; exact Sb.r))
set_option maxHeartbeats 8000000 in
theorem kInnerO (q R : HP) (hq : Tab q) (va : Value) (o : OptM) (ha : HasO R va o) (wo : WfM o) (k : Int) :
    Fn Tryd.prog 18 #[va, i64 k] [R, q] (fun r Q => ∃ v p, r = .tuple #[v, i64 (sqE o k)] ∧ MatO p v (innO o k) ∧ Q = [p, R, q]) := by
  have hsq := squares_spec R va o ha wo k
  by_cases h0 : sqE o k = 0
  · obtain ⟨hs0, n, m, rfl, hn, hm, hm1⟩ := sqE_ok h0
    have hO : innO o n = some (n, innX n (setO o)) := by unfold innO; rw [if_pos h0, Int.toNat_natCast]
    rw [sqN_at h0 hn hm, h0] at hsq
    have hmw := wo.side
    rw [h0, hO]
    have hin := wo.in
    have hn2 : n ≤ m * n := Nat.le_mul_of_pos_left n hm1
    have hm2 : m ≤ m * n := Nat.le_mul_of_pos_right m hn
    have ha2 := ha
    rw [some_of hs0] at ha2
    have hpx := pick_inn n (setO o)
    have hat := fun (b3 r c : Nat) (hr : r < sideO o) (hc : c < sideO o) => FnV.of (args := [i64 (r : Nat), i64 (c : Nat)]) (caps := [ptrV b3]) ((innc_spec b3 n r c hn).mono (R' := fun v Q => (∃ x y : Nat, ∃ ok : Bool, v = .tuple #[i64 (x : Nat), i64 (y : Nat), .bool ok] ∧ (ok = true → x < n ∧ y < n ∧ innF n (r, c) = some (x, y)) ∧ (ok = false → innF n (r, c) = none)) ∧ Q = [pt b3 (row [i64 (n : Nat)] 3)]) (fun v Q h => ⟨⟨_, _, _, h.1, fun _ => ⟨Nat.mod_lt _ hn, Nat.mod_lt _ hn, rfl⟩, fun hno => by cases hno⟩, h.2⟩))
    have hpk := fun b3 => pick_spec q hq R (pt b3 (row [i64 (n : Nat)] 3)) va (sideO o) (setO o) ha2 hin n (by omega) (by omega) _ _ (innF n) (hat b3)
    rw [hpx] at hpk
    refine Fn.mk2 Tryd.func18 rfl rfl fun w0 F => ?_
    (refine G.seq ?_; refine G.region ?_; refine GO.box rfl rfl rfl fun b3 => ?_; refine GO.assign rfl rfl ?_; refine GO.assign rfl rfl ?_; refine GO.nil ?_; refine kthen_n ?_; refine G.seq ?_; refine G.region ?_; refine GO.move rfl rfl ?_; refine GO.load1 rfl rfl rfl Tk.h rfl ?_)
    refine GO.call2 rfl rfl rfl (hsq) (Tks.c (Tk.t Tk.h) Tks.n) ?_
    rintro _ _ ⟨rfl, rfl⟩
    (refine GO.move rfl rfl ?_; refine GO.extract rfl rfl rfl ?_; refine GO.extract rfl rfl rfl ?_; refine GO.assign rfl rfl ?_; refine GO.assign rfl rfl ?_; refine GO.nil ?_; refine kthen_n ?_; refine G.seq ?_; refine G.seq ?_; refine G.region ?_; refine GO.move rfl rfl ?_; refine GO.neF rfl rfl rfl rfl ?_; refine GO.nil ?_; refine kthen_n ?_; refine G.condF rfl rfl ?_; refine G.skip ?_; refine kthen_n ?_; refine G.seq ?_; refine G.region ?_; refine GO.move rfl rfl ?_; refine GO.load1 rfl rfl rfl (Tk.t Tk.h) rfl ?_; refine GO.makeFunc1 rfl rfl ?_)
    refine GO.call3 rfl rfl rfl rfl (hpk b3) (Tks.c Tk.h (Tks.c Tk.h (Tks.c Tk.h Tks.n))) ?_
    rintro _ _ ⟨bm, rfl, rfl⟩
    (refine GO.assign rfl rfl ?_; refine GO.assign rfl rfl ?_; refine GO.nil ?_; refine kthen_n ?_; refine G.ret ?_)
    refine KF2.r2 rfl (RV.t rfl) (RV.t rfl) ⟨_, _, rfl, MatO.one _ _ _, rfl⟩ (ImpS.sb ?_)
    ((refine Sb.c Tk.h ?_; refine Sb.c Tk.h ?_; refine Sb.c (Tk.t Tk.h) ?_); (refine Sb.s ?_; exact Sb.r))
  · have hO : innO o k = none := if_neg h0
    have hN : sqN o k = 0 := if_neg h0
    rw [hN] at hsq
    rw [hO]
    have d2 : decide (sqE o k ≠ 0) = true := decide_eq_true h0
    generalize sqE o k = e at hsq d2 ⊢
    refine Fn.mk2 Tryd.func18 rfl rfl fun w0 F => ?_
    (refine G.seq ?_; refine G.region ?_; refine GO.box rfl rfl rfl fun b3 => ?_; refine GO.assign rfl rfl ?_; refine GO.assign rfl rfl ?_; refine GO.nil ?_; refine kthen_n ?_; refine G.seq ?_; refine G.region ?_; refine GO.move rfl rfl ?_; refine GO.load1 rfl rfl rfl Tk.h rfl ?_)
    refine GO.call2 rfl rfl rfl (hsq) (Tks.c (Tk.t Tk.h) Tks.n) ?_
    rintro _ _ ⟨rfl, rfl⟩
    (refine GO.move rfl rfl ?_; refine GO.extract rfl rfl rfl ?_; refine GO.extract rfl rfl rfl ?_; refine GO.assign rfl rfl ?_; refine GO.assign rfl rfl ?_; refine GO.nil ?_; refine kthen_n ?_; refine G.seq ?_; refine G.seq ?_; refine G.region ?_; refine GO.move rfl rfl ?_; refine GO.nei rfl rfl rfl ?_; refine GO.nil ?_; refine kthen_n ?_; refine G.condT rfl (by assumption) ?_; refine G.seq ?_; refine G.region ?_; refine GO.move rfl rfl ?_; refine GO.assign rfl rfl ?_; refine GO.assign rfl rfl ?_; refine GO.nil ?_; refine kthen_n ?_; refine G.ret ?_; refine kthen_r ?_)
    refine KF2.r2 rfl (RV.t rfl) (RV.t rfl) ⟨_, star [], rfl, MatO.nil _, rfl⟩ (ImpS.flat (k := []) (M := R :: q :: F) (ImpS.sb ?_))
    ((refine Sb.c Tk.h ?_; refine Sb.c (Tk.t Tk.h) ?_); (refine Sb.s ?_; exact Sb.r))
end Go.Proofs.YtebchcongefbcaaDoor
namespace Go.Proofs.YtebchcongefbcaaDoor
open Go
theorem layL_len {q : Nat} {k l : List (Nat × Nat)} {i m : Nat} (hi : i < k.length) (hm : m ≤ l.length) : (layL q k l i m).length = i * l.length + m := by
  unfold layL
  rw [List.length_append, kronLL_len, List.length_take, Nat.min_eq_left (by omega), List.getElem?_eq_getElem hi]
  show _ + ((kronL q k[i] l).take m).length = _
  unfold kronL
  rw [List.length_take, List.length_map, Nat.min_eq_left hm]
theorem layL_max {q : Nat} {k l : List (Nat × Nat)} {i m : Nat} (hi : i < k.length) (hm : m ≤ l.length) : (layL q k l i m).length ≤ k.length * l.length := by
  rw [layL_len hi hm]
  have h := Nat.mul_le_mul_right l.length (show i + 1 ≤ k.length from hi)
  rw [Nat.add_mul, Nat.one_mul] at h
  omega
theorem kron_fit {s q : Nat} {X Y : Nat → Nat → Bool} (hs : s * q ≤ 1024) (hs1 : s ≤ 1024) (hq : 0 < q ∧ q ≤ 1024) (hx : ∀ r c, X r c = true → r < s ∧ c < s) (hy : ∀ r c, Y r c = true → r < q ∧ c < q) : (cellsX X).length * (cellsX Y).length ≤ 1048576 := by
  have h := kron_cnt hs hs1 hq hx hy
  have h2 := cnt_max (kronX q X Y)
  rw [cellsX_len, cellsX_len, ← h]
  omega
theorem srt_kron {s q : Nat} {X Y : Nat → Nat → Bool} (hs : s * q ≤ 1024) (hs1 : s ≤ 1024) (hq : 0 < q ∧ q ≤ 1024) (hx : ∀ r c, X r c = true → r < s ∧ c < s) (hy : ∀ r c, Y r c = true → r < q ∧ c < q) : srt (castL (kronLL q (cellsX X) (cellsX Y))) = castL (cellsX (kronX q X Y)) := by
  refine up_unique (srt_up _ _ (Nat.le_refl _)) (cells_up _) fun p => ?_
  rw [srt_mem _ _ (Nat.le_refl _), cast_mem hs (kron_in hx hq.1)]
  unfold castL
  rw [List.mem_map]
  constructor
  · rintro ⟨a, ha, rfl⟩
    exact ⟨by simp, by simp, by dsimp only; rw [Int.toNat_natCast, Int.toNat_natCast]; exact (kron_mem hs1 hq.2 hx hy a).1 ha⟩
  · rintro ⟨h1, h2, h3⟩
    obtain ⟨a, b⟩ := p
    dsimp only at h1 h2 h3
    obtain ⟨a, rfl⟩ := Int.eq_ofNat_of_zero_le h1
    obtain ⟨b, rfl⟩ := Int.eq_ofNat_of_zero_le h2
    rw [Int.toNat_natCast, Int.toNat_natCast] at h3
    exact ⟨(a, b), (kron_mem hs1 hq.2 hx hy (a, b)).2 h3, rfl⟩
attribute [local irreducible] G GO GR GT Fn FnV pt init exs pur sat own ImpS mat posL allV orL restX cellsX cellsV pickL setC layL kronX
set_option maxHeartbeats 8000000 in
theorem rkprod_core (z : HP) (ra rb : Value) (sA sB : Nat) (A B : Nat → Nat → Bool) (hra : RefO z ra (some (sA, A))) (hrb : RefO z rb (some (sB, B))) (h1 : 1 ≤ sA) (h2 : 1 ≤ sB) (hs : sA * sB ≤ 1024) (hx : ∀ r c, A r c = true → r < sA ∧ c < sA) (hy : ∀ r c, B r c = true → r < sB ∧ c < sB) :
    Fn Tryd.prog 33 #[ra, rb] [z] (fun r Q => ∃ v, r = refV ((sA * sB : Nat) : Int) v ∧ Q = [own 59 2 (castL (cellsX (kronX sB A B))).length v (cellsV (castL (cellsX (kronX sB A B)))), z]) := by
  have hsA : sA ≤ 1024 := Nat.le_trans (Nat.le_mul_of_pos_right sA h2) (by omega)
  have hsB : sB ≤ 1024 := Nat.le_trans (Nat.le_mul_of_pos_left sB h1) (by omega)
  have hfit := kron_fit hs hsA ⟨h2, hsB⟩ hx hy
  have hsrt := srt_kron hs hsA ⟨h2, hsB⟩ hx hy
  rw [← hsrt]
  have hsort := fun v q hq => sorted_spec _ (castL (kronLL sB (cellsX A) (cellsX B))) (Nat.le_refl _) q v hq (by rw [castL_len, kronLL_len]; omega)
  have hall := layL_all (q := sB) (k := cellsX A) (l := cellsX B)
  rw [← hall] at hsort ⊢
  have hlen := fun i m => layL_max (q := sB) (k := cellsX A) (l := cellsX B) (i := i) (m := m)
  have hend := fun i p (hp : (cellsX A)[i]? = some p) => layL_end (q := sB) (k := cellsX A) (l := cellsX B) (i := i) (p := p) hp
  have hsuc := fun i m p x (hp : (cellsX A)[i]? = some p) (hx : (cellsX B)[m]? = some x) => layL_succ (q := sB) (k := cellsX A) (l := cellsX B) (i := i) (m := m) (p := p) (x := x) hp hx
  have hz0 : layL sB (cellsX A) (cellsX B) 0 0 = [] := by rw [layL_zero]; rfl
  obtain ⟨va, rfl, honea, aa, capa, rfl, hcapa, hrda⟩ := hra
  obtain ⟨vb, rfl, honeb, ab, capb, rfl, hcapb, hrdb⟩ := hrb
  change Fn _ _ #[refV sA (.slice aa (castL (cellsX A)).length capa), refV sB (.slice ab (castL (cellsX B)).length capb)] _ _
  change (castL (cellsX A)).length ≤ capa at hcapa
  change (castL (cellsX B)).length ≤ capb at hcapb
  change 0 < (castL (cellsX A)).length → ∃ b o, aa = some ⟨b, o, none⟩ ∧ ∀ j u, (cellsV (castL (cellsX A)))[j]? = some u → Rd z ⟨b, o + j, none⟩ u at hrda
  change 0 < (castL (cellsX B)).length → ∃ b o, ab = some ⟨b, o, none⟩ ∧ ∀ j u, (cellsV (castL (cellsX B)))[j]? = some u → Rd z ⟨b, o + j, none⟩ u at hrdb
  rw [castL_len] at hcapa hcapb hrda hrdb
  rw [castL_len, castL_len]
  have hmemA := fun (k : Nat) (p : Nat × Nat) (h : (cellsX A)[k]? = some p) => hx _ _ (cellsX_true (List.mem_of_getElem? h))
  have hcm : ((sA : Nat) : Int) * ((sB : Nat) : Int) = ((sA * sB : Nat) : Int) := (Int.natCast_mul _ _).symm
  have hlA : ¬ 1048576 < (cellsX A).length := by rw [cellsX_len]; have := cnt_max A; omega
  have hlB : ¬ 1048576 < (cellsX B).length := by rw [cellsX_len]; have := cnt_max B; omega
  generalize layL sB (cellsX A) (cellsX B) = Y at *
  refine Fn.mk2 Tryd.func33 rfl rfl fun w0 F => ?_
  (refine G.seq ?_; refine G.region ?_; refine GO.box rfl rfl rfl fun b2 => ?_; refine GO.box rfl rfl rfl fun b3 => ?_; refine GO.alloc rfl fun b4 => ?_; refine GO.nil ?_; refine kthen_n ?_; refine G.seq ?_; refine G.region ?_; refine GO.assign rfl rfl ?_; refine GO.nil ?_; refine kthen_n ?_; refine G.seq ?_; refine G.seq ?_; refine G.region ?_; refine GO.assign rfl rfl ?_; refine GO.nil ?_; refine kthen_n ?_; refine G.block ?_)
  refine G.ownNil (T := 59) (sz := 2) ?_
  refine G.loop2 (fun (i : Nat) (v : Value) => [(2, ptrV b2), (3, ptrV b3), (4, ptrV b4), (5, v), (6, i64 (i : Nat))])
    (fun i v => own 59 2 (Y i 0).length v (pairsV (Y i 0)) :: pt b2 (row [i64 (sA : Nat), .slice aa (cellsX A).length capa] 28) :: pt b3 (row [i64 (sB : Nat), .slice ab (cellsX B).length capb] 28) :: pt b4 (row [i64 0, .slice none 0 0] 28) :: z :: F) (fun i _ => i ≤ (cellsX A).length) (fun i _ => (cellsX A).length - i) 0 (.slice none 0 0) (by omega) ?_ ?_ ?_
  · (refine SubE.c rfl rfl ?_; refine SubE.c rfl rfl ?_; refine SubE.c rfl rfl ?_; refine SubE.c rfl rfl ?_; refine SubE.c rfl rfl ?_; exact SubE.n)
  · rw [hz0, show pairsV [] = [] by unfold pairsV cellsV; rfl]
    ((refine Sb.c Tk.h ?_; refine Sb.c (Tk.t (Tk.t Tk.h)) ?_; refine Sb.c (Tk.t Tk.h) ?_; refine Sb.c Tk.h ?_; refine Sb.c Tk.h ?_); (exact Sb.r))
  rintro i v hi
  (refine G.seq ?_; refine G.seq ?_; refine G.region ?_; refine GO.move rfl rfl ?_; refine GO.fieldAddr rfl rfl ?_; refine GO.load1 rfl rfl rfl (Tk.t Tk.h) rfl ?_; refine GO.lenS rfl rfl ?_; refine GO.lti rfl rfl rfl ?_; refine GO.nil ?_; refine kthen_n ?_)
  refine G.condD rfl (fun hlt => ?_) (fun hge => ?_)
  · have hil : i < (cellsX A).length := by omega
    obtain ⟨p, hp⟩ : ∃ p, (cellsX A)[i]? = some p := ⟨_, List.getElem?_eq_getElem hil⟩
    have hpA := hmemA i p hp
    have hend := hend i p hp
    have hlen := fun m (hm : m ≤ (cellsX B).length) => Nat.le_trans (hlen i m hil hm) hfit
    have hsuc := fun m x hx => hsuc i m p x hp hx
    obtain ⟨r, c⟩ := p
    dsimp only at hpA hsuc
    have hm1 : (r : Int) * (sB : Int) = ((r * sB : Nat) : Int) := (Int.natCast_mul _ _).symm
    have hm2 : (c : Int) * (sB : Int) = ((c * sB : Nat) : Int) := (Int.natCast_mul _ _).symm
    have hb1 : r * sB + sB ≤ sA * sB := by have := Nat.mul_le_mul_right sB (show r + 1 ≤ sA by omega); rw [Nat.add_mul, Nat.one_mul] at this; exact this
    have hb2 : c * sB + sB ≤ sA * sB := by have := Nat.mul_le_mul_right sB (show c + 1 ≤ sA by omega); rw [Nat.add_mul, Nat.one_mul] at this; exact this
    have hb3 : r * sB + sB ≤ 1024 := by omega
    have hb4 : c * sB + sB ≤ 1024 := by omega
    clear hb1 hb2 hcm
    generalize r * sB = P1 at hm1 hb3 hsuc
    generalize c * sB = P2 at hm2 hb4 hsuc
    have hpc : (castL (cellsX A))[i]? = some ((r : Int), (c : Int)) := by unfold castL; rw [List.getElem?_map, hp]; rfl
    obtain ⟨bo, oo, rfl, hr⟩ := hrda (by omega)
    have r1 : Rd z ⟨bo, oo + i * 2, none⟩ (i64 ((r : Nat) : Int)) := hr _ _ (cellsV_get hpc).1
    have r2 : Rd z ⟨bo, oo + i * 2 + 1, none⟩ (i64 ((c : Nat) : Int)) := hr _ _ (cellsV_get hpc).2
    (refine G.skip ?_; refine kthen_n ?_; refine G.seq ?_; refine G.block ?_; refine G.seq ?_; refine G.region ?_; refine GO.assign rfl rfl ?_; refine GO.nil ?_; refine kthen_n ?_; refine G.block ?_)
    refine G.loop2 (fun (m : Nat) (v : Value) => [(2, ptrV b2), (3, ptrV b3), (4, ptrV b4), (5, v), (6, i64 (i : Nat)), (7, i64 (m : Nat))])
      (fun m v => own 59 2 (Y i m).length v (pairsV (Y i m)) :: pt b2 (row [i64 (sA : Nat), .slice (some ⟨bo, oo, none⟩) (cellsX A).length capa] 28) :: pt b3 (row [i64 (sB : Nat), .slice ab (cellsX B).length capb] 28) :: pt b4 (row [i64 0, .slice none 0 0] 28) :: z :: F) (fun m _ => m ≤ (cellsX B).length) (fun m _ => (cellsX B).length - m) 0 v (by omega) ?_ ?_ ?_
    · (refine SubE.c rfl rfl ?_; refine SubE.c rfl rfl ?_; refine SubE.c rfl rfl ?_; refine SubE.c rfl rfl ?_; refine SubE.c rfl rfl ?_; refine SubE.c rfl rfl ?_; exact SubE.n)
    · ((refine Sb.c Tk.h ?_; refine Sb.c Tk.h ?_; refine Sb.c Tk.h ?_; refine Sb.c Tk.h ?_; refine Sb.c Tk.h ?_); (exact Sb.r))
    rintro m v hm
    (refine G.seq ?_; refine G.seq ?_; refine G.region ?_; refine GO.move rfl rfl ?_; refine GO.fieldAddr rfl rfl ?_; refine GO.load1 rfl rfl rfl (Tk.t (Tk.t Tk.h)) rfl ?_; refine GO.lenS rfl rfl ?_; refine GO.lti rfl rfl rfl ?_; refine GO.nil ?_; refine kthen_n ?_)
    refine G.condD rfl (fun hlt2 => ?_) (fun hge => ?_)
    · have hml : m < (cellsX B).length := by omega
      obtain ⟨⟨x, y⟩, hx⟩ : ∃ p, (cellsX B)[m]? = some p := ⟨_, List.getElem?_eq_getElem hml⟩
      have hxy := hy _ _ (cellsX_true (List.mem_of_getElem? hx))
      have hsu := hsuc m _ hx
      dsimp only at hxy hsu
      have hlm := hlen m hm
      have hpcB : (castL (cellsX B))[m]? = some ((x : Int), (y : Int)) := by unfold castL; rw [List.getElem?_map, hx]; rfl
      obtain ⟨bo2, oo2, rfl, hr2⟩ := hrdb (by omega)
      have r3 : Rd z ⟨bo2, oo2 + m * 2, none⟩ (i64 ((x : Nat) : Int)) := hr2 _ _ (cellsV_get hpcB).1
      have r4 : Rd z ⟨bo2, oo2 + m * 2 + 1, none⟩ (i64 ((y : Nat) : Int)) := hr2 _ _ (cellsV_get hpcB).2
      (refine G.skip ?_; refine kthen_n ?_; refine G.seq ?_; refine G.block ?_)
      refine G.drawT 36 51539607552 [pt b2 (row [i64 (sA : Nat), .slice (some ⟨bo, oo, none⟩) (cellsX A).length capa] 28), pt b3 (row [i64 (sB : Nat), .slice (some ⟨bo2, oo2, none⟩) (cellsX B).length capb] 28), z] (own 59 2 (Y i m).length v (pairsV (Y i m)) :: pt b4 (row [i64 0, .slice none 0 0] 28) :: F) (by kernel_rfl) (keys_of rfl) (ImpS.sb (by ((refine Sb.c (Tk.t Tk.h) ?_; refine Sb.c (Tk.t Tk.h) ?_; refine Sb.c (Tk.t (Tk.t Tk.h)) ?_; refine Sb.c Tk.h ?_; refine Sb.c Tk.h ?_); (exact Sb.r)))) ?_
      ((apply GR.step rfl; focus (intro Z; refine GO.move rfl rfl ?_; exact KQ.z)); (apply GR.step rfl; focus (intro Z; refine GO.fieldAddr rfl rfl ?_; exact KQ.z)); (apply GR.step rfl; focus (intro Z; refine GO.load1 rfl rfl rfl Tk.h rfl ?_; exact KQ.z)); (apply GR.step rfl; focus (intro Z; refine GO.move rfl rfl ?_; exact KQ.z)); (apply GR.step rfl; focus (intro Z; refine GO.idxS rfl rfl rfl ⟨rfl, by omega⟩ ?_; exact KQ.z)); (apply GR.step rfl; focus (intro Z; refine GO.fieldAddr rfl rfl ?_; exact KQ.z)); (apply GR.step rfl; focus (intro Z; refine GO.loadQ rfl rfl rfl (Tk.t (Tk.t Tk.h)) (by assumption) ?_; exact KQ.z)); (apply GR.step rfl; focus (intro Z; refine GO.fieldAddr rfl rfl ?_; exact KQ.z)); (apply GR.step rfl; focus (intro Z; refine GO.load1 rfl rfl rfl (Tk.t Tk.h) rfl ?_; exact KQ.z)); (apply GR.step rfl; focus (intro Z; refine GO.muli rfl rfl rfl (by omega) ?_; exact KQ.z)); (apply GR.step rfl; focus (intro Z; refine GO.fieldAddr rfl rfl ?_; exact KQ.z)); (apply GR.step rfl; focus (intro Z; refine GO.load1 rfl rfl rfl (Tk.t Tk.h) rfl ?_; exact KQ.z)); (apply GR.step rfl; focus (intro Z; refine GO.move rfl rfl ?_; exact KQ.z)); (apply GR.step rfl; focus (intro Z; refine GO.idxS rfl rfl rfl ⟨rfl, by omega⟩ ?_; exact KQ.z)); (apply GR.step rfl; focus (intro Z; refine GO.fieldAddr rfl rfl ?_; exact KQ.z)); (apply GR.step rfl; focus (intro Z; refine GO.loadQ rfl rfl rfl (Tk.t (Tk.t Tk.h)) (by assumption) ?_; exact KQ.z)); (apply GR.step rfl; focus (intro Z; refine GO.addi rfl rfl rfl (by omega) ?_; exact KQ.z)); (apply GR.step rfl; focus (intro Z; refine GO.fieldAddr rfl rfl ?_; exact KQ.z)); (apply GR.step rfl; focus (intro Z; refine GO.load1 rfl rfl rfl Tk.h rfl ?_; exact KQ.z)); (apply GR.step rfl; focus (intro Z; refine GO.move rfl rfl ?_; exact KQ.z)); (apply GR.step rfl; focus (intro Z; refine GO.idxS rfl rfl rfl ⟨rfl, by omega⟩ ?_; exact KQ.z)); (apply GR.step rfl; focus (intro Z; refine GO.fieldAddr rfl rfl ?_; exact KQ.z)); (apply GR.step rfl; focus (intro Z; refine GO.loadQ rfl rfl rfl (Tk.t (Tk.t Tk.h)) (by assumption) ?_; exact KQ.z)); (apply GR.step rfl; focus (intro Z; refine GO.fieldAddr rfl rfl ?_; exact KQ.z)); (apply GR.step rfl; focus (intro Z; refine GO.load1 rfl rfl rfl (Tk.t Tk.h) rfl ?_; exact KQ.z)); (apply GR.step rfl; focus (intro Z; refine GO.muli rfl rfl rfl (by omega) ?_; exact KQ.z)); (apply GR.step rfl; focus (intro Z; refine GO.fieldAddr rfl rfl ?_; exact KQ.z)); (apply GR.step rfl; focus (intro Z; refine GO.load1 rfl rfl rfl (Tk.t Tk.h) rfl ?_; exact KQ.z)); (apply GR.step rfl; focus (intro Z; refine GO.move rfl rfl ?_; exact KQ.z)); (apply GR.step rfl; focus (intro Z; refine GO.idxS rfl rfl rfl ⟨rfl, by omega⟩ ?_; exact KQ.z)); (apply GR.step rfl; focus (intro Z; refine GO.fieldAddr rfl rfl ?_; exact KQ.z)); (apply GR.step rfl; focus (intro Z; refine GO.loadQ rfl rfl rfl (Tk.t (Tk.t Tk.h)) (by assumption) ?_; exact KQ.z)); (apply GR.step rfl; focus (intro Z; refine GO.addi rfl rfl rfl (by omega) ?_; exact KQ.z)); (apply GR.step rfl; focus (intro Z; refine GO.build2 rfl rfl rfl rfl ?_; exact KQ.z)); refine GR.skip rfl ?_; refine GR.skip rfl ?_; refine GR.nil ?_)
      (repeat refine GT.skip rfl ?_)
      rw [hm1, hm2]
      refine GT.step rfl ?_
      refine GO.buildSlice1 (n := 2) rfl rfl (by simp; rfl) rfl ⟨by omega, by omega⟩ fun bs => ?_
      refine GO.nil ⟨rfl, _, pt bs (row [i64 ((P1 : Int) + (x : Int)), i64 ((P2 : Int) + (y : Int))] 59) :: own 59 2 (Y i m).length v (pairsV (Y i m)) :: pt b4 (row [i64 0, .slice none 0 0] 28) :: F, rfl, ImpS.sb (by ((refine Sb.c (Tk.t Tk.h) ?_; refine Sb.c (Tk.t Tk.h) ?_; refine Sb.c (Tk.t Tk.h) ?_; refine Sb.c Tk.h ?_; refine Sb.c Tk.h ?_; refine Sb.c Tk.h ?_); (exact Sb.r))), ?_⟩
      refine GT.step rfl ?_
      refine GO.appendOwn (m := 1) (news := [i64 ((P1 : Int) + (x : Int)), i64 ((P2 : Int) + (y : Int))]) rfl rfl rfl (Tk.t (Tk.t (Tk.t (Tk.t Tk.h)))) (Tk.t (Tk.t (Tk.t Tk.h))) rfl (by simp [Value.oneCell']) ⟨by decide, rfl⟩ Nat.one_pos (by unfold maxLen; omega) (by omega) fun v4 => ?_
      refine GO.nil ⟨rfl, _, own 59 2 ((Y i m).length + 1) v4 (pairsV (Y i m) ++ [i64 ((P1 : Int) + (x : Int)), i64 ((P2 : Int) + (y : Int))]) :: pt b4 (row [i64 0, .slice none 0 0] 28) :: F, rfl, ImpS.sb (by ((refine Sb.c (Tk.t Tk.h) ?_; refine Sb.c (Tk.t Tk.h) ?_; refine Sb.c (Tk.t Tk.h) ?_; refine Sb.c Tk.h ?_; refine Sb.c (Tk.t Tk.h) ?_); (refine Sb.s ?_; exact Sb.r))), ?_⟩
      refine GT.nil ?_
      rw [show pairsV (Y i m) ++ [i64 ((P1 : Int) + (x : Int)), i64 ((P2 : Int) + (y : Int))] = pairsV (Y i (m + 1)) by rw [hsu, ← pairsV_one, Int.natCast_add, Int.natCast_add], show (Y i m).length + 1 = (Y i (m + 1)).length by rw [hsu, List.length_append]; rfl]
      (refine GO.assign rfl rfl ?_; refine GO.nil ?_; refine kblock_n ?_; refine kthen_n ?_; refine G.region ?_; refine GO.move rfl rfl ?_; refine GO.addi rfl rfl rfl (by omega) ?_; refine GO.assign rfl rfl ?_; refine GO.nil ?_; refine kthen_n ?_)
      refine ⟨m + 1, v4, by omega, by omega, ?_, ?_⟩
      · (refine SubE.c rfl rfl ?_; refine SubE.c rfl rfl ?_; refine SubE.c rfl rfl ?_; refine SubE.c rfl rfl ?_; refine SubE.c rfl rfl ?_; refine SubE.c rfl rfl ?_; exact SubE.n)
      · ((refine Sb.c (Tk.t (Tk.t (Tk.t Tk.h))) ?_; refine Sb.c Tk.h ?_; refine Sb.c Tk.h ?_; refine Sb.c (Tk.t Tk.h) ?_; refine Sb.c Tk.h ?_); (exact Sb.r))
    · obtain rfl : m = (cellsX B).length := by omega
      rw [hend]
      (refine G.exit ?_; refine kthen_x ?_; refine kthen_x ?_; refine kblock_x ?_; refine kblock_n ?_; refine kthen_n ?_; refine G.region ?_; refine GO.move rfl rfl ?_; refine GO.addi rfl rfl rfl (by omega) ?_; refine GO.assign rfl rfl ?_; refine GO.nil ?_; refine kthen_n ?_)
      refine ⟨i + 1, v, by omega, by omega, ?_, ?_⟩
      · (refine SubE.c rfl rfl ?_; refine SubE.c rfl rfl ?_; refine SubE.c rfl rfl ?_; refine SubE.c rfl rfl ?_; refine SubE.c rfl rfl ?_; exact SubE.n)
      · ((refine Sb.c Tk.h ?_; refine Sb.c Tk.h ?_; refine Sb.c Tk.h ?_; refine Sb.c Tk.h ?_; refine Sb.c Tk.h ?_); (exact Sb.r))
  · obtain rfl : i = (cellsX A).length := by omega
    (refine G.exit ?_; refine kthen_x ?_; refine kthen_x ?_; refine kblock_x ?_; refine kthen_n ?_; refine G.seq ?_)
    refine G.drawT 8 192 [pt b2 (row [i64 (sA : Nat), .slice aa (cellsX A).length capa] 28), pt b3 (row [i64 (sB : Nat), .slice ab (cellsX B).length capb] 28)] (own 59 2 (Y (cellsX A).length 0).length v (pairsV (Y (cellsX A).length 0)) :: pt b4 (row [i64 0, .slice none 0 0] 28) :: z :: F) (by kernel_rfl) (keys_of rfl) (ImpS.sb (by ((refine Sb.c (Tk.t Tk.h) ?_; refine Sb.c (Tk.t Tk.h) ?_; refine Sb.c Tk.h ?_; refine Sb.c Tk.h ?_; refine Sb.c Tk.h ?_); (exact Sb.r)))) ?_
    ((apply GR.step rfl; focus (intro Z; refine GO.fieldAddr rfl rfl ?_; exact KQ.z)); (apply GR.step rfl; focus (intro Z; refine GO.load1 rfl rfl rfl Tk.h rfl ?_; exact KQ.z)); (apply GR.step rfl; focus (intro Z; refine GO.fieldAddr rfl rfl ?_; exact KQ.z)); (apply GR.step rfl; focus (intro Z; refine GO.load1 rfl rfl rfl (Tk.t Tk.h) rfl ?_; exact KQ.z)); (apply GR.step rfl; focus (intro Z; refine GO.muli rfl rfl rfl (by omega) ?_; exact KQ.z)); (apply GR.step rfl; focus (intro Z; refine GO.move rfl rfl ?_; exact KQ.z)); refine GR.skip rfl ?_; refine GR.skip rfl ?_; refine GR.nil ?_)
    (repeat refine GT.skip rfl ?_)
    rw [hcm]
    refine GT.step rfl ?_
    generalize Y (cellsX A).length 0 = L0 at hsort ⊢
    rw [show L0.length = (castL L0).length from (castL_len L0).symm]
    refine GO.ownSlC (l := castL L0) (Tk.t (Tk.t Tk.h)) fun hqq => ?_
    refine GO.call1 rfl rfl (hsort v _ hqq) (Tks.c (Tk.t (Tk.t Tk.h)) Tks.n) ?_
    rintro v2 _ rfl
    refine GO.nil ⟨rfl, _, own 59 2 (srt (castL L0)).length v2 (cellsV (srt (castL L0))) :: pt b4 (row [i64 0, .slice none 0 0] 28) :: z :: F, rfl, ImpS.sb (by ((refine Sb.c (Tk.t (Tk.t Tk.h)) ?_; refine Sb.c (Tk.t (Tk.t Tk.h)) ?_; refine Sb.c Tk.h ?_; refine Sb.c (Tk.t Tk.h) ?_; refine Sb.c (Tk.t Tk.h) ?_); (refine Sb.s ?_; exact Sb.r))), ?_⟩
    refine GT.step rfl ?_
    refine GO.ownV (Tk.t (Tk.t Tk.h)) fun a9 cap9 hv9 => ?_
    subst hv9
    refine GO.build2 rfl rfl rfl rfl ?_
    rw [show ∀ n : Nat, (putParts [i64 ((sA * sB : Nat) : Int), Value.slice a9 n cap9]).toArray = #[i64 ((sA * sB : Nat) : Int), Value.slice a9 n cap9] from fun n => by simp [putParts, Value.cells]]
    refine GO.nil ⟨rfl, _, _, rfl, ImpS.refl, ?_⟩
    refine GT.nil ?_
    (refine GO.storeW rfl rfl (Tk.t (Tk.t (Tk.t Tk.h))) ⟨rfl, rfl⟩ (by simp [Value.oneCell']) ?_; refine GO.nil ?_; refine kthen_n ?_; refine G.ret ?_)
    refine KF2.r1 rfl (RV.cW (n := 2) rfl rfl (by (exact Tk.h)) rfl) ⟨_, rfl, rfl⟩ (ImpS.sb ?_)
    ((refine Sb.c (Tk.t (Tk.t (Tk.t Tk.h))) ?_; refine Sb.c (Tk.t (Tk.t (Tk.t Tk.h))) ?_); (refine Sb.s ?_; refine Sb.s ?_; refine Sb.s ?_; exact Sb.r))
end Go.Proofs.YtebchcongefbcaaDoor
namespace Go.Proofs.YtebchcongefbcaaDoor
open Go
attribute [local irreducible] G GO GR GT GW Fn FnV pt init exs pur sat own ImpS mat posL allV orL restX cellsX cellsV pickL setC layL kronX uniX
theorem rkprod_ref (z : HP) (ra rb : Value) (sA sB : Nat) (A B : Nat → Nat → Bool) (hra : RefO z ra (some (sA, A))) (hrb : RefO z rb (some (sB, B))) (h1 : 1 ≤ sA) (h2 : 1 ≤ sB) (hs : sA * sB ≤ 1024) (hx : ∀ r c, A r c = true → r < sA ∧ c < sA) (hy : ∀ r c, B r c = true → r < sB ∧ c < sB) :
    Fn Tryd.prog 33 #[ra, rb] [z] (fun r Q => ∃ v p, r = refV ((sA * sB : Nat) : Int) v ∧ v.oneCell' = true ∧ RefO p (refV ((sA * sB : Nat) : Int) v) (some (sA * sB, kronX sB A B)) ∧ Q = [p, z]) := by
  have h := rkprod_core z ra rb sA sB A B hra hrb h1 h2 hs hx hy
  unfold Fn at *
  intro F w hw
  refine (h F w hw).mono ?_
  rintro e w' ⟨v, Q, h1, h2, ⟨u, rfl, rfl⟩, d⟩
  have d1 := own_one d
  have d2 := own_slC d
  exact ⟨_, _, h1, h2, ⟨u, _, rfl, d1, RefO.own d1 d2, rfl⟩, d⟩
set_option maxHeartbeats 8000000 in
theorem rProduct_spec (z : HP) (ra rb : Value) (a b : OptM) (hra : RefO z ra a) (hrb : RefO z rb b) (wa : WfM a) (wb : WfM b) :
    Fn Tryd.prog 12 #[ra, rb] [z] (fun r Q => ∃ rv p, r = .tuple #[rv, i64 (kronE a b)] ∧ RefO p rv (kronO a b) ∧ Q = [p, z]) := by
  have hwa := wa.side
  have hwb := wb.side
  have hmul : ((sideO a : Nat) : Int) * ((sideO b : Nat) : Int) = ((sideO a * sideO b : Nat) : Int) := (Int.natCast_mul _ _).symm
  have hma : sideO a * sideO b ≤ 1024 * 1024 := Nat.mul_le_mul hwa hwb
  by_cases h0 : sideO a = 0 ∨ sideO b = 0
  · have hE : kronE a b = 1 := by
      unfold kronE
      rcases h0 with h | h
      · rw [if_pos h]
      · by_cases h2 : sideO a = 0
        · rw [if_pos h2]
        · rw [if_neg h2, if_pos h]
    have hO : kronO a b = none := by unfold kronO; rw [hE]; rfl
    rw [hE, hO]
    obtain ⟨va, rfl, honea⟩ := hra.slR
    obtain ⟨vb, rfl, honeb⟩ := hrb.slR
    by_cases h1 : sideO a = 0
    · have d1 : decide (((sideO a : Nat) : Int) = 0) = true := decide_eq_true (by omega)
      refine Fn.mk2 Tryd.func12 rfl rfl fun w0 F => ?_
      (refine G.seq ?_; refine G.region ?_; refine GO.box rfl rfl rfl fun b2 => ?_; refine GO.box rfl rfl rfl fun b3 => ?_; refine GO.alloc rfl fun b4 => ?_; refine GO.assign rfl rfl ?_; refine GO.nil ?_; refine kthen_n ?_; refine G.seq ?_; refine G.seq ?_; refine G.region ?_; refine GO.fieldAddr rfl rfl ?_; refine GO.load1 rfl rfl rfl (Tk.t (Tk.t Tk.h)) rfl ?_; refine GO.eqi rfl rfl rfl ?_; refine GO.move rfl rfl ?_; refine GO.gF rfl rfl rfl (by assumption) ?_; refine GO.gF rfl rfl rfl (by assumption) ?_; refine GO.gF rfl rfl rfl (by assumption) ?_; refine GO.pickTa rfl rfl (by assumption) rfl ?_; refine GO.nil ?_; refine kthen_n ?_; refine G.condT rfl rfl ?_; refine G.seq ?_; refine G.region ?_; refine GO.build0 rfl ?_; refine GO.storeW rfl rfl Tk.h ⟨rfl, rfl⟩ (by simp [Value.oneCell']) ?_; refine GO.assign rfl rfl ?_; refine GO.nil ?_; refine kthen_n ?_; refine G.ret ?_; refine kthen_r ?_)
      refine KF2.r2 rfl (RV.cW (n := 2) rfl rfl (by (exact Tk.h)) rfl) (RV.t rfl) ⟨_, star [], rfl, RefO.nil _, rfl⟩ (ImpS.flat (k := []) (M := z :: F) (ImpS.sb ?_))
      ((refine Sb.c (Tk.t (Tk.t (Tk.t Tk.h))) ?_); (refine Sb.s ?_; refine Sb.s ?_; refine Sb.s ?_; exact Sb.r))
    · have d1 : decide (((sideO a : Nat) : Int) = 0) = false := decide_eq_false (by omega)
      have d2 : decide (((sideO b : Nat) : Int) = 0) = true := decide_eq_true (by omega)
      refine Fn.mk2 Tryd.func12 rfl rfl fun w0 F => ?_
      (refine G.seq ?_; refine G.region ?_; refine GO.box rfl rfl rfl fun b2 => ?_; refine GO.box rfl rfl rfl fun b3 => ?_; refine GO.alloc rfl fun b4 => ?_; refine GO.assign rfl rfl ?_; refine GO.nil ?_; refine kthen_n ?_; refine G.seq ?_; refine G.seq ?_; refine G.region ?_; refine GO.fieldAddr rfl rfl ?_; refine GO.load1 rfl rfl rfl (Tk.t (Tk.t Tk.h)) rfl ?_; refine GO.eqi rfl rfl rfl ?_; refine GO.move rfl rfl ?_; refine GO.gT rfl rfl (by assumption) ?_; refine GO.fieldAddr rfl rfl ?_; refine GO.gT rfl rfl (by assumption) ?_; refine GO.load1 rfl rfl rfl (Tk.t Tk.h) rfl ?_; refine GO.gT rfl rfl (by assumption) ?_; refine GO.eqi rfl rfl rfl ?_; refine GO.pickFa rfl rfl (by assumption) rfl ?_; refine GO.nil ?_; refine kthen_n ?_; refine G.condT rfl (by assumption) ?_; refine G.seq ?_; refine G.region ?_; refine GO.build0 rfl ?_; refine GO.storeW rfl rfl Tk.h ⟨rfl, rfl⟩ (by simp [Value.oneCell']) ?_; refine GO.assign rfl rfl ?_; refine GO.nil ?_; refine kthen_n ?_; refine G.ret ?_; refine kthen_r ?_)
      refine KF2.r2 rfl (RV.cW (n := 2) rfl rfl (by (exact Tk.h)) rfl) (RV.t rfl) ⟨_, star [], rfl, RefO.nil _, rfl⟩ (ImpS.flat (k := []) (M := z :: F) (ImpS.sb ?_))
      ((refine Sb.c (Tk.t (Tk.t (Tk.t Tk.h))) ?_); (refine Sb.s ?_; refine Sb.s ?_; refine Sb.s ?_; exact Sb.r))
  have ha2 : sideO a ≠ 0 := fun h => h0 (.inl h)
  have hb2 : sideO b ≠ 0 := fun h => h0 (.inr h)
  have d1 : decide (((sideO a : Nat) : Int) = 0) = false := decide_eq_false (by omega)
  have d2 : decide (((sideO b : Nat) : Int) = 0) = false := decide_eq_false (by omega)
  by_cases h1 : 1024 < sideO a * sideO b
  · have hE : kronE a b = 5 := by unfold kronE; rw [if_neg ha2, if_neg hb2, if_pos h1]
    have hO : kronO a b = none := by unfold kronO; rw [hE]; rfl
    rw [hE, hO]
    obtain ⟨va, rfl, honea⟩ := hra.slR
    obtain ⟨vb, rfl, honeb⟩ := hrb.slR
    have d3 : decide (1024 < ((sideO a : Nat) : Int) * ((sideO b : Nat) : Int)) = true := by rw [hmul]; exact decide_eq_true (by omega)
    refine Fn.mk2 Tryd.func12 rfl rfl fun w0 F => ?_
    generalize sideO a * sideO b = sC at hmul hma
    (refine G.seq ?_; refine G.region ?_; refine GO.box rfl rfl rfl fun b2 => ?_; refine GO.box rfl rfl rfl fun b3 => ?_; refine GO.alloc rfl fun b4 => ?_; refine GO.assign rfl rfl ?_; refine GO.nil ?_; refine kthen_n ?_; refine G.seq ?_; refine G.seq ?_; refine G.region ?_; refine GO.fieldAddr rfl rfl ?_; refine GO.load1 rfl rfl rfl (Tk.t (Tk.t Tk.h)) rfl ?_; refine GO.eqi rfl rfl rfl ?_; refine GO.move rfl rfl ?_; refine GO.gT rfl rfl (by assumption) ?_; refine GO.fieldAddr rfl rfl ?_; refine GO.gT rfl rfl (by assumption) ?_; refine GO.load1 rfl rfl rfl (Tk.t Tk.h) rfl ?_; refine GO.gT rfl rfl (by assumption) ?_; refine GO.eqi rfl rfl rfl ?_; refine GO.pickFa rfl rfl (by assumption) rfl ?_; refine GO.nil ?_; refine kthen_n ?_; refine G.condF rfl (by assumption) ?_; refine G.skip ?_; refine kthen_n ?_; refine G.seq ?_; refine G.seq ?_; refine G.region ?_; refine GO.fieldAddr rfl rfl ?_; refine GO.load1 rfl rfl rfl (Tk.t (Tk.t Tk.h)) rfl ?_; refine GO.fieldAddr rfl rfl ?_; refine GO.load1 rfl rfl rfl (Tk.t Tk.h) rfl ?_; refine GO.muli rfl rfl rfl (by omega) ?_; refine GO.gti rfl rfl rfl ?_; refine GO.nil ?_; refine kthen_n ?_; refine G.condT rfl (by assumption) ?_; refine G.seq ?_; refine G.region ?_; refine GO.build0 rfl ?_; refine GO.storeW rfl rfl Tk.h ⟨rfl, rfl⟩ (by simp [Value.oneCell']) ?_; refine GO.assign rfl rfl ?_; refine GO.nil ?_; refine kthen_n ?_; refine G.ret ?_; refine kthen_r ?_)
    refine KF2.r2 rfl (RV.cW (n := 2) rfl rfl (by (exact Tk.h)) rfl) (RV.t rfl) ⟨_, star [], rfl, RefO.nil _, rfl⟩ (ImpS.flat (k := []) (M := z :: F) (ImpS.sb ?_))
    ((refine Sb.c (Tk.t (Tk.t (Tk.t Tk.h))) ?_); (refine Sb.s ?_; refine Sb.s ?_; refine Sb.s ?_; exact Sb.r))
  · have hE : kronE a b = 0 := by unfold kronE; rw [if_neg ha2, if_neg hb2, if_neg h1]
    have hO : kronO a b = some (sideO a * sideO b, kronX (sideO b) (setO a) (setO b)) := if_pos hE
    have hp := rkprod_ref z ra rb (sideO a) (sideO b) (setO a) (setO b) (by rw [← some_of ha2]; exact hra) (by rw [← some_of hb2]; exact hrb) (by omega) (by omega) (by omega) wa.in wb.in
    rw [hE, hO]
    obtain ⟨va, rfl, honea⟩ := hra.slR
    obtain ⟨vb, rfl, honeb⟩ := hrb.slR
    have d3 : decide (1024 < ((sideO a : Nat) : Int) * ((sideO b : Nat) : Int)) = false := by rw [hmul]; exact decide_eq_false (by omega)
    generalize sideO a * sideO b = sC at hmul hma hp ⊢
    refine Fn.mk2 Tryd.func12 rfl rfl fun w0 F => ?_
    (refine G.seq ?_; refine G.region ?_; refine GO.box rfl rfl rfl fun b2 => ?_; refine GO.box rfl rfl rfl fun b3 => ?_; refine GO.alloc rfl fun b4 => ?_; refine GO.assign rfl rfl ?_; refine GO.nil ?_; refine kthen_n ?_; refine G.seq ?_; refine G.seq ?_; refine G.region ?_; refine GO.fieldAddr rfl rfl ?_; refine GO.load1 rfl rfl rfl (Tk.t (Tk.t Tk.h)) rfl ?_; refine GO.eqi rfl rfl rfl ?_; refine GO.move rfl rfl ?_; refine GO.gT rfl rfl (by assumption) ?_; refine GO.fieldAddr rfl rfl ?_; refine GO.gT rfl rfl (by assumption) ?_; refine GO.load1 rfl rfl rfl (Tk.t Tk.h) rfl ?_; refine GO.gT rfl rfl (by assumption) ?_; refine GO.eqi rfl rfl rfl ?_; refine GO.pickFa rfl rfl (by assumption) rfl ?_; refine GO.nil ?_; refine kthen_n ?_; refine G.condF rfl (by assumption) ?_; refine G.skip ?_; refine kthen_n ?_; refine G.seq ?_; refine G.seq ?_; refine G.region ?_; refine GO.fieldAddr rfl rfl ?_; refine GO.load1 rfl rfl rfl (Tk.t (Tk.t Tk.h)) rfl ?_; refine GO.fieldAddr rfl rfl ?_; refine GO.load1 rfl rfl rfl (Tk.t Tk.h) rfl ?_; refine GO.muli rfl rfl rfl (by omega) ?_; refine GO.gti rfl rfl rfl ?_; refine GO.nil ?_; refine kthen_n ?_; refine G.condF rfl (by assumption) ?_; refine G.skip ?_; refine kthen_n ?_; refine G.seq ?_; refine G.region ?_; refine GO.loadW rfl rfl rfl (Tk.t (Tk.t Tk.h)) rfl ?_; refine GO.loadW rfl rfl rfl (Tk.t Tk.h) rfl ?_)
    refine GO.call2 rfl rfl rfl (hp) (Tks.c (Tk.t (Tk.t (Tk.t Tk.h))) Tks.n) ?_
    rintro _ _ ⟨v, p, rfl, hone, hr, rfl⟩
    (refine GO.storeW rfl rfl (Tk.t (Tk.t Tk.h)) ⟨rfl, rfl⟩ (by simp [Value.oneCell']; assumption) ?_; refine GO.assign rfl rfl ?_; refine GO.nil ?_; refine kthen_n ?_; refine G.ret ?_)
    refine KF2.r2 rfl (RV.cW (n := 2) rfl rfl (by (exact Tk.h)) rfl) (RV.t rfl) ⟨_, _, rfl, hr, rfl⟩ (ImpS.sb ?_)
    ((refine Sb.c (Tk.t Tk.h) ?_; refine Sb.c (Tk.t Tk.h) ?_); (refine Sb.s ?_; refine Sb.s ?_; refine Sb.s ?_; exact Sb.r))
end Go.Proofs.YtebchcongefbcaaDoor
namespace Go.Proofs.YtebchcongefbcaaDoor
open Go
attribute [local irreducible] G GO GR GT GW Fn FnV pt init exs pur sat own ImpS mat posL allV orL restX cellsX cellsV pickL setC layL kronX uniX
set_option maxHeartbeats 16000000 in
theorem rKInto_spec (z : HP) (rc ra rb : Value) (c a b : OptM) (hrc : RefO z rc c) (hra : RefO z ra a) (hrb : RefO z rb b) (wc : WfM c) (wa : WfM a) (wb : WfM b) :
    Fn Tryd.prog 15 #[rc, ra, rb] [z] (fun r Q => ∃ rv z', r = .tuple #[rv, .bool (kinB c a b), i64 (kinE c a b)] ∧ RefO z' rv (kinO c a b) ∧ Sup z z' ∧ Q = [z']) := by
  have hwa := wa.side
  have hwb := wb.side
  have hwc := wc.side
  have hmul : ((sideO a : Nat) : Int) * ((sideO b : Nat) : Int) = ((sideO a * sideO b : Nat) : Int) := (Int.natCast_mul _ _).symm
  have hma : sideO a * sideO b ≤ 1024 * 1024 := Nat.mul_le_mul hwa hwb
  by_cases h0 : kinE c a b = 0
  · obtain ⟨hc2, ha2, hb2, h1⟩ := kinE_ok h0
    have hO : kinO c a b = some (sideO c, uniX (setO c) (kronX (sideO b) (setO a) (setO b))) := if_pos h0
    have hB : kinB c a b = decide (cntX (setO c) < cntX (uniX (setO c) (kronX (sideO b) (setO a) (setO b)))) := if_pos h0
    rw [h0, hO, hB]
    have ht := rkprod_ref z ra rb (sideO a) (sideO b) (setO a) (setO b) (by rw [← some_of ha2]; exact hra) (by rw [← some_of hb2]; exact hrb) (by omega) (by omega) (by omega) wa.in wb.in
    rw [← h1] at ht hmul
    have hkin := kron_in wa.in (X := setO a) (Y := setO b) (q := sideO b) (by omega)
    rw [← h1] at hkin
    have hj := fun (p : HP) (v : Value) (hp : RefO p (refV (sideO c) v) (some (sideO c, kronX (sideO b) (setO a) (setO b)))) => rJoin_same (star [p, z]) rc (refV (sideO c) v) (sideO c) (setO c) (kronX (sideO b) (setO a) (setO b)) (by rw [← some_of hc2]; exact hrc.right) hp.left ⟨by omega, hwc⟩ wc.in hkin
    obtain ⟨vc, rfl, honec⟩ := hrc.slR
    obtain ⟨va, rfl, honea⟩ := hra.slR
    obtain ⟨vb, rfl, honeb⟩ := hrb.slR
    generalize kronX (sideO b) (setO a) (setO b) = M at ht hj ⊢
    generalize setO c = C at hj ⊢
    generalize decide (cntX C < cntX (uniX C M)) = bn at hj ⊢
    have d1 : decide (((sideO c : Nat) : Int) = 0) = false := decide_eq_false (by omega)
    have d2 : decide (((sideO a : Nat) : Int) = 0) = false := decide_eq_false (by omega)
    have d3 : decide (((sideO b : Nat) : Int) = 0) = false := decide_eq_false (by omega)
    have d4 : decide (((sideO a : Nat) : Int) * ((sideO b : Nat) : Int) ≠ ((sideO c : Nat) : Int)) = false := by rw [hmul]; exact decide_eq_false (fun h => h rfl)
    generalize sideO c = s at *
    refine Fn.mk2 Tryd.func15 rfl rfl fun w0 F => ?_
    (refine G.seq ?_; refine G.region ?_; refine GO.box rfl rfl rfl fun b3 => ?_; refine GO.box rfl rfl rfl fun b4 => ?_; refine GO.box rfl rfl rfl fun b5 => ?_; refine GO.alloc rfl fun b6 => ?_; refine GO.assign rfl rfl ?_; refine GO.assign rfl rfl ?_; refine GO.nil ?_; refine kthen_n ?_; refine G.seq ?_; refine G.seq ?_; refine G.region ?_; refine GO.fieldAddr rfl rfl ?_; refine GO.load1 rfl rfl rfl (Tk.t (Tk.t (Tk.t Tk.h))) rfl ?_; refine GO.eqi rfl rfl rfl ?_; refine GO.move rfl rfl ?_; refine GO.gT rfl rfl (by assumption) ?_; refine GO.fieldAddr rfl rfl ?_; refine GO.gT rfl rfl (by assumption) ?_; refine GO.load1 rfl rfl rfl (Tk.t (Tk.t Tk.h)) rfl ?_; refine GO.gT rfl rfl (by assumption) ?_; refine GO.eqi rfl rfl rfl ?_; refine GO.pickFa rfl rfl (by assumption) rfl ?_; refine GO.move rfl rfl ?_; refine GO.gT rfl rfl (by assumption) ?_; refine GO.fieldAddr rfl rfl ?_; refine GO.gT rfl rfl (by assumption) ?_; refine GO.load1 rfl rfl rfl (Tk.t Tk.h) rfl ?_; refine GO.gT rfl rfl (by assumption) ?_; refine GO.eqi rfl rfl rfl ?_; refine GO.pickFa rfl rfl (by assumption) rfl ?_; refine GO.nil ?_; refine kthen_n ?_; refine G.condF rfl (by assumption) ?_; refine G.skip ?_; refine kthen_n ?_; refine G.seq ?_; refine G.seq ?_; refine G.region ?_; refine GO.fieldAddr rfl rfl ?_; refine GO.load1 rfl rfl rfl (Tk.t (Tk.t Tk.h)) rfl ?_; refine GO.fieldAddr rfl rfl ?_; refine GO.load1 rfl rfl rfl (Tk.t Tk.h) rfl ?_; refine GO.muli rfl rfl rfl (by omega) ?_; refine GO.fieldAddr rfl rfl ?_; refine GO.load1 rfl rfl rfl (Tk.t (Tk.t (Tk.t Tk.h))) rfl ?_; refine GO.nei rfl rfl rfl ?_; refine GO.nil ?_; refine kthen_n ?_; refine G.condF rfl (by assumption) ?_; refine G.skip ?_; refine kthen_n ?_; refine G.seq ?_)
    refine G.drawW 8 248 5 [pt b3 (row [i64 (s : Nat), vc] 28), pt b4 (row [i64 (sideO a : Nat), va] 28), pt b5 (row [i64 (sideO b : Nat), vb] 28)] (z :: pt b6 (row [i64 0, .slice none 0 0] 28) :: F)
      (fun L' H' => ∃ v2 p1 p2, v2.oneCell' = true ∧ RefO p2 (refV s v2) (some (s, uniX C M)) ∧ SubE [(37, refV s v2), (38, .bool bn), (39, i64 0), (6, ptrV b6)] L' ∧ ImpS H' (p2 :: star [p1, z] :: pt b6 (row [i64 0, .slice none 0 0] 28) :: F)) (by kernel_rfl) (by kernel_rfl) (keys_of rfl) (ImpS.sb (by ((refine Sb.c (Tk.t (Tk.t (Tk.t Tk.h))) ?_; refine Sb.c (Tk.t (Tk.t Tk.h)) ?_; refine Sb.c (Tk.t Tk.h) ?_; refine Sb.c (Tk.t Tk.h) ?_; refine Sb.c Tk.h ?_); (exact Sb.r)))) ?_ ?_
    · ((apply GR.step rfl; focus (intro Z; refine GO.loadW rfl rfl rfl Tk.h rfl ?_; exact KQ.z)); (apply GR.step rfl; focus (intro Z; refine GO.loadW rfl rfl rfl (Tk.t Tk.h) rfl ?_; exact KQ.z)); (apply GR.step rfl; focus (intro Z; refine GO.loadW rfl rfl rfl (Tk.t (Tk.t Tk.h)) rfl ?_; exact KQ.z)); refine GR.skip rfl ?_; refine GR.skip rfl ?_; refine GR.skip rfl ?_; refine GR.skip rfl ?_; refine GR.skip rfl ?_; refine GR.nil ?_)
      refine GW.one (i := 3) (by kernel_rfl) rfl ?_
      refine GO.call2 rfl rfl rfl (ht) (Tks.c (Tk.t (Tk.t (Tk.t Tk.h))) Tks.n) ?_
      rintro _ _ ⟨v1, p1, rfl, hone1, hp1, rfl⟩
      refine GO.merge (x := p1) (y := z) (Tks.c Tk.h (Tks.c Tk.h Tks.n)) ?_
      refine GO.nil ⟨rfl, _, star [p1, z] :: pt b6 (row [i64 0, .slice none 0 0] 28) :: F, rfl, ImpS.sb (by ((refine Sb.c (Tk.t Tk.h) ?_; refine Sb.c (Tk.t Tk.h) ?_; refine Sb.c (Tk.t Tk.h) ?_; refine Sb.c Tk.h ?_; refine Sb.c Tk.h ?_); (exact Sb.r))), ?_⟩
      refine GW.one (i := 4) (by kernel_rfl) rfl ?_
      refine GO.call2 rfl rfl rfl (hj p1 v1 hp1) (Tks.c (Tk.t (Tk.t (Tk.t Tk.h))) Tks.n) ?_
      rintro _ _ ⟨v2, p2, rfl, hone2, hp2, rfl⟩
      refine GO.nil ⟨rfl, _, p2 :: star [p1, z] :: pt b6 (row [i64 0, .slice none 0 0] 28) :: F, rfl, ImpS.sb (by ((refine Sb.c (Tk.t (Tk.t Tk.h)) ?_; refine Sb.c (Tk.t (Tk.t Tk.h)) ?_; refine Sb.c (Tk.t (Tk.t Tk.h)) ?_; refine Sb.c Tk.h ?_; refine Sb.c Tk.h ?_; refine Sb.c Tk.h ?_); (exact Sb.r))), ?_⟩
      refine GW.three (i1 := 5) (i2 := 6) (i3 := 7) (by kernel_rfl) rfl rfl rfl ?_ ?_ ?_
      · refine GO.extract rfl rfl rfl ?_
        refine GO.nil ⟨rfl, _, _, rfl, ImpS.refl, ?_⟩
        refine GW.two (i1 := 6) (i2 := 7) (by kernel_rfl) rfl rfl ?_ ?_
        · refine GO.extract rfl rfl rfl ?_
          refine GO.nil ⟨rfl, _, _, rfl, ImpS.refl, ?_⟩
          refine GW.one (i := 7) (by kernel_rfl) rfl ?_
          · refine GO.extract rfl rfl rfl ?_
            refine GO.nil ⟨rfl, _, _, rfl, ImpS.refl, ?_⟩
            refine GW.nil ⟨v2, p1, p2, hone2, hp2, by (refine SubE.c rfl rfl ?_; refine SubE.c rfl rfl ?_; refine SubE.c rfl rfl ?_; refine SubE.c rfl rfl ?_; exact SubE.n), ImpS.sb (by ((refine Sb.c (Tk.t (Tk.t (Tk.t Tk.h))) ?_; refine Sb.c (Tk.t (Tk.t (Tk.t Tk.h))) ?_; refine Sb.c (Tk.t (Tk.t (Tk.t Tk.h))) ?_); (refine Sb.s ?_; refine Sb.s ?_; refine Sb.s ?_; exact Sb.r)))⟩
        · refine GO.extract rfl rfl rfl ?_
          refine GO.nil ⟨rfl, _, _, rfl, ImpS.refl, ?_⟩
          refine GW.one (i := 6) (by kernel_rfl) rfl ?_
          · refine GO.extract rfl rfl rfl ?_
            refine GO.nil ⟨rfl, _, _, rfl, ImpS.refl, ?_⟩
            refine GW.nil ⟨v2, p1, p2, hone2, hp2, by (refine SubE.c rfl rfl ?_; refine SubE.c rfl rfl ?_; refine SubE.c rfl rfl ?_; refine SubE.c rfl rfl ?_; exact SubE.n), ImpS.sb (by ((refine Sb.c (Tk.t (Tk.t (Tk.t Tk.h))) ?_; refine Sb.c (Tk.t (Tk.t (Tk.t Tk.h))) ?_; refine Sb.c (Tk.t (Tk.t (Tk.t Tk.h))) ?_); (refine Sb.s ?_; refine Sb.s ?_; refine Sb.s ?_; exact Sb.r)))⟩
      · refine GO.extract rfl rfl rfl ?_
        refine GO.nil ⟨rfl, _, _, rfl, ImpS.refl, ?_⟩
        refine GW.two (i1 := 5) (i2 := 7) (by kernel_rfl) rfl rfl ?_ ?_
        · refine GO.extract rfl rfl rfl ?_
          refine GO.nil ⟨rfl, _, _, rfl, ImpS.refl, ?_⟩
          refine GW.one (i := 7) (by kernel_rfl) rfl ?_
          · refine GO.extract rfl rfl rfl ?_
            refine GO.nil ⟨rfl, _, _, rfl, ImpS.refl, ?_⟩
            refine GW.nil ⟨v2, p1, p2, hone2, hp2, by (refine SubE.c rfl rfl ?_; refine SubE.c rfl rfl ?_; refine SubE.c rfl rfl ?_; refine SubE.c rfl rfl ?_; exact SubE.n), ImpS.sb (by ((refine Sb.c (Tk.t (Tk.t (Tk.t Tk.h))) ?_; refine Sb.c (Tk.t (Tk.t (Tk.t Tk.h))) ?_; refine Sb.c (Tk.t (Tk.t (Tk.t Tk.h))) ?_); (refine Sb.s ?_; refine Sb.s ?_; refine Sb.s ?_; exact Sb.r)))⟩
        · refine GO.extract rfl rfl rfl ?_
          refine GO.nil ⟨rfl, _, _, rfl, ImpS.refl, ?_⟩
          refine GW.one (i := 5) (by kernel_rfl) rfl ?_
          · refine GO.extract rfl rfl rfl ?_
            refine GO.nil ⟨rfl, _, _, rfl, ImpS.refl, ?_⟩
            refine GW.nil ⟨v2, p1, p2, hone2, hp2, by (refine SubE.c rfl rfl ?_; refine SubE.c rfl rfl ?_; refine SubE.c rfl rfl ?_; refine SubE.c rfl rfl ?_; exact SubE.n), ImpS.sb (by ((refine Sb.c (Tk.t (Tk.t (Tk.t Tk.h))) ?_; refine Sb.c (Tk.t (Tk.t (Tk.t Tk.h))) ?_; refine Sb.c (Tk.t (Tk.t (Tk.t Tk.h))) ?_); (refine Sb.s ?_; refine Sb.s ?_; refine Sb.s ?_; exact Sb.r)))⟩
      · refine GO.extract rfl rfl rfl ?_
        refine GO.nil ⟨rfl, _, _, rfl, ImpS.refl, ?_⟩
        refine GW.two (i1 := 5) (i2 := 6) (by kernel_rfl) rfl rfl ?_ ?_
        · refine GO.extract rfl rfl rfl ?_
          refine GO.nil ⟨rfl, _, _, rfl, ImpS.refl, ?_⟩
          refine GW.one (i := 6) (by kernel_rfl) rfl ?_
          · refine GO.extract rfl rfl rfl ?_
            refine GO.nil ⟨rfl, _, _, rfl, ImpS.refl, ?_⟩
            refine GW.nil ⟨v2, p1, p2, hone2, hp2, by (refine SubE.c rfl rfl ?_; refine SubE.c rfl rfl ?_; refine SubE.c rfl rfl ?_; refine SubE.c rfl rfl ?_; exact SubE.n), ImpS.sb (by ((refine Sb.c (Tk.t (Tk.t (Tk.t Tk.h))) ?_; refine Sb.c (Tk.t (Tk.t (Tk.t Tk.h))) ?_; refine Sb.c (Tk.t (Tk.t (Tk.t Tk.h))) ?_); (refine Sb.s ?_; refine Sb.s ?_; refine Sb.s ?_; exact Sb.r)))⟩
        · refine GO.extract rfl rfl rfl ?_
          refine GO.nil ⟨rfl, _, _, rfl, ImpS.refl, ?_⟩
          refine GW.one (i := 5) (by kernel_rfl) rfl ?_
          · refine GO.extract rfl rfl rfl ?_
            refine GO.nil ⟨rfl, _, _, rfl, ImpS.refl, ?_⟩
            refine GW.nil ⟨v2, p1, p2, hone2, hp2, by (refine SubE.c rfl rfl ?_; refine SubE.c rfl rfl ?_; refine SubE.c rfl rfl ?_; refine SubE.c rfl rfl ?_; exact SubE.n), ImpS.sb (by ((refine Sb.c (Tk.t (Tk.t (Tk.t Tk.h))) ?_; refine Sb.c (Tk.t (Tk.t (Tk.t Tk.h))) ?_; refine Sb.c (Tk.t (Tk.t (Tk.t Tk.h))) ?_); (refine Sb.s ?_; refine Sb.s ?_; refine Sb.s ?_; exact Sb.r)))⟩
    · rintro L' H' ⟨v2, p1, p2, hone2, hp2, hL, hH⟩
      refine GO.keep hH (GO.sub hL Sb.r ?_)
      (refine GO.storeW rfl rfl (Tk.t (Tk.t Tk.h)) ⟨rfl, rfl⟩ (by simp [Value.oneCell']; assumption) ?_; refine GO.assign rfl rfl ?_; refine GO.assign rfl rfl ?_; refine GO.nil ?_; refine kthen_n ?_; refine G.ret ?_)
      refine KF2.r3 rfl (RV.cW (n := 2) rfl rfl (by (exact Tk.h)) rfl) (RV.t rfl) (RV.t rfl) ⟨_, star [p2, star [p1, z]], rfl, hp2.left, (Sup.right p1 z).trans (Sup.right p2 _), rfl⟩ (ImpS.flat (k := [p2, star [p1, z]]) (M := F) (ImpS.sb ?_))
      ((refine Sb.c (Tk.t Tk.h) ?_; refine Sb.c (Tk.t Tk.h) ?_); (refine Sb.s ?_; exact Sb.r))
  · have hO : kinO c a b = c := if_neg h0
    have hB : kinB c a b = false := if_neg h0
    rw [hO, hB]
    obtain ⟨vc, rfl, honec⟩ := hrc.slR
    obtain ⟨va, rfl, honea⟩ := hra.slR
    obtain ⟨vb, rfl, honeb⟩ := hrb.slR
    by_cases h1 : sideO c = 0
    · have hE : kinE c a b = 1 := if_pos h1
      rw [hE]
      have d1 : decide (((sideO c : Nat) : Int) = 0) = true := decide_eq_true (by omega)
      refine Fn.mk2 Tryd.func15 rfl rfl fun w0 F => ?_
      (refine G.seq ?_; refine G.region ?_; refine GO.box rfl rfl rfl fun b3 => ?_; refine GO.box rfl rfl rfl fun b4 => ?_; refine GO.box rfl rfl rfl fun b5 => ?_; refine GO.alloc rfl fun b6 => ?_; refine GO.assign rfl rfl ?_; refine GO.assign rfl rfl ?_; refine GO.nil ?_; refine kthen_n ?_; refine G.seq ?_; refine G.seq ?_; refine G.region ?_; refine GO.fieldAddr rfl rfl ?_; refine GO.load1 rfl rfl rfl (Tk.t (Tk.t (Tk.t Tk.h))) rfl ?_; refine GO.eqi rfl rfl rfl ?_; refine GO.move rfl rfl ?_; refine GO.gF rfl rfl rfl (by assumption) ?_; refine GO.gF rfl rfl rfl (by assumption) ?_; refine GO.gF rfl rfl rfl (by assumption) ?_; refine GO.pickTa rfl rfl (by assumption) rfl ?_; refine GO.move rfl rfl ?_; refine GO.gF rfl rfl rfl rfl ?_; refine GO.gF rfl rfl rfl rfl ?_; refine GO.gF rfl rfl rfl rfl ?_; refine GO.pickT rfl rfl rfl ?_; refine GO.nil ?_; refine kthen_n ?_; refine G.condT rfl rfl ?_; refine G.seq ?_; refine G.region ?_; refine GO.loadW rfl rfl rfl (Tk.t (Tk.t (Tk.t Tk.h))) rfl ?_; refine GO.storeW rfl rfl Tk.h ⟨rfl, rfl⟩ (by simp [Value.oneCell']; assumption) ?_; refine GO.assign rfl rfl ?_; refine GO.assign rfl rfl ?_; refine GO.nil ?_; refine kthen_n ?_; refine G.ret ?_; refine kthen_r ?_)
      refine KF2.r3 rfl (RV.cW (n := 2) rfl rfl (by (exact Tk.h)) rfl) (RV.t rfl) (RV.t rfl) ⟨_, z, rfl, hrc, Sup.refl z, rfl⟩ (ImpS.sb ?_)
      ((refine Sb.c (Tk.t (Tk.t (Tk.t (Tk.t Tk.h)))) ?_); (refine Sb.s ?_; refine Sb.s ?_; refine Sb.s ?_; refine Sb.s ?_; exact Sb.r))
    have d1 : decide (((sideO c : Nat) : Int) = 0) = false := decide_eq_false (by omega)
    by_cases h2 : sideO a = 0
    · have hE : kinE c a b = 1 := by unfold kinE; rw [if_neg h1, if_pos h2]
      rw [hE]
      have d2 : decide (((sideO a : Nat) : Int) = 0) = true := decide_eq_true (by omega)
      refine Fn.mk2 Tryd.func15 rfl rfl fun w0 F => ?_
      (refine G.seq ?_; refine G.region ?_; refine GO.box rfl rfl rfl fun b3 => ?_; refine GO.box rfl rfl rfl fun b4 => ?_; refine GO.box rfl rfl rfl fun b5 => ?_; refine GO.alloc rfl fun b6 => ?_; refine GO.assign rfl rfl ?_; refine GO.assign rfl rfl ?_; refine GO.nil ?_; refine kthen_n ?_; refine G.seq ?_; refine G.seq ?_; refine G.region ?_; refine GO.fieldAddr rfl rfl ?_; refine GO.load1 rfl rfl rfl (Tk.t (Tk.t (Tk.t Tk.h))) rfl ?_; refine GO.eqi rfl rfl rfl ?_; refine GO.move rfl rfl ?_; refine GO.gT rfl rfl (by assumption) ?_; refine GO.fieldAddr rfl rfl ?_; refine GO.gT rfl rfl (by assumption) ?_; refine GO.load1 rfl rfl rfl (Tk.t (Tk.t Tk.h)) rfl ?_; refine GO.gT rfl rfl (by assumption) ?_; refine GO.eqi rfl rfl rfl ?_; refine GO.pickFa rfl rfl (by assumption) rfl ?_; refine GO.move rfl rfl ?_; refine GO.gF rfl rfl rfl (by assumption) ?_; refine GO.gF rfl rfl rfl (by assumption) ?_; refine GO.gF rfl rfl rfl (by assumption) ?_; refine GO.pickTa rfl rfl (by assumption) rfl ?_; refine GO.nil ?_; refine kthen_n ?_; refine G.condT rfl rfl ?_; refine G.seq ?_; refine G.region ?_; refine GO.loadW rfl rfl rfl (Tk.t (Tk.t (Tk.t Tk.h))) rfl ?_; refine GO.storeW rfl rfl Tk.h ⟨rfl, rfl⟩ (by simp [Value.oneCell']; assumption) ?_; refine GO.assign rfl rfl ?_; refine GO.assign rfl rfl ?_; refine GO.nil ?_; refine kthen_n ?_; refine G.ret ?_; refine kthen_r ?_)
      refine KF2.r3 rfl (RV.cW (n := 2) rfl rfl (by (exact Tk.h)) rfl) (RV.t rfl) (RV.t rfl) ⟨_, z, rfl, hrc, Sup.refl z, rfl⟩ (ImpS.sb ?_)
      ((refine Sb.c (Tk.t (Tk.t (Tk.t (Tk.t Tk.h)))) ?_); (refine Sb.s ?_; refine Sb.s ?_; refine Sb.s ?_; refine Sb.s ?_; exact Sb.r))
    have d2 : decide (((sideO a : Nat) : Int) = 0) = false := decide_eq_false (by omega)
    by_cases h3 : sideO b = 0
    · have hE : kinE c a b = 1 := by unfold kinE; rw [if_neg h1, if_neg h2, if_pos h3]
      rw [hE]
      have d3 : decide (((sideO b : Nat) : Int) = 0) = true := decide_eq_true (by omega)
      refine Fn.mk2 Tryd.func15 rfl rfl fun w0 F => ?_
      (refine G.seq ?_; refine G.region ?_; refine GO.box rfl rfl rfl fun b3 => ?_; refine GO.box rfl rfl rfl fun b4 => ?_; refine GO.box rfl rfl rfl fun b5 => ?_; refine GO.alloc rfl fun b6 => ?_; refine GO.assign rfl rfl ?_; refine GO.assign rfl rfl ?_; refine GO.nil ?_; refine kthen_n ?_; refine G.seq ?_; refine G.seq ?_; refine G.region ?_; refine GO.fieldAddr rfl rfl ?_; refine GO.load1 rfl rfl rfl (Tk.t (Tk.t (Tk.t Tk.h))) rfl ?_; refine GO.eqi rfl rfl rfl ?_; refine GO.move rfl rfl ?_; refine GO.gT rfl rfl (by assumption) ?_; refine GO.fieldAddr rfl rfl ?_; refine GO.gT rfl rfl (by assumption) ?_; refine GO.load1 rfl rfl rfl (Tk.t (Tk.t Tk.h)) rfl ?_; refine GO.gT rfl rfl (by assumption) ?_; refine GO.eqi rfl rfl rfl ?_; refine GO.pickFa rfl rfl (by assumption) rfl ?_; refine GO.move rfl rfl ?_; refine GO.gT rfl rfl (by assumption) ?_; refine GO.fieldAddr rfl rfl ?_; refine GO.gT rfl rfl (by assumption) ?_; refine GO.load1 rfl rfl rfl (Tk.t Tk.h) rfl ?_; refine GO.gT rfl rfl (by assumption) ?_; refine GO.eqi rfl rfl rfl ?_; refine GO.pickFa rfl rfl (by assumption) rfl ?_; refine GO.nil ?_; refine kthen_n ?_; refine G.condT rfl (by assumption) ?_; refine G.seq ?_; refine G.region ?_; refine GO.loadW rfl rfl rfl (Tk.t (Tk.t (Tk.t Tk.h))) rfl ?_; refine GO.storeW rfl rfl Tk.h ⟨rfl, rfl⟩ (by simp [Value.oneCell']; assumption) ?_; refine GO.assign rfl rfl ?_; refine GO.assign rfl rfl ?_; refine GO.nil ?_; refine kthen_n ?_; refine G.ret ?_; refine kthen_r ?_)
      refine KF2.r3 rfl (RV.cW (n := 2) rfl rfl (by (exact Tk.h)) rfl) (RV.t rfl) (RV.t rfl) ⟨_, z, rfl, hrc, Sup.refl z, rfl⟩ (ImpS.sb ?_)
      ((refine Sb.c (Tk.t (Tk.t (Tk.t (Tk.t Tk.h)))) ?_); (refine Sb.s ?_; refine Sb.s ?_; refine Sb.s ?_; refine Sb.s ?_; exact Sb.r))
    have d3 : decide (((sideO b : Nat) : Int) = 0) = false := decide_eq_false (by omega)
    by_cases h4 : sideO c = sideO a * sideO b
    · exact absurd (by unfold kinE; rw [if_neg h1, if_neg h2, if_neg h3, if_pos h4]) h0
    have hE : kinE c a b = 5 := by unfold kinE; rw [if_neg h1, if_neg h2, if_neg h3, if_neg h4]
    rw [hE]
    have d4 : decide (((sideO a : Nat) : Int) * ((sideO b : Nat) : Int) ≠ ((sideO c : Nat) : Int)) = true := by rw [hmul]; exact decide_eq_true (by omega)
    generalize sideO a * sideO b = sC at hmul hma
    refine Fn.mk2 Tryd.func15 rfl rfl fun w0 F => ?_
    (refine G.seq ?_; refine G.region ?_; refine GO.box rfl rfl rfl fun b3 => ?_; refine GO.box rfl rfl rfl fun b4 => ?_; refine GO.box rfl rfl rfl fun b5 => ?_; refine GO.alloc rfl fun b6 => ?_; refine GO.assign rfl rfl ?_; refine GO.assign rfl rfl ?_; refine GO.nil ?_; refine kthen_n ?_; refine G.seq ?_; refine G.seq ?_; refine G.region ?_; refine GO.fieldAddr rfl rfl ?_; refine GO.load1 rfl rfl rfl (Tk.t (Tk.t (Tk.t Tk.h))) rfl ?_; refine GO.eqi rfl rfl rfl ?_; refine GO.move rfl rfl ?_; refine GO.gT rfl rfl (by assumption) ?_; refine GO.fieldAddr rfl rfl ?_; refine GO.gT rfl rfl (by assumption) ?_; refine GO.load1 rfl rfl rfl (Tk.t (Tk.t Tk.h)) rfl ?_; refine GO.gT rfl rfl (by assumption) ?_; refine GO.eqi rfl rfl rfl ?_; refine GO.pickFa rfl rfl (by assumption) rfl ?_; refine GO.move rfl rfl ?_; refine GO.gT rfl rfl (by assumption) ?_; refine GO.fieldAddr rfl rfl ?_; refine GO.gT rfl rfl (by assumption) ?_; refine GO.load1 rfl rfl rfl (Tk.t Tk.h) rfl ?_; refine GO.gT rfl rfl (by assumption) ?_; refine GO.eqi rfl rfl rfl ?_; refine GO.pickFa rfl rfl (by assumption) rfl ?_; refine GO.nil ?_; refine kthen_n ?_; refine G.condF rfl (by assumption) ?_; refine G.skip ?_; refine kthen_n ?_; refine G.seq ?_; refine G.seq ?_; refine G.region ?_; refine GO.fieldAddr rfl rfl ?_; refine GO.load1 rfl rfl rfl (Tk.t (Tk.t Tk.h)) rfl ?_; refine GO.fieldAddr rfl rfl ?_; refine GO.load1 rfl rfl rfl (Tk.t Tk.h) rfl ?_; refine GO.muli rfl rfl rfl (by omega) ?_; refine GO.fieldAddr rfl rfl ?_; refine GO.load1 rfl rfl rfl (Tk.t (Tk.t (Tk.t Tk.h))) rfl ?_; refine GO.nei rfl rfl rfl ?_; refine GO.nil ?_; refine kthen_n ?_; refine G.condT rfl (by assumption) ?_; refine G.seq ?_; refine G.region ?_; refine GO.loadW rfl rfl rfl (Tk.t (Tk.t (Tk.t Tk.h))) rfl ?_; refine GO.storeW rfl rfl Tk.h ⟨rfl, rfl⟩ (by simp [Value.oneCell']; assumption) ?_; refine GO.assign rfl rfl ?_; refine GO.assign rfl rfl ?_; refine GO.nil ?_; refine kthen_n ?_; refine G.ret ?_; refine kthen_r ?_)
    refine KF2.r3 rfl (RV.cW (n := 2) rfl rfl (by (exact Tk.h)) rfl) (RV.t rfl) (RV.t rfl) ⟨_, z, rfl, hrc, Sup.refl z, rfl⟩ (ImpS.sb ?_)
    ((refine Sb.c (Tk.t (Tk.t (Tk.t (Tk.t Tk.h)))) ?_); (refine Sb.s ?_; refine Sb.s ?_; refine Sb.s ?_; refine Sb.s ?_; exact Sb.r))
end Go.Proofs.YtebchcongefbcaaDoor
namespace Go.Proofs.YtebchcongefbcaaDoor
open Go
theorem MatO.get {p : HP} {v : Value} {s : Nat} {X : Nat → Nat → Bool} (h : MatO p v (some (s, X))) : ∃ b, v = ptrV b ∧ p = mat s X b := by
  rcases h with ⟨h, _⟩ | ⟨s', X', b, e, h1, h2⟩
  · cases h
  · injection e with e
    injection e with e1 e2
    subst e1 e2
    exact ⟨b, h1, h2⟩
theorem MatO.no {p : HP} {v : Value} (h : MatO p v none) : v = .pointer none := by
  rcases h with ⟨_, h⟩ | ⟨s', X', b, e, h1, h2⟩
  · exact h
  · cases e
def kaA : Nat → Nat → Bool := setL noX [(0, 1)]
def kaB : Nat → Nat → Bool := setL noX [(0, 0), (2, 1)]
theorem kaA_iff (r c : Nat) : kaA r c = true ↔ r = 0 ∧ c = 1 := by
  have : kaA r c = (false || (decide (r = 0) && decide (c = 1))) := rfl
  rw [this]
  simp only [Bool.and_eq_true, decide_eq_true_eq, Bool.false_or]
theorem kaB_iff (r c : Nat) : kaB r c = true ↔ (r = 0 ∧ c = 0) ∨ (r = 2 ∧ c = 1) := by
  have : kaB r c = ((false || (decide (r = 0) && decide (c = 0))) || (decide (r = 2) && decide (c = 1))) := rfl
  rw [this]
  simp only [Bool.or_eq_true, Bool.and_eq_true, decide_eq_true_eq, Bool.false_or]
theorem kaA_in : ∀ r c, kaA r c = true → r < 2 ∧ c < 2 := fun r c h => by rw [kaA_iff] at h; omega
theorem kaB_in : ∀ r c, kaB r c = true → r < 3 ∧ c < 3 := fun r c h => by rw [kaB_iff] at h; omega
theorem ka_cntA : cntX kaA = 1 := by
  have e : kaA = addX noX 0 1 := rfl
  rw [e, cntX_add (by decide) (by decide) rfl, cntX_no]
theorem ka_cntB : cntX kaB = 2 := by
  have e : kaB = addX (addX noX 0 0) 2 1 := rfl
  have h : addX noX 0 0 2 1 = false := rfl
  rw [e, cntX_add (by decide) (by decide) h, cntX_add (by decide) (by decide) rfl, cntX_no]
theorem ka_cnt : cntX (kronX 3 kaA kaB) = 2 := by rw [kron_cnt (s := 2) (by decide) (by decide) (by decide) kaA_in kaB_in, ka_cntA, ka_cntB]
theorem ka_get : kronX 3 kaA kaB 2 4 = true := by
  unfold kronX
  rw [Bool.and_eq_true, kaA_iff, kaB_iff]
  omega
theorem ka_sq : sqX 3 0 1 (kronX 3 kaA kaB) = kaB := by rw [sq_kron kaB_in, if_pos ((kaA_iff 0 1).2 ⟨rfl, rfl⟩)]
def kaL : List (Int × Int) := [(0, 1)]
def kaM : List (Int × Int) := [(0, 0), (2, 1)]
theorem kaL_def : setL noX kaL = kaA := rfl
theorem kaM_def : setL noX kaM = kaB := rfl
abbrev kaR (b : Nat) : HP := pt b (row (putParts [Value.agg (putParts [i64 0, i64 1]).toArray]) 59)
abbrev kaS (b : Nat) : HP := pt b (row (putParts [Value.agg (putParts [i64 0, i64 0]).toArray, Value.agg (putParts [i64 2, i64 1]).toArray]) 59)
theorem kaL_sl (b : Nat) : SlR (kaR b) (.slice (some ⟨b, 0, none⟩) 1 1) kaL.length 2 (cellsV kaL) :=
  ⟨_, _, rfl, rfl, fun _ => ⟨b, 0, rfl, fun j u hj => by rw [Nat.zero_add]; exact Rd.row (by simpa [cellsV, kaL, putParts, Value.cells] using hj)⟩⟩
theorem kaM_sl (b : Nat) : SlR (kaS b) (.slice (some ⟨b, 0, none⟩) 2 2) kaM.length 2 (cellsV kaM) :=
  ⟨_, _, rfl, rfl, fun _ => ⟨b, 0, rfl, fun j u hj => by rw [Nat.zero_add]; exact Rd.row (by simpa [cellsV, kaM, putParts, Value.cells] using hj)⟩⟩
theorem wf_some {s : Nat} {X : Nat → Nat → Bool} (h1 : 1 ≤ s) (h2 : s ≤ 1024) (hX : ∀ r c, X r c = true → r < s ∧ c < s) : WfM (some (s, X)) := fun t Y e => by
  injection e with e
  injection e with e1 e2
  subst e1 e2
  exact ⟨⟨h1, h2⟩, hX⟩
theorem ka_E : kronE (some (2, kaA)) (some (3, kaB)) = 0 := rfl
theorem ka_O : kronO (some (2, kaA)) (some (3, kaB)) = some (6, kronX 3 kaA kaB) := rfl
theorem ka_e3 (X : Nat → Nat → Bool) : sqE (some (6, X)) 3 = 0 := by
  have : sideO (some (6, X)) = 6 := rfl
  unfold sqE; rw [this]; decide
theorem ka_e4 (X : Nat → Nat → Bool) : sqE (some (6, X)) 4 = 5 := by
  have : sideO (some (6, X)) = 6 := rfl
  unfold sqE; rw [this]; decide
theorem ka_sqE (X : Nat → Nat → Bool) : squE (some (6, X)) 3 0 1 = 0 := by
  have h := sqN_at (o := some (6, X)) (n := 3) (m := 2) (ka_e3 X) (by omega) rfl
  change sqN (some (6, X)) 3 = 2 at h
  unfold squE; rw [ka_e3, h]; decide
theorem ka_sqO (X : Nat → Nat → Bool) : squO (some (6, X)) 3 0 1 = some (3, sqX 3 0 1 X) := by
  unfold squO; rw [ka_sqE]; rfl
theorem ka_sqE4 (X : Nat → Nat → Bool) : squE (some (6, X)) 4 0 0 = 5 := by
  unfold squE; rw [ka_e4]; rfl
theorem ka_sqO4 (X : Nat → Nat → Bool) : squO (some (6, X)) 4 0 0 = none := by
  unfold squO; rw [ka_sqE4]; rfl
attribute [local irreducible] G GO GR GT GW Fn FnV pt init exs pur sat own ImpS mat posL allV orL restX cellsX cellsV pickL setC layL kronX uniX kaA kaB cntX sqX
set_option maxHeartbeats 8000000 in
theorem kawake_spec (q : HP) (hq : Tab q) : Fn Tryd.prog 9 #[] [q] (fun r Q => r = .bool true ∧ Q = [q]) := by
  refine Fn.mk2 Tryd.func9 rfl rfl fun w0 F => ?_
  (refine G.seq ?_; refine G.region ?_; refine GO.assign rfl rfl ?_; refine GO.nil ?_; refine kthen_n ?_; refine G.seq ?_; refine G.region ?_; refine GO.build2 rfl rfl rfl rfl ?_)
  refine GO.buildSlice1 rfl rfl (by simp [putParts, Value.cells]) rfl (by omega) fun b => ?_
  refine GO.call2 rfl rfl rfl (mof_spec 2 (kaR b) (.slice (some ⟨b, 0, none⟩) 1 1) kaL (kaL_sl b) (by decide)) (Tks.c Tk.h Tks.n) ?_
  rintro _ _ (⟨n, ba, e1, hn1, hn2, hin, rfl, rfl⟩ | ⟨hno, rfl, rfl⟩)
  rotate_left 1
  · exact absurd ⟨by omega, by omega, by decide⟩ hno
  obtain rfl : n = 2 := by omega
  rw [kaL_def]
  clear hin e1 hn1 hn2
  (refine GO.move rfl rfl ?_; refine GO.extract rfl rfl rfl ?_; refine GO.extract rfl rfl rfl ?_; refine GO.assign rfl rfl ?_; refine GO.assign rfl rfl ?_; refine GO.nil ?_; refine kthen_n ?_; refine G.seq ?_; refine G.region ?_; refine GO.build2 rfl rfl rfl rfl ?_; refine GO.build2 rfl rfl rfl rfl ?_)
  refine GO.buildSlice2 rfl rfl rfl (by simp [putParts, Value.cells]) rfl (by omega) fun b => ?_
  refine GO.call2 rfl rfl rfl (mof_spec 3 (kaS b) (.slice (some ⟨b, 0, none⟩) 2 2) kaM (kaM_sl b) (by decide)) (Tks.c Tk.h Tks.n) ?_
  rintro _ _ (⟨n, bb, e1, hn1, hn2, hin, rfl, rfl⟩ | ⟨hno, rfl, rfl⟩)
  rotate_left 1
  · exact absurd ⟨by omega, by omega, by decide⟩ hno
  obtain rfl : n = 3 := by omega
  rw [kaM_def]
  clear hin e1 hn1 hn2
  (refine GO.move rfl rfl ?_; refine GO.extract rfl rfl rfl ?_; refine GO.extract rfl rfl rfl ?_; refine GO.assign rfl rfl ?_; refine GO.assign rfl rfl ?_; refine GO.nil ?_; refine kthen_n ?_; refine G.seq ?_; refine G.region ?_; refine GO.move rfl rfl ?_; refine GO.move rfl rfl ?_)
  refine GO.merge (x := mat 2 kaA ba) (y := mat 3 kaB bb) (Tks.c (Tk.t (Tk.t Tk.h)) (Tks.c Tk.h Tks.n)) ?_
  have hP := kProductO q (star [mat 2 kaA ba, mat 3 kaB bb]) hq (ptrV ba) (ptrV bb) (some (2, kaA)) (some (3, kaB)) (HasO.left (HasO.one 2 ba kaA)) (HasO.right (HasO.one 3 bb kaB)) (wf_some (by omega) (by omega) kaA_in) (wf_some (by omega) (by omega) kaB_in)
  rw [ka_E, ka_O] at hP
  refine GO.call2 rfl rfl rfl (hP) (Tks.c Tk.h (Tks.c (Tk.t (Tk.t Tk.h)) Tks.n)) ?_
  rintro _ _ ⟨_, _, rfl, hc, rfl⟩
  obtain ⟨bc, rfl, rfl⟩ := hc.get
  have h1 := ka_get
  have h2 := ka_cnt
  have h3 := ka_sq
  have hX := kron_in (X := kaA) (Y := kaB) (s := 2) (q := 3) kaA_in (by omega)
  generalize kronX 3 kaA kaB = X at h1 h2 h3 hX ⊢
  have hS := kSquareO q (mat 6 X bc) hq (ptrV bc) (some (6, X)) (HasO.one 6 bc X) (wf_some (by omega) (by omega) hX) 3 0 1
  rw [ka_sqE, ka_sqO, h3] at hS
  have hS4 := kSquareO q (mat 6 X bc) hq (ptrV bc) (some (6, X)) (HasO.one 6 bc X) (wf_some (by omega) (by omega) hX) 4 0 0
  rw [ka_sqE4, ka_sqO4] at hS4
  have hgm : getM X 6 2 4 = .tuple #[.bool true, i64 0] := by
    rw [show getM X 6 2 4 = .tuple #[.bool (X 2 4), i64 0] from rfl, h1]
  have hg := get_mat 6 bc X 2 4
  rw [hgm] at hg
  have hl := len_mat 6 bc X
  rw [h2] at hl
  (refine GO.move rfl rfl ?_; refine GO.extract rfl rfl rfl ?_; refine GO.extract rfl rfl rfl ?_; refine GO.assign rfl rfl ?_; refine GO.assign rfl rfl ?_; refine GO.nil ?_; refine kthen_n ?_; refine G.seq ?_; refine G.seq ?_; refine G.region ?_; refine GO.move rfl rfl ?_; refine GO.eqNilP rfl rfl ?_; refine GO.move rfl rfl ?_; refine GO.gT rfl rfl rfl ?_; refine GO.move rfl rfl ?_; refine GO.gT rfl rfl rfl ?_; refine GO.neF rfl rfl rfl rfl ?_; refine GO.pickF rfl rfl rfl ?_; refine GO.move rfl rfl ?_; refine GO.gT rfl rfl rfl ?_; refine GO.move rfl rfl ?_; refine GO.gT rfl rfl rfl ?_; refine GO.neF rfl rfl rfl rfl ?_; refine GO.pickF rfl rfl rfl ?_; refine GO.move rfl rfl ?_; refine GO.gT rfl rfl rfl ?_; refine GO.move rfl rfl ?_; refine GO.gT rfl rfl rfl ?_; refine GO.neF rfl rfl rfl rfl ?_; refine GO.pickF rfl rfl rfl ?_; refine GO.nil ?_; refine kthen_n ?_; refine G.condF rfl rfl ?_; refine G.skip ?_; refine kthen_n ?_; refine G.seq ?_; refine G.region ?_; refine GO.move rfl rfl ?_)
  refine GO.call3 rfl rfl rfl rfl (hg) (Tks.c Tk.h Tks.n) ?_
  rintro _ _ ⟨rfl, rfl⟩
  (refine GO.move rfl rfl ?_; refine GO.extract rfl rfl rfl ?_; refine GO.extract rfl rfl rfl ?_; refine GO.assign rfl rfl ?_; refine GO.assign rfl rfl ?_; refine GO.nil ?_; refine kthen_n ?_; refine G.seq ?_; refine G.region ?_; refine GO.move rfl rfl ?_)
  refine GO.call4 rfl rfl rfl rfl rfl (hS) (Tks.c Tk.h (Tks.c (Tk.t Tk.h) Tks.n)) ?_
  rintro _ _ ⟨_, _, rfl, hs, rfl⟩
  obtain ⟨bs, rfl, rfl⟩ := hs.get
  (refine GO.move rfl rfl ?_; refine GO.extract rfl rfl rfl ?_; refine GO.extract rfl rfl rfl ?_; refine GO.assign rfl rfl ?_; refine GO.assign rfl rfl ?_; refine GO.nil ?_; refine kthen_n ?_; refine G.seq ?_; refine G.region ?_; refine GO.move rfl rfl ?_)
  refine GO.call4 rfl rfl rfl rfl rfl (hS4) (Tks.c (Tk.t Tk.h) (Tks.c (Tk.t Tk.h) Tks.n)) ?_
  rintro _ _ ⟨_, p4, rfl, hs, rfl⟩
  obtain rfl := hs.no
  (refine GO.move rfl rfl ?_; refine GO.extract rfl rfl rfl ?_; refine GO.extract rfl rfl rfl ?_; refine GO.assign rfl rfl ?_; refine GO.assign rfl rfl ?_; refine GO.nil ?_; refine kthen_n ?_; refine G.seq ?_; refine G.region ?_; refine GO.move rfl rfl ?_; refine GO.move rfl rfl ?_; refine GO.gT rfl rfl rfl ?_; refine GO.move rfl rfl ?_; refine GO.gT rfl rfl rfl ?_; refine GO.eqT rfl rfl rfl rfl ?_; refine GO.pickT rfl rfl rfl ?_; refine GO.move rfl rfl ?_; refine GO.gT rfl rfl rfl ?_; refine GO.move rfl rfl ?_; refine GO.gT rfl rfl rfl ?_)
  refine GO.call1 rfl rfl (side_mat 6 bc X) (Tks.c (Tk.t Tk.h) Tks.n) ?_
  rintro _ _ ⟨rfl, rfl⟩
  (refine GO.gT rfl rfl rfl ?_; refine GO.eqT rfl rfl rfl rfl ?_; refine GO.pickT rfl rfl rfl ?_; refine GO.move rfl rfl ?_; refine GO.gT rfl rfl rfl ?_; refine GO.move rfl rfl ?_; refine GO.gT rfl rfl rfl ?_)
  refine GO.call1 rfl rfl (hl) (Tks.c Tk.h Tks.n) ?_
  rintro _ _ ⟨rfl, rfl⟩
  refine GO.unpair (x := mat 2 kaA ba) (y := mat 3 kaB bb) (Tk.t (Tk.t (Tk.t (Tk.t Tk.h)))) ?_
  (refine GO.gT rfl rfl rfl ?_; refine GO.eqT rfl rfl rfl rfl ?_; refine GO.pickT rfl rfl rfl ?_; refine GO.move rfl rfl ?_; refine GO.gT rfl rfl rfl ?_; refine GO.move rfl rfl ?_; refine GO.gT rfl rfl rfl ?_; refine GO.eqT rfl rfl rfl rfl ?_; refine GO.pickT rfl rfl rfl ?_; refine GO.move rfl rfl ?_; refine GO.gT rfl rfl rfl ?_; refine GO.move rfl rfl ?_; refine GO.gT rfl rfl rfl ?_; refine GO.move rfl rfl ?_; refine GO.gT rfl rfl rfl ?_)
  refine GO.call2 rfl rfl rfl (same_mat 3 3 bs bb kaB kaB) (Tks.c (Tk.t (Tk.t (Tk.t (Tk.t (Tk.t Tk.h))))) (Tks.c (Tk.t Tk.h) Tks.n)) ?_
  rintro _ _ ⟨bl, rfl, hbl, rfl⟩
  obtain rfl := hbl.2 ⟨rfl, rfl⟩
  (refine GO.pickT rfl rfl rfl ?_; refine GO.move rfl rfl ?_; refine GO.gT rfl rfl rfl ?_; refine GO.move rfl rfl ?_; refine GO.gT rfl rfl rfl ?_; refine GO.eqT rfl rfl rfl rfl ?_; refine GO.pickT rfl rfl rfl ?_; refine GO.assign rfl rfl ?_; refine GO.nil ?_; refine kthen_n ?_; refine G.ret ?_)
  refine KF2.r1 rfl (RV.t rfl) ⟨rfl, rfl⟩ (ImpS.sb ?_)
  ((refine Sb.c (Tk.t (Tk.t (Tk.t (Tk.t (Tk.t Tk.h))))) ?_); (refine Sb.s ?_; refine Sb.s ?_; refine Sb.s ?_; refine Sb.s ?_; refine Sb.s ?_; refine Sb.s ?_; refine Sb.s ?_; exact Sb.r))
theorem kmany_spec (u1 u2 : Value) (s1 s2 : Int) (n1 n2 c1 c2 : Nat) (a1 a2 : Option Addr) (h1 : u1 = .slice a1 n1 c1) (h2 : u2 = .slice a2 n2 c2) :
    Fn Tryd.prog 8 #[.agg #[i64 s1, u1], .agg #[i64 s2, u2]] [] (fun r Q => r = .bool (decide (60 < n1) || decide (60 < n2)) ∧ Q = []) := by
  subst h1 h2
  refine Fn.mk2 Tryd.func8 rfl rfl fun w0 F => ?_
  by_cases h : 60 < n1
  · have d1 : decide (60 < (n1 : Int)) = true := decide_eq_true (by omega)
    rw [decide_eq_true h, Bool.true_or]
    (refine G.seq ?_; refine G.region ?_; refine GO.box rfl rfl rfl fun b2 => ?_; refine GO.box rfl rfl rfl fun b3 => ?_; refine GO.assign rfl rfl ?_; refine GO.nil ?_; refine kthen_n ?_; refine G.seq ?_; refine G.region ?_; refine GO.fieldAddr rfl rfl ?_; refine GO.load1 rfl rfl rfl (Tk.t Tk.h) rfl ?_; refine GO.lenS rfl rfl ?_; refine GO.gti rfl rfl rfl ?_; refine GO.move rfl rfl ?_; refine GO.gF rfl rfl rfl (by assumption) ?_; refine GO.gF rfl rfl rfl (by assumption) ?_; refine GO.gF rfl rfl rfl (by assumption) ?_; refine GO.gF rfl rfl rfl (by assumption) ?_; refine GO.pickTa rfl rfl (by assumption) rfl ?_; refine GO.assign rfl rfl ?_; refine GO.nil ?_; refine kthen_n ?_; refine G.ret ?_)
    refine KF2.r1 rfl (RV.t rfl) ⟨rfl, rfl⟩ (ImpS.sb ?_)
    (skip; (refine Sb.s ?_; refine Sb.s ?_; exact Sb.r))
  · have d1 : decide (60 < (n1 : Int)) = false := decide_eq_false (by omega)
    have d2 : decide (60 < (n2 : Int)) = decide (60 < n2) := decide_eq_decide.2 (by omega)
    rw [decide_eq_false h, Bool.false_or, ← d2]
    (refine G.seq ?_; refine G.region ?_; refine GO.box rfl rfl rfl fun b2 => ?_; refine GO.box rfl rfl rfl fun b3 => ?_; refine GO.assign rfl rfl ?_; refine GO.nil ?_; refine kthen_n ?_; refine G.seq ?_; refine G.region ?_; refine GO.fieldAddr rfl rfl ?_; refine GO.load1 rfl rfl rfl (Tk.t Tk.h) rfl ?_; refine GO.lenS rfl rfl ?_; refine GO.gti rfl rfl rfl ?_; refine GO.move rfl rfl ?_; refine GO.gT rfl rfl (by assumption) ?_; refine GO.fieldAddr rfl rfl ?_; refine GO.gT rfl rfl (by assumption) ?_; refine GO.load1 rfl rfl rfl Tk.h rfl ?_; refine GO.gT rfl rfl (by assumption) ?_; refine GO.lenS rfl rfl ?_; refine GO.gT rfl rfl (by assumption) ?_; refine GO.gti rfl rfl rfl ?_; refine GO.pickFa rfl rfl (by assumption) rfl ?_; refine GO.assign rfl rfl ?_; refine GO.nil ?_; refine kthen_n ?_; refine G.ret ?_)
    refine KF2.r1 rfl (RV.t rfl) ⟨rfl, rfl⟩ (ImpS.sb ?_)
    (skip; (refine Sb.s ?_; refine Sb.s ?_; exact Sb.r))
end Go.Proofs.YtebchcongefbcaaDoor
namespace Go.Proofs.YtebchcongefbcaaDoor
open Go
/-- A cell, its numbers taken by m and by the side. -/
def fcell (m side : Nat) (p : Cl) : Nat × Nat := ((p.1 % m % side).toNat, (p.2 % m % side).toNat)
theorem fcell_at {m side : Nat} (hs : 1 ≤ side) (p : Cl) : ((fcell m side p).1 : Int) = p.1 % m % side ∧ ((fcell m side p).2 : Int) = p.2 % m % side ∧ (fcell m side p).1 < side ∧ (fcell m side p).2 < side := by
  have a1 := Int.emod_nonneg (p.1 % m) (show (side : Int) ≠ 0 by omega)
  have a2 := Int.emod_lt_of_pos (p.1 % m) (show (0 : Int) < side by omega)
  have b1 := Int.emod_nonneg (p.2 % m) (show (side : Int) ≠ 0 by omega)
  have b2 := Int.emod_lt_of_pos (p.2 % m) (show (0 : Int) < side by omega)
  unfold fcell
  dsimp only
  generalize p.1 % m % side = x at *
  generalize p.2 % m % side = y at *
  omega
/-- Cells put one by one into a matrix, c at most. -/
def foldC (m c side : Nat) (l : List Cl) : Nat → Nat → Bool := setC noX ((l.take c).map (fcell m side))
theorem setC_in {s : Nat} : ∀ (l : List (Nat × Nat)) (X : Nat → Nat → Bool), (∀ p ∈ l, p.1 < s ∧ p.2 < s) → (∀ r c, X r c = true → r < s ∧ c < s) → ∀ r c, setC X l r c = true → r < s ∧ c < s := by
  intro l X hl hX r c h
  rw [setC_at, Bool.or_eq_true, List.any_eq_true] at h
  rcases h with h | ⟨p, hp, h⟩
  · exact hX r c h
  · simp only [Bool.and_eq_true, decide_eq_true_eq] at h
    rw [h.1, h.2]
    exact hl p hp
theorem foldC_in {m c side : Nat} (hs : 1 ≤ side) (l : List Cl) : ∀ r k, foldC m c side l r k = true → r < side ∧ k < side := setC_in _ _ (fun p hp => by
  obtain ⟨x, _, rfl⟩ := List.mem_map.1 hp
  exact (fcell_at hs x).2.2) (fun r c h => by cases h)
theorem fold_zero (m side : Nat) (l : List Cl) : setC noX ((l.take 0).map (fcell m side)) = noX := rfl
theorem fold_succ {m side k : Nat} {l : List Cl} {p : Cl} (h : l[k]? = some p) : setC noX ((l.take (k + 1)).map (fcell m side)) = addX (setC noX ((l.take k).map (fcell m side))) (fcell m side p).1 (fcell m side p).2 := by
  rw [List.take_add_one, h, List.map_append]
  exact setC_snoc _ _ _
def kSide (n : Int) : Nat := (n % 16 + 1).toNat
theorem kSide_at (n : Int) : ((kSide n : Nat) : Int) = n % 16 + 1 ∧ 1 ≤ kSide n ∧ kSide n ≤ 16 := by unfold kSide; omega
def FourR (q : HP) (v : Value) (P Q : Int) (A B C D : List Cl) : Prop := ∃ uA uB uC uD, v = .agg #[i64 P, i64 Q, uA, uB, uC, uD] ∧ SlC q uA A ∧ SlC q uB B ∧ SlC q uC C ∧ SlC q uD D
attribute [local irreducible] G GO GR GT GW Fn FnV pt init exs pur sat own ImpS mat posL allV orL restX cellsX cellsV pickL setC layL kronX uniX cntX sqX outX innX fcell kSide
set_option maxHeartbeats 4000000 in
set_option maxRecDepth 40000 in
theorem kfold_spec (q : HP) (n : Int) (v : Value) (l : List Cl) (hv : SlR q v l.length 2 (cellsV l)) (hl : ¬ 9223372036854775807 < l.length) :
    Fn Tryd.prog 21 #[i64 n, v] [q] (fun r Q => ∃ b, r = ptrV b ∧ Q = [mat (kSide n) (foldC 16 60 (kSide n) l) b, q]) := by
  obtain ⟨a, cap, rfl, _, hrd⟩ := hv
  obtain ⟨hs1, hs2, hs3⟩ := kSide_at n
  unfold foldC
  refine Fn.mk2 Tryd.func21 rfl rfl fun w0 F => ?_
  (refine G.seq ?_; refine G.region ?_; refine GO.assign rfl rfl ?_; refine GO.nil ?_; refine kthen_n ?_; refine G.seq ?_; refine G.region ?_; refine GO.move rfl rfl ?_)
  refine GO.mask rfl 4 rfl rfl ⟨by omega, rfl⟩ ?_
  (refine GO.addi rfl rfl rfl (by omega) ?_; refine GO.assign rfl rfl ?_; refine GO.nil ?_; refine kthen_n ?_; refine G.seq ?_; refine G.region ?_; refine GO.move rfl rfl ?_)
  rw [show n % ((2 ^ 4 : Nat) : Int) + 1 = ((kSide n : Nat) : Int) from hs1.symm]
  generalize kSide n = side at *
  refine GO.call1 rfl rfl (new_spec (side : Int)) Tks.n ?_
  rintro _ _ (⟨n', b, hn, hn1, hn2, rfl, rfl⟩ | ⟨hno, rfl, rfl⟩)
  · obtain rfl : side = n' := by omega
    clear hn
    (refine GO.move rfl rfl ?_; refine GO.extract rfl rfl rfl ?_; refine GO.extract rfl rfl rfl ?_; refine GO.assign rfl rfl ?_; refine GO.assign rfl rfl ?_; refine GO.nil ?_; refine kthen_n ?_; refine G.seq ?_; refine G.seq ?_; refine G.region ?_; refine GO.move rfl rfl ?_; refine GO.eqNilP rfl rfl ?_; refine GO.move rfl rfl ?_; refine GO.gT rfl rfl rfl ?_; refine GO.move rfl rfl ?_; refine GO.gT rfl rfl rfl ?_; refine GO.neF rfl rfl rfl rfl ?_; refine GO.pickF rfl rfl rfl ?_; refine GO.nil ?_; refine kthen_n ?_; refine G.condF rfl rfl ?_; refine G.skip ?_; refine kthen_n ?_; refine G.seq ?_; refine G.seq ?_; refine G.region ?_; refine GO.assign rfl rfl ?_; refine GO.nil ?_; refine kthen_n ?_; refine G.block ?_)
    refine G.loop (fun k : Nat => [(1, .slice a l.length cap), (5, i64 (side : Nat)), (6, ptrV b), (8, i64 k)])
      (fun k => mat side (setC noX ((l.take k).map (fcell 16 side))) b :: q :: F) (fun k => k ≤ l.length ∧ ¬ 60 < k) (fun k => l.length - k) 0 ⟨by omega, by omega⟩ ?_ ?_ ?_
    · (refine SubE.c rfl rfl ?_; refine SubE.c rfl rfl ?_; refine SubE.c rfl rfl ?_; refine SubE.c rfl rfl ?_; exact SubE.n)
    · rw [fold_zero]
      ((refine Sb.c Tk.h ?_; refine Sb.c Tk.h ?_); (exact Sb.r))
    rintro k ⟨hk, hk4⟩
    (refine G.seq ?_; refine G.seq ?_; refine G.region ?_; refine GO.move rfl rfl ?_; refine GO.move rfl rfl ?_; refine GO.lenS rfl rfl ?_; refine GO.lti rfl rfl rfl ?_; refine GO.move rfl rfl ?_)
    by_cases h1 : k < l.length
    · rw [show decide ((k : Int) < (l.length : Int)) = true from decide_eq_true (by omega)]
      have hk2 := h1
      (refine GO.gT rfl rfl rfl ?_; refine GO.move rfl rfl ?_; refine GO.gT rfl rfl rfl ?_; refine GO.lti rfl rfl rfl ?_; refine GO.pickT rfl rfl rfl ?_; refine GO.nil ?_; refine kthen_n ?_)
      by_cases h2 : k < 60
      · rw [show decide ((k : Int) < 60) = true from decide_eq_true (by omega)]
        have hk3 := h2
        obtain ⟨b', o, rfl, hr⟩ := hrd (by omega)
        obtain ⟨p, hp⟩ : ∃ p, l[k]? = some p := ⟨l[k], by simp [hk2]⟩
        obtain ⟨g1, g2⟩ := cellsV_get hp
        have r1 : Rd q ⟨b', o + k * 2, none⟩ (i64 p.1) := hr _ _ g1
        have r2 : Rd q ⟨b', o + k * 2 + 1, none⟩ (i64 p.2) := hr _ _ g2
        (refine G.condT rfl rfl ?_; refine G.skip ?_; refine kthen_n ?_; refine G.seq ?_; refine G.block ?_)
        have hsuc := fold_succ (m := 16) (side := side) hp
        obtain ⟨hi, hj, his, hjs⟩ := fcell_at (m := 16) hs2 p
        generalize (fcell 16 side p).1 = i at *
        generalize (fcell 16 side p).2 = j at *
        refine G.draw 17 (by kernel_rfl) ?_
        ((apply GQ.step; focus (intro Z; refine GO.move rfl rfl ?_; exact KQ.z)); (apply GQ.step; focus (intro Z; refine GO.move rfl rfl ?_; exact KQ.z)); (apply GQ.step; focus (intro Z; refine GO.move rfl rfl ?_; exact KQ.z)); (apply GQ.step; focus (intro Z; refine GO.idxS rfl rfl rfl ⟨rfl, by omega⟩ ?_; exact KQ.z)); (apply GQ.step; focus (intro Z; refine GO.fieldAddr rfl rfl ?_; exact KQ.z)); (apply GQ.step; focus (intro Z; refine GO.loadQ rfl rfl rfl (Tk.t Tk.h) (by assumption) ?_; exact KQ.z)))
        apply GQ.step; focus (intro Z; refine GO.mask rfl 4 rfl rfl ⟨by omega, rfl⟩ ?_; exact KQ.zv (v := i64 (p.1 % ((16 : Nat) : Int))) rfl)
        ((apply GQ.step; focus (intro Z; refine GO.move rfl rfl ?_; exact KQ.z)); (apply GQ.step; focus (intro Z; refine GO.remi rfl rfl rfl (by omega) ?_; exact KQ.z)); (apply GQ.step; focus (intro Z; refine GO.move rfl rfl ?_; exact KQ.z)); (apply GQ.step; focus (intro Z; refine GO.move rfl rfl ?_; exact KQ.z)); (apply GQ.step; focus (intro Z; refine GO.idxS rfl rfl rfl ⟨rfl, by omega⟩ ?_; exact KQ.z)); (apply GQ.step; focus (intro Z; refine GO.fieldAddr rfl rfl ?_; exact KQ.z)); (apply GQ.step; focus (intro Z; refine GO.loadQ rfl rfl rfl (Tk.t Tk.h) (by assumption) ?_; exact KQ.z)))
        rw [← hi]
        skip
        apply GQ.step; focus (intro Z; refine GO.mask rfl 4 rfl rfl ⟨by omega, rfl⟩ ?_; exact KQ.zv (v := i64 (p.2 % ((16 : Nat) : Int))) rfl)
        ((apply GQ.step; focus (intro Z; refine GO.move rfl rfl ?_; exact KQ.z)); (apply GQ.step; focus (intro Z; refine GO.remi rfl rfl rfl (by omega) ?_; exact KQ.z)); refine GQ.nil ?_)
        rw [← hj]
        skip
        refine GO.call3 rfl rfl rfl rfl (set_mat side b (setC noX ((l.take k).map (fcell 16 side))) i j (by omega)) (Tks.c Tk.h Tks.n) ?_
        rintro _ _ (⟨i', j', e1, e2, g1, g2, rfl, rfl⟩ | ⟨hno, rfl, rfl⟩)
        · obtain rfl : i = i' := by omega
          obtain rfl : j = j' := by omega
          (refine GO.nil ?_; refine kblock_n ?_; refine kthen_n ?_; refine G.region ?_; refine GO.move rfl rfl ?_; refine GO.addi rfl rfl rfl (by omega) ?_; refine GO.assign rfl rfl ?_; refine GO.nil ?_; refine kthen_n ?_)
          rw [← hsuc]
          refine ⟨k + 1, ⟨by omega, by omega⟩, by omega, ?_, ?_⟩
          · (refine SubE.c rfl rfl ?_; refine SubE.c rfl rfl ?_; refine SubE.c rfl rfl ?_; refine SubE.c rfl rfl ?_; exact SubE.n)
          · ((refine Sb.c Tk.h ?_; refine Sb.c Tk.h ?_); (exact Sb.r))
        · rw [inM_nat his hjs] at hno
          cases hno
      · rw [show decide ((k : Int) < 60) = false from decide_eq_false (by omega)]
        have hfo : l.take 60 = l.take k := by rw [show k = 60 by omega]
        (refine G.condF rfl rfl ?_; refine G.exit ?_; refine kthen_x ?_; refine kthen_x ?_; refine kblock_x ?_; refine kthen_n ?_; refine G.seq ?_; refine G.region ?_; refine GO.move rfl rfl ?_; refine GO.assign rfl rfl ?_; refine GO.nil ?_; refine kthen_n ?_; refine G.ret ?_)
        refine KF2.r1 rfl (RV.t rfl) ⟨b, rfl, rfl⟩ (ImpS.sb ?_)
        rw [hfo]
        ((refine Sb.c Tk.h ?_; refine Sb.c Tk.h ?_); (exact Sb.r))
    · rw [show decide ((k : Int) < (l.length : Int)) = false from decide_eq_false (by omega)]
      have hfo : l.take 60 = l.take k := by rw [show k = l.length by omega, List.take_length, List.take_of_length_le (by omega)]
      (refine GO.gF rfl rfl rfl rfl ?_; refine GO.gF rfl rfl rfl rfl ?_; refine GO.pickF rfl rfl rfl ?_; refine GO.nil ?_; refine kthen_n ?_; refine G.condF rfl rfl ?_; refine G.exit ?_; refine kthen_x ?_; refine kthen_x ?_; refine kblock_x ?_; refine kthen_n ?_; refine G.seq ?_; refine G.region ?_; refine GO.move rfl rfl ?_; refine GO.assign rfl rfl ?_; refine GO.nil ?_; refine kthen_n ?_; refine G.ret ?_)
      refine KF2.r1 rfl (RV.t rfl) ⟨b, rfl, rfl⟩ (ImpS.sb ?_)
      rw [hfo]
      ((refine Sb.c Tk.h ?_; refine Sb.c Tk.h ?_); (exact Sb.r))
  · exact absurd (by omega) hno
end Go.Proofs.YtebchcongefbcaaDoor
namespace Go.Proofs.YtebchcongefbcaaDoor
open Go
theorem kron_mixed {sA sB : Nat} {A B C D : Nat → Nat → Bool} (hs : sA * sB ≤ 1024) (hsB : 1 ≤ sB) (hA : ∀ r c, A r c = true → r < sA ∧ c < sA) (hB : ∀ r c, B r c = true → r < sB ∧ c < sB) : mulX (kronX sB A B) (kronX sB C D) = kronX sB (mulX A C) (mulX B D) := by
  funext r c
  have hk : kronX sB (mulX A C) (mulX B D) r c = (mulX A C (r / sB) (c / sB) && mulX B D (r % sB) (c % sB)) := rfl
  rw [Bool.eq_iff_iff, mulX_iff, hk, Bool.and_eq_true, mulX_iff, mulX_iff]
  constructor
  · rintro ⟨k, hk, h1, h2⟩
    unfold kronX at h1 h2
    rw [Bool.and_eq_true] at h1 h2
    exact ⟨⟨k / sB, Nat.lt_of_le_of_lt (Nat.div_le_self _ _) hk, h1.1, h2.1⟩, ⟨k % sB, Nat.lt_of_le_of_lt (Nat.mod_le _ _) hk, h1.2, h2.2⟩⟩
  · rintro ⟨⟨k, hk, h1, h2⟩, ⟨m, hm, h3, h4⟩⟩
    have a := hA _ _ h1
    have b := hB _ _ h3
    obtain ⟨e1, e2⟩ := div_at (i := k) b.2
    refine ⟨k * sB + m, ?_, ?_, ?_⟩
    · have := Nat.mul_le_mul_right sB (show k + 1 ≤ sA by omega)
      rw [Nat.add_mul, Nat.one_mul] at this
      omega
    · unfold kronX
      rw [e1, e2, h1, h3]; rfl
    · unfold kronX
      rw [e1, e2, h2, h4]; rfl
attribute [local irreducible] G GO GR GT GW Fn FnV pt init exs pur sat own ImpS mat posL allV orL restX cellsX cellsV pickL setC layL kronX uniX cntX sqX outX innX fcell kSide foldC flipX
set_option maxHeartbeats 32000000 in
set_option maxRecDepth 40000 in
theorem kmixed_law (q : HP) (hq : Tab q) (v : Value) (P Q : Int) (lA lB lC lD : List Cl) (hv : FourR q v P Q lA lB lC lD) (hA1 : ¬ 9223372036854775807 < lA.length) (hB1 : ¬ 9223372036854775807 < lB.length) (hC1 : ¬ 9223372036854775807 < lC.length) (hD1 : ¬ 9223372036854775807 < lD.length) :
    Fn Tryd.prog 7 #[v] [q] (fun r Q => r = .bool true ∧ Q = [q]) := by
  obtain ⟨uA, uB, uC, uD, rfl, hA, hB, hC, hD⟩ := hv
  have f1 := kfold_spec q P uA lA hA.slR hA1
  have f2 := kfold_spec q Q uB lB hB.slR hB1
  have f3 := kfold_spec q P uC lC hC.slR hC1
  have f4 := kfold_spec q Q uD lD hD.slR hD1
  have i1 := foldC_in (m := 16) (c := 60) (kSide_at P).2.1 lA
  have i2 := foldC_in (m := 16) (c := 60) (kSide_at Q).2.1 lB
  have i3 := foldC_in (m := 16) (c := 60) (kSide_at P).2.1 lC
  have i4 := foldC_in (m := 16) (c := 60) (kSide_at Q).2.1 lD
  have s1 := (kSide_at P).2
  have s2 := (kSide_at Q).2
  have oneA : uA.oneCell' = true := by obtain ⟨a, cap, rfl, _⟩ := hA; rfl
  have oneB : uB.oneCell' = true := by obtain ⟨a, cap, rfl, _⟩ := hB; rfl
  have oneC : uC.oneCell' = true := by obtain ⟨a, cap, rfl, _⟩ := hC; rfl
  have oneD : uD.oneCell' = true := by obtain ⟨a, cap, rfl, _⟩ := hD; rfl
  clear hA hB hC hD
  generalize foldC 16 60 (kSide P) lA = A at f1 i1
  generalize foldC 16 60 (kSide Q) lB = B at f2 i2
  generalize foldC 16 60 (kSide P) lC = C at f3 i3
  generalize foldC 16 60 (kSide Q) lD = D at f4 i4
  generalize kSide P = sA at f1 f3 i1 i3 s1
  generalize kSide Q = sB at f2 f4 i2 i4 s2
  have hsC : sA * sB ≤ 256 := Nat.mul_le_mul s1.2 s2.2
  have hsC1 : 1 ≤ sA * sB := Nat.mul_pos (by omega) (by omega)
  have hmix := kron_mixed (C := C) (D := D) (show sA * sB ≤ 1024 by omega) s2.1 i1 i2
  have i5 := mulX_in i1 i3
  have i6 := mulX_in i2 i4
  have i7 := kron_in (q := sB) (Y := B) i1 (by omega)
  have i8 := kron_in (q := sB) (Y := D) i3 (by omega)
  have hE : ∀ X Y, kronE (some (sA, X)) (some (sB, Y)) = 0 := fun X Y => by
    unfold kronE
    rw [if_neg (show ¬ sideO (some (sA, X)) = 0 from by show ¬ sA = 0; omega), if_neg (show ¬ sideO (some (sB, Y)) = 0 from by show ¬ sB = 0; omega), if_neg (show ¬ 1024 < sideO (some (sA, X)) * sideO (some (sB, Y)) from by show ¬ 1024 < sA * sB; omega)]
  have hO : ∀ X Y, kronO (some (sA, X)) (some (sB, Y)) = some (sA * sB, kronX sB X Y) := fun X Y => if_pos (hE X Y)
  have k1 := fun ba bb => kProductO q (star [mat sA A ba, mat sB B bb]) hq (ptrV ba) (ptrV bb) _ _ (HasO.left (HasO.one sA ba A)) (HasO.right (HasO.one sB bb B)) (wf_some (by omega) (by omega) i1) (wf_some (by omega) (by omega) i2)
  have k2 := fun ba bb => kProductO q (star [mat sA C ba, mat sB D bb]) hq (ptrV ba) (ptrV bb) _ _ (HasO.left (HasO.one sA ba C)) (HasO.right (HasO.one sB bb D)) (wf_some (by omega) (by omega) i3) (wf_some (by omega) (by omega) i4)
  have k3 := fun ba bb => kProductO q (star [mat sA (mulX A C) ba, mat sB (mulX B D) bb]) hq (ptrV ba) (ptrV bb) _ _ (HasO.left (HasO.one sA ba (mulX A C))) (HasO.right (HasO.one sB bb (mulX B D))) (wf_some (by omega) (by omega) i5) (wf_some (by omega) (by omega) i6)
  rw [hE, hO] at k1 k2 k3
  clear hE hO
  rw [← hmix] at k3
  have m1 := fun ba bb => pMul_spec q (star [mat sA A ba, mat sA C bb]) hq ba bb sA A C (HasM.left (HasM.one sA ba A)) (HasM.right (HasM.one sA bb C)) ⟨by omega, by omega⟩ i1 i3
  have m2 := fun ba bb => pMul_spec q (star [mat sB B ba, mat sB D bb]) hq ba bb sB B D (HasM.left (HasM.one sB ba B)) (HasM.right (HasM.one sB bb D)) ⟨by omega, by omega⟩ i2 i4
  have m3 := fun ba bb => pMul_spec q (star [mat (sA * sB) (kronX sB A B) ba, mat (sA * sB) (kronX sB C D) bb]) hq ba bb (sA * sB) (kronX sB A B) (kronX sB C D) (HasM.left (HasM.one _ ba _)) (HasM.right (HasM.one _ bb _)) ⟨by omega, by omega⟩ i7 i8
  generalize mulX (kronX sB A B) (kronX sB C D) = KM at *
  generalize kronX sB A B = K at *
  generalize kronX sB C D = M at *
  generalize mulX A C = AC at *
  generalize mulX B D = BD at *
  generalize sA * sB = sC at *
  refine Fn.mk2 Tryd.func7 rfl rfl fun w0 F => ?_
  (refine G.seq ?_; refine G.region ?_; refine GO.box rfl rfl rfl fun b1 => ?_; refine GO.assign rfl rfl ?_; refine GO.nil ?_; refine kthen_n ?_; refine G.seq ?_)
  refine G.drawT 10 528 [pt b1 (row [i64 P, i64 Q, uA, uB, uC, uD] 49)] (q :: F) (by kernel_rfl) (keys_of rfl) (ImpS.sb (by ((refine Sb.c Tk.h ?_; refine Sb.c Tk.h ?_); (exact Sb.r)))) ?_
  ((apply GR.step rfl; focus (intro Z; refine GO.fieldAddr rfl rfl ?_; exact KQ.z)); (apply GR.step rfl; focus (intro Z; refine GO.load1 rfl rfl rfl Tk.h rfl ?_; exact KQ.z)); (apply GR.step rfl; focus (intro Z; refine GO.fieldAddr rfl rfl ?_; exact KQ.z)); (apply GR.step rfl; focus (intro Z; refine GO.load1 rfl rfl rfl Tk.h rfl ?_; exact KQ.z)); refine GR.skip rfl ?_; (apply GR.step rfl; focus (intro Z; refine GO.fieldAddr rfl rfl ?_; exact KQ.z)); (apply GR.step rfl; focus (intro Z; refine GO.load1 rfl rfl rfl Tk.h rfl ?_; exact KQ.z)); (apply GR.step rfl; focus (intro Z; refine GO.fieldAddr rfl rfl ?_; exact KQ.z)); (apply GR.step rfl; focus (intro Z; refine GO.load1 rfl rfl rfl Tk.h rfl ?_; exact KQ.z)); refine GR.skip rfl ?_; refine GR.nil ?_)
  (repeat refine GT.skip rfl ?_)
  refine GT.step rfl ?_
  refine GO.call2 rfl rfl rfl (f1) (Tks.c (Tk.t Tk.h) Tks.n) ?_
  rintro _ _ ⟨ba, rfl, rfl⟩
  refine GO.nil ⟨rfl, _, mat sA A ba :: q :: F, rfl, ImpS.sb (by ((refine Sb.c (Tk.t (Tk.t Tk.h)) ?_; refine Sb.c Tk.h ?_; refine Sb.c Tk.h ?_); (exact Sb.r))), ?_⟩
  (repeat refine GT.skip rfl ?_)
  refine GT.step rfl ?_
  refine GO.call2 rfl rfl rfl (f3) (Tks.c (Tk.t (Tk.t Tk.h)) Tks.n) ?_
  rintro _ _ ⟨bc, rfl, rfl⟩
  refine GO.nil ⟨rfl, _, mat sA A ba :: mat sA C bc :: q :: F, rfl, ImpS.sb (by ((refine Sb.c (Tk.t (Tk.t Tk.h)) ?_; refine Sb.c (Tk.t (Tk.t Tk.h)) ?_; refine Sb.c Tk.h ?_; refine Sb.c Tk.h ?_); (exact Sb.r))), ?_⟩
  (repeat refine GT.skip rfl ?_)
  refine GT.nil ?_
  (refine GO.assign rfl rfl ?_; refine GO.assign rfl rfl ?_; refine GO.nil ?_; refine kthen_n ?_; refine G.seq ?_)
  refine G.drawT 10 528 [pt b1 (row [i64 P, i64 Q, uA, uB, uC, uD] 49)] (mat sA A ba :: mat sA C bc :: q :: F) (by kernel_rfl) (keys_of rfl) (ImpS.sb (by ((refine Sb.c Tk.h ?_; refine Sb.c Tk.h ?_; refine Sb.c Tk.h ?_; refine Sb.c Tk.h ?_); (exact Sb.r)))) ?_
  ((apply GR.step rfl; focus (intro Z; refine GO.fieldAddr rfl rfl ?_; exact KQ.z)); (apply GR.step rfl; focus (intro Z; refine GO.load1 rfl rfl rfl Tk.h rfl ?_; exact KQ.z)); (apply GR.step rfl; focus (intro Z; refine GO.fieldAddr rfl rfl ?_; exact KQ.z)); (apply GR.step rfl; focus (intro Z; refine GO.load1 rfl rfl rfl Tk.h rfl ?_; exact KQ.z)); refine GR.skip rfl ?_; (apply GR.step rfl; focus (intro Z; refine GO.fieldAddr rfl rfl ?_; exact KQ.z)); (apply GR.step rfl; focus (intro Z; refine GO.load1 rfl rfl rfl Tk.h rfl ?_; exact KQ.z)); (apply GR.step rfl; focus (intro Z; refine GO.fieldAddr rfl rfl ?_; exact KQ.z)); (apply GR.step rfl; focus (intro Z; refine GO.load1 rfl rfl rfl Tk.h rfl ?_; exact KQ.z)); refine GR.skip rfl ?_; refine GR.nil ?_)
  (repeat refine GT.skip rfl ?_)
  refine GT.step rfl ?_
  refine GO.call2 rfl rfl rfl (f2) (Tks.c (Tk.t (Tk.t (Tk.t Tk.h))) Tks.n) ?_
  rintro _ _ ⟨bb, rfl, rfl⟩
  refine GO.nil ⟨rfl, _, mat sB B bb :: mat sA A ba :: mat sA C bc :: q :: F, rfl, ImpS.sb (by ((refine Sb.c (Tk.t (Tk.t Tk.h)) ?_; refine Sb.c Tk.h ?_; refine Sb.c (Tk.t Tk.h) ?_; refine Sb.c (Tk.t Tk.h) ?_; refine Sb.c Tk.h ?_); (exact Sb.r))), ?_⟩
  (repeat refine GT.skip rfl ?_)
  refine GT.step rfl ?_
  refine GO.call2 rfl rfl rfl (f4) (Tks.c (Tk.t (Tk.t (Tk.t (Tk.t Tk.h)))) Tks.n) ?_
  rintro _ _ ⟨bd, rfl, rfl⟩
  refine GO.nil ⟨rfl, _, mat sB D bd :: mat sB B bb :: mat sA A ba :: mat sA C bc :: q :: F, rfl, ImpS.sb (by ((refine Sb.c (Tk.t (Tk.t Tk.h)) ?_; refine Sb.c Tk.h ?_; refine Sb.c (Tk.t Tk.h) ?_; refine Sb.c (Tk.t Tk.h) ?_; refine Sb.c (Tk.t Tk.h) ?_; refine Sb.c Tk.h ?_); (exact Sb.r))), ?_⟩
  (repeat refine GT.skip rfl ?_)
  refine GT.nil ?_
  (refine GO.assign rfl rfl ?_; refine GO.assign rfl rfl ?_; refine GO.nil ?_; refine kthen_n ?_; refine G.seq ?_; refine G.seq ?_; refine G.region ?_; refine GO.move rfl rfl ?_; refine GO.eqNilP rfl rfl ?_; refine GO.move rfl rfl ?_; refine GO.gT rfl rfl rfl ?_; refine GO.move rfl rfl ?_; refine GO.gT rfl rfl rfl ?_; refine GO.eqNilP rfl rfl ?_; refine GO.pickF rfl rfl rfl ?_; refine GO.move rfl rfl ?_; refine GO.gT rfl rfl rfl ?_; refine GO.move rfl rfl ?_; refine GO.gT rfl rfl rfl ?_; refine GO.eqNilP rfl rfl ?_; refine GO.pickF rfl rfl rfl ?_; refine GO.move rfl rfl ?_; refine GO.gT rfl rfl rfl ?_; refine GO.move rfl rfl ?_; refine GO.gT rfl rfl rfl ?_; refine GO.eqNilP rfl rfl ?_; refine GO.pickF rfl rfl rfl ?_; refine GO.nil ?_; refine kthen_n ?_; refine G.condF rfl rfl ?_; refine G.skip ?_; refine kthen_n ?_; refine G.seq ?_; refine G.region ?_; refine GO.move rfl rfl ?_; refine GO.move rfl rfl ?_)
  refine GO.pair (x := mat sA A ba) (y := mat sB B bb) (Tks.c (Tk.t (Tk.t (Tk.t Tk.h))) (Tks.c (Tk.t (Tk.t Tk.h)) Tks.n)) ?_
  refine GO.call2 rfl rfl rfl (k1 ba bb) (Tks.c Tk.h (Tks.c (Tk.t (Tk.t (Tk.t Tk.h))) Tks.n)) ?_
  rintro _ _ ⟨_, _, rfl, hc, rfl⟩
  obtain ⟨bk, rfl, rfl⟩ := hc.get
  refine GO.unpair (x := mat sA A ba) (y := mat sB B bb) (Tk.t Tk.h) ?_
  (refine GO.move rfl rfl ?_; refine GO.extract rfl rfl rfl ?_; refine GO.extract rfl rfl rfl ?_; refine GO.assign rfl rfl ?_; refine GO.assign rfl rfl ?_; refine GO.nil ?_; refine kthen_n ?_; refine G.seq ?_; refine G.region ?_; refine GO.move rfl rfl ?_; refine GO.move rfl rfl ?_)
  refine GO.pair (x := mat sA C bc) (y := mat sB D bd) (Tks.c (Tk.t (Tk.t (Tk.t (Tk.t (Tk.t (Tk.t Tk.h)))))) (Tks.c (Tk.t (Tk.t (Tk.t (Tk.t (Tk.t Tk.h))))) Tks.n)) ?_
  refine GO.call2 rfl rfl rfl (k2 bc bd) (Tks.c Tk.h (Tks.c (Tk.t (Tk.t (Tk.t Tk.h))) Tks.n)) ?_
  rintro _ _ ⟨_, _, rfl, hc, rfl⟩
  obtain ⟨bm, rfl, rfl⟩ := hc.get
  refine GO.unpair (x := mat sA C bc) (y := mat sB D bd) (Tk.t Tk.h) ?_
  (refine GO.move rfl rfl ?_; refine GO.extract rfl rfl rfl ?_; refine GO.extract rfl rfl rfl ?_; refine GO.assign rfl rfl ?_; refine GO.assign rfl rfl ?_; refine GO.nil ?_; refine kthen_n ?_; refine G.seq ?_; refine G.region ?_; refine GO.move rfl rfl ?_; refine GO.move rfl rfl ?_)
  refine GO.pair (x := mat sA A ba) (y := mat sA C bc) (Tks.c (Tk.t (Tk.t (Tk.t (Tk.t Tk.h)))) (Tks.c Tk.h Tks.n)) ?_
  refine GO.call2 rfl rfl rfl (m1 ba bc) (Tks.c Tk.h (Tks.c (Tk.t (Tk.t Tk.h)) Tks.n)) ?_
  rintro _ _ ⟨be, rfl, rfl⟩
  (refine GO.move rfl rfl ?_; refine GO.extract rfl rfl rfl ?_; refine GO.extract rfl rfl rfl ?_; refine GO.assign rfl rfl ?_; refine GO.assign rfl rfl ?_; refine GO.nil ?_; refine kthen_n ?_; refine G.seq ?_; refine G.region ?_; refine GO.move rfl rfl ?_; refine GO.move rfl rfl ?_)
  refine GO.pair (x := mat sB B bb) (y := mat sB D bd) (Tks.c (Tk.t (Tk.t (Tk.t (Tk.t (Tk.t Tk.h))))) (Tks.c (Tk.t (Tk.t (Tk.t Tk.h))) Tks.n)) ?_
  refine GO.call2 rfl rfl rfl (m2 bb bd) (Tks.c Tk.h (Tks.c (Tk.t (Tk.t Tk.h)) Tks.n)) ?_
  rintro _ _ ⟨bf, rfl, rfl⟩
  (refine GO.move rfl rfl ?_; refine GO.extract rfl rfl rfl ?_; refine GO.extract rfl rfl rfl ?_; refine GO.assign rfl rfl ?_; refine GO.assign rfl rfl ?_; refine GO.nil ?_; refine kthen_n ?_; refine G.seq ?_; refine G.seq ?_; refine G.region ?_; refine GO.move rfl rfl ?_; refine GO.neF rfl rfl rfl rfl ?_; refine GO.move rfl rfl ?_; refine GO.gT rfl rfl rfl ?_; refine GO.move rfl rfl ?_; refine GO.gT rfl rfl rfl ?_; refine GO.neF rfl rfl rfl rfl ?_; refine GO.pickF rfl rfl rfl ?_; refine GO.move rfl rfl ?_; refine GO.gT rfl rfl rfl ?_; refine GO.move rfl rfl ?_; refine GO.gT rfl rfl rfl ?_; refine GO.neF rfl rfl rfl rfl ?_; refine GO.pickF rfl rfl rfl ?_; refine GO.move rfl rfl ?_; refine GO.gT rfl rfl rfl ?_; refine GO.move rfl rfl ?_; refine GO.gT rfl rfl rfl ?_; refine GO.neF rfl rfl rfl rfl ?_; refine GO.pickF rfl rfl rfl ?_; refine GO.nil ?_; refine kthen_n ?_; refine G.condF rfl rfl ?_; refine G.skip ?_; refine kthen_n ?_; refine G.seq ?_; refine G.region ?_; refine GO.move rfl rfl ?_; refine GO.move rfl rfl ?_)
  refine GO.pair (x := mat sC K bk) (y := mat sC M bm) (Tks.c (Tk.t (Tk.t (Tk.t (Tk.t (Tk.t (Tk.t Tk.h)))))) (Tks.c (Tk.t (Tk.t (Tk.t (Tk.t (Tk.t Tk.h))))) Tks.n)) ?_
  refine GO.call2 rfl rfl rfl (m3 bk bm) (Tks.c Tk.h (Tks.c (Tk.t (Tk.t Tk.h)) Tks.n)) ?_
  rintro _ _ ⟨bl, rfl, rfl⟩
  (refine GO.move rfl rfl ?_; refine GO.extract rfl rfl rfl ?_; refine GO.extract rfl rfl rfl ?_; refine GO.assign rfl rfl ?_; refine GO.assign rfl rfl ?_; refine GO.nil ?_; refine kthen_n ?_; refine G.seq ?_; refine G.region ?_; refine GO.move rfl rfl ?_; refine GO.move rfl rfl ?_)
  refine GO.pair (x := mat sA AC be) (y := mat sB BD bf) (Tks.c (Tk.t (Tk.t (Tk.t (Tk.t (Tk.t Tk.h))))) (Tks.c (Tk.t (Tk.t (Tk.t Tk.h))) Tks.n)) ?_
  refine GO.call2 rfl rfl rfl (k3 be bf) (Tks.c Tk.h (Tks.c (Tk.t (Tk.t Tk.h)) Tks.n)) ?_
  rintro _ _ ⟨_, _, rfl, hc, rfl⟩
  obtain ⟨br, rfl, rfl⟩ := hc.get
  (refine GO.move rfl rfl ?_; refine GO.extract rfl rfl rfl ?_; refine GO.extract rfl rfl rfl ?_; refine GO.assign rfl rfl ?_; refine GO.assign rfl rfl ?_; refine GO.nil ?_; refine kthen_n ?_; refine G.seq ?_; refine G.region ?_; refine GO.move rfl rfl ?_; refine GO.eqT rfl rfl rfl rfl ?_; refine GO.move rfl rfl ?_; refine GO.gT rfl rfl rfl ?_; refine GO.move rfl rfl ?_; refine GO.gT rfl rfl rfl ?_; refine GO.eqT rfl rfl rfl rfl ?_; refine GO.pickT rfl rfl rfl ?_; refine GO.move rfl rfl ?_; refine GO.gT rfl rfl rfl ?_; refine GO.move rfl rfl ?_; refine GO.gT rfl rfl rfl ?_; refine GO.move rfl rfl ?_; refine GO.gT rfl rfl rfl ?_)
  refine GO.call2 rfl rfl rfl (same_mat sC sC bl br KM KM) (Tks.c (Tk.t (Tk.t (Tk.t Tk.h))) (Tks.c Tk.h Tks.n)) ?_
  rintro _ _ ⟨bt, rfl, hbl, rfl⟩
  obtain rfl := hbl.2 ⟨rfl, rfl⟩
  (refine GO.pickT rfl rfl rfl ?_; refine GO.move rfl rfl ?_; refine GO.gT rfl rfl rfl ?_)
  refine GO.call0 rfl (kawake_spec q hq) (Tks.c (Tk.t (Tk.t (Tk.t Tk.h))) Tks.n) ?_
  rintro _ _ ⟨rfl, rfl⟩
  (refine GO.pickT rfl rfl rfl ?_; refine GO.assign rfl rfl ?_; refine GO.nil ?_; refine kthen_n ?_; refine G.ret ?_)
  refine KF2.r1 rfl (RV.t rfl) ⟨rfl, rfl⟩ (ImpS.sb ?_)
  ((refine Sb.c Tk.h ?_); (refine Sb.s ?_; refine Sb.s ?_; refine Sb.s ?_; refine Sb.s ?_; refine Sb.s ?_; refine Sb.s ?_; refine Sb.s ?_; exact Sb.r))
end Go.Proofs.YtebchcongefbcaaDoor
namespace Go.Proofs.YtebchcongefbcaaDoor
open Go Go.ChangeShapes Go.WideShapes Go.ChangeAt Go.RowKit Go.Deep
theorem two_of {α : Type} {l : List α} (h : l.length = 2) : ∃ x y, l = [x, y] := by
  cases l with
  | nil => cases h
  | cons x l => cases l with
    | nil => cases h
    | cons y l => cases l with
      | nil => exact ⟨x, y, rfl⟩
      | cons z l => simp at h
theorem wf_le {n : Int} (h : (Lit.int .i64 n).wf = true) : ¬ 9223372036854775807 < n := by
  unfold Lit.wf at h
  rw [Bool.and_eq_true] at h
  have h2 := of_decide_eq_true h.2
  rw [show IntKind.i64.max = 9223372036854775807 by rfl] at h2
  omega
section
variable {H : Type} {enc : TypeId × Value → H} {w : World} {base : Nat} {spare : Nat → Bool} {held : Bool}
theorem open_cellsC {fuel : Nat} {v : Value} {x : DataW H × List MemPlace} (h : DataW.trod enc Tryd.prog w base spare held fuel 22 [v] = some x) :
    ∃ cs : List (Int × Int), SlC (init w) v cs := by
  obtain ⟨cs, ⟨a, cap, rfl, h1, h2⟩, _⟩ := open_cells h
  refine ⟨cs, a, cap, rfl, ?_, h2⟩
  rcases open_slice_fields Tryd.underlying22 Tryd.underlying59 (by kernel_rfl) (by kernel_rfl) h with ⟨hc, _⟩ | ⟨a', len, cap', m, D, Pl, hc, _, hl, _⟩
  · simp only [List.cons.injEq, and_true] at hc
    injection hc with _ e1 e2
    omega
  · simp only [List.cons.injEq, and_true] at hc
    injection hc with _ e1 e2
    omega
theorem open_grid {fuel : Nat} {cs : Array Value} {x : DataW H × List MemPlace} (h : DataW.trod enc Tryd.prog w base spare held fuel 24 (Value.agg cs).cells.toList = some x) :
    ∃ g : Int × List Cl, GridR (init w) (.agg cs) g := by
  have hC : Tryd.prog.cellsOf 24 = 2 := by kernel_rfl
  have hC3 : Tryd.prog.cellsOf 3 = 1 := by kernel_rfl
  have hCp : Tryd.prog.cellsOf 22 = 1 := by kernel_rfl
  obtain ⟨ys, n, _, rfl, hl, hyl, hf⟩ := DataW.trod_struct Tryd.underlying24 h
  have hcs : (Value.agg cs).cells = cs := rfl
  rw [hcs] at hl hf
  rw [hC] at hl
  obtain ⟨c0, c1, e⟩ := two_of hl
  obtain rfl : cs = [c0, c1].toArray := by rw [← e]
  have f0 := hf 0 { name := "Side", type := 3, offset := 0, embedded := false, tag := "", pkgPath := "", byteOffset := 0 } rfl
  have f1 := hf 1 { name := "Cells", type := 22, offset := 1, embedded := false, tag := "", pkgPath := "", byteOffset := 8 } rfl
  dsimp only at f0 f1
  rw [hC3] at f0
  rw [hCp] at f1
  have y0 : ∃ y, ys[0]? = some y := ⟨ys[0]'(by rw [hyl]; decide), List.getElem?_eq_getElem _⟩
  have y1 : ∃ y, ys[1]? = some y := ⟨ys[1]'(by rw [hyl]; decide), List.getElem?_eq_getElem _⟩
  obtain ⟨y0, g0⟩ := y0
  obtain ⟨y1, g1⟩ := y1
  rw [g0] at f0
  rw [g1] at f1
  obtain ⟨k, hk, _⟩ := DataW.trod_int Tryd.underlying3 f0
  have hk : c0 = i64 k := by simpa using hk
  subst hk
  obtain ⟨ps, h1⟩ := open_cellsC f1
  exact ⟨(k, ps), c1, rfl, h1⟩
end
end Go.Proofs.YtebchcongefbcaaDoor
namespace Go.Proofs.YtebchcongefbcaaDoor
open Go Go.ChangeShapes Go.WideShapes Go.ChangeAt Go.RowKit Go.Deep
theorem six_of {α : Type} {l : List α} (h : l.length = 6) : ∃ a b c d e f, l = [a, b, c, d, e, f] := by
  match l, h with
  | [a, b, c, d, e, f], _ => exact ⟨a, b, c, d, e, f, rfl⟩
section
variable {H : Type} {enc : TypeId × Value → H} {w : World} {base : Nat} {spare : Nat → Bool} {held : Bool}
theorem open_cellsB {fuel : Nat} {v : Value} {x : DataW H × List MemPlace} (h : DataW.trod enc Tryd.prog w base spare held fuel 22 [v] = some x) :
    ∃ cs : List (Int × Int), SlC (init w) v cs ∧ ¬ 9223372036854775807 < cs.length := by
  obtain ⟨cs, h1⟩ := open_cellsC h
  refine ⟨cs, h1, ?_⟩
  obtain ⟨ds, ⟨a, cap, rfl, _⟩, h2⟩ := open_cells h
  obtain ⟨a', cap', e, _⟩ := h1
  injection e with _ e
  omega
theorem open_four {fuel : Nat} {cs : Array Value} {x : DataW H × List MemPlace} (h : DataW.trod enc Tryd.prog w base spare held fuel 49 (Value.agg cs).cells.toList = some x) :
    ∃ (P Q : Int) (A B C D : List Cl), FourR (init w) (.agg cs) P Q A B C D ∧ ¬ 9223372036854775807 < A.length ∧ ¬ 9223372036854775807 < B.length ∧ ¬ 9223372036854775807 < C.length ∧ ¬ 9223372036854775807 < D.length := by
  have hC : Tryd.prog.cellsOf 49 = 6 := by kernel_rfl
  have hC3 : Tryd.prog.cellsOf 3 = 1 := by kernel_rfl
  have hCp : Tryd.prog.cellsOf 22 = 1 := by kernel_rfl
  obtain ⟨ys, n, _, rfl, hl, hyl, hf⟩ := DataW.trod_struct Tryd.underlying49 h
  have hcs : (Value.agg cs).cells = cs := rfl
  rw [hcs] at hl hf
  rw [hC] at hl
  obtain ⟨c0, c1, c2, c3, c4, c5, e⟩ := six_of hl
  obtain rfl : cs = [c0, c1, c2, c3, c4, c5].toArray := by rw [← e]
  have f0 := hf 0 { name := "P", type := 3, offset := 0, embedded := false, tag := "", pkgPath := "", byteOffset := 0 } rfl
  dsimp only at f0
  rw [hC3] at f0
  obtain ⟨y0, g0⟩ : ∃ y, ys[0]? = some y := ⟨ys[0]'(by rw [hyl]; decide), List.getElem?_eq_getElem _⟩
  rw [g0] at f0
  have f1 := hf 1 { name := "Q", type := 3, offset := 1, embedded := false, tag := "", pkgPath := "", byteOffset := 8 } rfl
  dsimp only at f1
  rw [hC3] at f1
  obtain ⟨y1, g1⟩ : ∃ y, ys[1]? = some y := ⟨ys[1]'(by rw [hyl]; decide), List.getElem?_eq_getElem _⟩
  rw [g1] at f1
  have f2 := hf 2 { name := "A", type := 22, offset := 2, embedded := false, tag := "", pkgPath := "", byteOffset := 16 } rfl
  dsimp only at f2
  rw [hCp] at f2
  obtain ⟨y2, g2⟩ : ∃ y, ys[2]? = some y := ⟨ys[2]'(by rw [hyl]; decide), List.getElem?_eq_getElem _⟩
  rw [g2] at f2
  have f3 := hf 3 { name := "B", type := 22, offset := 3, embedded := false, tag := "", pkgPath := "", byteOffset := 40 } rfl
  dsimp only at f3
  rw [hCp] at f3
  obtain ⟨y3, g3⟩ : ∃ y, ys[3]? = some y := ⟨ys[3]'(by rw [hyl]; decide), List.getElem?_eq_getElem _⟩
  rw [g3] at f3
  have f4 := hf 4 { name := "C", type := 22, offset := 4, embedded := false, tag := "", pkgPath := "", byteOffset := 64 } rfl
  dsimp only at f4
  rw [hCp] at f4
  obtain ⟨y4, g4⟩ : ∃ y, ys[4]? = some y := ⟨ys[4]'(by rw [hyl]; decide), List.getElem?_eq_getElem _⟩
  rw [g4] at f4
  have f5 := hf 5 { name := "D", type := 22, offset := 5, embedded := false, tag := "", pkgPath := "", byteOffset := 88 } rfl
  dsimp only at f5
  rw [hCp] at f5
  obtain ⟨y5, g5⟩ : ∃ y, ys[5]? = some y := ⟨ys[5]'(by rw [hyl]; decide), List.getElem?_eq_getElem _⟩
  rw [g5] at f5
  obtain ⟨k0, hk, _⟩ := DataW.trod_int Tryd.underlying3 f0
  have hk : c0 = i64 k0 := by simpa using hk
  subst hk
  obtain ⟨k1, hk, _⟩ := DataW.trod_int Tryd.underlying3 f1
  have hk : c1 = i64 k1 := by simpa using hk
  subst hk
  obtain ⟨A, hA, nA⟩ := open_cellsB f2
  obtain ⟨B, hB, nB⟩ := open_cellsB f3
  obtain ⟨C, hC, nC⟩ := open_cellsB f4
  obtain ⟨D, hD, nD⟩ := open_cellsB f5
  exact ⟨k0, k1, A, B, C, D, ⟨c2, c3, c4, c5, rfl, hA, hB, hC, hD⟩, nA, nB, nC, nD⟩
end
end Go.Proofs.YtebchcongefbcaaDoor
