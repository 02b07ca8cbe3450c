/-
  The law QuadPlays, part 3.
-/
import Derived.Test.YtfoahdfflchidaaDoorM2
import Derived.Test.YtfoahdfflchidaaDoorM1
namespace Go.Proofs.YtfoahdfflchidaaDoor
open Go
theorem ltC_iff (p r : Cl) : ltC p r = true ↔ p.1 < r.1 ∨ (p.1 = r.1 ∧ p.2 < r.2) := by
  unfold ltC
  simp only [Bool.or_eq_true, Bool.and_eq_true, decide_eq_true_eq]
theorem ltC_trans {a b c : Cl} (h1 : ltC a b = true) (h2 : ltC b c = true) : ltC a c = true := by rw [ltC_iff] at *; omega
theorem ltC_asymm {a b : Cl} (h : ltC a b = true) : ¬ ltC b a = true := by rw [ltC_iff] at *; omega
theorem ltC_irr (a : Cl) : ¬ ltC a a = true := by rw [ltC_iff]; omega
theorem ltC_tri {a b : Cl} (h : ltC a b = false) (e : a ≠ b) : ltC b a = true := by
  have h1 : ¬ ltC a b = true := by rw [h]; simp
  rw [ltC_iff] at *
  have : ¬ (a.1 = b.1 ∧ a.2 = b.2) := fun h => e (Prod.ext h.1 h.2)
  omega
/-- Rising, each once. -/
def Up (l : List Cl) : Prop := l.Pairwise fun a b => ltC a b = true
theorem mrg_mem : ∀ (n : Nat) (xs ys : List Cl), xs.length + ys.length ≤ n → ∀ p, p ∈ mrg xs ys ↔ p ∈ xs ∨ p ∈ ys
  | _, [], ys, _, p => by rw [mrg_nil']; simp
  | _, x :: xs, [], _, p => by rw [mrg_nil]; simp
  | 0, x :: xs, y :: ys, h, p => by simp at h
  | n + 1, x :: xs, y :: ys, h, p => by
    simp only [List.length_cons] at h
    cases hl : ltC x y with
    | true =>
      have ih := mrg_mem n xs (y :: ys) (by simp only [List.length_cons]; omega) p
      rw [mrg_lt hl, List.mem_cons, ih, List.mem_cons, List.mem_cons]
      exact ⟨fun h => by rcases h with h | h | h | h <;> simp [h], fun h => by rcases h with (h | h) | h | h <;> simp [h]⟩
    | false =>
      by_cases e : x = y
      · have ih := mrg_mem n xs ys (by omega) p
        rw [mrg_eq hl e, List.mem_cons, ih, List.mem_cons, List.mem_cons, e]
        exact ⟨fun h => by rcases h with h | h | h <;> simp [h], fun h => by rcases h with (h | h) | h | h <;> simp [h]⟩
      · have ih := mrg_mem n (x :: xs) ys (by simp only [List.length_cons]; omega) p
        rw [mrg_gt hl e, List.mem_cons, ih, List.mem_cons, List.mem_cons]
        exact ⟨fun h => by rcases h with h | (h | h) | h <;> simp [h], fun h => by rcases h with (h | h) | h | h <;> simp [h]⟩
theorem mrg_up : ∀ (n : Nat) (xs ys : List Cl), xs.length + ys.length ≤ n → Up xs → Up ys → Up (mrg xs ys)
  | _, [], ys, _, _, hy => by rw [mrg_nil']; exact hy
  | _, x :: xs, [], _, hx, _ => by rw [mrg_nil]; exact hx
  | 0, x :: xs, y :: ys, h, _, _ => by simp at h
  | n + 1, x :: xs, y :: ys, h, hx, hy => by
    simp only [List.length_cons] at h
    have hx' := List.pairwise_cons.1 hx
    have hy' := List.pairwise_cons.1 hy
    cases hl : ltC x y with
    | true =>
      rw [mrg_lt hl]
      refine List.pairwise_cons.2 ⟨fun p hp => ?_, mrg_up n xs (y :: ys) (by simp only [List.length_cons]; omega) hx'.2 hy⟩
      rcases (mrg_mem _ _ _ (Nat.le_refl _) p).1 hp with h | h
      · exact hx'.1 p h
      · rcases List.mem_cons.1 h with rfl | h
        · exact hl
        · exact ltC_trans hl (hy'.1 p h)
    | false =>
      by_cases e : x = y
      · subst e
        rw [mrg_eq hl rfl]
        refine List.pairwise_cons.2 ⟨fun p hp => ?_, mrg_up n xs ys (by omega) hx'.2 hy'.2⟩
        rcases (mrg_mem _ _ _ (Nat.le_refl _) p).1 hp with h | h
        · exact hx'.1 p h
        · exact hy'.1 p h
      · have hg := ltC_tri hl e
        rw [mrg_gt hl e]
        refine List.pairwise_cons.2 ⟨fun p hp => ?_, mrg_up n (x :: xs) ys (by simp only [List.length_cons]; omega) hx hy'.2⟩
        rcases (mrg_mem _ _ _ (Nat.le_refl _) p).1 hp with h | h
        · rcases List.mem_cons.1 h with rfl | h
          · exact hg
          · exact ltC_trans hg (hx'.1 p h)
        · exact hy'.1 p h
theorem srt_mem : ∀ (n : Nat) (l : List Cl), l.length ≤ n → ∀ p, p ∈ srt l ↔ p ∈ l
  | 0, l, h, p => by rw [srt_small (by omega)]
  | n + 1, l, h, p => by
    by_cases h2 : l.length < 2
    · rw [srt_small h2]
    · rw [srt_big h2, mrg_mem _ _ _ (Nat.le_refl _), srt_mem n (l.take (l.length / 2)) (by rw [List.length_take]; omega), srt_mem n (l.drop (l.length / 2)) (by rw [List.length_drop]; omega), ← List.mem_append, List.take_append_drop]
theorem srt_up : ∀ (n : Nat) (l : List Cl), l.length ≤ n → Up (srt l)
  | 0, l, h => by
    obtain rfl : l = [] := List.eq_nil_of_length_eq_zero (by omega)
    rw [srt_small (by simp)]; exact List.Pairwise.nil
  | n + 1, l, h => by
    by_cases h2 : l.length < 2
    · rw [srt_small h2]
      match l, h2 with
      | [], _ => exact List.Pairwise.nil
      | [x], _ => exact List.pairwise_singleton _ _
    · rw [srt_big h2]
      exact mrg_up _ _ _ (Nat.le_refl _) (srt_up n _ (by rw [List.length_take]; omega)) (srt_up n _ (by rw [List.length_drop]; omega))
theorem up_unique {l m : List Cl} (hl : Up l) (hm : Up m) (h : ∀ p, p ∈ l ↔ p ∈ m) : l = m := strict_unique (R := fun a b => ltC a b = true) (fun _ _ h => ltC_asymm h) hl hm h
theorem cells_up (X : Nat → Nat → Bool) : Up (castL (cellsX X)) := by
  unfold Up castL cellsX restX
  rw [List.map_map, List.pairwise_map]
  refine List.Pairwise.imp ?_ (List.Pairwise.filter _ (List.pairwise_lt_range' (s := 0) (n := 1048576 - 0) 1))
  intro a b hab
  rw [ltC_iff]
  show ((a / 1024 : Nat) : Int) < ((b / 1024 : Nat) : Int) ∨ (((a / 1024 : Nat) : Int) = ((b / 1024 : Nat) : Int) ∧ ((a % 1024 : Nat) : Int) < ((b % 1024 : Nat) : Int))
  omega
theorem cast_mem {s : Nat} {X : Nat → Nat → Bool} (hs : s ≤ 1024) (hx : ∀ r c, X r c = true → r < s ∧ c < s) (p : Cl) : p ∈ castL (cellsX X) ↔ 0 ≤ p.1 ∧ 0 ≤ p.2 ∧ X p.1.toNat p.2.toNat = true := by
  unfold castL
  rw [List.mem_map]
  constructor
  · rintro ⟨u, hu, rfl⟩
    refine ⟨by dsimp only; omega, by dsimp only; omega, ?_⟩
    show X ((u.1 : Int)).toNat ((u.2 : Int)).toNat = true
    rw [Int.toNat_natCast, Int.toNat_natCast]
    exact cellsX_true hu
  · rintro ⟨h1, h2, h3⟩
    refine ⟨(p.1.toNat, p.2.toNat), cellsX_pos hs hx h3, Prod.ext ?_ ?_⟩
    · show ((p.1.toNat : Nat) : Int) = p.1; omega
    · show ((p.2.toNat : Nat) : Int) = p.2; omega
theorem setL_mem {s : Nat} (r c : Nat) : ∀ (l : List Cl) (Y : Nat → Nat → Bool), inL s l = true → (setL Y l r c = true ↔ Y r c = true ∨ ((r : Int), (c : Int)) ∈ l)
  | [], Y, _ => by simp [setL]
  | p :: l, Y, h => by
    have hp : inM s p.1 p.2 = true ∧ inL s l = true := by unfold inL at h ⊢; simpa using h
    obtain ⟨m, n, e1, e2, _, _⟩ := inM_at hp.1
    show setL (addX Y p.1.toNat p.2.toNat) l r c = true ↔ _
    rw [setL_mem r c l _ hp.2, List.mem_cons]
    have ea : (addX Y p.1.toNat p.2.toNat r c = true) ↔ (Y r c = true ∨ ((r : Int), (c : Int)) = p) := by
      unfold addX
      rw [Bool.or_eq_true, Bool.and_eq_true, decide_eq_true_iff, decide_eq_true_iff]
      refine or_congr Iff.rfl ⟨fun h => Prod.ext ?_ ?_, fun h => ?_⟩
      · show (r : Int) = p.1; omega
      · show (c : Int) = p.2; omega
      · have h1 : (r : Int) = p.1 := congrArg Prod.fst h
        have h2 : (c : Int) = p.2 := congrArg Prod.snd h
        omega
    rw [ea, or_assoc]
/-- The reference's list is the matrix's. -/
theorem srt_cells {s : Nat} {l : List Cl} (hs : s ≤ 1024) (h : inL s l = true) : srt l = castL (cellsX (setL noX l)) := by
  have hall : ∀ p, p ∈ l → ∃ m n : Nat, p.1 = m ∧ p.2 = n ∧ m < s ∧ n < s := fun p hp => inM_at ((List.all_eq_true.1 h) p hp)
  have hm := fun r c => setL_mem (s := s) r c l noX h
  have hx : ∀ r c, setL noX l r c = true → r < s ∧ c < s := fun r c hx => by
    rcases (hm r c).1 hx with h0 | h0
    · cases h0
    · obtain ⟨m, n, e1, e2, h1, h2⟩ := hall _ h0
      have e1 : (r : Int) = m := e1
      have e2 : (c : Int) = n := e2
      omega
  refine up_unique (srt_up _ _ (Nat.le_refl _)) (cells_up _) fun p => ?_
  rw [srt_mem _ _ (Nat.le_refl _), cast_mem hs hx]
  constructor
  · intro hp
    obtain ⟨m, n, e1, e2, _, _⟩ := hall p hp
    refine ⟨by omega, by omega, (hm _ _).2 (.inr ?_)⟩
    rw [show (((p.1.toNat : Nat) : Int), ((p.2.toNat : Nat) : Int)) = p from Prod.ext (by show ((p.1.toNat : Nat) : Int) = p.1; omega) (by show ((p.2.toNat : Nat) : Int) = p.2; omega)]
    exact hp
  · rintro ⟨h1, h2, h3⟩
    rcases (hm _ _).1 h3 with h0 | h0
    · cases h0
    · rwa [show (((p.1.toNat : Nat) : Int), ((p.2.toNat : Nat) : Int)) = p from Prod.ext (by show ((p.1.toNat : Nat) : Int) = p.1; omega) (by show ((p.2.toNat : Nat) : Int) = p.2; omega)] at h0
end Go.Proofs.YtfoahdfflchidaaDoor
namespace Go.Proofs.YtfoahdfflchidaaDoor
open Go
abbrev refV (s : Int) (v : Value) : Value := .agg #[i64 s, v]
theorem built_ref (s : Int) : Tryd.prog.built 52 [(0, i64 s)] = some [i64 s, .slice none 0 0].toArray := by kernel_rfl
def inS (s : Int) (i : Int) : Bool := decide (0 ≤ i) && decide (i < s)
def refOk (s : Int) : Bool := !(decide (s < 1) || decide (1024 < s))
theorem refOk_t {s : Int} (h : refOk s = true) : 1 ≤ s ∧ s ≤ 1024 := by
  unfold refOk at h
  simp at h
  omega
theorem refOk_f {s : Int} (h : refOk s = false) : ¬ (1 ≤ s ∧ s ≤ 1024) := by
  unfold refOk at h
  simp at h
  omega
attribute [local irreducible] G GO GR GT GQ Fn FnV pt init exs pur sat own ImpS cellsV
set_option maxRecDepth 40000 in
theorem refIn_spec (s i : Int) (v : Value) (hv : v.oneCell' = true) : Fn Tryd.prog 50 #[refV s v, i64 i] [] (fun r Q => r = .bool (inS s i) ∧ Q = []) := by
  refine Fn.mk2 Tryd.func50 rfl rfl fun w0 F => ?_
  unfold inS
  (refine G.seq ?_; refine G.region ?_; refine GO.box rfl rfl rfl fun b2 => ?_; refine GO.assign rfl rfl ?_; refine GO.nil ?_; refine kthen_n ?_; refine G.seq ?_; refine G.region ?_; refine GO.move rfl rfl ?_; refine GO.gei rfl rfl rfl ?_; refine GO.move rfl rfl ?_)
  cases h1 : decide (0 ≤ i) with
  | true =>
    (refine GO.gT rfl rfl rfl ?_; refine GO.move rfl rfl ?_; refine GO.gT rfl rfl rfl ?_; refine GO.fieldAddr rfl rfl ?_; refine GO.gT rfl rfl rfl ?_; refine GO.load1 rfl rfl rfl Tk.h rfl ?_; refine GO.gT rfl rfl rfl ?_; refine GO.lti rfl rfl rfl ?_; refine GO.pickT rfl rfl rfl ?_; refine GO.assign rfl rfl ?_; refine GO.nil ?_; refine kthen_n ?_; refine G.ret ?_)
    refine KF2.r1 rfl (RV.t rfl) ⟨by rw [Bool.true_and], rfl⟩ (ImpS.sb ?_)
    (skip; (refine Sb.s ?_; exact Sb.r))
  | false =>
    (refine GO.gF rfl rfl rfl rfl ?_; refine GO.gF rfl rfl rfl rfl ?_; refine GO.gF rfl rfl rfl rfl ?_; refine GO.gF rfl rfl rfl rfl ?_; refine GO.pickF rfl rfl rfl ?_; refine GO.assign rfl rfl ?_; refine GO.nil ?_; refine kthen_n ?_; refine G.ret ?_)
    refine KF2.r1 rfl (RV.t rfl) ⟨by rw [Bool.false_and], rfl⟩ (ImpS.sb ?_)
    (skip; (refine Sb.s ?_; exact Sb.r))
set_option maxRecDepth 40000 in
theorem refNew_spec (s : Int) : Fn Tryd.prog 23 #[i64 s] [] (fun r Q => r = (if refOk s then .tuple #[refV s (.slice none 0 0), i64 0] else .tuple #[refV 0 (.slice none 0 0), i64 2]) ∧ Q = []) := by
  refine Fn.mk2 Tryd.func23 rfl rfl fun w0 F => ?_
  unfold refOk
  (refine G.seq ?_; refine G.region ?_; refine GO.alloc rfl fun b2 => ?_; refine GO.assign rfl rfl ?_; refine GO.nil ?_; refine kthen_n ?_; refine G.seq ?_; refine G.seq ?_; refine G.region ?_; refine GO.move rfl rfl ?_; refine GO.lti rfl rfl rfl ?_; refine GO.move rfl rfl ?_)
  by_cases a : s < 1
  · rw [show decide (s < 1) = true from decide_eq_true a]
    (refine GO.gF rfl rfl rfl rfl ?_; refine GO.gF rfl rfl rfl rfl ?_; refine GO.pickT rfl rfl rfl ?_; refine GO.nil ?_; refine kthen_n ?_; refine G.condT rfl rfl ?_; refine G.seq ?_; refine G.region ?_; refine GO.build0 rfl ?_; refine GO.storeW rfl rfl Tk.h ⟨rfl, rfl⟩ (by simp [Value.oneCell']) ?_; refine GO.assign rfl rfl ?_; refine GO.nil ?_; refine kthen_n ?_; refine G.ret ?_; refine kthen_r ?_)
    refine KF2.r2 rfl (RV.cW (n := 2) rfl rfl (by (exact Tk.h)) rfl) (RV.t rfl) ⟨rfl, rfl⟩ (ImpS.sb ?_)
    (skip; (refine Sb.s ?_; exact Sb.r))
  · rw [show decide (s < 1) = false from decide_eq_false a]
    (refine GO.gT rfl rfl rfl ?_; refine GO.move rfl rfl ?_; refine GO.gT rfl rfl rfl ?_; refine GO.gti rfl rfl rfl ?_; refine GO.pickF rfl rfl rfl ?_; refine GO.nil ?_; refine kthen_n ?_)
    by_cases b : 1024 < s
    · rw [show decide (1024 < s) = true from decide_eq_true b]
      (refine G.condT rfl rfl ?_; refine G.seq ?_; refine G.region ?_; refine GO.build0 rfl ?_; refine GO.storeW rfl rfl Tk.h ⟨rfl, rfl⟩ (by simp [Value.oneCell']) ?_; refine GO.assign rfl rfl ?_; refine GO.nil ?_; refine kthen_n ?_; refine G.ret ?_; refine kthen_r ?_)
      refine KF2.r2 rfl (RV.cW (n := 2) rfl rfl (by (exact Tk.h)) rfl) (RV.t rfl) ⟨rfl, rfl⟩ (ImpS.sb ?_)
      (skip; (refine Sb.s ?_; exact Sb.r))
    · rw [show decide (1024 < s) = false from decide_eq_false b]
      (refine G.condF rfl rfl ?_; refine G.skip ?_; refine kthen_n ?_; refine G.seq ?_; refine G.region ?_; refine GO.move rfl rfl ?_)
      refine GO.buildPart1 (built_ref s) rfl rfl ?_
      (refine GO.storeW rfl rfl Tk.h ⟨rfl, rfl⟩ (by simp [Value.oneCell']) ?_; refine GO.assign rfl rfl ?_; refine GO.nil ?_; refine kthen_n ?_; refine G.ret ?_)
      refine KF2.r2 rfl (RV.cW (n := 2) rfl rfl (by (exact Tk.h)) rfl) (RV.t rfl) ⟨rfl, rfl⟩ (ImpS.sb ?_)
      (skip; (refine Sb.s ?_; exact Sb.r))
theorem inM_inS (n : Nat) (a b : Int) : inM n a b = (inS n a && inS n b) := by
  unfold inM inS
  rw [Bool.decide_and, Bool.decide_and]
def refOfR (s : Int) (l : List Cl) (R : HP) (r : Value) (Q : List HP) : Prop :=
  (∃ n : Nat, s = n ∧ 1 ≤ n ∧ n ≤ 1024 ∧ inL n l = true ∧ ∃ v, r = .tuple #[refV n v, i64 0] ∧ Q = [own 34 2 (srt l).length v (cellsV (srt l)), R]) ∨
  (¬ (1 ≤ s ∧ s ≤ 1024 ∧ inL s.toNat l = true) ∧ r = .tuple #[refV 0 (.slice none 0 0), i64 2] ∧ Q = [R])
set_option maxHeartbeats 4000000 in
set_option maxRecDepth 40000 in
theorem refOf_spec (s : Int) (R : HP) (v : Value) (l : List Cl) (hv : SlC R v l) (hb : l.length * 16 ≤ 140737488355328) : Fn Tryd.prog 24 #[i64 s, v] [R] (refOfR s l R) := by
  have hv2 := hv
  obtain ⟨a, cap, rfl, hc, hr⟩ := hv
  refine Fn.mk2 Tryd.func24 rfl rfl fun w0 F => ?_
  (refine G.seq ?_; refine G.region ?_; refine GO.alloc rfl fun b4 => ?_; refine GO.assign rfl rfl ?_; refine GO.nil ?_; refine kthen_n ?_; refine G.seq ?_; refine G.region ?_; refine GO.move rfl rfl ?_)
  refine GO.call1 rfl rfl (refNew_spec s) Tks.n ?_
  rintro _ _ ⟨rfl, rfl⟩
  cases hok : refOk s with
  | false =>
    rw [if_neg (by simp)]
    (refine GO.move rfl rfl ?_; refine GO.extract rfl rfl rfl ?_; refine GO.extract rfl rfl rfl ?_; refine GO.alloc rfl fun b6 => ?_; refine GO.storeW rfl rfl Tk.h ⟨rfl, rfl⟩ (by simp [Value.oneCell']) ?_; refine GO.assign rfl rfl ?_; refine GO.nil ?_; refine kthen_n ?_; refine G.seq ?_; refine G.seq ?_; refine G.region ?_; refine GO.move rfl rfl ?_; refine GO.nei rfl rfl rfl ?_; refine GO.nil ?_; refine kthen_n ?_; refine G.condT rfl rfl ?_; refine G.seq ?_; refine G.region ?_; refine GO.build0 rfl ?_; refine GO.move rfl rfl ?_; refine GO.storeW rfl rfl (Tk.t Tk.h) ⟨rfl, rfl⟩ (by simp [Value.oneCell']) ?_; refine GO.assign rfl rfl ?_; refine GO.nil ?_; refine kthen_n ?_; refine G.ret ?_; refine kthen_r ?_)
    refine KF2.r2 rfl (RV.cW (n := 2) rfl rfl (by (exact Tk.h)) rfl) (RV.t rfl) (.inr ⟨fun h => refOk_f hok ⟨h.1, h.2.1⟩, rfl, rfl⟩) (ImpS.sb ?_)
    ((refine Sb.c (Tk.t (Tk.t Tk.h)) ?_); (refine Sb.s ?_; refine Sb.s ?_; exact Sb.r))
  | true =>
    rw [if_pos rfl]
    obtain ⟨n, rfl⟩ := Int.eq_ofNat_of_zero_le (show 0 ≤ s by have := refOk_t hok; omega)
    have hn := refOk_t hok
    clear hok
    (refine GO.move rfl rfl ?_; refine GO.extract rfl rfl rfl ?_; refine GO.extract rfl rfl rfl ?_; refine GO.alloc rfl fun b6 => ?_; refine GO.storeW rfl rfl Tk.h ⟨rfl, rfl⟩ (by simp [Value.oneCell']) ?_; refine GO.assign rfl rfl ?_; refine GO.nil ?_; refine kthen_n ?_; refine G.seq ?_; refine G.seq ?_; refine G.region ?_; refine GO.move rfl rfl ?_; refine GO.neF rfl rfl rfl rfl ?_; refine GO.nil ?_; refine kthen_n ?_; refine G.condF rfl rfl ?_; refine G.skip ?_; refine kthen_n ?_; refine G.seq ?_; refine G.seq ?_; refine G.region ?_; refine GO.assign rfl rfl ?_; refine GO.nil ?_; refine kthen_n ?_; refine G.block ?_)
    refine G.loop (fun k : Nat => [(1, .slice a l.length cap), (4, .pointer (some ⟨b4, 0, none⟩)), (6, .pointer (some ⟨b6, 0, none⟩)), (8, i64 k)])
      (fun k => pt b4 (row [i64 0, .slice none 0 0] 52) :: pt b6 (row [i64 (n : Nat), .slice none 0 0] 52) :: R :: F) (fun k => k ≤ l.length ∧ inL n (l.take k) = true) (fun k => l.length - k) 0 ⟨by omega, by simp [inL]⟩ ?_ ?_ ?_
    · (refine SubE.c rfl rfl ?_; refine SubE.c rfl rfl ?_; refine SubE.c rfl rfl ?_; refine SubE.c rfl rfl ?_; exact SubE.n)
    · ((refine Sb.c (Tk.t Tk.h) ?_; refine Sb.c Tk.h ?_; refine Sb.c Tk.h ?_); (exact Sb.r))
    rintro k ⟨hk, hall⟩
    (refine G.seq ?_; refine G.seq ?_; refine G.region ?_; refine GO.move rfl rfl ?_; refine GO.move rfl rfl ?_; refine GO.lenS rfl rfl ?_; refine GO.lti rfl rfl rfl ?_; refine GO.nil ?_; refine kthen_n ?_)
    refine G.condD rfl (fun hlt => ?_) (fun hge => ?_)
    · have hlt' : k < l.length := by omega
      obtain ⟨b', o, rfl, hrd⟩ := hr (by omega)
      obtain ⟨p, hp⟩ : ∃ p, l[k]? = some p := ⟨l[k], by simp [hlt']⟩
      have r1 : Rd R ⟨b', o + k * 2, none⟩ (i64 p.1) := hrd _ _ (cellsV_get hp).1
      have r2 : Rd R ⟨b', o + k * 2 + 1, none⟩ (i64 p.2) := hrd _ _ (cellsV_get hp).2
      (refine G.skip ?_; refine kthen_n ?_; refine G.seq ?_; refine G.block ?_; refine G.seq ?_)
      refine G.draw 18 (by kernel_rfl) ?_
      ((apply GQ.step; focus (intro Z; refine GO.loadW rfl rfl rfl (Tk.t Tk.h) rfl ?_; exact KQ.z)); (apply GQ.step; focus (intro Z; refine GO.move rfl rfl ?_; exact KQ.z)); (apply GQ.step; focus (intro Z; refine GO.move rfl rfl ?_; exact KQ.z)); (apply GQ.step; focus (intro Z; refine GO.idxS rfl rfl rfl ⟨rfl, by omega⟩ ?_; exact KQ.z)); (apply GQ.step; focus (intro Z; refine GO.fieldAddr rfl rfl ?_; exact KQ.z)); (apply GQ.step; focus (intro Z; refine GO.loadQ rfl rfl rfl (Tk.t (Tk.t Tk.h)) (by assumption) ?_; exact KQ.z)))
      apply GQ.step; focus (intro Z; refine GO.call2 rfl rfl rfl (refIn_spec (n : Int) p.1 (.slice none 0 0) rfl) Tks.n ?_; rintro _ _ ⟨rfl, rfl⟩; exact KQ.z)
      cases h1 : inS n p.1 with
      | false =>
        ((apply GQ.step; focus (intro Z; refine GO.not rfl rfl ?_; exact KQ.z)); (apply GQ.step; focus (intro Z; refine GO.move rfl rfl ?_; exact KQ.z)); (apply GQ.step; focus (intro Z; refine GO.gF rfl rfl rfl rfl ?_; exact KQ.z)); (apply GQ.step; focus (intro Z; refine GO.gF rfl rfl rfl rfl ?_; exact KQ.z)); (apply GQ.step; focus (intro Z; refine GO.gF rfl rfl rfl rfl ?_; exact KQ.z)); (apply GQ.step; focus (intro Z; refine GO.gF rfl rfl rfl rfl ?_; exact KQ.z)); (apply GQ.step; focus (intro Z; refine GO.gF rfl rfl rfl rfl ?_; exact KQ.z)); (apply GQ.step; focus (intro Z; refine GO.gF rfl rfl rfl rfl ?_; exact KQ.z)); (apply GQ.step; focus (intro Z; refine GO.gF rfl rfl rfl rfl ?_; exact KQ.z)); (apply GQ.step; focus (intro Z; refine GO.gF rfl rfl rfl rfl ?_; exact KQ.z)); (apply GQ.step; focus (intro Z; refine GO.pickT rfl rfl rfl ?_; exact KQ.z)); refine GQ.nil ?_)
        (refine GO.nil ?_; refine kthen_n ?_; refine G.condT rfl rfl ?_; refine G.seq ?_; refine G.region ?_; refine GO.build0 rfl ?_; refine GO.storeW rfl rfl Tk.h ⟨rfl, rfl⟩ (by simp [Value.oneCell']) ?_; refine GO.assign rfl rfl ?_; refine GO.nil ?_; refine kthen_n ?_; refine G.ret ?_; refine kblock_r ?_; refine kthen_r ?_; refine kthen_r ?_; refine kblock_r ?_; refine kthen_r ?_)
        refine KF2.r2 rfl (RV.cW (n := 2) rfl rfl (by (exact Tk.h)) rfl) (RV.t rfl) (.inr ⟨fun h => ?_, rfl, rfl⟩) (ImpS.sb ?_)
        · have h3 := h.2.2
          rw [Int.toNat_natCast, inL_not hp (by rw [inM_inS, h1]; rfl)] at h3
          cases h3
        · ((refine Sb.c (Tk.t (Tk.t Tk.h)) ?_); (refine Sb.s ?_; refine Sb.s ?_; exact Sb.r))
      | true =>
        ((apply GQ.step; focus (intro Z; refine GO.not rfl rfl ?_; exact KQ.z)); (apply GQ.step; focus (intro Z; refine GO.move rfl rfl ?_; exact KQ.z)); (apply GQ.step; focus (intro Z; refine GO.gT rfl rfl rfl ?_; refine GO.loadW rfl rfl rfl (Tk.t Tk.h) rfl ?_; exact KQ.z)); (apply GQ.step; focus (intro Z; refine GO.gT rfl rfl rfl ?_; refine GO.move rfl rfl ?_; exact KQ.z)); (apply GQ.step; focus (intro Z; refine GO.gT rfl rfl rfl ?_; refine GO.move rfl rfl ?_; exact KQ.z)); (apply GQ.step; focus (intro Z; refine GO.gT rfl rfl rfl ?_; refine GO.idxS rfl rfl rfl ⟨rfl, by omega⟩ ?_; exact KQ.z)); (apply GQ.step; focus (intro Z; refine GO.gT rfl rfl rfl ?_; refine GO.fieldAddr rfl rfl ?_; exact KQ.z)); (apply GQ.step; focus (intro Z; refine GO.gT rfl rfl rfl ?_; refine GO.loadQ rfl rfl rfl (Tk.t (Tk.t Tk.h)) (by assumption) ?_; exact KQ.z)))
        apply GQ.step; focus (intro Z; refine GO.gT rfl rfl rfl ?_; refine GO.call2 rfl rfl rfl (refIn_spec (n : Int) p.2 (.slice none 0 0) rfl) Tks.n ?_; rintro _ _ ⟨rfl, rfl⟩; exact KQ.z)
        cases h2 : inS n p.2 with
        | false =>
          ((apply GQ.step; focus (intro Z; refine GO.gT rfl rfl rfl ?_; refine GO.not rfl rfl ?_; exact KQ.z)); (apply GQ.step; focus (intro Z; refine GO.pickF rfl rfl rfl ?_; exact KQ.z)); refine GQ.nil ?_)
          (refine GO.nil ?_; refine kthen_n ?_; refine G.condT rfl rfl ?_; refine G.seq ?_; refine G.region ?_; refine GO.build0 rfl ?_; refine GO.storeW rfl rfl Tk.h ⟨rfl, rfl⟩ (by simp [Value.oneCell']) ?_; refine GO.assign rfl rfl ?_; refine GO.nil ?_; refine kthen_n ?_; refine G.ret ?_; refine kblock_r ?_; refine kthen_r ?_; refine kthen_r ?_; refine kblock_r ?_; refine kthen_r ?_)
          refine KF2.r2 rfl (RV.cW (n := 2) rfl rfl (by (exact Tk.h)) rfl) (RV.t rfl) (.inr ⟨fun h => ?_, rfl, rfl⟩) (ImpS.sb ?_)
          · have h3 := h.2.2
            rw [Int.toNat_natCast, inL_not hp (by rw [inM_inS, h2]; exact Bool.and_false _)] at h3
            cases h3
          · ((refine Sb.c (Tk.t (Tk.t Tk.h)) ?_); (refine Sb.s ?_; refine Sb.s ?_; exact Sb.r))
        | true =>
          ((apply GQ.step; focus (intro Z; refine GO.gT rfl rfl rfl ?_; refine GO.not rfl rfl ?_; exact KQ.z)); (apply GQ.step; focus (intro Z; refine GO.pickF rfl rfl rfl ?_; exact KQ.z)); refine GQ.nil ?_)
          (refine GO.nil ?_; refine kthen_n ?_; refine G.condF rfl rfl ?_; refine G.skip ?_; refine kblock_n ?_; refine kthen_n ?_; refine G.region ?_; refine GO.move rfl rfl ?_; refine GO.addi rfl rfl rfl (by omega) ?_; refine GO.assign rfl rfl ?_; refine GO.nil ?_; refine kthen_n ?_)
          refine ⟨k + 1, ⟨by omega, inL_succ hp hall (by rw [inM_inS, h1, h2]; rfl)⟩, by omega, ?_, ?_⟩
          · (refine SubE.c rfl rfl ?_; refine SubE.c rfl rfl ?_; refine SubE.c rfl rfl ?_; refine SubE.c rfl rfl ?_; exact SubE.n)
          · ((refine Sb.c Tk.h ?_; refine Sb.c Tk.h ?_; refine Sb.c Tk.h ?_); (exact Sb.r))
    · obtain rfl : k = l.length := by omega
      rw [List.take_length] at hall
      (refine G.exit ?_; refine kthen_x ?_; refine kthen_x ?_; refine kblock_x ?_; refine kthen_n ?_; refine G.seq ?_; refine G.region ?_; refine GO.move rfl rfl ?_)
      refine GO.call1 rfl rfl (sorted_spec _ l (Nat.le_refl _) R (.slice a l.length cap) hv2 hb) (Tks.c (Tk.t (Tk.t Tk.h)) Tks.n) ?_
      rintro v2 _ rfl
      refine GO.ownOne Tk.h fun hone => ?_
      (refine GO.fieldAddr rfl rfl ?_; refine GO.store1 rfl rfl (by assumption) (Tk.t (Tk.t (Tk.t Tk.h))) (by simp) ?_; refine GO.nil ?_; refine kthen_n ?_; refine G.seq ?_; refine G.region ?_; refine GO.loadW rfl rfl rfl Tk.h rfl ?_; refine GO.storeW rfl rfl (Tk.t (Tk.t (Tk.t Tk.h))) ⟨rfl, rfl⟩ (by simp [Value.oneCell']; assumption) ?_; refine GO.assign rfl rfl ?_; refine GO.nil ?_; refine kthen_n ?_; refine G.ret ?_)
      refine KF2.r2 rfl (RV.cW (n := 2) rfl rfl (by (exact Tk.h)) rfl) (RV.t rfl) (.inl ⟨n, rfl, by omega, by omega, hall, v2, rfl, rfl⟩) (ImpS.sb ?_)
      ((refine Sb.c (Tk.t (Tk.t Tk.h)) ?_; refine Sb.c (Tk.t (Tk.t Tk.h)) ?_); (refine Sb.s ?_; refine Sb.s ?_; exact Sb.r))
end Go.Proofs.YtfoahdfflchidaaDoor
namespace Go.Proofs.YtfoahdfflchidaaDoor
open Go
/-- As xOK, the others in no line. -/
def xOKw (q tm : Nat) (A : Array Oper) (R : List Nat) : Bool := (List.range q).all fun i => match A[i]? with
  | some o => (opTmps o).all (fun t => (List.range q).all fun j => !dstIs A j t || ((bit R i j && Nat.blt j i) && (Nat.testBit tm i || !Nat.testBit tm j))) &&
      (match o.guard with | some (j, _) => Nat.testBit tm i || !Nat.testBit tm j | none => true)
  | none => false
def drawWOK (N q tm : Nat) (A : Array Oper) : Bool := drawOK N q A && xOKw q tm A (cloL A A.size)
/-- Which of the others may come next, when those of D have come. -/
def nexts (R : List Nat) (q tm : Nat) (D : List Nat) : List Nat := (List.range q).filter fun i => Nat.testBit tm i && !D.contains i && (List.range q).all fun j => !bit R i j || !Nat.testBit tm j || D.contains j
def leftN (q tm : Nat) (D : List Nat) : Nat := (List.range q).countP fun j => Nat.testBit tm j && !D.contains j
def GW (P : Program) (c : Cx) (A : Array Oper) (RR : List Nat) (q tm : Nat) (k : Env → List HP → Prop) : Nat → List Nat → Env → List HP → List HP → Prop
  | 0, _, L, M, R => k L (M ++ R)
  | n + 1, D, L, M, R => ∀ i, i ∈ nexts RR q tm D → ∀ o, A[i]? = some o → GO P c A [o] (fun e L' H' => e = .normal ∧ ∃ v R', L' = ext o.dst v L ∧ ImpS H' (M ++ R') ∧ GW P c A RR q tm k n (i :: D) (ext o.dst v L) M R') L (M ++ R)
section
variable {P : Program} {c : Cx} {A : Array Oper} {os : List Oper} {tm i : Nat} {k : Env → Prop} {kk : Env → List HP → Prop} {K : Kont} {L : Env} {H M R : List HP}
abbrev WK (P : Program) (c : Cx) (A : Array Oper) (RR : List Nat) (q tm : Nat) (k : Env → List HP → Prop) (n : Nat) (D : List Nat) (o : Oper) (L : Env) (M : List HP) : Kont := fun e L' H' => e = .normal ∧ ∃ v R', L' = ext o.dst v L ∧ ImpS H' (M ++ R') ∧ GW P c A RR q tm k n D (ext o.dst v L) M R'
theorem GW.nil {RR : List Nat} {q : Nat} {D : List Nat} (h : kk L (M ++ R)) : GW P c A RR q tm kk 0 D L M R := h
theorem GW.one {RR : List Nat} {q n : Nat} {D : List Nat} {i : Nat} {o : Oper} (h : nexts RR q tm D = [i]) (ho : A[i]? = some o) (g : GO P c A [o] (WK P c A RR q tm kk n (i :: D) o L M) L (M ++ R)) : GW P c A RR q tm kk (n + 1) D L M R := by
  unfold GW
  intro j hj o' ho'
  rw [h] at hj
  obtain rfl := List.mem_singleton.1 hj
  rw [ho] at ho'
  obtain rfl := Option.some.inj ho'
  exact g
theorem GW.two {RR : List Nat} {q n : Nat} {D : List Nat} {i1 i2 : Nat} {o1 o2 : Oper} (h : nexts RR q tm D = [i1, i2]) (h1 : A[i1]? = some o1) (h2 : A[i2]? = some o2) (g1 : GO P c A [o1] (WK P c A RR q tm kk n (i1 :: D) o1 L M) L (M ++ R)) (g2 : GO P c A [o2] (WK P c A RR q tm kk n (i2 :: D) o2 L M) L (M ++ R)) : GW P c A RR q tm kk (n + 1) D L M R := by
  unfold GW
  intro j hj o' ho'
  rw [h] at hj
  rcases List.mem_cons.1 hj with rfl | hj
  · rw [h1] at ho'
    obtain rfl := Option.some.inj ho'
    exact g1
  · obtain rfl := List.mem_singleton.1 hj
    rw [h2] at ho'
    obtain rfl := Option.some.inj ho'
    exact g2
theorem GW.three {RR : List Nat} {q n : Nat} {D : List Nat} {i1 i2 i3 : Nat} {o1 o2 o3 : Oper} (h : nexts RR q tm D = [i1, i2, i3]) (h1 : A[i1]? = some o1) (h2 : A[i2]? = some o2) (h3 : A[i3]? = some o3) (g1 : GO P c A [o1] (WK P c A RR q tm kk n (i1 :: D) o1 L M) L (M ++ R)) (g2 : GO P c A [o2] (WK P c A RR q tm kk n (i2 :: D) o2 L M) L (M ++ R)) (g3 : GO P c A [o3] (WK P c A RR q tm kk n (i3 :: D) o3 L M) L (M ++ R)) : GW P c A RR q tm kk (n + 1) D L M R := by
  unfold GW
  intro j hj o' ho'
  rw [h] at hj
  rcases List.mem_cons.1 hj with rfl | hj
  · rw [h1] at ho'
    obtain rfl := Option.some.inj ho'
    exact g1
  · rcases List.mem_cons.1 hj with rfl | hj
    · rw [h2] at ho'
      obtain rfl := Option.some.inj ho'
      exact g2
    · obtain rfl := List.mem_singleton.1 hj
      rw [h3] at ho'
      obtain rfl := Option.some.inj ho'
      exact g3
theorem drawW_run {q : Nat} {m : Region.Mode} {V : Nat → Value} {RR : List Nat} {kk : Env → List HP → Prop} (ok : chk c.N q A RR = true) (xok : xOKw q tm A RR = true) (tp : topo m A (order m A) 0 = true)
    (hV : ∀ i, i < q → Nat.testBit tm i = false → ∀ o, A[i]? = some o → ∀ Z, GO P c A [o] (KQ (ext o.dst (V i) (LatQ A tm V L i)) (M ++ Z)) (LatQ A tm V L i) (M ++ Z))
    (hkk : ∀ L' H', kk L' H' → GO P c A (A.toList.drop q) K L' H') : ∀ (n t : Nat) (B : Array Bool) (a : Act) (w : World) (nT : Nat) (D : List Nat) (Lv : Env) (R : List HP),
    B.size = A.size → Closed A RR B → (List.range A.size).countP (fun i => !B.getD i true) = n → (∀ i, q ≤ i → i < A.size → B.getD i true = false) →
    a.tmps.size = c.N → Same c.w0 w → (∃ ds : List Nat, a.defers = ds.map mark ∧ (c.r.isSome = true → ds = []) ∧ sat ((M ++ R) ++ (c.X ++ ds.map dblk)) w) →
    leftN q tm D = nT → (∀ j, j < q → Nat.testBit tm j = true → (B.getD j true = true ↔ j ∈ D)) → GW P c A RR q tm kk nT D Lv M R →
    (∀ j d, j < q → Nat.testBit tm j = false → dstAt A j d → look Lv d = some (V j)) → (∀ s, (∀ j, j < q → ¬ dstAt A j s) → look Lv s = look L s) →
    (∀ s v, look Lv s = some v → s < c.N) → (∀ s v, look Lv s = some v → (∀ j, j < q → Nat.testBit tm j = false → B.getD j true = false → ¬ dstAt A j s) → a.tmps[s]? = some v) →
    wpOpsIn (fen c.r) 0 P A (Post c K) (lin m A n t B) a w := by
  have hok := ok
  unfold chk at hok
  simp only [Bool.and_eq_true, List.all_eq_true, List.mem_range] at hok
  obtain ⟨hqb, hok⟩ := hok
  have hq : q ≤ A.size := by simpa using hqb
  have hop : ∀ i (hi : i < A.size), opOK c.N q A RR i A[i] = true := fun i hi => by have := hok i hi; simpa [hi] using this
  have hqop : ∀ i (hi : i < A.size), i < q → qkind A[i].op = true ∧ (∀ d, A[i].dst = some d → d < c.N ∧ ∀ j, j < q → j ≠ i → ¬ dstAt A j d) ∧
      (∀ t, .tmp t ∈ A[i].op.operands.toList → ∀ j, j < q → dstAt A j t → bit RR i j = true ∧ j < i) ∧ (∀ j b, A[i].guard = some (j, b) → j < q ∧ bit RR i j = true ∧ j < i) := by
    intro i hi hiq
    have h := hop i hi
    unfold opOK at h
    have hb : Nat.blt i q = true := by simpa using hiq
    simp only [hb, cond_true, Bool.and_eq_true] at h
    obtain ⟨_, ⟨⟨h1, h2⟩, h3⟩, h4⟩ := h
    refine ⟨h1, ?_, ?_, ?_⟩
    · intro d hd
      rw [hd] at h2
      simp only [Bool.and_eq_true, List.all_eq_true, List.mem_range] at h2
      refine ⟨by simpa using h2.1, fun j hj hne hdj => ?_⟩
      have := h2.2 j hj
      rw [dstIs_of hdj, nbeq hne] at this
      simp at this
    · intro t ht j hj hdj
      have hx := xok
      unfold xOKw at hx
      simp only [List.all_eq_true, List.mem_range] at hx
      have hx := hx i hiq
      simp only [hi, getElem?_pos, Bool.and_eq_true, List.all_eq_true, List.mem_range] at hx
      have := hx.1 t (by unfold opTmps; rw [List.mem_filterMap]; exact ⟨.tmp t, ht, rfl⟩) j hj
      rw [dstIs_of hdj] at this
      simp only [Bool.not_true, Bool.false_or, Bool.and_eq_true] at this
      exact ⟨this.1.1, by simpa using this.1.2⟩
    · intro j b hg
      rw [hg] at h4
      simp only [Bool.and_eq_true] at h4
      exact ⟨by simpa using h4.1.1, h4.1.2, by simpa using h4.2⟩
  have xop : ∀ i (hi : i < A.size), i < q → (∀ t, .tmp t ∈ A[i].op.operands.toList → ∀ j, j < q → dstAt A j t → Nat.testBit tm i = true ∨ Nat.testBit tm j = false) ∧
      (∀ j b, A[i].guard = some (j, b) → Nat.testBit tm i = true ∨ Nat.testBit tm j = false) := by
    intro i hi hiq
    have h := xok
    unfold xOKw at h
    simp only [List.all_eq_true, List.mem_range] at h
    have h := h i hiq
    simp only [hi, getElem?_pos, Bool.and_eq_true, List.all_eq_true, List.mem_range] at h
    obtain ⟨h1, h2⟩ := h
    refine ⟨?_, ?_⟩
    · intro t ht j hj hd
      have := h1 t (by unfold opTmps; rw [List.mem_filterMap]; exact ⟨.tmp t, ht, rfl⟩) j hj
      rw [dstIs_of hd] at this
      simp only [Bool.not_true, Bool.false_or, Bool.and_eq_true] at this
      simpa using this.2
    · intro j b hg
      rw [hg] at h2
      simpa using h2
  have ssa : ∀ i j s, i < q → j < q → dstAt A i s → dstAt A j s → i = j := by
    intro i j s hi hj h1 h2
    by_cases hij : i = j
    · exact hij
    · exfalso
      obtain ⟨o, ho, hd⟩ := h1
      have hi' : i < A.size := by omega
      simp [hi'] at ho
      have := (hqop i hi' hi).2.1 s (by rw [ho]; exact hd)
      exact this.2 j hj (Ne.symm hij) h2
  have hlenq : (A.toList.take q).length = q := by simp; omega
  -- when all of the first q are done
  have done : ∀ (B : Array Bool) (a : Act) (w : World) (nT : Nat) (D : List Nat) (Lv : Env) (R : List HP), (∀ i, i < q → B.getD i true = true) → a.tmps.size = c.N → Same c.w0 w → (∃ ds : List Nat, a.defers = ds.map mark ∧ (c.r.isSome = true → ds = []) ∧ sat ((M ++ R) ++ (c.X ++ ds.map dblk)) w) →
      leftN q tm D = nT → (∀ j, j < q → Nat.testBit tm j = true → (B.getD j true = true ↔ j ∈ D)) → GW P c A RR q tm kk nT D Lv M R → (∀ s v, look Lv s = some v → (∀ j, j < q → Nat.testBit tm j = false → B.getD j true = false → ¬ dstAt A j s) → a.tmps[s]? = some v) →
      opsWp (fen c.r) P A (Post c K) (A.toList.drop q) a w := by
    intro B a w nT D Lv R hall hN hsame hmem hp hT hgt hI
    have h0 : nT = 0 := by
      rw [← hp]
      unfold leftN
      rw [List.countP_eq_zero]
      intro j hj
      cases hb : Nat.testBit tm j with
      | false => simp
      | true =>
        have := (hT j (List.mem_range.1 hj) hb).1 (hall j (List.mem_range.1 hj))
        simp [this]
    subst h0
    have h2 : kk Lv (M ++ R) := hgt
    refine hkk _ _ h2 a w ⟨⟨hN, fun s v hs => hI s v hs fun j hj _ hb => ?_⟩, hsame, hmem⟩
    rw [hall j hj] at hb; cases hb
  intro n
  induction n with
  | zero =>
    intro t B a w nT D Lv R hBs cl hcnt htail hN hsame hmem hp hT hgt hI1 hI2 hI3 hI4
    have hall : ∀ i, i < A.size → B.getD i true = true := by
      intro i hi
      rw [List.countP_eq_zero] at hcnt
      simpa using hcnt i (by simpa using hi)
    have hqs : q = A.size := by
      by_cases h : q < A.size
      · have h1 := hall q h; have h2 := htail q (by omega) h; rw [h1] at h2; cases h2
      · omega
    have hd := done B a w nT D Lv R (fun i hi => hall i (by omega)) hN hsame hmem hp hT hgt hI4
    have hdrop : A.toList.drop q = [] := by rw [hqs]; simp
    rw [hdrop] at hd
    simp only [lin]
    exact hd
  | succ n ih =>
    intro t B a w nT D Lv R hBs cl hcnt htail hN hsame hmem hp hT hgt hI1 hI2 hI3 hI4
    by_cases hquiet : ∀ i, i < q → B.getD i true = true
    · -- the tail
      have hB : ∀ i, i < A.size → B.getD i true = decide (i < q) := by
        intro i hi
        by_cases h : i < q
        · simp [h, hquiet i h]
        · simp [h, htail i (by omega) hi]
      have hcn : n + 1 = A.size - q := by
        rw [← hcnt, ← countP_ge q A.size hq]
        apply List.countP_congr
        intro x hx
        rw [hB x (by simpa using hx)]
      rw [lin_tail ok (n + 1) q t B (by omega) (Nat.le_refl q) hBs cl hB]
      refine wpOps_of_list (fen_fn c.r) _ (A.toList.drop q) a w ?_ (done B a w nT D Lv R hquiet hN hsame hmem hp hT hgt hI4)
      apply List.ext_getElem?
      intro i
      simp only [List.getElem?_map, List.getElem?_range', List.getElem?_drop]
      by_cases h : i < n + 1
      · have h' : q + i < A.size := by omega
        simp [h, h']
      · have h' : ¬ q + i < A.size := by omega
        have e1 : A.toList[q + i]? = none := by rw [List.getElem?_eq_none]; simpa using h'
        simp [h, e1]
    · -- one of the others
      have hex : ∃ i, i < A.size ∧ B.getD i true = false := by
        apply Classical.byContradiction
        intro h
        apply hquiet
        intro i hi
        cases e : B.getD i true with
        | true => rfl
        | false => exact absurd ⟨i, by omega, e⟩ h
      obtain ⟨i0, hi0, hc0⟩ := topo_cand hBs _ 0 tp (fun i h => by simp at h) hex
      have hne : 0 < ((List.range A.size).filter (cand m A B)).length := by
        apply List.length_pos_of_mem (a := i0)
        rw [List.mem_filter]; exact ⟨by simpa using hi0, hc0⟩
      have hlt := Nat.mod_lt t hne
      have hget := List.getElem?_eq_getElem hlt
      generalize hidef : ((List.range A.size).filter (cand m A B))[t % ((List.range A.size).filter (cand m A B)).length] = i at hget
      have himem : i ∈ (List.range A.size).filter (cand m A B) := by rw [← hidef]; exact List.getElem_mem hlt
      rw [List.mem_filter] at himem
      obtain ⟨hir, hci⟩ := himem
      have hi : i < A.size := by simpa using hir
      have hBi : B.getD i true = false := cand_not hci
      have hiA : A[i]? = some A[i] := by simp [hi]
      have pred : ∀ j, bit RR i j = true → B.getD j true = true := by
        intro j hj
        have h2 := cand_pred hci hiA (hop i hi) cl hBs hj
        rw [Array.getD_eq_getD_getElem?] at h2 ⊢
        cases hb : B[j]? with
        | none => simp
        | some b => simp [hb] at h2 ⊢; exact h2
      have hiq : i < q := by
        apply Classical.byContradiction
        intro hnq
        apply hquiet
        intro j hj
        have h := hop i hi
        unfold opOK at h
        have hb : Nat.blt i q = false := by
          cases e : Nat.blt i q with
          | false => rfl
          | true => have : i < q := by simpa using e
                    omega
        simp only [hb, cond_false, Bool.and_eq_true, List.all_eq_true, List.mem_range] at h
        exact pred j (h.2.1 j (by omega))
      obtain ⟨hqk, hdst, hops, hgd⟩ := hqop i hi hiq
      obtain ⟨xops, xgd⟩ := xop i hi hiq
      obtain ⟨ds, hdef, hdr, hsat⟩ := hmem
      have hlin : lin m A (n + 1) t B = i :: lin m A n (t / ((List.range A.size).filter (cand m A B)).length) (B.setIfInBounds i true) := by
        simp only [lin, hget]
      have hgd2 : ∀ j, (B.setIfInBounds i true).getD j true = if j = i then true else B.getD j true := by
        intro j
        rw [Array.getD_eq_getD_getElem?, Array.getD_eq_getD_getElem?]
        by_cases h : i = j
        · subst h
          have : i < B.size := by omega
          simp [this]
        · rw [Array.getElem?_setIfInBounds_ne h]; simp [Ne.symm h]
      have hcl2 : Closed A RR (B.setIfInBounds i true) := by
        intro i' j hi' hb hj
        rw [hgd2] at hb
        have h1 : B.getD j false = true := by
          by_cases h : i' = i
          · subst h; exact cand_pred hci hiA (hop i' hi) cl hBs hj
          · rw [if_neg h] at hb; exact cl i' j hi' hb hj
        rw [Array.getD_eq_getD_getElem?] at h1 ⊢
        by_cases h : i = j
        · subst h
          have : i < B.size := by omega
          simp [this]
        · rw [Array.getElem?_setIfInBounds_ne h]; exact h1
      have hcnt2 : (List.range A.size).countP (fun j => !(B.setIfInBounds i true).getD j true) = n := by
        have := countP_upd (f := fun j => !B.getD j true) (g := fun j => !(B.setIfInBounds i true).getD j true) (i := i) (by simp [hBi]) (by simp [hgd2]) (fun j hj => by simp [hgd2, hj]) (List.range A.size) List.nodup_range (by simpa using hi)
        omega
      have htail2 : ∀ j, q ≤ j → j < A.size → (B.setIfInBounds i true).getD j true = false := by
        intro j hj hja
        rw [hgd2, if_neg (by omega)]; exact htail j hj hja
      -- a slot that the operation looks at holds what it will hold: no waiting quiet one writes it
      have hsee : ∀ s, (.tmp s ∈ A[i].op.operands.toList ∨ ∃ j b, A[i].guard = some (j, b) ∧ dstAt A j s) → ∀ j, j < q → Nat.testBit tm j = false → B.getD j true = false → ¬ dstAt A j s := by
        intro s hs j hj _ hb hd
        have hE : bit RR i j = true := by
          rcases hs with hs | ⟨j', b, hg, hd'⟩
          · exact (hops s hs j hj hd).1
          · obtain ⟨hj', hE⟩ := hgd j' b hg
            have : j' = j := ssa j' j s hj' hj hd' hd
            subst this; exact hE.1
        rw [pred j hE] at hb; cases hb
      rw [hlin]
      cases hti : Nat.testBit tm i with
      | false =>
        -- a quiet one
        obtain ⟨l1, l2⟩ := look_LatQ (V := V) (L := L) (tm := tm) hq ssa i (by omega)
        let a2 : Act := { tmps := Array.ofFn (n := c.N) fun s => (look (LatQ A tm V L i) s.1).getD (a.tmps.getD s.1 undef), defers := a.defers }
        have ha2 : ∀ s, s < c.N → a2.tmps[s]? = some ((look (LatQ A tm V L i) s).getD (a.tmps.getD s undef)) := by
          intro s hs; simp [a2, Array.getElem?_ofFn, hs]
        have hLv : ∀ s v, look (LatQ A tm V L i) s = some v → (∃ j, j < i ∧ Nat.testBit tm j = false ∧ dstAt A j s ∧ v = V j) ∨ ((∀ j, j < i → Nat.testBit tm j = false → ¬ dstAt A j s) ∧ look L s = some v) := by
          intro s v hs
          by_cases h : ∃ j, j < i ∧ Nat.testBit tm j = false ∧ dstAt A j s
          · obtain ⟨j, hj, hjb, hd⟩ := h
            rw [l1 j s hj hjb hd] at hs
            exact .inl ⟨j, hj, hjb, hd, by simpa using hs.symm⟩
          · have hn : ∀ j, j < i → Nat.testBit tm j = false → ¬ dstAt A j s := fun j hj hjb hd => h ⟨j, hj, hjb, hd⟩
            rw [l2 s hn] at hs
            exact .inr ⟨hn, hs⟩
        have hdN : ∀ j s, j < q → dstAt A j s → s < c.N := by
          intro j s hj hd
          obtain ⟨o, ho1, ho2⟩ := hd
          have hj' : j < A.size := by omega
          simp [hj'] at ho1
          exact ((hqop j hj' hj).2.1 s (by rw [ho1]; exact ho2)).1
        have hLN : ∀ s v, look (LatQ A tm V L i) s = some v → s < c.N := by
          intro s v hs
          rcases hLv s v hs with ⟨j, hj, _, hd, _⟩ | ⟨_, hl⟩
          · exact hdN j s (by omega) hd
          · by_cases h' : ∃ j, j < q ∧ dstAt A j s
            · obtain ⟨j, hj, hd⟩ := h'; exact hdN j s hj hd
            · exact hI3 s v (by rw [hI2 s fun j hj hd => h' ⟨j, hj, hd⟩]; exact hl)
        have hst2 : St c (LatQ A tm V L i) (M ++ R) a2 w := ⟨⟨by simp [a2], fun s v hs => by rw [ha2 s (hLN s v hs), hs]; rfl⟩, hsame, ds, hdef, hdr, hsat⟩
        have hone := hV i hiq hti A[i] hiA R a2 w hst2
        have hone1 := oneOp_of (F := fen c.r) (P := P) (A := A) (o := A[i]) (a := a2) (w := w) (fun e a w h => by obtain ⟨_, _, _, h, _⟩ := h; exact h) hone
        have hslot : ∀ s, (.tmp s ∈ A[i].op.operands.toList ∨ ∃ j b, A[i].guard = some (j, b) ∧ dstAt A j s) → a.tmps[s]? = a2.tmps[s]? := by
          intro s hs
          by_cases hsN : s < c.N
          · rw [ha2 s hsN]
            cases hl : look (LatQ A tm V L i) s with
            | none =>
              simp only [Option.getD_none]
              rw [Array.getD_eq_getD_getElem?]
              have hh : s < a.tmps.size := by omega
              simp [hh]
            | some v =>
              rw [Option.getD_some]
              refine hI4 s v ?_ (hsee s hs)
              rcases hLv s v hl with ⟨j, hj, hjb, hd, rfl⟩ | ⟨hn, hl'⟩
              · exact hI1 j s (by omega) hjb hd
              · rw [hI2 s]
                · exact hl'
                · intro j hj hd
                  rcases hs with hs | ⟨j', b, hg, hd'⟩
                  · obtain ⟨_, hji⟩ := hops s hs j hj hd
                    rcases xops s hs j hj hd with h | h
                    · rw [hti] at h; cases h
                    · exact hn j hji h hd
                  · obtain ⟨hj', _, hji⟩ := hgd j' b hg
                    have : j' = j := ssa j' j s hj' hj hd' hd
                    subst this
                    rcases xgd j' b hg with h | h
                    · rw [hti] at h; cases h
                    · exact hn j' hji h hd
          · have h1 : a.tmps[s]? = none := by rw [Array.getElem?_eq_none]; omega
            have h2 : a2.tmps[s]? = none := by rw [Array.getElem?_eq_none]; simp [a2]; omega
            rw [h1, h2]
        have hone2 := oneOp_see (A := A) hqk (fun s hs => hslot s (.inl hs)) (fun j b hg s hd => hslot s (.inr ⟨j, b, hg, hd⟩)) hone1
        refine oneOp_run (fen_fn c.r) hiA (oneOp_mono hone2 ?_)
        rintro Dd v w' ⟨L', H', ⟨hat, hs', ds', hdef', hdr', hsat'⟩, _, rfl, hsb⟩
        have hv : ∀ d, A[i].dst = some d → v = V i := by
          intro d hd
          have h1 := hat.2 d (V i) (by rw [hd]; simp [ext, look])
          rw [hd, putD_self (by simp [a2]; exact (hdst d hd).1)] at h1
          simpa using h1
        refine ih _ _ _ w' nT D Lv R (by simpa using hBs) hcl2 hcnt2 htail2 ?_ hs' ?_ hp ?_ hgt hI1 hI2 hI3 ?_
        · cases hd : A[i].dst <;> simp only [Act.putD, Act.put, Array.size_setIfInBounds, hN]
        · refine ⟨ds', ?_, hdr', (Sb.app hsb).sat hsat'⟩
          have : (Act.putD a2 Dd A[i].dst v).defers = Dd ++ a.defers := by cases A[i].dst <;> rfl
          rw [this] at hdef'
          cases A[i].dst <;> exact hdef'
        · intro j hj hjt
          rw [hgd2, if_neg (by intro e; subst e; rw [hti] at hjt; cases hjt)]
          exact hT j hj hjt
        · intro s u hs hnone
          by_cases hd : A[i].dst = some s
          · rw [hd, hv s hd]
            rw [hI1 i s hiq hti ⟨A[i], hiA, hd⟩] at hs
            simp only [Option.some.injEq] at hs
            rw [← hs]
            exact putD_self (Nat.lt_of_lt_of_eq (hdst s hd).1 hN.symm)
          · rw [putD_ne (fun d' hd' e => hd (by rw [hd', e]))]
            refine hI4 s u hs fun j hj hjt hb hdj => ?_
            by_cases hji : j = i
            · subst hji
              obtain ⟨o, ho1, ho2⟩ := hdj
              rw [hiA] at ho1
              simp only [Option.some.injEq] at ho1
              exact hd (by rw [ho1]; exact ho2)
            · exact hnone j hj hjt (by rw [hgd2, if_neg hji]; exact hb) hdj
      | true =>
        -- the thread's next
        have hiD : i ∉ D := fun h => by
          have := (hT i hiq hti).2 h
          rw [hBi] at this; cases this
        have hnx : i ∈ nexts RR q tm D := by
          unfold nexts
          refine List.mem_filter.2 ⟨List.mem_range.2 hiq, ?_⟩
          rw [hti, Bool.true_and, Bool.and_eq_true]
          refine ⟨by simpa using hiD, List.all_eq_true.2 fun j hj => ?_⟩
          have hjq := List.mem_range.1 hj
          cases hb1 : bit RR i j with
          | false => rfl
          | true =>
            cases hb2 : Nat.testBit tm j with
            | false => rfl
            | true =>
              have := (hT j hjq hb2).1 (pred j hb1)
              simp [this]
        have hlft : leftN q tm D = leftN q tm (i :: D) + 1 := by
          unfold leftN
          have := countP_upd (f := fun j => Nat.testBit tm j && !D.contains j) (g := fun j => Nat.testBit tm j && !(i :: D).contains j) (i := i) (by simp [hti, hiD]) (by simp) (fun j hj => by simp [hj]) (List.range q) List.nodup_range (by simpa using hiq)
          omega
        obtain ⟨nT', rfl⟩ : ∃ m, nT = m + 1 := ⟨_, hp.symm.trans hlft⟩
        have hgt2 := hgt
        unfold GW at hgt2
        have hgt2 := hgt2 i hnx A[i] hiA
        let a2 : Act := { tmps := Array.ofFn (n := c.N) fun s => (look Lv s.1).getD (a.tmps.getD s.1 undef), defers := a.defers }
        have ha2 : ∀ s, s < c.N → a2.tmps[s]? = some ((look Lv s).getD (a.tmps.getD s undef)) := by
          intro s hs; simp [a2, Array.getElem?_ofFn, hs]
        have hst2 : St c Lv (M ++ R) a2 w := ⟨⟨by simp [a2], fun s v hs => by rw [ha2 s (hI3 s v hs), hs]; rfl⟩, hsame, ds, hdef, hdr, hsat⟩
        have hone := hgt2 a2 w hst2
        have hone1 := oneOp_of (F := fen c.r) (P := P) (A := A) (o := A[i]) (a := a2) (w := w) (fun e a w h => by obtain ⟨_, _, _, h, _⟩ := h; exact h) hone
        have hslot : ∀ s, (.tmp s ∈ A[i].op.operands.toList ∨ ∃ j b, A[i].guard = some (j, b) ∧ dstAt A j s) → a.tmps[s]? = a2.tmps[s]? := by
          intro s hs
          by_cases hsN : s < c.N
          · rw [ha2 s hsN]
            cases hl : look Lv s with
            | none =>
              simp only [Option.getD_none]
              rw [Array.getD_eq_getD_getElem?]
              have hh : s < a.tmps.size := by omega
              simp [hh]
            | some v =>
              rw [Option.getD_some]
              exact hI4 s v hl (hsee s hs)
          · have h1 : a.tmps[s]? = none := by rw [Array.getElem?_eq_none]; omega
            have h2 : a2.tmps[s]? = none := by rw [Array.getElem?_eq_none]; simp [a2]; omega
            rw [h1, h2]
        have hone2 := oneOp_see (A := A) hqk (fun s hs => hslot s (.inl hs)) (fun j b hg s hd => hslot s (.inr ⟨j, b, hg, hd⟩)) hone1
        refine oneOp_run (fen_fn c.r) hiA (oneOp_mono hone2 ?_)
        rintro Dd v w' ⟨L', H', ⟨hat, hs', ds', hdef', hdr', hsat'⟩, _, v', R', rfl, hsb, hgt3⟩
        have hv : ∀ d, A[i].dst = some d → v = v' := by
          intro d hd
          have h1 := hat.2 d v' (by rw [hd]; simp [ext, look])
          rw [hd, putD_self (by simp [a2]; exact (hdst d hd).1)] at h1
          simpa using h1
        have hnd : ∀ s, A[i].dst = some s → ∀ j, j < q → j ≠ i → ¬ dstAt A j s := fun s hs j hj hji => (hdst s hs).2 j hj hji
        refine ih _ _ _ w' nT' (i :: D) (ext A[i].dst v' Lv) R' (by simpa using hBs) hcl2 hcnt2 htail2 ?_ hs' ?_ (by omega) ?_ hgt3 ?_ ?_ ?_ ?_
        · cases hd : A[i].dst <;> simp only [Act.putD, Act.put, Array.size_setIfInBounds, hN]
        · refine ⟨ds', ?_, hdr', hsb _ _ hsat'⟩
          have : (Act.putD a2 Dd A[i].dst v).defers = Dd ++ a.defers := by cases A[i].dst <;> rfl
          rw [this] at hdef'
          cases A[i].dst <;> exact hdef'
        · intro j hj hjt
          rw [hgd2]
          by_cases hji : j = i
          · subst hji; simp
          · rw [if_neg hji, hT j hj hjt]
            simp [hji]
        · intro j d hj hjt hd
          rw [look_ext, if_neg (fun e => hnd d e j hj (by intro e'; subst e'; rw [hti] at hjt; cases hjt) hd)]
          exact hI1 j d hj hjt hd
        · intro s hs
          rw [look_ext, if_neg (fun e => hs i hiq ⟨A[i], hiA, e⟩)]
          exact hI2 s hs
        · intro s u hs
          rw [look_ext] at hs
          by_cases hd : A[i].dst = some s
          · exact (hdst s hd).1
          · rw [if_neg hd] at hs; exact hI3 s u hs
        · intro s u hs hnone
          rw [look_ext] at hs
          by_cases hd : A[i].dst = some s
          · rw [if_pos hd] at hs
            simp only [Option.some.injEq] at hs
            rw [hd, hv s hd, hs]
            exact putD_self (Nat.lt_of_lt_of_eq (hdst s hd).1 hN.symm)
          · rw [if_neg hd] at hs
            rw [putD_ne (fun d' hd' e => hd (by rw [hd', e]))]
            refine hI4 s u hs fun j hj hjt hb hdj => ?_
            have hji : j ≠ i := by intro e; subst e; rw [hti] at hjt; cases hjt
            exact hnone j hj hjt (by rw [hgd2, if_neg hji]; exact hb) hdj
/-- A region that draws its order: quiet operations in whatever order, among them others (the bits of tm) in whatever order the region allows, then the rest, whose order is forced. -/
theorem G.drawW {id : Nat} (q tm n : Nat) (M R : List HP) (kk : Env → List HP → Prop) (ok : drawWOK c.N q tm A = true) (hn : leftN q tm [] = n) (hL : ∀ s v, look L s = some v → s < c.N) (tk : ImpS H (M ++ R))
    (h : GR P c A tm 0 (A.toList.take q) (fun L' => GW P c A (cloL A A.size) q tm kk n [] L' M R) L M) (hkk : ∀ L' H', kk L' H' → GO P c A (A.toList.drop q) K L' H') : G P c (.region id A true) K L H := by
  intro a w hs
  refine wpIn_region_draw fun t => ?_
  unfold drawWOK drawOK at ok
  simp only [Bool.and_eq_true] at ok
  obtain ⟨⟨ok1, ok2, ok3, ok4⟩, xok⟩ := ok
  have hq : q ≤ A.size := by
    unfold chk at ok1
    simp only [Bool.and_eq_true] at ok1
    simpa using ok1.1
  have hlen : (A.toList.take q).length = q := by simp; omega
  have hAt : ∀ j o, (A.toList.take q)[j]? = some o → A[0 + j]? = some o := fun j o hj => by
    have := (List.getElem?_eq_some_iff.1 hj).1
    rw [hlen] at this
    rw [List.getElem?_take_of_lt this] at hj
    simpa using hj
  obtain ⟨V, _, hV, hk⟩ := GR.get (A.toList.take q) 0 (fun _ => undef) hAt (by simpa [LatQ] using h)
  rw [hlen, Nat.zero_add] at hV hk
  have hok := ok1
  unfold chk at hok
  simp only [Bool.and_eq_true, List.all_eq_true, List.mem_range] at hok
  have hdd : ∀ i d, i < q → dstAt A i d → d < c.N ∧ ∀ j, j < q → j ≠ i → ¬ dstAt A j d := by
    intro i d hi hd
    have hi' : i < A.size := by omega
    have h := hok.2 i hi'
    simp only [hi', getElem?_pos] at h
    obtain ⟨o, ho1, ho2⟩ := hd
    simp [hi'] at ho1
    rw [ho1] at h
    unfold opOK at h
    have hb : Nat.blt i q = true := by simpa using hi
    simp only [hb, cond_true, Bool.and_eq_true] at h
    obtain ⟨_, ⟨⟨_, h2⟩, _⟩, _⟩ := h
    rw [ho2] at h2
    simp only [Bool.and_eq_true, List.all_eq_true, List.mem_range] at h2
    refine ⟨by simpa using h2.1, fun j hj hne hdj => ?_⟩
    have := h2.2 j hj
    rw [dstIs_of hdj, nbeq hne] at this
    simp at this
  have ssa : ∀ i j s, i < q → j < q → dstAt A i s → dstAt A j s → i = j := by
    intro i j s hi hj h1 h2
    by_cases hij : i = j
    · exact hij
    · exact absurd h2 ((hdd i s hi h1).2 j hj (Ne.symm hij))
  obtain ⟨l1, l2⟩ := look_LatQ (V := V) (L := L) (tm := tm) hq ssa q (Nat.le_refl q)
  have run : ∀ m t, topo m A (order m A) 0 = true → wpOpsIn (fen c.r) 0 P A (Post c K) (Region.linearise m A t) a { w with drawn := w.drawn + 1 } := by
    intro m t tp
    unfold Region.linearise
    rw [lin_eq]
    simp only [List.reverse_nil, List.nil_append]
    obtain ⟨h1, h2, ds, h3, h4, h5⟩ := hs
    have hrep : ∀ i, i < A.size → (Array.replicate A.size false).getD i true = false := by
      intro i hi; rw [Array.getD_eq_getD_getElem?]; simp [hi]
    refine drawW_run (RR := cloL A A.size) ok1 xok tp (fun i hi hb o ho Z => hV i (Nat.zero_le _) hi hb o ho Z) hkk _ _ _ a _ n [] (LatQ A tm V L q) R (by simp) (fun i j hi hb => by rw [hrep i hi] at hb; cases hb) ?_ (fun i _ hi => hrep i hi) h1.1 (h2.trans (Same.drawn _ (Nat.le_add_right _ _))) ⟨ds, h3, h4, ?_⟩ hn ?_ hk (fun j d hj hb hd => l1 j d hj hb hd) (fun s hs => l2 s fun j hj _ => hs j hj) ?_ ?_
    · rw [List.countP_eq_length.2]
      · simp
      · intro i hi; rw [hrep i (by simpa using hi)]; rfl
    · exact sat_heap (tk _ _ h5) rfl
    · intro j hj _
      rw [hrep j (by omega)]
      simp
    · intro s v hs
      by_cases h : ∃ j, j < q ∧ dstAt A j s
      · obtain ⟨j, hj, hd⟩ := h; exact (hdd j s hj hd).1
      · rw [l2 s fun j hj _ hd => h ⟨j, hj, hd⟩] at hs
        exact hL s v hs
    · intro s v hs hno
      have hn : ∀ j, j < q → Nat.testBit tm j = false → ¬ dstAt A j s := fun j hj hb => hno j hj hb (hrep j (by omega))
      rw [l2 s hn] at hs
      exact h1.2 s v hs
  unfold Region.schedule
  split
  · exact run _ _ ok2
  · split
    · exact run _ _ ok3
    · exact run _ _ ok4
end
end Go.Proofs.YtfoahdfflchidaaDoor
namespace Go.Proofs.YtfoahdfflchidaaDoor
open Go
section
attribute [local irreducible] G GO GR GT Fn FnV pt init exs pur sat own ImpS mat posL allV orL restX cellsX
abbrev ptrV (b : Nat) : Value := .pointer (some ⟨b, 0, none⟩)
end
section
/-- None, or a side and cells. -/
abbrev OptM := Option (Nat × (Nat → Nat → Bool))
def sideO : OptM → Nat
  | none => 0
  | some (s, _) => s
def setO : OptM → Nat → Nat → Bool
  | none => noX
  | some (_, X) => X
/-- v is such a matrix, that the piece R holds. -/
structure HasO (R : HP) (v : Value) (o : OptM) : Prop where
  side : Fn Tryd.prog 9 #[v] [R] (fun r Q => r = i64 (sideO o) ∧ Q = [R])
  len : Fn Tryd.prog 10 #[v] [R] (fun r Q => r = i64 (cntX (setO o)) ∧ Q = [R])
  cells : Fn Tryd.prog 17 #[v] [R] (fun r Q => ∃ b3 v', r = .func (.func 41) #[] #[.pointer (some ⟨b3, 0, none⟩)] ∧ Q = [bkM (setO o) b3 v', R])
  blocks : o ≠ none → Fn Tryd.prog 84 #[v] [R] (fun r Q => ∃ b3 v', r = .func (.func 90) #[] #[.pointer (some ⟨b3, 0, none⟩)] ∧ Q = [bkM (setO o) b3 v', R])
  form : (o = none ∧ v = .pointer none) ∨ (o ≠ none ∧ ∃ b, v = ptrV b)
theorem HasO.one (s b : Nat) (X : Nat → Nat → Bool) : HasO (mat s X b) (ptrV b) (some (s, X)) := ⟨side_mat s b X, len_mat s b X, mcells_mat s b X, fun _ => blocks_mat s b X, .inr ⟨by simp, b, rfl⟩⟩
theorem posL_no : posL noX = [] := by
  unfold posL
  rw [List.filter_eq_nil_iff]
  intro z _ h
  obtain ⟨r, c, _, _, hx⟩ := hasB_iff.1 h
  cases hx
theorem ImpS.nilOwn {el : TypeId} {sz : Nat} {H : List HP} : ImpS H (Go.Proofs.YtfoahdfflchidaaDoor.own el sz 0 (.slice none 0 0) [] :: H) := fun _ _ s => own_nil s
/-- The reference's matrix, beside. -/
def RefO (q : HP) (rv : Value) (o : OptM) : Prop := ∃ v, rv = refV (sideO o) v ∧ v.oneCell' = true ∧ SlC q v (castL (cellsX (setO o)))
attribute [local irreducible] G GO GR GT Fn FnV pt init exs pur sat own ImpS mat posL allV orL restX cellsX
theorem cells_nil : Fn Tryd.prog 17 #[.pointer none] [] (fun r Q => ∃ b3 v', r = .func (.func 41) #[] #[.pointer (some ⟨b3, 0, none⟩)] ∧ Q = [bkM noX b3 v']) := by
  refine Fn.mk2 Tryd.func17 rfl rfl fun w0 F => ?_
  (refine G.seq ?_; refine G.region ?_; refine GO.assign rfl rfl ?_; refine GO.nil ?_; refine kthen_n ?_; refine G.seq ?_; refine G.region ?_; refine GO.move rfl rfl ?_)
  refine GO.call1 rfl rfl (all_nil) Tks.n ?_
  rintro _ _ ⟨rfl, rfl⟩
  (refine GO.alloc rfl fun b3 => ?_; refine GO.store1 rfl rfl rfl Tk.h (by decide) ?_; refine GO.nil ?_; refine kthen_n ?_; refine G.seq ?_; refine G.region ?_; refine GO.makeFunc1 rfl rfl ?_; refine GO.assign rfl rfl ?_; refine GO.nil ?_; refine kthen_n ?_; refine G.ret ?_)
  refine KF2.r1 rfl (RV.t rfl) ⟨b3, .slice none 0 0, rfl, rfl⟩ ?_
  refine ImpS.flat (k := [_, _]) (M := F) ?_
  rw [posL_no, show allV noX [] = [] by unfold allV; rfl, show ([] : List Nat).length = 0 from rfl]
  refine ImpS.trans (ImpS.nilOwn (el := 84) (sz := 66)) (ImpS.sb ?_)
  ((refine Sb.c (Tk.t Tk.h) ?_; refine Sb.c Tk.h ?_); (exact Sb.r))
theorem HasO.nil (R : HP) : HasO R (.pointer none) none :=
  ⟨(Fn.frame side_nil [R]).mono fun r Q h => by obtain ⟨Q', ⟨h1, rfl⟩, rfl⟩ := h; exact ⟨h1, rfl⟩,
   (Fn.frame len_nil [R]).mono fun r Q h => by obtain ⟨Q', ⟨h1, rfl⟩, rfl⟩ := h; exact ⟨by rw [h1]; show i64 0 = i64 (cntX noX); rw [cntX_no]; rfl, rfl⟩,
   (Fn.frame cells_nil [R]).mono fun r Q h => by obtain ⟨Q', ⟨b3, v', h1, rfl⟩, rfl⟩ := h; exact ⟨b3, v', h1, rfl⟩,
   fun h => absurd rfl h, .inl ⟨rfl, rfl⟩⟩
end
section
structure WfO (o : OptM) : Prop where
  some : ∀ s X, o = some (s, X) → 1 ≤ s ∧ s ≤ 1024
attribute [local irreducible] G GO GR GT Fn FnV pt init exs pur sat own ImpS mat posL allV orL restX cellsX cellsV
end
section
/-- A matrix within its bounds. -/
def WfM (o : OptM) : Prop := ∀ s X, o = some (s, X) → (1 ≤ s ∧ s ≤ 1024) ∧ ∀ r c, X r c = true → r < s ∧ c < s
theorem WfM.wf {o : OptM} (h : WfM o) : WfO o := ⟨fun s X e => (h s X e).1⟩
theorem WfM.no : WfM none := fun _ _ h => by cases h
attribute [local irreducible] G GO GR GT Fn FnV pt init exs pur sat own ImpS
end
section
theorem cells_no : cellsX noX = [] := by
  refine List.eq_nil_of_length_eq_zero ?_
  rw [cellsX_len, cntX_no]
theorem RefO.nil (q : HP) : RefO q (refV 0 (.slice none 0 0)) none := ⟨.slice none 0 0, rfl, rfl, none, 0, by
  show Value.slice none 0 0 = .slice none (castL (cellsX noX)).length 0
  rw [castL_len, cells_no]; rfl, by
  show (castL (cellsX noX)).length ≤ 0
  rw [castL_len, cells_no]; exact Nat.le_refl _, fun h => by
  change 0 < (castL (cellsX noX)).length at h
  rw [castL_len, cells_no] at h
  exact absurd h (by show ¬ 0 < 0; omega)⟩
theorem own_slC {v : Value} {l : List Cl} {F : List HP} {w : World} (s : sat (own 34 2 l.length v (cellsV l) :: F) w) : SlC (own 34 2 l.length v (cellsV l)) v l := by
  obtain ⟨a, cap, e, h1, h2⟩ := own_sl s
  subst e
  refine ⟨a, cap, rfl, ?_, h2⟩
  rcases own_shape s with ⟨g1, g2, _, _⟩ | ⟨b, cap', rest', g1, _, g3, _, _, _⟩
  · omega
  · injection g1 with _ _ g1
    omega
theorem own_one {el : TypeId} {sz n : Nat} {v : Value} {xs : List Value} {l : List HP} {w : World} (s : sat (own el sz n v xs :: l) w) : v.oneCell' = true := by
  rcases own_shape s with ⟨rfl, _⟩ | ⟨_, _, _, rfl, _⟩ <;> rfl
theorem GO.ownSlC {P : Program} {c : Cx} {A : Array Oper} {os : List Oper} {K : Kont} {L : Env} {H F : List HP} {v : Value} {l : List Cl} (tk : Tk (own 34 2 l.length v (cellsV l)) H F) (k : SlC (own 34 2 l.length v (cellsV l)) v l → GO P c A os K L H) : GO P c A os K L H := by
  rintro a w ⟨h1, h2, ds, h3, h4, h5⟩
  exact k (own_slC (sat_perm (List.Perm.append_right _ tk) h5)) a w ⟨h1, h2, ds, h3, h4, h5⟩
/-- A matrix's cells of our own are such a matrix. -/
theorem RefO.own {v : Value} {s : Nat} {X : Nat → Nat → Bool} (h1 : v.oneCell' = true) (h2 : SlC (own 34 2 (castL (cellsX X)).length v (cellsV (castL (cellsX X)))) v (castL (cellsX X))) : RefO (Go.Proofs.YtfoahdfflchidaaDoor.own 34 2 (castL (cellsX X)).length v (cellsV (castL (cellsX X)))) (refV s v) (some (s, X)) := ⟨v, rfl, h1, h2⟩
theorem RefO.slR {q : HP} {rv : Value} {o : OptM} (h : RefO q rv o) : ∃ v, rv = refV (sideO o) v ∧ v.oneCell' = true := let ⟨v, h1, h2, _⟩ := h; ⟨v, h1, h2⟩
theorem RefO.sup {q q' : HP} (hs : Sup q q') {rv : Value} {o : OptM} (h : RefO q rv o) : RefO q' rv o := let ⟨v, h1, h2, a, cap, h3, h4, h5⟩ := h
  ⟨v, h1, h2, a, cap, h3, h4, fun hp => let ⟨b, o, e, hr⟩ := h5 hp; ⟨b, o, e, fun j u hj => hs _ _ (hr j u hj)⟩⟩
attribute [local irreducible] G GO GR GT Fn FnV pt init exs pur sat own ImpS mat posL allV orL restX cellsX cellsV lines
end
section
theorem HasO.ptr {R : HP} {v : Value} {o : OptM} (h : HasO R v o) : ∃ p, v = .pointer p := by
  rcases h.form with ⟨_, rfl⟩ | ⟨_, b, rfl⟩
  · exact ⟨_, rfl⟩
  · exact ⟨_, rfl⟩
/-- v is such a matrix, and the piece p is all of it. -/
def MatO (p : HP) (v : Value) (o : OptM) : Prop := (o = none ∧ v = .pointer none) ∨ ∃ s X b, o = some (s, X) ∧ v = ptrV b ∧ p = mat s X b
theorem MatO.has {p : HP} {v : Value} {o : OptM} (h : MatO p v o) : HasO p v o := by
  rcases h with ⟨rfl, rfl⟩ | ⟨s, X, b, rfl, rfl, rfl⟩
  · exact HasO.nil _
  · exact HasO.one _ _ _
theorem MatO.one (s b : Nat) (X : Nat → Nat → Bool) : MatO (mat s X b) (ptrV b) (some (s, X)) := .inr ⟨s, X, b, rfl, rfl, rfl⟩
theorem MatO.nil (p : HP) : MatO p (.pointer none) none := .inl ⟨rfl, rfl⟩
def gridO (s : Int) (l : List Cl) : OptM := if refOk s && inL s.toNat l then some (s.toNat, setL noX l) else none
theorem gridO_t {n : Nat} {l : List Cl} (h1 : 1 ≤ n) (h2 : n ≤ 1024) (h3 : inL n l = true) : gridO n l = some (n, setL noX l) := by
  unfold gridO refOk
  rw [Int.toNat_natCast, h3, if_pos]
  simp only [Bool.and_true, Bool.not_eq_true', Bool.or_eq_false_iff, decide_eq_false_iff_not]
  omega
theorem gridO_f {s : Int} {l : List Cl} (h : ¬ (1 ≤ s ∧ s ≤ 1024 ∧ inL s.toNat l = true)) : gridO s l = none := by
  unfold gridO
  refine if_neg fun hh => h ?_
  rw [Bool.and_eq_true] at hh
  have := refOk_t hh.1
  exact ⟨this.1, this.2, hh.2⟩
theorem gridO_wf (s : Int) (l : List Cl) : WfM (gridO s l) := by
  intro t X h
  by_cases hh : 1 ≤ s ∧ s ≤ 1024 ∧ inL s.toNat l = true
  · obtain ⟨n, rfl⟩ := Int.eq_ofNat_of_zero_le (show 0 ≤ s by omega)
    rw [Int.toNat_natCast] at hh
    rw [gridO_t (by omega) (by omega) hh.2.2] at h
    simp only [Option.some.injEq, Prod.mk.injEq] at h
    obtain ⟨rfl, rfl⟩ := h
    refine ⟨⟨by omega, by omega⟩, fun r c hrc => ?_⟩
    rcases (setL_mem r c l noX hh.2.2).1 hrc with h0 | h0
    · cases h0
    · have h1 := List.all_eq_true.1 hh.2.2 _ h0
      unfold inM at h1
      simp only [Bool.and_eq_true, decide_eq_true_eq] at h1
      omega
  · rw [gridO_f hh] at h
    cases h
attribute [local irreducible] G GO GR GT Fn FnV pt init exs pur sat own ImpS mat posL allV orL restX cellsX cellsV lines
end
section
theorem GO.keep {P : Program} {c : Cx} {A : Array Oper} {os : List Oper} {K : Kont} {L : Env} {H H' : List HP} (h : ImpS H H') (k : GO P c A os K L H') : GO P c A os K L H := GO.imp (fun l w s => h l w s) k
theorem cells_fit (o : OptM) : ¬ 1048576 < (cellsX (setO o)).length := by rw [cellsX_len]; have := cnt_max (setO o); omega
end
section
attribute [local irreducible] G GO GR GT Fn FnV pt init exs pur sat own ImpS mat posL allV orL restX cellsX cellsV lines
def gridE (s : Int) (l : List Cl) : Int := if refOk s && inL s.toNat l then 0 else 2
end
section
theorem Fn.perm {P : Program} {f : FuncId} {args : Array Value} {Pre Pre' : List HP} {R : Value → List HP → Prop} (hp : Pre'.Perm Pre) (h : Fn P f args Pre R) : Fn P f args Pre' R := by
  unfold Fn at *
  intro F w hw
  exact h F w (sat_perm (hp.append_right F) hw)
attribute [local irreducible] G GO GR GT Fn FnV pt init exs pur sat own ImpS mat posL allV orL restX cellsX
end
section
theorem ImpS.pk (l : List HP) : ImpS l [star l] := fun m w s => sat_flat.2 s
attribute [local irreducible] G GO GR GT Fn FnV pt init exs pur sat own ImpS mat posL allV orL restX cellsX cellsV cntX
end
section
theorem Fn.weak {P : Program} {f : FuncId} {args : Array Value} {l : List HP} {R R' : Value → List HP → Prop} (h : Fn P f args l R) (k : ∀ v Q, R v Q → ∃ Q', R' v Q' ∧ ImpS Q Q') : Fn P f args l R' := by
  unfold Fn at *
  intro F w hw
  refine (h F w hw).mono ?_
  rintro e w' ⟨v, Q, e1, e2, hR, d⟩
  obtain ⟨Q', h2, h3⟩ := k v Q hR
  exact ⟨v, Q', e1, e2, h2, h3 F w' d⟩
attribute [local irreducible] G GO GR GT Fn FnV pt init exs pur sat own ImpS mat posL allV orL restX cellsX cellsV cntX
end
section
theorem ImpS.e1 (H : List HP) : ImpS H (star [] :: H) := fun m w s => sat_flat.2 s
theorem ImpS.under {x : HP} {H H' : List HP} (h : ImpS H H') : ImpS (x :: H) (x :: H') := fun m w s => by
  have s1 : sat (H ++ (x :: m)) w := sat_perm (List.perm_middle.symm) s
  exact sat_perm List.perm_middle (h _ w s1)
attribute [local irreducible] G GO GR GT Fn FnV pt init exs pur sat own ImpS mat posL allV orL restX cellsX cellsV cntX
end
section
theorem mrg_ge : ∀ (n : Nat) (xs ys : List Cl), xs.length + ys.length ≤ n → xs.length ≤ (mrg xs ys).length ∧ ys.length ≤ (mrg xs ys).length
  | _, [], ys, _ => by rw [mrg_nil']; exact ⟨Nat.zero_le _, Nat.le_refl _⟩
  | _, x :: xs, [], _ => by rw [mrg_nil]; exact ⟨Nat.le_refl _, Nat.zero_le _⟩
  | 0, x :: xs, y :: ys, h => by simp at h
  | n + 1, x :: xs, y :: ys, h => by
    simp only [List.length_cons] at h
    cases hl : ltC x y with
    | true =>
      have ih := mrg_ge n xs (y :: ys) (by simp only [List.length_cons]; omega)
      rw [mrg_lt hl]
      simp only [List.length_cons] at ih ⊢
      omega
    | false =>
      by_cases e : x = y
      · have ih := mrg_ge n xs ys (by omega)
        rw [mrg_eq hl e]
        simp only [List.length_cons]
        omega
      · have ih := mrg_ge n (x :: xs) ys (by simp only [List.length_cons]; omega)
        rw [mrg_gt hl e]
        simp only [List.length_cons] at ih ⊢
        omega
theorem mrgM_len : ∀ (n : Nat) (xs ys : List Cl), xs.length + ys.length ≤ n → mrgM xs ys = decide (xs.length < (mrg xs ys).length)
  | _, [], [], _ => by rw [mrgM_nil, mrg_nil]; rfl
  | _, [], y :: ys, _ => by rw [mrgM_nil', mrg_nil']; simp
  | _, x :: xs, [], _ => by rw [mrgM_nil, mrg_nil, decide_eq_false (by omega)]
  | 0, x :: xs, y :: ys, h => by simp at h
  | n + 1, x :: xs, y :: ys, h => by
    simp only [List.length_cons] at h
    cases hl : ltC x y with
    | true =>
      have ih := mrgM_len n xs (y :: ys) (by simp only [List.length_cons]; omega)
      rw [mrg_lt hl, mrgM_lt hl, ih, decide_eq_decide]
      simp only [List.length_cons]
      omega
    | false =>
      by_cases e : x = y
      · have ih := mrgM_len n xs ys (by omega)
        rw [mrg_eq hl e, mrgM_eq hl e, ih, decide_eq_decide]
        simp only [List.length_cons]
        omega
      · have ih := mrg_ge n (x :: xs) ys (by simp only [List.length_cons]; omega)
        rw [mrg_gt hl e, mrgM_gt hl e]
        simp only [List.length_cons] at ih ⊢
        rw [decide_eq_true (by omega)]
theorem uni_in {s : Nat} {X Y : Nat → Nat → Bool} (hx : ∀ r c, X r c = true → r < s ∧ c < s) (hy : ∀ r c, Y r c = true → r < s ∧ c < s) : ∀ r c, uniX X Y r c = true → r < s ∧ c < s := fun r c h => by
  unfold uniX at h
  rcases Bool.or_eq_true _ _ ▸ h with h | h
  · exact hx r c h
  · exact hy r c h
theorem mrg_uni {s : Nat} {X Y : Nat → Nat → Bool} (hs : s ≤ 1024) (hx : ∀ r c, X r c = true → r < s ∧ c < s) (hy : ∀ r c, Y r c = true → r < s ∧ c < s) : mrg (castL (cellsX X)) (castL (cellsX Y)) = castL (cellsX (uniX X Y)) := by
  refine up_unique (mrg_up _ _ _ (Nat.le_refl _) (cells_up X) (cells_up Y)) (cells_up _) fun p => ?_
  rw [mrg_mem _ _ _ (Nat.le_refl _), cast_mem hs hx, cast_mem hs hy, cast_mem hs (uni_in hx hy)]
  unfold uniX
  rw [Bool.or_eq_true]
  constructor
  · rintro (⟨h1, h2, h3⟩ | ⟨h1, h2, h3⟩)
    · exact ⟨h1, h2, .inl h3⟩
    · exact ⟨h1, h2, .inr h3⟩
  · rintro ⟨h1, h2, h3 | h3⟩
    · exact .inl ⟨h1, h2, h3⟩
    · exact .inr ⟨h1, h2, h3⟩
theorem mrgM_uni {s : Nat} {X Y : Nat → Nat → Bool} (hs : s ≤ 1024) (hx : ∀ r c, X r c = true → r < s ∧ c < s) (hy : ∀ r c, Y r c = true → r < s ∧ c < s) : mrgM (castL (cellsX X)) (castL (cellsX Y)) = decide (cntX X < cntX (uniX X Y)) := by
  rw [mrgM_len _ _ _ (Nat.le_refl _), mrg_uni hs hx hy, castL_len, castL_len, cellsX_len, cellsX_len]
def joinO : OptM → OptM → OptM
  | some (s, X), some (t, Y) => if s = t then some (s, uniX X Y) else some (s, X)
  | o, _ => o
def joinB : OptM → OptM → Bool
  | some (s, X), some (t, Y) => decide (s = t) && decide (cntX X < cntX (uniX X Y))
  | _, _ => false
theorem joinO_same (s : Nat) (X Y : Nat → Nat → Bool) : joinO (some (s, X)) (some (s, Y)) = some (s, uniX X Y) := if_pos rfl
theorem joinB_same (s : Nat) (X Y : Nat → Nat → Bool) : joinB (some (s, X)) (some (s, Y)) = decide (cntX X < cntX (uniX X Y)) := by
  show (decide (s = s) && _) = _
  rw [decide_eq_true rfl, Bool.true_and]
theorem GO.ownV {P : Program} {c : Cx} {A : Array Oper} {os : List Oper} {K : Kont} {L : Env} {H F : List HP} {el : TypeId} {sz n : Nat} {v : Value} {xs : List Value} (tk : Tk (own el sz n v xs) H F) (k : ∀ (a : Option Addr) (cap : Nat), v = .slice a n cap → GO P c A os K L H) : GO P c A os K L H := by
  rintro a w ⟨h1, h2, ds, h3, h4, h5⟩
  obtain ⟨a', cap, e, _⟩ := own_sl (sat_perm (List.Perm.append_right _ tk) h5)
  exact k a' cap e a w ⟨h1, h2, ds, h3, h4, h5⟩
theorem RefO.left {z z' : HP} {rv : Value} {o : OptM} (h : RefO z rv o) : RefO (star [z, z']) rv o := h.sup (Sup.left _ _)
theorem RefO.right {z z' : HP} {rv : Value} {o : OptM} (h : RefO z rv o) : RefO (star [z', z]) rv o := h.sup (Sup.right _ _)
attribute [local irreducible] G GO GR GT Fn FnV pt init exs pur sat own ImpS mat posL allV orL restX cellsX cellsV lines uniX
def pairE (s t : Nat) : Int := if s = 0 then 1 else if t = 0 then 1 else if s = t then 0 else 5
theorem rpair_spec (s t : Nat) (va vb : Value) (ha : va.oneCell' = true) (hb : vb.oneCell' = true) : Fn Tryd.prog 52 #[refV s va, refV t vb] [] (fun r Q => r = i64 (pairE s t) ∧ Q = []) := by
  unfold pairE
  refine Fn.mk2 Tryd.func52 rfl rfl fun w0 F => ?_
  by_cases h1 : s = 0
  · have d1 : decide (((s : Nat) : Int) = 0) = true := decide_eq_true (by omega)
    rw [if_pos h1]
    (refine G.seq ?_; refine G.region ?_; refine GO.box rfl rfl rfl fun b2 => ?_; refine GO.box rfl rfl rfl fun b3 => ?_; refine GO.assign rfl rfl ?_; refine GO.nil ?_; refine kthen_n ?_; refine G.seq ?_; refine G.seq ?_; refine G.region ?_; refine GO.fieldAddr rfl rfl ?_; refine GO.load1 rfl rfl rfl (Tk.t Tk.h) rfl ?_; refine GO.eqi rfl rfl rfl ?_; refine GO.move rfl rfl ?_; refine GO.gF rfl rfl rfl (by assumption) ?_; refine GO.gF rfl rfl rfl (by assumption) ?_; refine GO.gF rfl rfl rfl (by assumption) ?_; refine GO.pickTa rfl rfl (by assumption) rfl ?_; refine GO.nil ?_; refine kthen_n ?_; refine G.condT rfl rfl ?_; refine G.seq ?_; refine G.region ?_; refine GO.assign rfl rfl ?_; refine GO.nil ?_; refine kthen_n ?_; refine G.ret ?_; refine kthen_r ?_)
    refine KF2.r1 rfl (RV.t rfl) ⟨rfl, rfl⟩ (ImpS.sb ?_)
    (skip; (refine Sb.s ?_; refine Sb.s ?_; exact Sb.r))
  · have d1 : decide (((s : Nat) : Int) = 0) = false := decide_eq_false (by omega)
    rw [if_neg h1]
    by_cases h2 : t = 0
    · have d2 : decide (((t : Nat) : Int) = 0) = true := decide_eq_true (by omega)
      rw [if_pos h2]
      (refine G.seq ?_; refine G.region ?_; refine GO.box rfl rfl rfl fun b2 => ?_; refine GO.box rfl rfl rfl fun b3 => ?_; refine GO.assign rfl rfl ?_; refine GO.nil ?_; refine kthen_n ?_; refine G.seq ?_; refine G.seq ?_; refine G.region ?_; refine GO.fieldAddr rfl rfl ?_; refine GO.load1 rfl rfl rfl (Tk.t Tk.h) rfl ?_; refine GO.eqi rfl rfl rfl ?_; refine GO.move rfl rfl ?_; refine GO.gT rfl rfl (by assumption) ?_; refine GO.fieldAddr rfl rfl ?_; refine GO.gT rfl rfl (by assumption) ?_; refine GO.load1 rfl rfl rfl Tk.h rfl ?_; refine GO.gT rfl rfl (by assumption) ?_; refine GO.eqi rfl rfl rfl ?_; refine GO.pickFa rfl rfl (by assumption) rfl ?_; refine GO.nil ?_; refine kthen_n ?_; refine G.condT rfl (by assumption) ?_; refine G.seq ?_; refine G.region ?_; refine GO.assign rfl rfl ?_; refine GO.nil ?_; refine kthen_n ?_; refine G.ret ?_; refine kthen_r ?_)
      refine KF2.r1 rfl (RV.t rfl) ⟨rfl, rfl⟩ (ImpS.sb ?_)
      (skip; (refine Sb.s ?_; refine Sb.s ?_; exact Sb.r))
    · have d2 : decide (((t : Nat) : Int) = 0) = false := decide_eq_false (by omega)
      rw [if_neg h2]
      by_cases h3 : s = t
      · have d3 : decide (((s : Nat) : Int) ≠ ((t : Nat) : Int)) = false := decide_eq_false (by omega)
        rw [if_pos h3]
        (refine G.seq ?_; refine G.region ?_; refine GO.box rfl rfl rfl fun b2 => ?_; refine GO.box rfl rfl rfl fun b3 => ?_; refine GO.assign rfl rfl ?_; refine GO.nil ?_; refine kthen_n ?_; refine G.seq ?_; refine G.seq ?_; refine G.region ?_; refine GO.fieldAddr rfl rfl ?_; refine GO.load1 rfl rfl rfl (Tk.t Tk.h) rfl ?_; refine GO.eqi rfl rfl rfl ?_; refine GO.move rfl rfl ?_; refine GO.gT rfl rfl (by assumption) ?_; refine GO.fieldAddr rfl rfl ?_; refine GO.gT rfl rfl (by assumption) ?_; refine GO.load1 rfl rfl rfl Tk.h rfl ?_; refine GO.gT rfl rfl (by assumption) ?_; refine GO.eqi rfl rfl rfl ?_; refine GO.pickFa rfl rfl (by assumption) rfl ?_; refine GO.nil ?_; refine kthen_n ?_; refine G.condF rfl (by assumption) ?_; refine G.skip ?_; refine kthen_n ?_; refine G.seq ?_; refine G.seq ?_; refine G.region ?_; refine GO.fieldAddr rfl rfl ?_; refine GO.load1 rfl rfl rfl (Tk.t Tk.h) rfl ?_; refine GO.fieldAddr rfl rfl ?_; refine GO.load1 rfl rfl rfl Tk.h rfl ?_; refine GO.nei rfl rfl rfl ?_; refine GO.nil ?_; refine kthen_n ?_; refine G.condF rfl (by assumption) ?_; refine G.skip ?_; refine kthen_n ?_; refine G.seq ?_; refine G.region ?_; refine GO.assign rfl rfl ?_; refine GO.nil ?_; refine kthen_n ?_; refine G.ret ?_)
        refine KF2.r1 rfl (RV.t rfl) ⟨rfl, rfl⟩ (ImpS.sb ?_)
        (skip; (refine Sb.s ?_; refine Sb.s ?_; exact Sb.r))
      · have d3 : decide (((s : Nat) : Int) ≠ ((t : Nat) : Int)) = true := decide_eq_true (by omega)
        rw [if_neg h3]
        (refine G.seq ?_; refine G.region ?_; refine GO.box rfl rfl rfl fun b2 => ?_; refine GO.box rfl rfl rfl fun b3 => ?_; refine GO.assign rfl rfl ?_; refine GO.nil ?_; refine kthen_n ?_; refine G.seq ?_; refine G.seq ?_; refine G.region ?_; refine GO.fieldAddr rfl rfl ?_; refine GO.load1 rfl rfl rfl (Tk.t Tk.h) rfl ?_; refine GO.eqi rfl rfl rfl ?_; refine GO.move rfl rfl ?_; refine GO.gT rfl rfl (by assumption) ?_; refine GO.fieldAddr rfl rfl ?_; refine GO.gT rfl rfl (by assumption) ?_; refine GO.load1 rfl rfl rfl Tk.h rfl ?_; refine GO.gT rfl rfl (by assumption) ?_; refine GO.eqi rfl rfl rfl ?_; refine GO.pickFa rfl rfl (by assumption) rfl ?_; refine GO.nil ?_; refine kthen_n ?_; refine G.condF rfl (by assumption) ?_; refine G.skip ?_; refine kthen_n ?_; refine G.seq ?_; refine G.seq ?_; refine G.region ?_; refine GO.fieldAddr rfl rfl ?_; refine GO.load1 rfl rfl rfl (Tk.t Tk.h) rfl ?_; refine GO.fieldAddr rfl rfl ?_; refine GO.load1 rfl rfl rfl Tk.h rfl ?_; refine GO.nei rfl rfl rfl ?_; refine GO.nil ?_; refine kthen_n ?_; refine G.condT rfl (by assumption) ?_; refine G.seq ?_; refine G.region ?_; refine GO.assign rfl rfl ?_; refine GO.nil ?_; refine kthen_n ?_; refine G.ret ?_; refine kthen_r ?_)
        refine KF2.r1 rfl (RV.t rfl) ⟨rfl, rfl⟩ (ImpS.sb ?_)
        (skip; (refine Sb.s ?_; refine Sb.s ?_; exact Sb.r))
theorem pairE_same {s : Nat} (h : 1 ≤ s) : pairE s s = 0 := by unfold pairE; rw [if_neg (by omega), if_neg (by omega), if_pos rfl]
set_option maxHeartbeats 4000000 in
theorem rJoin_core (z : HP) (ra rb : Value) (s : Nat) (X Y : Nat → Nat → Bool) (hra : RefO z ra (some (s, X))) (hrb : RefO z rb (some (s, Y))) (hs : 1 ≤ s ∧ s ≤ 1024) (hx : ∀ r c, X r c = true → r < s ∧ c < s) (hy : ∀ r c, Y r c = true → r < s ∧ c < s) :
    Fn Tryd.prog 55 #[ra, rb] [z] (fun r Q => ∃ v, r = .tuple #[refV s v, .bool (decide (cntX X < cntX (uniX X Y))), i64 0] ∧ Q = [own 34 2 (castL (cellsX (uniX X Y))).length v (cellsV (castL (cellsX (uniX X Y)))), z]) := by
  have hm := mrg_uni hs.2 hx hy
  have hmM := mrgM_uni hs.2 hx hy
  obtain ⟨va, rfl, honea, hsla⟩ := hra
  obtain ⟨vb, rfl, honeb, hslb⟩ := hrb
  have hl1 : (castL (cellsX X)).length ≤ 1048576 := by rw [castL_len, cellsX_len]; have := cnt_max X; omega
  have hl2 : (castL (cellsX Y)).length ≤ 1048576 := by rw [castL_len, cellsX_len]; have := cnt_max Y; omega
  have hg := merge_spec z va vb (castL (cellsX X)) (castL (cellsX Y)) hsla.slR hslb.slR (by omega)
  rw [hm, hmM] at hg
  have hpr := rpair_spec s s va vb honea honeb
  rw [pairE_same hs.1] at hpr
  change Fn _ _ #[refV s va, refV s vb] _ _
  generalize decide (cntX X < cntX (uniX X Y)) = bn at hg ⊢
  refine Fn.mk2 Tryd.func55 rfl rfl fun w0 F => ?_
  (refine G.seq ?_; refine G.region ?_; refine GO.box rfl rfl rfl fun b2 => ?_; refine GO.box rfl rfl rfl fun b3 => ?_; refine GO.alloc rfl fun b4 => ?_; refine GO.assign rfl rfl ?_; refine GO.assign rfl rfl ?_; refine GO.nil ?_; refine kthen_n ?_; refine G.seq ?_; refine G.region ?_; refine GO.loadW rfl rfl rfl (Tk.t (Tk.t Tk.h)) rfl ?_; refine GO.loadW rfl rfl rfl (Tk.t Tk.h) rfl ?_)
  refine GO.call2 rfl rfl rfl (hpr) Tks.n ?_
  rintro _ _ ⟨rfl, rfl⟩
  (refine GO.assign rfl rfl ?_; refine GO.nil ?_; refine kthen_n ?_; refine G.seq ?_; refine G.seq ?_; refine G.region ?_; refine GO.move rfl rfl ?_; refine GO.neF rfl rfl rfl rfl ?_; refine GO.nil ?_; refine kthen_n ?_; refine G.condF rfl rfl ?_; refine G.skip ?_; refine kthen_n ?_; refine G.seq ?_; refine G.region ?_; refine GO.fieldAddr rfl rfl ?_; refine GO.load1 rfl rfl rfl (Tk.t (Tk.t Tk.h)) rfl ?_; refine GO.fieldAddr rfl rfl ?_; refine GO.load1 rfl rfl rfl (Tk.t Tk.h) rfl ?_)
  refine GO.call2 rfl rfl rfl (hg) (Tks.c (Tk.t (Tk.t (Tk.t Tk.h))) Tks.n) ?_
  rintro _ _ ⟨v, rfl, rfl⟩
  refine GO.ownV Tk.h fun a9 cap9 hv9 => ?_
  subst hv9
  (refine GO.move rfl rfl ?_; refine GO.extract rfl rfl rfl ?_; refine GO.extract rfl rfl rfl ?_; refine GO.assign rfl rfl ?_; refine GO.assign rfl rfl ?_; refine GO.nil ?_; refine kthen_n ?_; refine G.seq ?_; refine G.region ?_; refine GO.fieldAddr rfl rfl ?_; refine GO.load1 rfl rfl rfl (Tk.t (Tk.t (Tk.t (Tk.t Tk.h)))) rfl ?_; refine GO.move rfl rfl ?_; refine GO.build2 rfl rfl rfl rfl ?_; refine GO.move rfl rfl ?_)
  rw [show ∀ n : Nat, (putParts [i64 (s : Nat), Value.slice a9 n cap9]).toArray = #[i64 (s : Nat), Value.slice a9 n cap9] from fun n => by simp [putParts, Value.cells]]
  (refine GO.storeW rfl rfl (Tk.t (Tk.t Tk.h)) ⟨rfl, rfl⟩ (by simp [Value.oneCell']) ?_; refine GO.assign rfl rfl ?_; refine GO.assign rfl rfl ?_; refine GO.nil ?_; refine kthen_n ?_; refine G.ret ?_)
  refine KF2.r3 rfl (RV.cW (n := 2) rfl rfl (by (exact Tk.h)) rfl) (RV.t rfl) (RV.t rfl) ⟨_, rfl, rfl⟩ (ImpS.sb ?_)
  ((refine Sb.c (Tk.t Tk.h) ?_; refine Sb.c (Tk.t Tk.h) ?_); (refine Sb.s ?_; refine Sb.s ?_; refine Sb.s ?_; exact Sb.r))
end
section
theorem cellsX_iff {s : Nat} {X : Nat → Nat → Bool} (hs : s ≤ 1024) (hx : ∀ r c, X r c = true → r < s ∧ c < s) (p : Nat × Nat) : p ∈ cellsX X ↔ X p.1 p.2 = true := ⟨cellsX_true, fun h => cellsX_pos hs hx h⟩
end
section
theorem cells_pairs (X : Nat → Nat → Bool) : (cellsX X).Pairwise fun a b => ltC ((a.1 : Int), (a.2 : Int)) ((b.1 : Int), (b.2 : Int)) = true := by
  have h := cells_up X
  unfold Up castL at h
  exact List.pairwise_map.1 h
end
section
def wrK (s : Nat) (i j : Int) : Int := if inM s i j then 0 else 2
attribute [local irreducible] G GO GR GT Fn FnV pt init exs pur sat own ImpS mat posL allV orL restX cellsX cellsV cntX
theorem wrK_t {s : Nat} {i j : Int} (h : inM s i j = true) : wrK s i j = 0 := by unfold wrK; rw [if_pos h]
theorem wrK_f {s : Nat} {i j : Int} (h : inM s i j = false) : wrK s i j = 2 := by unfold wrK; rw [if_neg (by rw [h]; decide)]
end
end Go.Proofs.YtfoahdfflchidaaDoor
namespace Go.Proofs.YtfoahdfflchidaaDoor
open Go
section
theorem up_get {l : List Cl} (hl : Up l) {i j : Nat} {x y : Cl} (hx : l[i]? = some x) (hy : l[j]? = some y) (h : i < j) : ltC x y = true := by
  obtain ⟨h1, rfl⟩ := List.getElem?_eq_some_iff.1 hx
  obtain ⟨h2, rfl⟩ := List.getElem?_eq_some_iff.1 hy
  exact List.pairwise_iff_getElem.1 hl i j h1 h2 h
/-- What is ahead of n is ahead of the cell, the rest is not. -/
def Cuts (l : List Cl) (c : Cl) (lo hi : Nat) : Prop := (∀ k x, l[k]? = some x → k < lo → ltC x c = true) ∧ ∀ k x, l[k]? = some x → hi ≤ k → ltC x c = false
theorem Cuts.all (l : List Cl) (c : Cl) : Cuts l c 0 l.length := ⟨fun _ _ _ h => absurd h (Nat.not_lt_zero _), fun k x h h2 => by have := (List.getElem?_eq_some_iff.1 h).1; omega⟩
theorem Cuts.up {l : List Cl} (hl : Up l) {c x : Cl} {lo hi m : Nat} (h : Cuts l c lo hi) (hx : l[m]? = some x) (hlt : ltC x c = true) : Cuts l c (m + 1) hi := ⟨fun k y hk hm => by
    by_cases e : k = m
    · subst e
      rw [hx] at hk
      cases hk
      exact hlt
    · exact ltC_trans (up_get hl hk hx (by omega)) hlt, h.2⟩
theorem Cuts.down {l : List Cl} (hl : Up l) {c x : Cl} {lo hi m : Nat} (h : Cuts l c lo hi) (hx : l[m]? = some x) (hlt : ltC x c = false) : Cuts l c lo m := ⟨h.1, fun k y hk hm => by
    by_cases e : k = m
    · subst e
      rw [hx] at hk
      cases hk
      exact hlt
    · cases hy : ltC y c with
      | false => rfl
      | true => rw [ltC_trans (up_get hl hx hk (by omega)) hy] at hlt; exact hlt⟩
theorem Cuts.mem {l : List Cl} (hl : Up l) {c : Cl} {n : Nat} (h : Cuts l c n n) : c ∈ l ↔ l[n]? = some c := by
  constructor
  · intro hc
    obtain ⟨k, hk⟩ := List.mem_iff_getElem?.1 hc
    by_cases e1 : k < n
    · exact absurd (h.1 k c hk e1) (ltC_irr c)
    · by_cases e2 : k = n
      · rw [← e2]; exact hk
      · have hkl := (List.getElem?_eq_some_iff.1 hk).1
        obtain ⟨x, hx⟩ : ∃ x, l[n]? = some x := ⟨_, List.getElem?_eq_getElem (by omega)⟩
        have h1 := up_get hl hx hk (by omega)
        rw [h.2 n x hx (Nat.le_refl _)] at h1
        cases h1
  · exact fun h => List.mem_of_getElem? h
/-- How many are ahead of a cell. -/
def plc (l : List Cl) (c : Cl) : Nat := l.countP fun x => ltC x c
theorem Cuts.num {l : List Cl} {c : Cl} {n : Nat} (h : Cuts l c n n) (hn : n ≤ l.length) : plc l c = n := by
  have e1 : (l.take n).countP (fun x => ltC x c) = (l.take n).length := List.countP_eq_length.2 fun x hx => by
    obtain ⟨k, hk⟩ := List.mem_iff_getElem?.1 hx
    rw [List.getElem?_take] at hk
    by_cases hkn : k < n
    · rw [if_pos hkn] at hk
      exact h.1 k x hk hkn
    · rw [if_neg hkn] at hk
      cases hk
  have e2 : (l.drop n).countP (fun x => ltC x c) = 0 := List.countP_eq_zero.2 fun x hx => by
    obtain ⟨k, hk⟩ := List.mem_iff_getElem?.1 hx
    rw [List.getElem?_drop] at hk
    rw [h.2 _ x hk (by omega)]
    simp
  have e3 : plc l c = (l.take n ++ l.drop n).countP fun x => ltC x c := by rw [List.take_append_drop]; rfl
  rw [e3, List.countP_append, e1, e2, List.length_take]
  omega
attribute [local irreducible] G GO GR GT GQ Fn FnV pt init exs pur sat own ImpS cellsV
set_option maxHeartbeats 8000000 in
theorem place_spec (R : HP) (v : Value) (l : List Cl) (c : Cl) (hv : SlR R v l.length 2 (cellsV l)) (hl : Up l) (hn : l.length ≤ 4611686018427387904) :
    Fn Tryd.prog 53 #[v, .agg #[i64 c.1, i64 c.2]] [R] (fun r Q => r = .tuple #[i64 (plc l c : Nat), .bool (decide (c ∈ l))] ∧ Q = [R]) := by
  obtain ⟨a, cap, rfl, _, hr⟩ := hv
  refine Fn.mk2 Tryd.func53 rfl rfl fun w0 F => ?_
  (refine G.seq ?_; refine G.region ?_; refine GO.box rfl rfl rfl fun b3 => ?_; refine GO.assign rfl rfl ?_; refine GO.assign rfl rfl ?_; refine GO.nil ?_; refine kthen_n ?_; refine G.seq ?_; refine G.region ?_; refine GO.move rfl rfl ?_; refine GO.lenS rfl rfl ?_; refine GO.assign rfl rfl ?_; refine GO.assign rfl rfl ?_; refine GO.nil ?_; refine kthen_n ?_; refine G.seq ?_; refine G.block ?_)
  refine G.loop (fun st : Nat × Nat => [(0, .slice a l.length cap), (3, ptrV b3), (6, i64 (st.1 : Nat)), (7, i64 (st.2 : Nat))])
    (fun _ => pt b3 (row [i64 c.1, i64 c.2] 34) :: R :: F)
    (fun st => st.1 ≤ st.2 ∧ st.2 ≤ l.length ∧ Cuts l c st.1 st.2)
    (fun st => st.2 - st.1) (0, l.length) ⟨Nat.zero_le _, Nat.le_refl _, Cuts.all l c⟩ ?_ ?_ ?_
  · dsimp only
    (refine SubE.c rfl rfl ?_; refine SubE.c rfl rfl ?_; refine SubE.c rfl rfl ?_; refine SubE.c rfl rfl ?_; exact SubE.n)
  · ((refine Sb.c Tk.h ?_; refine Sb.c Tk.h ?_); (exact Sb.r))
  rintro ⟨lo, hi⟩ ⟨h1, h2, hc⟩
  dsimp only at h1 h2 hc ⊢
  by_cases hlt : lo < hi
  · have d1 : decide ((lo : Int) < (hi : Int)) = true := decide_eq_true (by omega)
    obtain ⟨m, hm⟩ : ∃ m, m = (lo + hi) / 2 := ⟨_, rfl⟩
    obtain ⟨x, hx⟩ : ∃ x, l[m]? = some x := ⟨_, List.getElem?_eq_getElem (by omega)⟩
    obtain ⟨ba, oa, rfl, hrx⟩ := hr (by omega)
    have r1 : Rd R ⟨ba, oa + m * 2, none⟩ (i64 x.1) := hrx _ _ (cellsV_get hx).1
    have r2 : Rd R ⟨ba, oa + m * 2 + 1, none⟩ (i64 x.2) := hrx _ _ (cellsV_get hx).2
    (refine G.seq ?_; refine G.seq ?_; refine G.region ?_; refine GO.move rfl rfl ?_; refine GO.move rfl rfl ?_; refine GO.lti rfl rfl rfl ?_; refine GO.nil ?_; refine kthen_n ?_; refine G.condT rfl (by assumption) ?_; refine G.skip ?_; refine kthen_n ?_; refine G.block ?_; refine G.seq ?_; refine G.region ?_; refine GO.move rfl rfl ?_; refine GO.move rfl rfl ?_; refine GO.addi rfl rfl rfl (by omega) ?_; refine GO.quoi rfl rfl rfl (by omega) ?_; refine GO.assign rfl rfl ?_; refine GO.nil ?_; refine kthen_n ?_; refine G.seq ?_)
    rw [show ((lo : Nat) : Int) + ((hi : Nat) : Int) = ((lo + hi : Nat) : Int) by omega, show (((lo + hi : Nat) : Int)) / 2 = ((m : Nat) : Int) by omega]
    refine G.draw 6 (by kernel_rfl) ?_
    ((apply GQ.step; focus (intro Z; refine GO.move rfl rfl ?_; exact KQ.z)); (apply GQ.step; focus (intro Z; refine GO.move rfl rfl ?_; exact KQ.z)); (apply GQ.step; focus (intro Z; refine GO.idxS rfl rfl rfl ⟨rfl, by omega⟩ ?_; exact KQ.z)); (apply GQ.step; focus (intro Z; refine GO.load2 rfl rfl rfl (Tk.t Tk.h) (by assumption) (by assumption) ?_; exact KQ.z)); (apply GQ.step; focus (intro Z; refine GO.loadW rfl rfl rfl Tk.h rfl ?_; exact KQ.z)))
    apply GQ.step; focus (intro Z; refine GO.call2 rfl rfl rfl (before_spec x c) Tks.n ?_; rintro _ _ ⟨rfl, rfl⟩; exact KQ.z)
    cases hl2 : ltC x c with
    | true =>
      (refine GQ.nil ?_)
      (refine GO.nil ?_; refine kthen_n ?_; refine G.condT rfl rfl ?_; refine G.region ?_; refine GO.move rfl rfl ?_; refine GO.addi rfl rfl rfl (by omega) ?_; refine GO.assign rfl rfl ?_; refine GO.nil ?_; refine kblock_n ?_; refine kthen_n ?_)
      refine ⟨(m + 1, hi), ⟨by dsimp only; omega, h2, hc.up hl hx hl2⟩, by dsimp only; omega, ?_, ?_⟩
      · (refine SubE.c rfl rfl ?_; refine SubE.c rfl rfl ?_; refine SubE.c rfl rfl ?_; refine SubE.c rfl rfl ?_; exact SubE.n)
      · ((refine Sb.c Tk.h ?_; refine Sb.c Tk.h ?_); (exact Sb.r))
    | false =>
      (refine GQ.nil ?_)
      (refine GO.nil ?_; refine kthen_n ?_; refine G.condF rfl rfl ?_; refine G.region ?_; refine GO.move rfl rfl ?_; refine GO.assign rfl rfl ?_; refine GO.nil ?_; refine kblock_n ?_; refine kthen_n ?_)
      refine ⟨(lo, m), ⟨by dsimp only; omega, by dsimp only; omega, hc.down hl hx hl2⟩, by dsimp only; omega, ?_, ?_⟩
      · (refine SubE.c rfl rfl ?_; refine SubE.c rfl rfl ?_; refine SubE.c rfl rfl ?_; refine SubE.c rfl rfl ?_; exact SubE.n)
      · ((refine Sb.c Tk.h ?_; refine Sb.c Tk.h ?_); (exact Sb.r))
  · obtain rfl : lo = hi := by omega
    have d1 : decide ((lo : Int) < (lo : Int)) = false := decide_eq_false (by omega)
    have hmem := hc.mem hl
    have hnum := hc.num h2
    (refine G.seq ?_; refine G.seq ?_; refine G.region ?_; refine GO.move rfl rfl ?_; refine GO.move rfl rfl ?_; refine GO.lti rfl rfl rfl ?_; refine GO.nil ?_; refine kthen_n ?_; refine G.condF rfl (by assumption) ?_; refine G.exit ?_; refine kthen_x ?_; refine kthen_x ?_; refine kblock_x ?_; refine kthen_n ?_; refine G.seq ?_)
    cases hx : l[lo]? with
    | none =>
      have hll := List.getElem?_eq_none_iff.1 hx
      have d2 : decide ((lo : Int) < (l.length : Int)) = false := decide_eq_false (by omega)
      have e1 : decide (c ∈ l) = false := decide_eq_false (fun h => by rw [hmem, hx] at h; cases h)
      refine G.draw 14 (by kernel_rfl) ?_
      ((apply GQ.step; focus (intro Z; refine GO.move rfl rfl ?_; exact KQ.z)); (apply GQ.step; focus (intro Z; refine GO.move rfl rfl ?_; exact KQ.z)); (apply GQ.step; focus (intro Z; refine GO.move rfl rfl ?_; exact KQ.z)); (apply GQ.step; focus (intro Z; refine GO.lenS rfl rfl ?_; exact KQ.z)); (apply GQ.step; focus (intro Z; refine GO.lti rfl rfl rfl ?_; exact KQ.z)); (apply GQ.step; focus (intro Z; refine GO.move rfl rfl ?_; exact KQ.z)); (apply GQ.step; focus (intro Z; refine GO.gF rfl rfl rfl (by assumption) ?_; exact KQ.z)); (apply GQ.step; focus (intro Z; refine GO.gF rfl rfl rfl (by assumption) ?_; exact KQ.z)); (apply GQ.step; focus (intro Z; refine GO.gF rfl rfl rfl (by assumption) ?_; exact KQ.z)); (apply GQ.step; focus (intro Z; refine GO.gF rfl rfl rfl (by assumption) ?_; exact KQ.z)); (apply GQ.step; focus (intro Z; refine GO.gF rfl rfl rfl (by assumption) ?_; exact KQ.z)); (apply GQ.step; focus (intro Z; refine GO.gF rfl rfl rfl (by assumption) ?_; exact KQ.z)); (apply GQ.step; focus (intro Z; refine GO.pickFa rfl rfl (by assumption) rfl ?_; exact KQ.z)); (apply GQ.step; focus (intro Z; refine GO.assign rfl rfl ?_; exact KQ.z)); refine GQ.nil ?_)
      (refine GO.assign rfl rfl ?_; refine GO.nil ?_; refine kthen_n ?_; refine G.ret ?_)
      refine KF2.r2 rfl (RV.t rfl) (RV.t rfl) ⟨by rw [e1, hnum], rfl⟩ (ImpS.sb ?_)
      ((refine Sb.c (Tk.t Tk.h) ?_); (refine Sb.s ?_; exact Sb.r))
    | some x =>
      have hll := (List.getElem?_eq_some_iff.1 hx).1
      have d2 : decide ((lo : Int) < (l.length : Int)) = true := decide_eq_true (by omega)
      have e1 : decide (c ∈ l) = decide (x = c) := by
        rw [Bool.eq_iff_iff, decide_eq_true_iff, decide_eq_true_iff, hmem, hx]
        exact ⟨fun h => Option.some.inj h, fun h => by rw [h]⟩
      obtain ⟨ba, oa, rfl, hrx⟩ := hr (by omega)
      have r1 : Rd R ⟨ba, oa + lo * 2, none⟩ (i64 x.1) := hrx _ _ (cellsV_get hx).1
      have r2 : Rd R ⟨ba, oa + lo * 2 + 1, none⟩ (i64 x.2) := hrx _ _ (cellsV_get hx).2
      refine G.draw 14 (by kernel_rfl) ?_
      ((apply GQ.step; focus (intro Z; refine GO.move rfl rfl ?_; exact KQ.z)); (apply GQ.step; focus (intro Z; refine GO.move rfl rfl ?_; exact KQ.z)); (apply GQ.step; focus (intro Z; refine GO.move rfl rfl ?_; exact KQ.z)); (apply GQ.step; focus (intro Z; refine GO.lenS rfl rfl ?_; exact KQ.z)); (apply GQ.step; focus (intro Z; refine GO.lti rfl rfl rfl ?_; exact KQ.z)); (apply GQ.step; focus (intro Z; refine GO.move rfl rfl ?_; exact KQ.z)); (apply GQ.step; focus (intro Z; refine GO.gT rfl rfl (by assumption) ?_; refine GO.move rfl rfl ?_; exact KQ.z)); (apply GQ.step; focus (intro Z; refine GO.gT rfl rfl (by assumption) ?_; refine GO.move rfl rfl ?_; exact KQ.z)); (apply GQ.step; focus (intro Z; refine GO.gT rfl rfl (by assumption) ?_; refine GO.idxS rfl rfl rfl ⟨rfl, by omega⟩ ?_; exact KQ.z)); (apply GQ.step; focus (intro Z; refine GO.gT rfl rfl (by assumption) ?_; refine GO.load2 rfl rfl rfl (Tk.t Tk.h) (by assumption) (by assumption) ?_; exact KQ.z)); (apply GQ.step; focus (intro Z; refine GO.gT rfl rfl (by assumption) ?_; refine GO.loadW rfl rfl rfl Tk.h rfl ?_; exact KQ.z)))
      apply GQ.step; focus (intro Z; refine GO.gT rfl rfl (by assumption) ?_; refine GO.eqlA (EqR.celC x c) rfl rfl rfl ?_; exact KQ.z)
      ((apply GQ.step; focus (intro Z; refine GO.pickTa rfl rfl (by assumption) rfl ?_; exact KQ.z)); (apply GQ.step; focus (intro Z; refine GO.assign rfl rfl ?_; exact KQ.z)); refine GQ.nil ?_)
      (refine GO.assign rfl rfl ?_; refine GO.nil ?_; refine kthen_n ?_; refine G.ret ?_)
      refine KF2.r2 rfl (RV.t rfl) (RV.t rfl) ⟨by rw [e1, hnum], rfl⟩ (ImpS.sb ?_)
      ((refine Sb.c (Tk.t Tk.h) ?_); (refine Sb.s ?_; exact Sb.r))
end
section
theorem cast_at {s : Nat} {X : Nat → Nat → Bool} (hs : s ≤ 1024) (hx : ∀ r c, X r c = true → r < s ∧ c < s) (i j : Int) : decide ((i, j) ∈ castL (cellsX X)) = (decide (0 ≤ i) && decide (0 ≤ j) && X i.toNat j.toNat) := by
  rw [Bool.eq_iff_iff, decide_eq_true_iff, cast_mem hs hx, Bool.and_eq_true, Bool.and_eq_true, decide_eq_true_iff, decide_eq_true_iff, and_assoc]
theorem cast_small (X : Nat → Nat → Bool) : (castL (cellsX X)).length ≤ 1048576 := by
  rw [castL_len, cellsX_len]
  have := cnt_max X
  omega
def lessX (X Y : Nat → Nat → Bool) : Nat → Nat → Bool := fun r c => X r c && !Y r c
def lessL (la lb : List Cl) : List Cl := la.filter fun p => !decide (p ∈ lb)
theorem less_in {s : Nat} {X Y : Nat → Nat → Bool} (hx : ∀ r c, X r c = true → r < s ∧ c < s) : ∀ r c, lessX X Y r c = true → r < s ∧ c < s := fun r c h => by
  unfold lessX at h
  rw [Bool.and_eq_true] at h
  exact hx r c h.1
theorem less_cells {s : Nat} {X Y : Nat → Nat → Bool} (hs : s ≤ 1024) (hx : ∀ r c, X r c = true → r < s ∧ c < s) (hy : ∀ r c, Y r c = true → r < s ∧ c < s) : lessL (castL (cellsX X)) (castL (cellsX Y)) = castL (cellsX (lessX X Y)) := by
  refine up_unique (List.Pairwise.filter _ (cells_up X)) (cells_up _) fun p => ?_
  unfold lessL
  rw [List.mem_filter, cast_mem hs hx, cast_mem hs (less_in hx), cast_at hs hy]
  unfold lessX
  rw [Bool.and_eq_true]
  constructor
  · rintro ⟨⟨h1, h2, h3⟩, h4⟩
    refine ⟨h1, h2, h3, ?_⟩
    rw [decide_eq_true h1, decide_eq_true h2, Bool.true_and, Bool.true_and] at h4
    exact h4
  · rintro ⟨h1, h2, h3, h4⟩
    refine ⟨⟨h1, h2, h3⟩, ?_⟩
    rw [decide_eq_true h1, decide_eq_true h2, Bool.true_and, Bool.true_and]
    exact h4
theorem lessL_step {la lb : List Cl} {k : Nat} {x : Cl} (hx : la[k]? = some x) : lessL (la.take (k + 1)) lb = if decide (x ∈ lb) then lessL (la.take k) lb else lessL (la.take k) lb ++ [x] := by
  unfold lessL
  rw [List.take_add_one, hx, Option.toList_some, List.filter_append]
  cases h : decide (x ∈ lb) with
  | true => rw [List.filter_cons_of_neg (by rw [h]; simp), List.filter_nil, List.append_nil]; rfl
  | false => rw [List.filter_cons_of_pos (by rw [h]; rfl), List.filter_nil]; rfl
theorem lessL_len (la lb : List Cl) (k : Nat) : (lessL (la.take k) lb).length ≤ k := by
  unfold lessL
  exact Nat.le_trans (List.length_filter_le _ _) (by rw [List.length_take]; omega)
theorem G.ownV {P : Program} {c : Cx} {C : Code} {K : Kont} {L : Env} {H F : List HP} {el : TypeId} {sz n : Nat} {v : Value} {xs : List Value} (tk : Tk (own el sz n v xs) H F) (k : ∀ (a : Option Addr) (cap : Nat), v = .slice a n cap → G P c C K L H) : G P c C K L H := by
  rintro a w ⟨h1, h2, ds, h3, h4, h5⟩
  obtain ⟨a', cap, e, _⟩ := own_sl (sat_perm (List.Perm.append_right _ tk) h5)
  exact k a' cap e a w ⟨h1, h2, ds, h3, h4, h5⟩
attribute [local irreducible] G GO GR GT Fn FnV pt init exs pur sat own ImpS mat posL allV orL restX cellsX cellsV lines lessX lessL plc
set_option maxHeartbeats 4000000 in
theorem rHas_spec (z : HP) (r : Value) (s : Nat) (X : Nat → Nat → Bool) (hr : RefO z r (some (s, X))) (hs : s ≤ 1024) (hx : ∀ r c, X r c = true → r < s ∧ c < s) (i j : Int) :
    Fn Tryd.prog 60 #[r, i64 i, i64 j] [z] (fun v Q => v = .bool (decide (0 ≤ i) && decide (0 ≤ j) && X i.toNat j.toNat) ∧ Q = [z]) := by
  have hat := cast_at hs hx i j
  obtain ⟨va, rfl, honea, hsl⟩ := hr
  have hl := cast_small X
  have hp := place_spec z va (castL (cellsX X)) (i, j) hsl.slR (cells_up X) (by omega)
  rw [hat] at hp
  change Fn _ _ #[refV s va, _, _] _ _
  refine Fn.mk2 Tryd.func60 rfl rfl fun w0 F => ?_
  (refine G.seq ?_; refine G.region ?_; refine GO.box rfl rfl rfl fun b3 => ?_; refine GO.assign rfl rfl ?_; refine GO.nil ?_; refine kthen_n ?_; refine G.seq ?_; refine G.region ?_; refine GO.fieldAddr rfl rfl ?_; refine GO.load1 rfl rfl rfl Tk.h rfl ?_; refine GO.move rfl rfl ?_; refine GO.move rfl rfl ?_; refine GO.build2 rfl rfl rfl rfl ?_)
  refine GO.call2 rfl rfl rfl (hp) (Tks.c (Tk.t Tk.h) Tks.n) ?_
  rintro _ _ ⟨rfl, rfl⟩
  (refine GO.move rfl rfl ?_; refine GO.extract rfl rfl rfl ?_; refine GO.extract rfl rfl rfl ?_; refine GO.assign rfl rfl ?_; refine GO.assign rfl rfl ?_; refine GO.nil ?_; refine kthen_n ?_; refine G.seq ?_; refine G.region ?_; refine GO.move rfl rfl ?_; refine GO.assign rfl rfl ?_; refine GO.nil ?_; refine kthen_n ?_; refine G.ret ?_)
  refine KF2.r1 rfl (RV.t rfl) ⟨rfl, rfl⟩ (ImpS.sb ?_)
  ((refine Sb.c Tk.h ?_); (refine Sb.s ?_; exact Sb.r))
set_option maxHeartbeats 8000000 in
theorem rLess_core (z : HP) (ra rb : Value) (s : Nat) (X Y : Nat → Nat → Bool) (hra : RefO z ra (some (s, X))) (hrb : RefO z rb (some (s, Y))) (hs : 1 ≤ s ∧ s ≤ 1024) (hx : ∀ r c, X r c = true → r < s ∧ c < s) (hy : ∀ r c, Y r c = true → r < s ∧ c < s) :
    Fn Tryd.prog 26 #[ra, rb] [z] (fun r Q => ∃ v, r = .tuple #[refV s v, i64 0] ∧ Q = [own 34 2 (castL (cellsX (lessX X Y))).length v (cellsV (castL (cellsX (lessX X Y)))), z]) := by
  have hcells := less_cells hs.2 hx hy
  have hl1 := cast_small X
  have hl2 := cast_small Y
  obtain ⟨va, rfl, honea, hsla⟩ := hra
  obtain ⟨vb, rfl, honeb, hslb⟩ := hrb
  have hpr := rpair_spec s s va vb honea honeb
  rw [pairE_same hs.1] at hpr
  have hpl := fun c : Cl => place_spec z vb (castL (cellsX Y)) c hslb.slR (cells_up Y) (by omega)
  change Fn _ _ #[refV s va, refV s vb] _ _
  obtain ⟨aa, capa, rfl, _, hra⟩ := hsla.slR
  obtain ⟨ab, capb, rfl, _, hrb⟩ := hslb.slR
  dsimp only [setO] at *
  rw [← hcells]
  generalize castL (cellsX X) = la at *
  generalize castL (cellsX Y) = lb at *
  refine Fn.mk2 Tryd.func26 rfl rfl fun w0 F => ?_
  refine G.ownNil (T := 34) (sz := 2) ?_
  (refine G.seq ?_; refine G.region ?_; refine GO.box rfl rfl rfl fun b2 => ?_; refine GO.box rfl rfl rfl fun b3 => ?_; refine GO.alloc rfl fun b4 => ?_; refine GO.assign rfl rfl ?_; refine GO.nil ?_; refine kthen_n ?_; refine G.seq ?_; refine G.region ?_; refine GO.loadW rfl rfl rfl (Tk.t (Tk.t Tk.h)) rfl ?_; refine GO.loadW rfl rfl rfl (Tk.t Tk.h) rfl ?_)
  refine GO.call2 rfl rfl rfl (hpr) Tks.n ?_
  rintro _ _ ⟨rfl, rfl⟩
  (refine GO.assign rfl rfl ?_; refine GO.nil ?_; refine kthen_n ?_; refine G.seq ?_; refine G.seq ?_; refine G.region ?_; refine GO.move rfl rfl ?_; refine GO.neF rfl rfl rfl rfl ?_; refine GO.nil ?_; refine kthen_n ?_; refine G.condF rfl rfl ?_; refine G.skip ?_; refine kthen_n ?_; refine G.seq ?_; refine G.region ?_; refine GO.assign rfl rfl ?_; refine GO.nil ?_; refine kthen_n ?_; refine G.seq ?_; refine G.seq ?_; refine G.region ?_; refine GO.assign rfl rfl ?_; refine GO.nil ?_; refine kthen_n ?_; refine G.block ?_)
  refine G.loop2 (fun (k : Nat) (v : Value) => [(2, ptrV b2), (3, ptrV b3), (4, ptrV b4), (7, v), (8, i64 (k : Nat))])
    (fun k v => own 34 2 (lessL (la.take k) lb).length v (cellsV (lessL (la.take k) lb)) :: pt b2 (row [i64 (s : Nat), .slice aa la.length capa] 52) :: pt b3 (row [i64 (s : Nat), .slice ab lb.length capb] 52) :: pt b4 (row [i64 0, .slice none 0 0] 52) :: z :: F)
    (fun k _ => k ≤ la.length) (fun k _ => la.length - k) 0 (.slice none 0 0) (Nat.zero_le _) ?_ ?_ ?_
  · (refine SubE.c rfl rfl ?_; refine SubE.c rfl rfl ?_; refine SubE.c rfl rfl ?_; refine SubE.c rfl rfl ?_; refine SubE.c rfl rfl ?_; exact SubE.n)
  · rw [show lessL (la.take 0) lb = [] by unfold lessL; rfl, show cellsV [] = [] by unfold cellsV; rfl]
    ((refine Sb.c (Tk.t (Tk.t (Tk.t Tk.h))) ?_; refine Sb.c (Tk.t (Tk.t Tk.h)) ?_; refine Sb.c (Tk.t Tk.h) ?_; refine Sb.c Tk.h ?_; refine Sb.c Tk.h ?_); (exact Sb.r))
  rintro k v hk
  (refine G.seq ?_; refine G.seq ?_; refine G.region ?_; refine GO.move rfl rfl ?_; refine GO.fieldAddr rfl rfl ?_; refine GO.load1 rfl rfl rfl (Tk.t Tk.h) rfl ?_; refine GO.lenS rfl rfl ?_; refine GO.lti rfl rfl rfl ?_; refine GO.nil ?_; refine kthen_n ?_)
  refine G.condD rfl (fun hlt => ?_) (fun hge => ?_)
  · have hkl : k < la.length := by omega
    obtain ⟨x, hxk⟩ : ∃ x, la[k]? = some x := ⟨_, List.getElem?_eq_getElem hkl⟩
    have hstep := lessL_step (lb := lb) hxk
    have hlen := lessL_len la lb k
    obtain ⟨ba, oa, rfl, hrx⟩ := hra (by omega)
    have r1 : Rd z ⟨ba, oa + k * 2, none⟩ (i64 x.1) := hrx _ _ (cellsV_get hxk).1
    have r2 : Rd z ⟨ba, oa + k * 2 + 1, none⟩ (i64 x.2) := hrx _ _ (cellsV_get hxk).2
    have hpx := hpl x
    (refine G.skip ?_; refine kthen_n ?_; refine G.seq ?_; refine G.block ?_; refine G.seq ?_)
    refine G.draw 13 (by kernel_rfl) ?_
    ((apply GQ.step; focus (intro Z; refine GO.fieldAddr rfl rfl ?_; exact KQ.z)); (apply GQ.step; focus (intro Z; refine GO.load1 rfl rfl rfl (Tk.t (Tk.t Tk.h)) rfl ?_; exact KQ.z)); (apply GQ.step; focus (intro Z; refine GO.fieldAddr rfl rfl ?_; exact KQ.z)); (apply GQ.step; focus (intro Z; refine GO.load1 rfl rfl rfl (Tk.t Tk.h) rfl ?_; exact KQ.z)); (apply GQ.step; focus (intro Z; refine GO.move rfl rfl ?_; exact KQ.z)); (apply GQ.step; focus (intro Z; refine GO.idxS rfl rfl rfl ⟨rfl, by omega⟩ ?_; exact KQ.z)); (apply GQ.step; focus (intro Z; refine GO.load2 rfl rfl rfl (Tk.t (Tk.t (Tk.t (Tk.t Tk.h)))) (by assumption) (by assumption) ?_; exact KQ.z)))
    apply GQ.step; focus (intro Z; refine GO.call2 rfl rfl rfl (hpx) (Tks.c (Tk.t (Tk.t (Tk.t (Tk.t Tk.h)))) Tks.n) ?_; rintro _ _ ⟨rfl, rfl⟩; refine GO.nil (KQ.s ?_); ((refine Sb.c (Tk.t Tk.h) ?_; refine Sb.c (Tk.t Tk.h) ?_; refine Sb.c (Tk.t Tk.h) ?_; refine Sb.c (Tk.t Tk.h) ?_; refine Sb.c Tk.h ?_); (exact Sb.r)))
    ((apply GQ.step; focus (intro Z; refine GO.move rfl rfl ?_; exact KQ.z)); (apply GQ.step; focus (intro Z; refine GO.extract rfl rfl rfl ?_; exact KQ.z)); (apply GQ.step; focus (intro Z; refine GO.extract rfl rfl rfl ?_; exact KQ.z)); (apply GQ.step; focus (intro Z; refine GO.assign rfl rfl ?_; exact KQ.z)); (apply GQ.step; focus (intro Z; refine GO.assign rfl rfl ?_; exact KQ.z)); refine GQ.nil ?_)
    cases hin : decide (x ∈ lb) with
    | true =>
      rw [hin, if_pos rfl] at hstep
      (refine GO.nil ?_; refine kthen_n ?_; refine G.seq ?_; refine G.region ?_; refine GO.move rfl rfl ?_; refine GO.not rfl rfl ?_; refine GO.nil ?_; refine kthen_n ?_; refine G.condF rfl rfl ?_; refine G.skip ?_; refine kblock_n ?_; refine kthen_n ?_; refine G.region ?_; refine GO.move rfl rfl ?_; refine GO.addi rfl rfl rfl (by omega) ?_; refine GO.assign rfl rfl ?_; refine GO.nil ?_; refine kthen_n ?_)
      refine ⟨k + 1, v, by omega, by omega, ?_, ?_⟩
      · (refine SubE.c rfl rfl ?_; refine SubE.c rfl rfl ?_; refine SubE.c rfl rfl ?_; refine SubE.c rfl rfl ?_; refine SubE.c rfl rfl ?_; exact SubE.n)
      · rw [hstep]
        ((refine Sb.c Tk.h ?_; refine Sb.c Tk.h ?_; refine Sb.c Tk.h ?_; refine Sb.c Tk.h ?_; refine Sb.c Tk.h ?_); (exact Sb.r))
    | false =>
      rw [hin, if_neg (by simp)] at hstep
      (refine GO.nil ?_; refine kthen_n ?_; refine G.seq ?_; refine G.region ?_; refine GO.move rfl rfl ?_; refine GO.not rfl rfl ?_; refine GO.nil ?_; refine kthen_n ?_; refine G.condT rfl rfl ?_; refine G.region ?_; refine GO.move rfl rfl ?_; refine GO.fieldAddr rfl rfl ?_; refine GO.load1 rfl rfl rfl (Tk.t Tk.h) rfl ?_; refine GO.move rfl rfl ?_; refine GO.idxS rfl rfl rfl ⟨rfl, by omega⟩ ?_; refine GO.load2 rfl rfl rfl (Tk.t (Tk.t (Tk.t (Tk.t Tk.h)))) (by assumption) (by assumption) ?_)
      refine GO.buildSlice1 rfl rfl (by simp; rfl) rfl ⟨by omega, by omega⟩ fun bs => ?_
      refine GO.appendOwn (m := 1) (news := [i64 x.1, i64 x.2]) rfl rfl rfl (Tk.t Tk.h) Tk.h rfl (by simp [Value.oneCell']) ⟨by decide, rfl⟩ Nat.one_pos (by unfold maxLen; omega) (by omega) fun v4 => ?_
      rw [cellsV_snoc, show (lessL (la.take k) lb).length + 1 = (lessL (la.take k) lb ++ [x]).length by rw [List.length_append]; rfl]
      (refine GO.assign rfl rfl ?_; refine GO.nil ?_; refine kblock_n ?_; refine kthen_n ?_; refine G.region ?_; refine GO.move rfl rfl ?_; refine GO.addi rfl rfl rfl (by omega) ?_; refine GO.assign rfl rfl ?_; refine GO.nil ?_; refine kthen_n ?_)
      refine ⟨k + 1, v4, by omega, by omega, ?_, ?_⟩
      · (refine SubE.c rfl rfl ?_; refine SubE.c rfl rfl ?_; refine SubE.c rfl rfl ?_; refine SubE.c rfl rfl ?_; refine SubE.c rfl rfl ?_; exact SubE.n)
      · rw [hstep]
        ((refine Sb.c Tk.h ?_; refine Sb.c (Tk.t Tk.h) ?_; refine Sb.c (Tk.t Tk.h) ?_; refine Sb.c (Tk.t Tk.h) ?_; refine Sb.c (Tk.t Tk.h) ?_); (refine Sb.s ?_; exact Sb.r))
  · obtain rfl : k = la.length := by omega
    rw [List.take_length]
    refine G.ownV Tk.h fun a9 cap9 hv9 => ?_
    subst hv9
    (refine G.exit ?_; refine kthen_x ?_; refine kthen_x ?_; refine kblock_x ?_; refine kthen_n ?_; refine G.seq ?_; refine G.region ?_; refine GO.fieldAddr rfl rfl ?_; refine GO.load1 rfl rfl rfl (Tk.t Tk.h) rfl ?_; refine GO.move rfl rfl ?_; refine GO.build2 rfl rfl rfl rfl ?_)
    rw [show ∀ n : Nat, (putParts [i64 (s : Nat), Value.slice a9 n cap9]).toArray = #[i64 (s : Nat), Value.slice a9 n cap9] from fun n => by simp [putParts, Value.cells]]
    (refine GO.storeW rfl rfl (Tk.t (Tk.t (Tk.t Tk.h))) ⟨rfl, rfl⟩ (by simp [Value.oneCell']) ?_; refine GO.assign rfl rfl ?_; refine GO.nil ?_; refine kthen_n ?_; refine G.ret ?_)
    refine KF2.r2 rfl (RV.cW (n := 2) rfl rfl (by (exact Tk.h)) rfl) (RV.t rfl) ⟨_, rfl, rfl⟩ (ImpS.sb ?_)
    ((refine Sb.c (Tk.t Tk.h) ?_; refine Sb.c (Tk.t (Tk.t (Tk.t Tk.h))) ?_); (refine Sb.s ?_; refine Sb.s ?_; refine Sb.s ?_; exact Sb.r))
theorem rLess_same (z : HP) (ra rb : Value) (s : Nat) (X Y : Nat → Nat → Bool) (hra : RefO z ra (some (s, X))) (hrb : RefO z rb (some (s, Y))) (hs : 1 ≤ s ∧ s ≤ 1024) (hx : ∀ r c, X r c = true → r < s ∧ c < s) (hy : ∀ r c, Y r c = true → r < s ∧ c < s) :
    Fn Tryd.prog 26 #[ra, rb] [z] (fun r Q => ∃ v p, r = .tuple #[refV s v, i64 0] ∧ v.oneCell' = true ∧ RefO p (refV s v) (some (s, lessX X Y)) ∧ Q = [p, z]) := by
  have h := rLess_core z ra rb s X Y hra hrb hs hx hy
  unfold Fn at *
  intro F w hw
  refine (h F w hw).mono ?_
  rintro e w' ⟨v, Q, h1, h2, ⟨u, rfl, rfl⟩, d⟩
  have d1 := own_one d
  have d2 := own_slC d
  exact ⟨_, _, h1, h2, ⟨u, _, rfl, d1, RefO.own d1 d2, rfl⟩, d⟩
end
section
attribute [local irreducible] G GO GR GT GW Fn FnV pt init exs pur sat own ImpS mat posL allV orL restX cellsX cellsV natsV rowX lines lessX lessL plc uniX
end
section
def wrO (s : Nat) (i j : Int) : Int := if s = 0 then 1 else wrK s i j
theorem uni_add (C : Nat → Nat → Bool) (i j : Nat) : uniX C (addX noX i j) = addX C i j := by
  funext r c
  unfold uniX addX noX
  rw [Bool.false_or]
theorem one_cells (i j : Nat) (hi : i < 1024) (hj : j < 1024) : castL (cellsX (addX noX i j)) = [(((i : Nat) : Int), ((j : Nat) : Int))] := by
  have hin : ∀ r c, addX noX i j r c = true → r < 1024 ∧ c < 1024 := fun r c h => by
    unfold addX noX at h
    simp only [Bool.false_or, Bool.and_eq_true, decide_eq_true_eq] at h
    omega
  have e : cellsX (addX noX i j) = [(i, j)] := by
    refine strict_unique (R := fun a b : Nat × Nat => ltC ((a.1 : Int), (a.2 : Int)) ((b.1 : Int), (b.2 : Int)) = true) (fun _ _ h => ltC_asymm h) (cells_pairs _) (List.pairwise_singleton _ _) fun p => ?_
    rw [cellsX_iff (by decide) hin, List.mem_singleton]
    unfold addX noX
    simp only [Bool.false_or, Bool.and_eq_true, decide_eq_true_eq]
    constructor
    · intro h; exact Prod.ext h.1 h.2
    · rintro rfl; exact ⟨rfl, rfl⟩
  rw [e]; rfl
theorem RefO.single (b s i j : Nat) (hi : i < 1024) (hj : j < 1024) : RefO (pt b (row [i64 (i : Nat), i64 (j : Nat)] 34)) (refV s (.slice (some ⟨b, 0, none⟩) 1 1)) (some (s, addX noX i j)) := by
  have e := one_cells i j hi hj
  refine ⟨.slice (some ⟨b, 0, none⟩) 1 1, rfl, rfl, some ⟨b, 0, none⟩, 1, ?_, ?_, ?_⟩
  · show Value.slice _ 1 1 = .slice _ (castL (cellsX (addX noX i j))).length 1
    rw [e]; rfl
  · show (castL (cellsX (addX noX i j))).length ≤ 1
    rw [e]; exact Nat.le_refl _
  · intro _
    refine ⟨b, 0, rfl, fun k u hk => ?_⟩
    change (cellsV (castL (cellsX (addX noX i j))))[k]? = some u at hk
    rw [e] at hk
    exact Rd.row (by rw [Nat.zero_add]; exact hk)
attribute [local irreducible] G GO GR GT GW Fn FnV pt init exs pur sat own ImpS mat posL allV orL restX cellsX cellsV natsV rowX lines lessX lessL plc uniX
set_option maxHeartbeats 4000000 in
theorem refWrong2 (s : Nat) (i j : Int) (v : Value) (hv : v.oneCell' = true) : Fn Tryd.prog 59 #[refV s v, i64 i, i64 j] [] (fun r Q => r = i64 (wrO s i j) ∧ Q = []) := by
  unfold wrO
  by_cases h0 : s = 0
  · have d0 : decide (((s : Nat) : Int) = 0) = true := decide_eq_true (by omega)
    rw [if_pos h0]
    refine Fn.mk2 Tryd.func59 rfl rfl fun w0 F => ?_
    (refine G.seq ?_; refine G.region ?_; refine GO.box rfl rfl rfl fun b3 => ?_; refine GO.assign rfl rfl ?_; refine GO.nil ?_; refine kthen_n ?_; refine G.seq ?_; refine G.seq ?_; refine G.region ?_; refine GO.fieldAddr rfl rfl ?_; refine GO.load1 rfl rfl rfl Tk.h rfl ?_; refine GO.eqi rfl rfl rfl ?_; refine GO.nil ?_; refine kthen_n ?_; refine G.condT rfl (by assumption) ?_; refine G.seq ?_; refine G.region ?_; refine GO.assign rfl rfl ?_; refine GO.nil ?_; refine kthen_n ?_; refine G.ret ?_; refine kthen_r ?_)
    refine KF2.r1 rfl (RV.t rfl) ⟨rfl, rfl⟩ (ImpS.sb ?_)
    (skip; (refine Sb.s ?_; exact Sb.r))
  have d0 : decide (((s : Nat) : Int) = 0) = false := decide_eq_false (by omega)
  have s1 := refIn_spec s i v hv
  have s2 := refIn_spec s j v hv
  rw [if_neg h0]
  have hm := inM_inS s i j
  cases hi : inS s i with
  | false =>
    rw [hi] at s1 hm
    rw [wrK_f (by rw [hm, Bool.false_and])]
    refine Fn.mk2 Tryd.func59 rfl rfl fun w0 F => ?_
    (refine G.seq ?_; refine G.region ?_; refine GO.box rfl rfl rfl fun b3 => ?_; refine GO.assign rfl rfl ?_; refine GO.nil ?_; refine kthen_n ?_; refine G.seq ?_; refine G.seq ?_; refine G.region ?_; refine GO.fieldAddr rfl rfl ?_; refine GO.load1 rfl rfl rfl Tk.h rfl ?_; refine GO.eqi rfl rfl rfl ?_; refine GO.nil ?_; refine kthen_n ?_; refine G.condF rfl (by assumption) ?_; refine G.skip ?_; refine kthen_n ?_; refine G.seq ?_; refine G.seq ?_; refine G.region ?_; refine GO.loadW rfl rfl rfl Tk.h rfl ?_; refine GO.move rfl rfl ?_)
    refine GO.call2 rfl rfl rfl (s1) Tks.n ?_
    rintro _ _ ⟨rfl, rfl⟩
    (refine GO.not rfl rfl ?_; refine GO.move rfl rfl ?_; refine GO.gF rfl rfl rfl rfl ?_; refine GO.gF rfl rfl rfl rfl ?_; refine GO.gF rfl rfl rfl rfl ?_; refine GO.gF rfl rfl rfl rfl ?_; refine GO.pickT rfl rfl rfl ?_; refine GO.nil ?_; refine kthen_n ?_; refine G.condT rfl rfl ?_; refine G.seq ?_; refine G.region ?_; refine GO.assign rfl rfl ?_; refine GO.nil ?_; refine kthen_n ?_; refine G.ret ?_; refine kthen_r ?_)
    refine KF2.r1 rfl (RV.t rfl) ⟨rfl, rfl⟩ (ImpS.sb ?_)
    (skip; (refine Sb.s ?_; exact Sb.r))
  | true =>
    rw [hi] at s1 hm
    cases hj : inS s j with
    | false =>
      rw [hj] at s2 hm
      rw [wrK_f (by rw [hm, Bool.and_false])]
      refine Fn.mk2 Tryd.func59 rfl rfl fun w0 F => ?_
      (refine G.seq ?_; refine G.region ?_; refine GO.box rfl rfl rfl fun b3 => ?_; refine GO.assign rfl rfl ?_; refine GO.nil ?_; refine kthen_n ?_; refine G.seq ?_; refine G.seq ?_; refine G.region ?_; refine GO.fieldAddr rfl rfl ?_; refine GO.load1 rfl rfl rfl Tk.h rfl ?_; refine GO.eqi rfl rfl rfl ?_; refine GO.nil ?_; refine kthen_n ?_; refine G.condF rfl (by assumption) ?_; refine G.skip ?_; refine kthen_n ?_; refine G.seq ?_; refine G.seq ?_; refine G.region ?_; refine GO.loadW rfl rfl rfl Tk.h rfl ?_; refine GO.move rfl rfl ?_)
      refine GO.call2 rfl rfl rfl (s1) Tks.n ?_
      rintro _ _ ⟨rfl, rfl⟩
      (refine GO.not rfl rfl ?_; refine GO.move rfl rfl ?_; refine GO.gT rfl rfl rfl ?_; refine GO.loadW rfl rfl rfl Tk.h rfl ?_; refine GO.gT rfl rfl rfl ?_; refine GO.move rfl rfl ?_; refine GO.gT rfl rfl rfl ?_)
      refine GO.call2 rfl rfl rfl (s2) Tks.n ?_
      rintro _ _ ⟨rfl, rfl⟩
      (refine GO.gT rfl rfl rfl ?_; refine GO.not rfl rfl ?_; refine GO.pickF rfl rfl rfl ?_; refine GO.nil ?_; refine kthen_n ?_; refine G.condT rfl rfl ?_; refine G.seq ?_; refine G.region ?_; refine GO.assign rfl rfl ?_; refine GO.nil ?_; refine kthen_n ?_; refine G.ret ?_; refine kthen_r ?_)
      refine KF2.r1 rfl (RV.t rfl) ⟨rfl, rfl⟩ (ImpS.sb ?_)
      (skip; (refine Sb.s ?_; exact Sb.r))
    | true =>
      rw [hj] at s2 hm
      rw [wrK_t (by rw [hm, Bool.and_true])]
      refine Fn.mk2 Tryd.func59 rfl rfl fun w0 F => ?_
      (refine G.seq ?_; refine G.region ?_; refine GO.box rfl rfl rfl fun b3 => ?_; refine GO.assign rfl rfl ?_; refine GO.nil ?_; refine kthen_n ?_; refine G.seq ?_; refine G.seq ?_; refine G.region ?_; refine GO.fieldAddr rfl rfl ?_; refine GO.load1 rfl rfl rfl Tk.h rfl ?_; refine GO.eqi rfl rfl rfl ?_; refine GO.nil ?_; refine kthen_n ?_; refine G.condF rfl (by assumption) ?_; refine G.skip ?_; refine kthen_n ?_; refine G.seq ?_; refine G.seq ?_; refine G.region ?_; refine GO.loadW rfl rfl rfl Tk.h rfl ?_; refine GO.move rfl rfl ?_)
      refine GO.call2 rfl rfl rfl (s1) Tks.n ?_
      rintro _ _ ⟨rfl, rfl⟩
      (refine GO.not rfl rfl ?_; refine GO.move rfl rfl ?_; refine GO.gT rfl rfl rfl ?_; refine GO.loadW rfl rfl rfl Tk.h rfl ?_; refine GO.gT rfl rfl rfl ?_; refine GO.move rfl rfl ?_; refine GO.gT rfl rfl rfl ?_)
      refine GO.call2 rfl rfl rfl (s2) Tks.n ?_
      rintro _ _ ⟨rfl, rfl⟩
      (refine GO.gT rfl rfl rfl ?_; refine GO.not rfl rfl ?_; refine GO.pickF rfl rfl rfl ?_; refine GO.nil ?_; refine kthen_n ?_; refine G.condF rfl rfl ?_; refine G.skip ?_; refine kthen_n ?_; refine G.seq ?_; refine G.region ?_; refine GO.assign rfl rfl ?_; refine GO.nil ?_; refine kthen_n ?_; refine G.ret ?_)
      refine KF2.r1 rfl (RV.t rfl) ⟨rfl, rfl⟩ (ImpS.sb ?_)
      (skip; (refine Sb.s ?_; exact Sb.r))
end
section
def addS (o : OptM) (i j : Int) : OptM := if wrO (sideO o) i j = 0 then some (sideO o, addX (setO o) i.toNat j.toNat) else o
theorem wrO_zero {s : Nat} {i j : Int} (h : wrO s i j = 0) : s ≠ 0 ∧ ∃ m n : Nat, i = m ∧ j = n ∧ m < s ∧ n < s := by
  unfold wrO at h
  split at h
  · cases h
  · rename_i h0
    unfold wrK at h
    split at h
    · rename_i h1
      obtain ⟨m, n, rfl, rfl, h3, h4⟩ := inM_at h1
      exact ⟨h0, m, n, rfl, rfl, h3, h4⟩
    · cases h
attribute [local irreducible] G GO GR GT Fn FnV pt init exs pur sat own ImpS mat posL allV orL restX cellsX cellsV cntX
end
end Go.Proofs.YtfoahdfflchidaaDoor
namespace Go.Proofs.YtfoahdfflchidaaDoor
open Go
theorem Fn.nilF {P : Program} {f : FuncId} {args : Array Value} {S : Value → Prop} (p : HP) (h : Fn P f args [] (fun r Q => S r ∧ Q = [])) : Fn P f args [p] (fun r Q => S r ∧ Q = [p]) :=
  (Fn.frame h [p]).mono fun r Q h => by obtain ⟨Q', ⟨h1, rfl⟩, rfl⟩ := h; exact ⟨h1, rfl⟩
attribute [local irreducible] G GO GR GT Fn FnV pt init exs pur sat own ImpS mat posL allV orL restX cellsX cellsV cntX lessX uniX
theorem get_nil (i j : Int) : Fn Tryd.prog 18 #[.pointer none, i64 i, i64 j] [] (fun r Q => r = .tuple #[.bool false, i64 1] ∧ Q = []) := by
  refine Fn.mk2 Tryd.func18 rfl rfl fun w0 F => ?_
  (refine G.seq ?_; refine G.region ?_; refine GO.assign rfl rfl ?_; refine GO.assign rfl rfl ?_; refine GO.nil ?_; refine kthen_n ?_; refine G.seq ?_; refine G.block ?_; refine G.seq ?_; refine G.region ?_; refine GO.move rfl rfl ?_)
  refine GO.call1 rfl rfl (is_nil) Tks.n ?_
  rintro _ _ ⟨rfl, rfl⟩
  (refine GO.not rfl rfl ?_; refine GO.assign rfl rfl ?_; refine GO.nil ?_; refine kthen_n ?_; refine G.condT rfl rfl ?_; refine G.seq ?_; refine G.region ?_; refine GO.assign rfl rfl ?_; refine GO.assign rfl rfl ?_; refine GO.nil ?_; refine kthen_n ?_; refine G.ret ?_; refine kblock_r ?_; refine kthen_r ?_)
  refine KF2.r2 rfl (RV.t rfl) (RV.t rfl) ⟨rfl, rfl⟩ (ImpS.sb ?_)
  (skip; (exact Sb.r))
theorem set_nil (i j : Int) : Fn Tryd.prog 30 #[.pointer none, i64 i, i64 j] [] (fun r Q => r = .tuple #[.bool false, i64 1] ∧ Q = []) := by
  refine Fn.mk2 Tryd.func30 rfl rfl fun w0 F => ?_
  (refine G.seq ?_; refine G.region ?_; refine GO.assign rfl rfl ?_; refine GO.assign rfl rfl ?_; refine GO.nil ?_; refine kthen_n ?_; refine G.seq ?_; refine G.region ?_; refine GO.move rfl rfl ?_; refine GO.move rfl rfl ?_; refine GO.move rfl rfl ?_)
  refine GO.call3 rfl rfl rfl rfl (get_nil i j) Tks.n ?_
  rintro _ _ ⟨rfl, rfl⟩
  (refine GO.move rfl rfl ?_; refine GO.extract rfl rfl rfl ?_; refine GO.extract rfl rfl rfl ?_; refine GO.assign rfl rfl ?_; refine GO.assign rfl rfl ?_; refine GO.nil ?_; refine kthen_n ?_; refine G.seq ?_; refine G.seq ?_; refine G.region ?_; refine GO.move rfl rfl ?_; refine GO.nei rfl rfl rfl ?_; refine GO.move rfl rfl ?_; refine GO.gF rfl rfl rfl rfl ?_; refine GO.pickT rfl rfl rfl ?_; refine GO.nil ?_; refine kthen_n ?_; refine G.condT rfl rfl ?_; refine G.seq ?_; refine G.region ?_; refine GO.move rfl rfl ?_; refine GO.assign rfl rfl ?_; refine GO.assign rfl rfl ?_; refine GO.nil ?_; refine kthen_n ?_; refine G.ret ?_; refine kthen_r ?_)
  refine KF2.r2 rfl (RV.t rfl) (RV.t rfl) ⟨rfl, rfl⟩ (ImpS.sb ?_)
  (skip; (exact Sb.r))
theorem row_nil (i : Int) : Fn Tryd.prog 12 #[.pointer none, i64 i] [] (fun r Q => r = .tuple #[.slice none 0 0, i64 1] ∧ Q = []) := by
  refine Fn.mk2 Tryd.func12 rfl rfl fun w0 F => ?_
  (refine G.seq ?_; refine G.region ?_; refine GO.assign rfl rfl ?_; refine GO.assign rfl rfl ?_; refine GO.nil ?_; refine kthen_n ?_; refine G.seq ?_; refine G.block ?_; refine G.seq ?_; refine G.region ?_; refine GO.move rfl rfl ?_)
  refine GO.call1 rfl rfl (is_nil) Tks.n ?_
  rintro _ _ ⟨rfl, rfl⟩
  (refine GO.not rfl rfl ?_; refine GO.assign rfl rfl ?_; refine GO.nil ?_; refine kthen_n ?_; refine G.condT rfl rfl ?_; refine G.seq ?_; refine G.region ?_; refine GO.assign rfl rfl ?_; refine GO.assign rfl rfl ?_; refine GO.nil ?_; refine kthen_n ?_; refine G.ret ?_; refine kblock_r ?_; refine kthen_r ?_)
  refine KF2.r2 rfl (RV.t rfl) (RV.t rfl) ⟨rfl, rfl⟩ (ImpS.sb ?_)
  (skip; (exact Sb.r))
theorem copy_nil : Fn Tryd.prog 19 #[.pointer none] [] (fun r Q => r = .pointer none ∧ Q = []) := by
  refine Fn.mk2 Tryd.func19 rfl rfl fun w0 F => ?_
  (refine G.seq ?_; refine G.region ?_; refine GO.assign rfl rfl ?_; refine GO.nil ?_; refine kthen_n ?_; refine G.seq ?_; refine G.seq ?_; refine G.region ?_; refine GO.move rfl rfl ?_)
  refine GO.call1 rfl rfl (is_nil) Tks.n ?_
  rintro _ _ ⟨rfl, rfl⟩
  (refine GO.not rfl rfl ?_; refine GO.nil ?_; refine kthen_n ?_; refine G.condT rfl rfl ?_; refine G.seq ?_; refine G.region ?_; refine GO.assign rfl rfl ?_; refine GO.nil ?_; refine kthen_n ?_; refine G.ret ?_; refine kthen_r ?_)
  refine KF2.r1 rfl (RV.t rfl) ⟨rfl, rfl⟩ (ImpS.sb ?_)
  (skip; (exact Sb.r))
theorem turn_nil : Fn Tryd.prog 16 #[.pointer none] [] (fun r Q => r = .pointer none ∧ Q = []) := by
  refine Fn.mk2 Tryd.func16 rfl rfl fun w0 F => ?_
  (refine G.seq ?_; refine G.region ?_; refine GO.assign rfl rfl ?_; refine GO.nil ?_; refine kthen_n ?_; refine G.seq ?_; refine G.seq ?_; refine G.region ?_; refine GO.move rfl rfl ?_)
  refine GO.call1 rfl rfl (is_nil) Tks.n ?_
  rintro _ _ ⟨rfl, rfl⟩
  (refine GO.not rfl rfl ?_; refine GO.nil ?_; refine kthen_n ?_; refine G.condT rfl rfl ?_; refine G.seq ?_; refine G.region ?_; refine GO.assign rfl rfl ?_; refine GO.nil ?_; refine kthen_n ?_; refine G.ret ?_; refine kthen_r ?_)
  refine KF2.r1 rfl (RV.t rfl) ⟨rfl, rfl⟩ (ImpS.sb ?_)
  (skip; (exact Sb.r))
theorem block_nil (i j : Int) : Fn Tryd.prog 48 #[.pointer none, i64 i, i64 j] [] (fun r Q => r = .tuple #[blk zeroB, i64 1] ∧ Q = []) := by
  refine Fn.mk2 Tryd.func48 rfl rfl fun w0 F => ?_
  (refine G.seq ?_; refine G.region ?_; refine GO.alloc rfl fun b6 => ?_; refine GO.assign rfl rfl ?_; refine GO.nil ?_; refine kthen_n ?_; refine G.seq ?_; refine G.block ?_; refine G.seq ?_; refine G.region ?_; refine GO.move rfl rfl ?_)
  refine GO.call1 rfl rfl (is_nil) Tks.n ?_
  rintro _ _ ⟨rfl, rfl⟩
  (refine GO.not rfl rfl ?_; refine GO.assign rfl rfl ?_; refine GO.nil ?_; refine kthen_n ?_; refine G.condT rfl rfl ?_; refine G.seq ?_; refine G.region ?_; refine GO.build0 rfl ?_; refine GO.storeW rfl rfl Tk.h ⟨rfl, rfl⟩ (by simp [Value.oneCell']) ?_; refine GO.assign rfl rfl ?_; refine GO.nil ?_; refine kthen_n ?_; refine G.ret ?_; refine kblock_r ?_; refine kthen_r ?_)
  rw [cells_zero]
  skip
  refine KF2.r2 rfl (RV.cW rfl rfl (by (exact Tk.h)) (cells_len _)) (RV.t rfl) ⟨rfl, rfl⟩ (ImpS.sb ?_)
  (skip; (refine Sb.s ?_; exact Sb.r))
theorem put_nil (i j : Int) (B : Blk) : Fn Tryd.prog 57 #[.pointer none, i64 i, i64 j, blk B] [] (fun r Q => r = .tuple #[.bool false, i64 1] ∧ Q = []) := by
  refine Fn.mk2 Tryd.func57 rfl rfl fun w0 F => ?_
  (refine G.seq ?_; refine G.region ?_; refine GO.box rfl rfl rfl fun b7 => ?_; refine GO.assign rfl rfl ?_; refine GO.assign rfl rfl ?_; refine GO.nil ?_; refine kthen_n ?_; refine G.seq ?_; refine G.block ?_; refine G.seq ?_; refine G.region ?_; refine GO.move rfl rfl ?_)
  refine GO.call1 rfl rfl (is_nil) Tks.n ?_
  rintro _ _ ⟨rfl, rfl⟩
  (refine GO.not rfl rfl ?_; refine GO.assign rfl rfl ?_; refine GO.nil ?_; refine kthen_n ?_; refine G.condT rfl rfl ?_; refine G.seq ?_; refine G.region ?_; refine GO.assign rfl rfl ?_; refine GO.assign rfl rfl ?_; refine GO.nil ?_; refine kthen_n ?_; refine G.ret ?_; refine kblock_r ?_; refine kthen_r ?_)
  refine KF2.r2 rfl (RV.t rfl) (RV.t rfl) ⟨rfl, rfl⟩ (ImpS.sb ?_)
  (skip; (refine Sb.s ?_; exact Sb.r))
theorem join_nil1 (p : Option Addr) : Fn Tryd.prog 20 #[.pointer none, .pointer p] [] (fun r Q => r = .tuple #[.bool false, i64 1] ∧ Q = []) := by
  refine Fn.mk2 Tryd.func20 rfl rfl fun w0 F => ?_
  (refine G.seq ?_; refine G.region ?_; refine GO.assign rfl rfl ?_; refine GO.assign rfl rfl ?_; refine GO.nil ?_; refine kthen_n ?_; refine G.seq ?_; refine G.block ?_; refine G.seq ?_; refine G.region ?_; refine GO.move rfl rfl ?_)
  refine GO.call1 rfl rfl (is_nil) Tks.n ?_
  rintro _ _ ⟨rfl, rfl⟩
  (refine GO.not rfl rfl ?_; refine GO.move rfl rfl ?_; refine GO.gF rfl rfl rfl rfl ?_; refine GO.gF rfl rfl rfl rfl ?_; refine GO.gF rfl rfl rfl rfl ?_; refine GO.pickT rfl rfl rfl ?_; refine GO.assign rfl rfl ?_; refine GO.nil ?_; refine kthen_n ?_; refine G.condT rfl rfl ?_; refine G.seq ?_; refine G.region ?_; refine GO.assign rfl rfl ?_; refine GO.assign rfl rfl ?_; refine GO.nil ?_; refine kthen_n ?_; refine G.ret ?_; refine kblock_r ?_; refine kthen_r ?_)
  refine KF2.r2 rfl (RV.t rfl) (RV.t rfl) ⟨rfl, rfl⟩ (ImpS.sb ?_)
  (skip; (exact Sb.r))
theorem join_nil2 (s b : Nat) (X : Nat → Nat → Bool) : Fn Tryd.prog 20 #[ptrV b, .pointer none] [mat s X b] (fun r Q => r = .tuple #[.bool false, i64 1] ∧ Q = [mat s X b]) := by
  refine Fn.mk2 Tryd.func20 rfl rfl fun w0 F => ?_
  (refine G.seq ?_; refine G.region ?_; refine GO.assign rfl rfl ?_; refine GO.assign rfl rfl ?_; refine GO.nil ?_; refine kthen_n ?_; refine G.seq ?_; refine G.block ?_; refine G.seq ?_; refine G.region ?_; refine GO.move rfl rfl ?_)
  refine GO.call1 rfl rfl (is_mat s b X) (Tks.c Tk.h Tks.n) ?_
  rintro _ _ ⟨rfl, rfl⟩
  (refine GO.not rfl rfl ?_; refine GO.move rfl rfl ?_; refine GO.gT rfl rfl rfl ?_; refine GO.move rfl rfl ?_; refine GO.gT rfl rfl rfl ?_)
  refine GO.call1 rfl rfl (is_nil) Tks.n ?_
  rintro _ _ ⟨rfl, rfl⟩
  (refine GO.gT rfl rfl rfl ?_; refine GO.not rfl rfl ?_; refine GO.pickF rfl rfl rfl ?_; refine GO.assign rfl rfl ?_; refine GO.nil ?_; refine kthen_n ?_; refine G.condT rfl rfl ?_; refine G.seq ?_; refine G.region ?_; refine GO.assign rfl rfl ?_; refine GO.assign rfl rfl ?_; refine GO.nil ?_; refine kthen_n ?_; refine G.ret ?_; refine kblock_r ?_; refine kthen_r ?_)
  refine KF2.r2 rfl (RV.t rfl) (RV.t rfl) ⟨rfl, rfl⟩ (ImpS.sb ?_)
  ((refine Sb.c Tk.h ?_); (exact Sb.r))
theorem less_nil1 (p : Option Addr) : Fn Tryd.prog 21 #[.pointer none, .pointer p] [] (fun r Q => r = .tuple #[.pointer none, i64 1] ∧ Q = []) := by
  refine Fn.mk2 Tryd.func21 rfl rfl fun w0 F => ?_
  (refine G.seq ?_; refine G.region ?_; refine GO.box rfl rfl rfl fun b3 => ?_; refine GO.assign rfl rfl ?_; refine GO.assign rfl rfl ?_; refine GO.nil ?_; refine kthen_n ?_; refine G.seq ?_; refine G.block ?_; refine G.seq ?_; refine G.region ?_; refine GO.move rfl rfl ?_)
  refine GO.call1 rfl rfl (is_nil) Tks.n ?_
  rintro _ _ ⟨rfl, rfl⟩
  (refine GO.not rfl rfl ?_; refine GO.move rfl rfl ?_; refine GO.gF rfl rfl rfl rfl ?_; refine GO.gF rfl rfl rfl rfl ?_; refine GO.gF rfl rfl rfl rfl ?_; refine GO.pickT rfl rfl rfl ?_; refine GO.assign rfl rfl ?_; refine GO.nil ?_; refine kthen_n ?_; refine G.condT rfl rfl ?_; refine G.seq ?_; refine G.region ?_; refine GO.assign rfl rfl ?_; refine GO.assign rfl rfl ?_; refine GO.nil ?_; refine kthen_n ?_; refine G.ret ?_; refine kblock_r ?_; refine kthen_r ?_)
  refine KF2.r2 rfl (RV.t rfl) (RV.t rfl) ⟨rfl, rfl⟩ (ImpS.sb ?_)
  (skip; (refine Sb.s ?_; exact Sb.r))
theorem less_nil2 (s b : Nat) (X : Nat → Nat → Bool) : Fn Tryd.prog 21 #[ptrV b, .pointer none] [mat s X b] (fun r Q => r = .tuple #[.pointer none, i64 1] ∧ Q = [mat s X b]) := by
  refine Fn.mk2 Tryd.func21 rfl rfl fun w0 F => ?_
  (refine G.seq ?_; refine G.region ?_; refine GO.box rfl rfl rfl fun b3 => ?_; refine GO.assign rfl rfl ?_; refine GO.assign rfl rfl ?_; refine GO.nil ?_; refine kthen_n ?_; refine G.seq ?_; refine G.block ?_; refine G.seq ?_; refine G.region ?_; refine GO.move rfl rfl ?_)
  refine GO.call1 rfl rfl (is_mat s b X) (Tks.c (Tk.t Tk.h) Tks.n) ?_
  rintro _ _ ⟨rfl, rfl⟩
  (refine GO.not rfl rfl ?_; refine GO.move rfl rfl ?_; refine GO.gT rfl rfl rfl ?_; refine GO.load1 rfl rfl rfl (Tk.t Tk.h) rfl ?_; refine GO.gT rfl rfl rfl ?_)
  refine GO.call1 rfl rfl (is_nil) Tks.n ?_
  rintro _ _ ⟨rfl, rfl⟩
  (refine GO.gT rfl rfl rfl ?_; refine GO.not rfl rfl ?_; refine GO.pickF rfl rfl rfl ?_; refine GO.assign rfl rfl ?_; refine GO.nil ?_; refine kthen_n ?_; refine G.condT rfl rfl ?_; refine G.seq ?_; refine G.region ?_; refine GO.assign rfl rfl ?_; refine GO.assign rfl rfl ?_; refine GO.nil ?_; refine kthen_n ?_; refine G.ret ?_; refine kblock_r ?_; refine kthen_r ?_)
  refine KF2.r2 rfl (RV.t rfl) (RV.t rfl) ⟨rfl, rfl⟩ (ImpS.sb ?_)
  ((refine Sb.c Tk.h ?_); (refine Sb.s ?_; exact Sb.r))
theorem same_nil : Fn Tryd.prog 14 #[.pointer none, .pointer none] [] (fun r Q => r = .bool true ∧ Q = []) := by
  refine Fn.mk2 Tryd.func14 rfl rfl fun w0 F => ?_
  (refine G.seq ?_; refine G.region ?_; refine GO.assign rfl rfl ?_; refine GO.nil ?_; refine kthen_n ?_; refine G.seq ?_; refine G.seq ?_; refine G.region ?_; refine GO.move rfl rfl ?_)
  refine GO.call1 rfl rfl (is_nil) Tks.n ?_
  rintro _ _ ⟨rfl, rfl⟩
  (refine GO.not rfl rfl ?_; refine GO.move rfl rfl ?_; refine GO.gF rfl rfl rfl rfl ?_; refine GO.gF rfl rfl rfl rfl ?_; refine GO.gF rfl rfl rfl rfl ?_; refine GO.pickT rfl rfl rfl ?_; refine GO.nil ?_; refine kthen_n ?_; refine G.condT rfl rfl ?_; refine G.seq ?_; refine G.region ?_; refine GO.move rfl rfl ?_)
  refine GO.call1 rfl rfl (is_nil) Tks.n ?_
  rintro _ _ ⟨rfl, rfl⟩
  (refine GO.not rfl rfl ?_; refine GO.move rfl rfl ?_; refine GO.gT rfl rfl rfl ?_; refine GO.move rfl rfl ?_; refine GO.gT rfl rfl rfl ?_)
  refine GO.call1 rfl rfl (is_nil) Tks.n ?_
  rintro _ _ ⟨rfl, rfl⟩
  (refine GO.gT rfl rfl rfl ?_; refine GO.not rfl rfl ?_; refine GO.pickT rfl rfl rfl ?_; refine GO.assign rfl rfl ?_; refine GO.nil ?_; refine kthen_n ?_; refine G.ret ?_; refine kthen_r ?_)
  refine KF2.r1 rfl (RV.t rfl) ⟨rfl, rfl⟩ (ImpS.sb ?_)
  (skip; (exact Sb.r))
theorem same_nil1 (s b : Nat) (X : Nat → Nat → Bool) : Fn Tryd.prog 14 #[.pointer none, ptrV b] [mat s X b] (fun r Q => r = .bool false ∧ Q = [mat s X b]) := by
  refine Fn.mk2 Tryd.func14 rfl rfl fun w0 F => ?_
  (refine G.seq ?_; refine G.region ?_; refine GO.assign rfl rfl ?_; refine GO.nil ?_; refine kthen_n ?_; refine G.seq ?_; refine G.seq ?_; refine G.region ?_; refine GO.move rfl rfl ?_)
  refine GO.call1 rfl rfl (is_nil) Tks.n ?_
  rintro _ _ ⟨rfl, rfl⟩
  (refine GO.not rfl rfl ?_; refine GO.move rfl rfl ?_; refine GO.gF rfl rfl rfl rfl ?_; refine GO.gF rfl rfl rfl rfl ?_; refine GO.gF rfl rfl rfl rfl ?_; refine GO.pickT rfl rfl rfl ?_; refine GO.nil ?_; refine kthen_n ?_; refine G.condT rfl rfl ?_; refine G.seq ?_; refine G.region ?_; refine GO.move rfl rfl ?_)
  refine GO.call1 rfl rfl (is_nil) Tks.n ?_
  rintro _ _ ⟨rfl, rfl⟩
  (refine GO.not rfl rfl ?_; refine GO.move rfl rfl ?_; refine GO.gT rfl rfl rfl ?_; refine GO.move rfl rfl ?_; refine GO.gT rfl rfl rfl ?_)
  refine GO.call1 rfl rfl (is_mat s b X) (Tks.c Tk.h Tks.n) ?_
  rintro _ _ ⟨rfl, rfl⟩
  (refine GO.gT rfl rfl rfl ?_; refine GO.not rfl rfl ?_; refine GO.pickT rfl rfl rfl ?_; refine GO.assign rfl rfl ?_; refine GO.nil ?_; refine kthen_n ?_; refine G.ret ?_; refine kthen_r ?_)
  refine KF2.r1 rfl (RV.t rfl) ⟨rfl, rfl⟩ (ImpS.sb ?_)
  ((refine Sb.c Tk.h ?_); (exact Sb.r))
theorem same_nil2 (s b : Nat) (X : Nat → Nat → Bool) : Fn Tryd.prog 14 #[ptrV b, .pointer none] [mat s X b] (fun r Q => r = .bool false ∧ Q = [mat s X b]) := by
  refine Fn.mk2 Tryd.func14 rfl rfl fun w0 F => ?_
  (refine G.seq ?_; refine G.region ?_; refine GO.assign rfl rfl ?_; refine GO.nil ?_; refine kthen_n ?_; refine G.seq ?_; refine G.seq ?_; refine G.region ?_; refine GO.move rfl rfl ?_)
  refine GO.call1 rfl rfl (is_mat s b X) (Tks.c Tk.h Tks.n) ?_
  rintro _ _ ⟨rfl, rfl⟩
  (refine GO.not rfl rfl ?_; refine GO.move rfl rfl ?_; refine GO.gT rfl rfl rfl ?_; refine GO.move rfl rfl ?_; refine GO.gT rfl rfl rfl ?_)
  refine GO.call1 rfl rfl (is_nil) Tks.n ?_
  rintro _ _ ⟨rfl, rfl⟩
  (refine GO.gT rfl rfl rfl ?_; refine GO.not rfl rfl ?_; refine GO.pickF rfl rfl rfl ?_; refine GO.nil ?_; refine kthen_n ?_; refine G.condT rfl rfl ?_; refine G.seq ?_; refine G.region ?_; refine GO.move rfl rfl ?_)
  refine GO.call1 rfl rfl (is_mat s b X) (Tks.c Tk.h Tks.n) ?_
  rintro _ _ ⟨rfl, rfl⟩
  (refine GO.not rfl rfl ?_; refine GO.move rfl rfl ?_; refine GO.gF rfl rfl rfl rfl ?_; refine GO.gF rfl rfl rfl rfl ?_; refine GO.gF rfl rfl rfl rfl ?_; refine GO.pickF rfl rfl rfl ?_; refine GO.assign rfl rfl ?_; refine GO.nil ?_; refine kthen_n ?_; refine G.ret ?_; refine kthen_r ?_)
  refine KF2.r1 rfl (RV.t rfl) ⟨rfl, rfl⟩ (ImpS.sb ?_)
  ((refine Sb.c Tk.h ?_); (exact Sb.r))
end Go.Proofs.YtfoahdfflchidaaDoor
namespace Go.Proofs.YtfoahdfflchidaaDoor
open Go
theorem wrO_none (i j : Int) : wrO 0 i j = 1 := by unfold wrO; rw [if_pos rfl]
theorem wrO_in {s m n : Nat} (hs : 1 ≤ s) (hm : m < s) (hn : n < s) : wrO s (m : Nat) (n : Nat) = 0 := by
  unfold wrO; rw [if_neg (by omega), wrK_t (inM_nat hm hn)]
theorem wrO_out {s : Nat} (hs : 1 ≤ s) {i j : Int} (h : inM s i j = false) : wrO s i j = 2 := by
  unfold wrO; rw [if_neg (by omega), wrK_f h]
def hasG (o : OptM) (i j : Int) : Bool := decide (wrO (sideO o) i j = 0) && setO o i.toNat j.toNat
def newG (o : OptM) (i j : Int) : Bool := decide (wrO (sideO o) i j = 0) && !setO o i.toNat j.toNat
theorem hasG_in {s m n : Nat} (X : Nat → Nat → Bool) (hs : 1 ≤ s) (hm : m < s) (hn : n < s) : hasG (some (s, X)) m n = X m n := by
  unfold hasG
  rw [show sideO (some (s, X)) = s from rfl, wrO_in hs hm hn]; rfl
theorem newG_in {s m n : Nat} (X : Nat → Nat → Bool) (hs : 1 ≤ s) (hm : m < s) (hn : n < s) : newG (some (s, X)) m n = !X m n := by
  unfold newG
  rw [show sideO (some (s, X)) = s from rfl, wrO_in hs hm hn]; rfl
theorem hasG_no {o : OptM} {i j : Int} (h : wrO (sideO o) i j ≠ 0) : hasG o i j = false := by unfold hasG; rw [decide_eq_false h]; rfl
theorem newG_no {o : OptM} {i j : Int} (h : wrO (sideO o) i j ≠ 0) : newG o i j = false := by unfold newG; rw [decide_eq_false h]; rfl
theorem addS_in {s m n : Nat} (X : Nat → Nat → Bool) (hs : 1 ≤ s) (hm : m < s) (hn : n < s) : addS (some (s, X)) m n = some (s, addX X m n) := by
  unfold addS
  rw [show sideO (some (s, X)) = s from rfl, wrO_in hs hm hn]; rfl
theorem addS_no {o : OptM} {i j : Int} (h : wrO (sideO o) i j ≠ 0) : addS o i j = o := if_neg h
theorem addX_in {s m n : Nat} {X : Nat → Nat → Bool} (hx : ∀ r c, X r c = true → r < s ∧ c < s) (hm : m < s) (hn : n < s) : ∀ r c, addX X m n r c = true → r < s ∧ c < s := fun r c h => by
  unfold addX at h
  rcases Bool.or_eq_true _ _ ▸ h with h | h
  · exact hx r c h
  · simp only [Bool.and_eq_true, decide_eq_true_eq] at h
    omega
theorem wrO_cases (o : OptM) (wo : WfM o) (i j : Int) : (wrO (sideO o) i j ≠ 0) ∨ ∃ s X m n, o = some (s, X) ∧ i = (m : Nat) ∧ j = (n : Nat) ∧ m < s ∧ n < s ∧ 1 ≤ s ∧ s ≤ 1024 ∧ ∀ r c, X r c = true → r < s ∧ c < s := by
  by_cases h : wrO (sideO o) i j = 0
  · obtain ⟨h0, m, n, rfl, rfl, hm, hn⟩ := wrO_zero h
    cases o with
    | none => exact absurd rfl h0
    | some p => obtain ⟨s, X⟩ := p; exact .inr ⟨s, X, m, n, rfl, rfl, rfl, hm, hn, (wo s X rfl).1.1, (wo s X rfl).1.2, (wo s X rfl).2⟩
  · exact .inl h
theorem addS_wfM {o : OptM} (wo : WfM o) (i j : Int) : WfM (addS o i j) := by
  rcases wrO_cases o wo i j with h | ⟨s, X, m, n, rfl, rfl, rfl, hm, hn, h1, h2, hx⟩
  · rw [addS_no h]; exact wo
  · rw [addS_in X h1 hm hn]
    intro t Y e
    injection e with e
    injection e with e1 e2
    subst e1 e2
    exact ⟨⟨h1, h2⟩, addX_in hx hm hn⟩
theorem WfM.mk {s : Nat} {X : Nat → Nat → Bool} (h1 : 1 ≤ s) (h2 : s ≤ 1024) (hx : ∀ r c, X r c = true → r < s ∧ c < s) : WfM (some (s, X)) := by
  intro t Y e
  injection e with e
  injection e with e1 e2
  subst e1 e2
  exact ⟨⟨h1, h2⟩, hx⟩
attribute [local irreducible] G GO GR GT Fn FnV pt init exs pur sat own ImpS mat posL allV orL restX cellsX cellsV cntX lessX uniX
theorem getE (p : HP) (v : Value) (o : OptM) (wo : WfM o) (h : MatO p v o) (i j : Int) : Fn Tryd.prog 18 #[v, i64 i, i64 j] [p] (fun r Q => r = .tuple #[.bool (hasG o i j), i64 (wrO (sideO o) i j)] ∧ Q = [p]) := by
  rcases h with ⟨rfl, rfl⟩ | ⟨s, X, b, rfl, rfl, rfl⟩
  · rw [hasG_no (o := none) (by show wrO 0 i j ≠ 0; rw [wrO_none]; decide), show wrO (sideO none) i j = 1 from wrO_none i j]
    exact Fn.nilF p (get_nil i j)
  · refine (get_mat s b X i j).mono fun r Q hq => ?_
    obtain ⟨rfl, rfl⟩ := hq
    refine ⟨?_, rfl⟩
    have hs := (wo s X rfl).1.1
    unfold getM
    cases hin : inM s i j with
    | true =>
      obtain ⟨m, n, rfl, rfl, hm, hn⟩ := inM_at hin
      rw [if_pos rfl, hasG_in X hs hm hn, show wrO (sideO (some (s, X))) (m : Nat) (n : Nat) = 0 from wrO_in hs hm hn]; rfl
    | false =>
      have h2 : wrO (sideO (some (s, X))) i j = 2 := wrO_out hs hin
      rw [if_neg (by simp), hasG_no (o := some (s, X)) (by rw [h2]; decide), h2]
theorem setE (p : HP) (v : Value) (o : OptM) (wo : WfM o) (h : MatO p v o) (i j : Int) : Fn Tryd.prog 30 #[v, i64 i, i64 j] [p] (fun r Q => ∃ p', r = .tuple #[.bool (newG o i j), i64 (wrO (sideO o) i j)] ∧ MatO p' v (addS o i j) ∧ Q = [p']) := by
  rcases h with ⟨rfl, rfl⟩ | ⟨s, X, b, rfl, rfl, rfl⟩
  · have h0 : wrO (sideO none) i j ≠ 0 := by show wrO 0 i j ≠ 0; rw [wrO_none]; decide
    rw [newG_no (o := none) h0, addS_no (o := none) h0, show wrO (sideO none) i j = 1 from wrO_none i j]
    exact (Fn.nilF p (set_nil i j)).mono fun r Q hq => ⟨p, hq.1, MatO.nil p, hq.2⟩
  · have hs := (wo s X rfl).1
    refine (set_mat s b X i j hs.2).mono ?_
    rintro _ _ (⟨m, n, rfl, rfl, hm, hn, rfl, rfl⟩ | ⟨hin, rfl, rfl⟩)
    · refine ⟨_, ?_, ?_, rfl⟩
      · rw [newG_in X hs.1 hm hn, show wrO (sideO (some (s, X))) (m : Nat) (n : Nat) = 0 from wrO_in hs.1 hm hn]
      · rw [addS_in X hs.1 hm hn]
        exact MatO.one s b _
    · have h2 : wrO (sideO (some (s, X))) i j = 2 := wrO_out hs.1 hin
      have h0 : wrO (sideO (some (s, X))) i j ≠ 0 := by rw [h2]; decide
      exact ⟨_, by rw [newG_no h0, h2], by rw [addS_no h0]; exact MatO.one s b X, rfl⟩
theorem gridE_t {n : Nat} {l : List Cl} (h1 : 1 ≤ n) (h2 : n ≤ 1024) (h3 : inL n l = true) : gridE n l = 0 := by
  unfold gridE refOk
  rw [Int.toNat_natCast, h3, if_pos]
  simp only [Bool.and_true, Bool.not_eq_true', Bool.or_eq_false_iff, decide_eq_false_iff_not]
  omega
theorem gridE_f {s : Int} {l : List Cl} (h : ¬ (1 ≤ s ∧ s ≤ 1024 ∧ inL s.toNat l = true)) : gridE s l = 2 := by
  unfold gridE
  refine if_neg fun hh => h ?_
  rw [Bool.and_eq_true] at hh
  have := refOk_t hh.1
  exact ⟨this.1, this.2, hh.2⟩
theorem newE (s : Int) : Fn Tryd.prog 22 #[i64 s] [] (fun r Q => ∃ v p, r = .tuple #[v, i64 (gridE s [])] ∧ MatO p v (gridO s []) ∧ Q = [p]) := by
  refine Fn.weak (new_spec s) ?_
  rintro _ _ (⟨n, b, rfl, h1, h2, rfl, rfl⟩ | ⟨hno, rfl, rfl⟩)
  · rw [gridE_t h1 h2 rfl, gridO_t h1 h2 rfl]
    exact ⟨_, ⟨_, _, rfl, MatO.one n b _, rfl⟩, ImpS.refl⟩
  · have h0 : ¬ (1 ≤ s ∧ s ≤ 1024 ∧ inL s.toNat ([] : List Cl) = true) := fun h => hno ⟨h.1, h.2.1⟩
    rw [gridE_f h0, gridO_f h0]
    exact ⟨_, ⟨_, _, rfl, MatO.nil (star []), rfl⟩, ImpS.e1 _⟩
theorem RefO.no (z : HP) (n : Nat) : RefO z (refV n (.slice none 0 0)) (some (n, noX)) := by
  obtain ⟨v, h1, h2, h3⟩ := RefO.nil z
  obtain rfl : Value.slice none 0 0 = v := by
    have e : (Value.agg #[i64 0, .slice none 0 0]) = .agg #[i64 0, v] := h1
    simpa using e
  exact ⟨_, rfl, h2, h3⟩
theorem rNewE (s : Int) (z : HP) : Fn Tryd.prog 23 #[i64 s] [] (fun r Q => ∃ v, r = .tuple #[refV (sideO (gridO s [])) v, i64 (gridE s [])] ∧ v.oneCell' = true ∧ RefO z (refV (sideO (gridO s [])) v) (gridO s []) ∧ Q = []) := by
  refine (refNew_spec s).mono ?_
  rintro _ _ ⟨rfl, rfl⟩
  cases hok : refOk s with
  | true =>
    obtain ⟨h1, h2⟩ := refOk_t hok
    obtain ⟨n, rfl⟩ := Int.eq_ofNat_of_zero_le (show 0 ≤ s by omega)
    rw [if_pos rfl, gridE_t (by omega) (by omega) rfl, gridO_t (by omega) (by omega) rfl]
    exact ⟨_, rfl, rfl, RefO.no z n, rfl⟩
  | false =>
    have h0 : ¬ (1 ≤ s ∧ s ≤ 1024 ∧ inL s.toNat ([] : List Cl) = true) := fun h => refOk_f hok ⟨h.1, h.2.1⟩
    rw [if_neg (by simp), gridE_f h0, gridO_f h0]
    exact ⟨_, rfl, rfl, RefO.nil z, rfl⟩
theorem rOfE (s : Int) (q : HP) (u : Value) (l : List Cl) (hu : SlC q u l) (hb : l.length * 16 ≤ 140737488355328) :
    Fn Tryd.prog 24 #[i64 s, u] [q] (fun r Q => ∃ v p, r = .tuple #[refV (sideO (gridO s l)) v, i64 (gridE s l)] ∧ v.oneCell' = true ∧ RefO p (refV (sideO (gridO s l)) v) (gridO s l) ∧ Q = [p, q]) := by
  have h := refOf_spec s q u l hu hb
  unfold Fn at *
  intro F w hw
  refine (h F w hw).mono ?_
  rintro e w' ⟨v, Q, h1, h2, ⟨n, rfl, hn1, hn2, hin, v2, rfl, rfl⟩ | ⟨hno, rfl, rfl⟩, d⟩
  · rw [gridO_t hn1 hn2 hin, gridE_t hn1 hn2 hin]
    rw [srt_cells hn2 hin] at d
    have d1 := own_one d
    exact ⟨_, _, h1, h2, ⟨v2, _, rfl, d1, RefO.own d1 (own_slC d), rfl⟩, d⟩
  · rw [gridO_f hno, gridE_f hno]
    exact ⟨_, _, h1, h2, ⟨.slice none 0 0, star [], rfl, rfl, RefO.nil _, rfl⟩, sat_flat.2 d⟩
theorem ofE (s : Int) (q : HP) (u : Value) (l : List Cl) (hu : SlC q u l) (hb : l.length * 16 ≤ 140737488355328) :
    Fn Tryd.prog 13 #[i64 s, u] [q] (fun r Q => ∃ v p, r = .tuple #[v, i64 (gridE s l)] ∧ MatO p v (gridO s l) ∧ Q = [p, q]) := by
  refine Fn.weak (mof_spec s q u l hu.slR (by omega)) ?_
  rintro _ _ (⟨n, b, rfl, hn1, hn2, hin, rfl, rfl⟩ | ⟨hno, rfl, rfl⟩)
  · rw [gridO_t hn1 hn2 hin, gridE_t hn1 hn2 hin]
    exact ⟨_, ⟨_, _, rfl, MatO.one _ _ _, rfl⟩, ImpS.refl⟩
  · rw [gridO_f hno, gridE_f hno]
    exact ⟨_, ⟨.pointer none, star [], rfl, MatO.nil _, rfl⟩, ImpS.e1 _⟩
def turnO : OptM → OptM
  | none => none
  | some (s, X) => some (s, flipX X)
theorem turnO_wf {o : OptM} (wo : WfM o) : WfM (turnO o) := by
  cases o with
  | none => exact wo
  | some p => obtain ⟨s, X⟩ := p; exact WfM.mk (wo s X rfl).1.1 (wo s X rfl).1.2 fun r c h => (wo s X rfl).2 c r h |>.symm
theorem copyE (p : HP) (v : Value) (o : OptM) (h : MatO p v o) : Fn Tryd.prog 19 #[v] [p] (fun r Q => ∃ p', MatO p' r o ∧ Q = [p', p]) := by
  rcases h with ⟨rfl, rfl⟩ | ⟨s, X, b, rfl, rfl, rfl⟩
  · refine Fn.weak (Fn.nilF p copy_nil) ?_
    rintro _ _ ⟨rfl, rfl⟩
    exact ⟨_, ⟨star [], MatO.nil _, rfl⟩, ImpS.e1 _⟩
  · refine (copy_mat s b X).mono ?_
    rintro _ _ ⟨b', rfl, rfl⟩
    exact ⟨_, MatO.one s b' X, rfl⟩
theorem turnE (p : HP) (v : Value) (o : OptM) (h : MatO p v o) : Fn Tryd.prog 16 #[v] [p] (fun r Q => ∃ p', MatO p' r (turnO o) ∧ Q = [p', p]) := by
  rcases h with ⟨rfl, rfl⟩ | ⟨s, X, b, rfl, rfl, rfl⟩
  · refine Fn.weak (Fn.nilF p turn_nil) ?_
    rintro _ _ ⟨rfl, rfl⟩
    exact ⟨_, ⟨star [], MatO.nil _, rfl⟩, ImpS.e1 _⟩
  · refine (turn_mat s b X).mono ?_
    rintro _ _ ⟨b', rfl, rfl⟩
    exact ⟨_, MatO.one s b' _, rfl⟩
theorem Fn.nilF2 {P : Program} {f : FuncId} {args : Array Value} {S : Value → Prop} (p p2 : HP) (h : Fn P f args [] (fun r Q => S r ∧ Q = [])) : Fn P f args [p, p2] (fun r Q => S r ∧ Q = [p, p2]) :=
  (Fn.frame h [p, p2]).mono fun r Q h => by obtain ⟨Q', ⟨h1, rfl⟩, rfl⟩ := h; exact ⟨h1, rfl⟩
theorem Fn.oneF {P : Program} {f : FuncId} {args : Array Value} {S : Value → Prop} (p p2 : HP) (h : Fn P f args [p] (fun r Q => S r ∧ Q = [p])) : Fn P f args [p, p2] (fun r Q => S r ∧ Q = [p, p2]) :=
  (Fn.frame h [p2]).mono fun r Q h => by obtain ⟨Q', ⟨h1, rfl⟩, rfl⟩ := h; exact ⟨h1, rfl⟩
theorem Fn.oneF' {P : Program} {f : FuncId} {args : Array Value} {S : Value → Prop} (p p2 : HP) (h : Fn P f args [p2] (fun r Q => S r ∧ Q = [p2])) : Fn P f args [p, p2] (fun r Q => S r ∧ Q = [p, p2]) := by
  refine Fn.weak (Fn.perm (List.Perm.swap _ _ _) (Fn.oneF p2 p h)) ?_
  rintro r _ ⟨h1, rfl⟩
  exact ⟨_, ⟨h1, rfl⟩, ImpS.sb ⟨[], List.Perm.swap _ _ _⟩⟩
theorem pairE_n1 (t : Nat) : pairE 0 t = 1 := by unfold pairE; rw [if_pos rfl]
theorem pairE_n2 (s : Nat) : pairE s 0 = 1 := by unfold pairE; split <;> rfl
theorem pairE_ne {s t : Nat} (hs : 1 ≤ s) (ht : 1 ≤ t) (h : s ≠ t) : pairE s t = 5 := by unfold pairE; rw [if_neg (by omega), if_neg (by omega), if_neg h]
theorem uniX_self (X : Nat → Nat → Bool) : uniX X X = X := by
  funext r c
  unfold uniX
  exact Bool.or_self _
theorem joinE (p p2 : HP) (v v2 : Value) (o o2 : OptM) (wo : WfM o) (wo2 : WfM o2) (h : MatO p v o) (h2 : MatO p2 v2 o2) :
    Fn Tryd.prog 20 #[v, v2] [p, p2] (fun r Q => ∃ p', r = .tuple #[.bool (joinB o o2), i64 (pairE (sideO o) (sideO o2))] ∧ MatO p' v (joinO o o2) ∧ Q = [p', p2]) := by
  rcases h with ⟨rfl, rfl⟩ | ⟨s, X, b, rfl, rfl, rfl⟩
  · obtain ⟨a, rfl⟩ := h2.has.ptr
    refine (Fn.nilF2 p p2 (join_nil1 a)).mono ?_
    rintro _ _ ⟨rfl, rfl⟩
    exact ⟨p, by rw [show sideO none = 0 from rfl, pairE_n1]; rfl, MatO.nil p, rfl⟩
  · rcases h2 with ⟨rfl, rfl⟩ | ⟨t, Y, b2, rfl, rfl, rfl⟩
    · refine (Fn.oneF _ p2 (join_nil2 s b X)).mono ?_
      rintro _ _ ⟨rfl, rfl⟩
      exact ⟨_, by rw [show sideO none = 0 from rfl, pairE_n2]; rfl, MatO.one s b X, rfl⟩
    · refine (join_mat s t b b2 X Y).mono ?_
      have hs := (wo s X rfl).1.1
      have ht := (wo2 t Y rfl).1.1
      rintro _ _ (⟨rfl, rfl, rfl⟩ | ⟨hne, rfl, rfl⟩)
      · exact ⟨_, by rw [joinB_same, show pairE (sideO (some (s, X))) (sideO (some (s, Y))) = 0 from pairE_same hs], by rw [joinO_same]; exact MatO.one s b _, rfl⟩
      · refine ⟨_, ?_, ?_, rfl⟩
        · rw [show pairE (sideO (some (s, X))) (sideO (some (t, Y))) = 5 from pairE_ne hs ht hne, show joinB (some (s, X)) (some (t, Y)) = false from by show (decide (s = t) && _) = false; rw [decide_eq_false hne]; rfl]
        · rw [show joinO (some (s, X)) (some (t, Y)) = some (s, X) from if_neg hne]
          exact MatO.one s b X
theorem joinS (p : HP) (v : Value) (o : OptM) (wo : WfM o) (h : MatO p v o) :
    Fn Tryd.prog 20 #[v, v] [p] (fun r Q => r = .tuple #[.bool (joinB o o), i64 (pairE (sideO o) (sideO o))] ∧ Q = [p]) := by
  rcases h with ⟨rfl, rfl⟩ | ⟨s, X, b, rfl, rfl, rfl⟩
  · exact Fn.nilF p (join_nil1 none)
  · refine (join_self s b X).mono ?_
    rintro _ _ ⟨rfl, rfl⟩
    exact ⟨by rw [joinB_same, uniX_self, decide_eq_false (by omega), show pairE (sideO (some (s, X))) (sideO (some (s, X))) = 0 from pairE_same (wo s X rfl).1.1], rfl⟩
theorem joinO_self (o : OptM) : joinO o o = o := by
  cases o with
  | none => rfl
  | some p => obtain ⟨s, X⟩ := p; rw [joinO_same, uniX_self]
theorem joinO_wf {a b : OptM} (ha : WfM a) (hb : WfM b) : WfM (joinO a b) := by
  cases a with
  | none => exact ha
  | some p =>
    obtain ⟨s, X⟩ := p
    cases b with
    | none => exact ha
    | some p2 =>
      obtain ⟨t, Y⟩ := p2
      by_cases h : s = t
      · subst h
        rw [joinO_same]
        exact WfM.mk (ha s X rfl).1.1 (ha s X rfl).1.2 (uni_in (ha s X rfl).2 (hb s Y rfl).2)
      · rw [show joinO (some (s, X)) (some (t, Y)) = some (s, X) from if_neg h]
        exact ha
def lessO : OptM → OptM → OptM
  | some (s, X), some (t, Y) => if s = t then some (s, lessX X Y) else none
  | _, _ => none
theorem lessO_same (s : Nat) (X Y : Nat → Nat → Bool) : lessO (some (s, X)) (some (s, Y)) = some (s, lessX X Y) := if_pos rfl
theorem lessO_ne {s t : Nat} (X Y : Nat → Nat → Bool) (h : s ≠ t) : lessO (some (s, X)) (some (t, Y)) = none := if_neg h
theorem lessO_wf {a b : OptM} (ha : WfM a) : WfM (lessO a b) := by
  cases a with
  | none => intro s X e; cases e
  | some p =>
    obtain ⟨s, X⟩ := p
    cases b with
    | none => intro s X e; cases e
    | some p2 =>
      obtain ⟨t, Y⟩ := p2
      by_cases h : s = t
      · subst h
        rw [lessO_same]
        exact WfM.mk (ha s X rfl).1.1 (ha s X rfl).1.2 (less_in (ha s X rfl).2)
      · rw [lessO_ne X Y h]
        intro s X e; cases e
theorem diff_less (X Y : Nat → Nat → Bool) : diffX X Y = lessX X Y := by unfold diffX lessX; rfl
theorem lessE (p p2 : HP) (v v2 : Value) (o o2 : OptM) (wo : WfM o) (wo2 : WfM o2) (h : MatO p v o) (h2 : MatO p2 v2 o2) :
    Fn Tryd.prog 21 #[v, v2] [p, p2] (fun r Q => ∃ v' p', r = .tuple #[v', i64 (pairE (sideO o) (sideO o2))] ∧ MatO p' v' (lessO o o2) ∧ Q = [p', p, p2]) := by
  rcases h with ⟨rfl, rfl⟩ | ⟨s, X, b, rfl, rfl, rfl⟩
  · obtain ⟨a, rfl⟩ := h2.has.ptr
    refine Fn.weak (Fn.nilF2 p p2 (less_nil1 a)) ?_
    rintro _ _ ⟨rfl, rfl⟩
    exact ⟨_, ⟨_, star [], by rw [show sideO none = 0 from rfl, pairE_n1], MatO.nil _, rfl⟩, ImpS.e1 _⟩
  · rcases h2 with ⟨rfl, rfl⟩ | ⟨t, Y, b2, rfl, rfl, rfl⟩
    · refine Fn.weak (Fn.oneF _ p2 (less_nil2 s b X)) ?_
      rintro _ _ ⟨rfl, rfl⟩
      exact ⟨_, ⟨_, star [], by rw [show sideO none = 0 from rfl, pairE_n2], MatO.nil _, rfl⟩, ImpS.e1 _⟩
    · refine Fn.weak (less_mat s t b b2 X Y) ?_
      have hs := (wo s X rfl).1.1
      have ht := (wo2 t Y rfl).1.1
      rintro _ _ (⟨rfl, b', rfl, rfl⟩ | ⟨hne, rfl, rfl⟩)
      · refine ⟨_, ⟨_, _, by rw [show pairE (sideO (some (s, X))) (sideO (some (s, Y))) = 0 from pairE_same hs], ?_, rfl⟩, ImpS.refl⟩
        rw [lessO_same, diff_less]; exact MatO.one s b' _
      · refine ⟨_, ⟨_, star [], by rw [show pairE (sideO (some (s, X))) (sideO (some (t, Y))) = 5 from pairE_ne hs ht hne], ?_, rfl⟩, ImpS.e1 _⟩
        rw [lessO_ne X Y hne]; exact MatO.nil _
end Go.Proofs.YtfoahdfflchidaaDoor
namespace Go.Proofs.YtfoahdfflchidaaDoor
open Go
theorem cells_eq {s t : Nat} {X Y : Nat → Nat → Bool} (hs : s ≤ 1024) (ht : t ≤ 1024) (hx : ∀ r c, X r c = true → r < s ∧ c < s) (hy : ∀ r c, Y r c = true → r < t ∧ c < t) : cellsX X = cellsX Y ↔ X = Y := by
  constructor
  · intro h
    funext r c
    have h1 := cellsX_iff hs hx (r, c)
    have h2 := cellsX_iff ht hy (r, c)
    rw [Bool.eq_iff_iff, ← h1, ← h2, h]
  · intro h; rw [h]
def sameO (a b : OptM) : Bool := decide (sideO a = sideO b) && decide (cellsX (setO a) = cellsX (setO b))
theorem sameO_self (a : OptM) : sameO a a = true := by unfold sameO; simp
theorem sameO_side {a b : OptM} (h : sideO a ≠ sideO b) : sameO a b = false := by unfold sameO; rw [decide_eq_false h]; rfl
def wbO (s : Nat) (i j : Int) : Int := if s = 0 then 1 else if hasM s i j then 0 else 2
theorem wbO_none (i j : Int) : wbO 0 i j = 1 := if_pos rfl
theorem wbO_t {s : Nat} {i j : Int} (hs : 1 ≤ s) (h : hasM s i j = true) : wbO s i j = 0 := by unfold wbO; rw [if_neg (by omega), if_pos h]
theorem wbO_f {s : Nat} {i j : Int} (hs : 1 ≤ s) (h : hasM s i j = false) : wbO s i j = 2 := by unfold wbO; rw [if_neg (by omega), h]; rfl
def blkG (o : OptM) (i j : Int) : Blk := if wbO (sideO o) i j = 0 then blkAt (setO o) i.toNat j.toNat else zeroB
def fitD (s i j : Nat) (bb : Blk) : Bool := (List.range 64).all fun r => (List.range 64).all fun c => !(bb r).getLsbD c || (decide (64 * i + r < s) && decide (64 * j + c < s))
theorem fitD_iff {s i j : Nat} {bb : Blk} : fitD s i j bb = true ↔ FitB s i j bb := by
  unfold fitD FitB
  simp only [List.all_eq_true, List.mem_range, Bool.or_eq_true, Bool.not_eq_true', Bool.and_eq_true, decide_eq_true_eq]
  constructor
  · intro h r c hr hc hb
    rcases h r hr c hc with h1 | h1
    · rw [hb] at h1; cases h1
    · exact h1
  · intro h r hr c hc
    cases hb : (bb r).getLsbD c with
    | false => exact .inl rfl
    | true => exact .inr (h r c hr hc hb)
def wpO (s : Nat) (i j : Int) (bb : Blk) : Int := if wbO s i j = 0 then (if fitD s i.toNat j.toNat bb then 0 else 2) else wbO s i j
def putO (o : OptM) (i j : Int) (bb : Blk) : OptM := if wpO (sideO o) i j bb = 0 then some (sideO o, orX (setO o) i.toNat j.toNat bb) else o
def putG (o : OptM) (i j : Int) (bb : Blk) : Bool := decide (wpO (sideO o) i j bb = 0) && decide (0 < lenB (lessB bb (blkAt (setO o) i.toNat j.toNat)) 64)
theorem putO_no {o : OptM} {i j : Int} {bb : Blk} (h : wpO (sideO o) i j bb ≠ 0) : putO o i j bb = o := if_neg h
theorem putG_no {o : OptM} {i j : Int} {bb : Blk} (h : wpO (sideO o) i j bb ≠ 0) : putG o i j bb = false := by unfold putG; rw [decide_eq_false h]; rfl
theorem wpO_none (i j : Int) (bb : Blk) : wpO 0 i j bb = 1 := by unfold wpO; rw [wbO_none, if_neg (by decide)]
theorem wpO_t {s m n : Nat} {bb : Blk} (hs : 1 ≤ s) (hm : 64 * m < s) (hn : 64 * n < s) (h : FitB s m n bb) : wpO s (m : Nat) (n : Nat) bb = 0 := by
  unfold wpO
  rw [if_pos (wbO_t hs (hasM_nat hm hn)), Int.toNat_natCast, Int.toNat_natCast, if_pos (fitD_iff.2 h)]
theorem wpO_f {s : Nat} {i j : Int} {bb : Blk} (hs : 1 ≤ s) (h : ∀ m n : Nat, i = m → j = n → 64 * m < s → 64 * n < s → ¬ FitB s m n bb) : wpO s i j bb = 2 := by
  unfold wpO
  cases hh : hasM s i j with
  | false => rw [wbO_f hs hh, if_neg (by decide)]
  | true =>
    obtain ⟨m, n, rfl, rfl, hm, hn⟩ := hasM_at hh
    rw [if_pos (wbO_t hs hh), Int.toNat_natCast, Int.toNat_natCast, if_neg (fun hf => h m n rfl rfl hm hn (fitD_iff.1 hf))]
theorem wpO_zero {s : Nat} {i j : Int} {bb : Blk} (h : wpO s i j bb = 0) : s ≠ 0 ∧ ∃ m n : Nat, i = m ∧ j = n ∧ 64 * m < s ∧ 64 * n < s ∧ FitB s m n bb := by
  unfold wpO at h
  split at h
  · rename_i h1
    split at h
    · rename_i h2
      unfold wbO at h1
      split at h1
      · cases h1
      · rename_i h3
        split at h1
        · rename_i h4
          obtain ⟨m, n, rfl, rfl, hm, hn⟩ := hasM_at h4
          exact ⟨h3, m, n, rfl, rfl, hm, hn, fitD_iff.1 h2⟩
        · cases h1
    · cases h
  · rename_i h1
    exact absurd h h1
theorem orX_in {s m n : Nat} {X : Nat → Nat → Bool} {bb : Blk} (hx : ∀ r c, X r c = true → r < s ∧ c < s) (h : FitB s m n bb) : ∀ r c, orX X m n bb r c = true → r < s ∧ c < s := fun r c hrc => by
  unfold orX at hrc
  rcases Bool.or_eq_true _ _ ▸ hrc with h1 | h1
  · exact hx r c h1
  · simp only [Bool.and_eq_true, decide_eq_true_eq] at h1
    have := h (r % 64) (c % 64) (Nat.mod_lt _ (by decide)) (Nat.mod_lt _ (by decide)) h1.2.2
    omega
theorem putO_wf {o : OptM} (wo : WfM o) (i j : Int) (bb : Blk) : WfM (putO o i j bb) := by
  by_cases h : wpO (sideO o) i j bb = 0
  · obtain ⟨h0, m, n, rfl, rfl, hm, hn, hf⟩ := wpO_zero h
    cases o with
    | none => exact absurd rfl h0
    | some p =>
      obtain ⟨s, X⟩ := p
      unfold putO
      rw [if_pos h]
      exact WfM.mk (wo s X rfl).1.1 (wo s X rfl).1.2 (orX_in (wo s X rfl).2 hf)
  · rw [putO_no h]; exact wo
def rowG (o : OptM) (i : Int) : List Nat := if wrO (sideO o) i 0 = 0 then rowX (setO o) i.toNat else []
attribute [local irreducible] G GO GR GT Fn FnV pt init exs pur sat own ImpS mat posL allV orL restX cellsX cellsV cntX lessX uniX rowX natsV
set_option maxHeartbeats 4000000 in
theorem same_self (s b : Nat) (X : Nat → Nat → Bool) : Fn Tryd.prog 14 #[ptrV b, ptrV b] [mat s X b] (fun r Q => r = .bool true ∧ Q = [mat s X b]) := by
  refine Fn.mk Tryd.func14 rfl rfl fun w0 F => ?_
  refine G.matFact Tk.h fun hsd hin => ?_
  have hp1 : ¬ 256 < (posL X).length := by have := posL_len X; omega
  have rs := mat_side (side := s) (b := b) (X := X)
  (refine G.seq ?_; refine G.region ?_; refine GO.assign rfl rfl ?_; refine GO.nil ?_; refine kthen_n ?_; refine G.seq ?_; refine G.seq ?_; refine G.region ?_; refine GO.move rfl rfl ?_)
  refine GO.call1 rfl rfl (is_mat s b X) (Tks.c Tk.h Tks.n) ?_
  rintro _ _ ⟨rfl, rfl⟩
  (refine GO.not rfl rfl ?_; refine GO.move rfl rfl ?_; refine GO.gT rfl rfl rfl ?_; refine GO.move rfl rfl ?_; refine GO.gT rfl rfl rfl ?_)
  refine GO.call1 rfl rfl (is_mat s b X) (Tks.c Tk.h Tks.n) ?_
  rintro _ _ ⟨rfl, rfl⟩
  (refine GO.gT rfl rfl rfl ?_; refine GO.not rfl rfl ?_; refine GO.pickF rfl rfl rfl ?_; refine GO.nil ?_; refine kthen_n ?_; refine G.condF rfl rfl ?_; refine G.skip ?_; refine kthen_n ?_; refine G.seq ?_)
  refine G.drawT 15 26624 [mat s X b] F (by kernel_rfl) (keys_of rfl) (ImpS.sb (by ((refine Sb.c Tk.h ?_); (exact Sb.r)))) ?_
  ((apply GR.step rfl; focus (intro Z; refine GO.move rfl rfl ?_; exact KQ.z)); (apply GR.step rfl; focus (intro Z; refine GO.nilCheck rfl rfl ?_; exact KQ.z)); (apply GR.step rfl; focus (intro Z; refine GO.fieldAddr rfl rfl ?_; exact KQ.z)); (apply GR.step rfl; focus (intro Z; refine GO.loadQ rfl rfl rfl Tk.h (by assumption) ?_; exact KQ.z)); (apply GR.step rfl; focus (intro Z; refine GO.move rfl rfl ?_; exact KQ.z)); (apply GR.step rfl; focus (intro Z; refine GO.nilCheck rfl rfl ?_; exact KQ.z)); (apply GR.step rfl; focus (intro Z; refine GO.fieldAddr rfl rfl ?_; exact KQ.z)); (apply GR.step rfl; focus (intro Z; refine GO.loadQ rfl rfl rfl Tk.h (by assumption) ?_; exact KQ.z)); (apply GR.step rfl; focus (intro Z; refine GO.eqT rfl rfl rfl rfl ?_; exact KQ.z)); (apply GR.step rfl; focus (intro Z; refine GO.move rfl rfl ?_; exact KQ.z)); (apply GR.step rfl; focus (intro Z; refine GO.gT rfl rfl rfl ?_; refine GO.move rfl rfl ?_; exact KQ.z)); refine GR.skip rfl ?_; (apply GR.step rfl; focus (intro Z; refine GO.gT rfl rfl rfl ?_; refine GO.move rfl rfl ?_; exact KQ.z)); refine GR.skip rfl ?_; refine GR.skip rfl ?_; refine GR.nil ?_)
  (repeat refine GT.skip rfl ?_)
  refine GT.step rfl ?_
  refine GO.gT rfl rfl rfl ?_
  refine GO.call1 rfl rfl (all_mat s b X) (Tks.c Tk.h Tks.n) ?_
  rintro v32 _ rfl
  refine GO.nil ⟨rfl, _, own 84 66 (posL X).length v32 (allV X (posL X)) :: F, rfl, ImpS.sb (by ((refine Sb.c (Tk.t Tk.h) ?_; refine Sb.c Tk.h ?_); (exact Sb.r))), ?_⟩
  (repeat refine GT.skip rfl ?_)
  refine GT.step rfl ?_
  refine GO.gT rfl rfl rfl ?_
  refine GO.call1 rfl rfl (all_mat s b X) (Tks.c Tk.h Tks.n) ?_
  rintro v34 _ rfl
  refine GO.nil ⟨rfl, _, own 84 66 (posL X).length v34 (allV X (posL X)) :: own 84 66 (posL X).length v32 (allV X (posL X)) :: F, rfl, ImpS.sb (by ((refine Sb.c (Tk.t Tk.h) ?_; refine Sb.c Tk.h ?_; refine Sb.c Tk.h ?_); (exact Sb.r))), ?_⟩
  (repeat refine GT.skip rfl ?_)
  refine GT.step rfl ?_
  refine GO.gT rfl rfl rfl ?_
  refine GO.call2 rfl rfl rfl (equal_spec X X (posL X) (posL X) v32 v34 hp1 hp1) (Tks.c (Tk.t (Tk.t Tk.h)) (Tks.c (Tk.t Tk.h) Tks.n)) ?_
  rintro _ _ ⟨bb, rfl, hbb, rfl⟩
  obtain rfl : bb = true := hbb.2 rfl
  refine GO.nil ⟨rfl, _, own 84 66 (posL X).length v34 (allV X (posL X)) :: own 84 66 (posL X).length v32 (allV X (posL X)) :: F, rfl, ImpS.sb (by ((refine Sb.c (Tk.t (Tk.t Tk.h)) ?_; refine Sb.c (Tk.t Tk.h) ?_; refine Sb.c Tk.h ?_); (exact Sb.r))), ?_⟩
  refine GT.nil ?_
  (refine GO.pickT rfl rfl rfl ?_; refine GO.assign rfl rfl ?_; refine GO.nil ?_; refine kthen_n ?_; refine G.ret ?_)
  refine KF.r1 rfl (RV.t rfl) ⟨rfl, rfl⟩ ?_
  ((refine Sb.c Tk.h ?_); (refine Sb.s ?_; refine Sb.s ?_; exact Sb.r))
set_option maxHeartbeats 2000000 in
theorem less1s_spec (i j : Nat) (C : Blk) (side b bb : Nat) (X : Nat → Nat → Bool) (hi : 64 * i < side) (hj : 64 * j < side) :
    Fn Tryd.prog 47 #[.agg (qV i j C).toArray, .pointer (some ⟨bb, 0, none⟩)] [mat side X b, pt bb (row [ptrV b] 24)]
      (fun r Q => r = .agg (qV i j (lessB C (blkAt X i j))).toArray ∧ Q = [mat side X b, pt bb (row [ptrV b] 24)]) := by
  have hh := hasM_nat hi hj
  clear hi hj
  refine Fn.mk2 Tryd.func47 rfl rfl fun w0 F => ?_
  (refine G.seq ?_; refine G.region ?_; refine GO.box rfl rfl rfl fun b2 => ?_; refine GO.alloc rfl fun b3 => ?_; refine GO.nil ?_; refine kthen_n ?_; refine G.seq ?_; refine G.region ?_; refine GO.load1 rfl rfl rfl (Tk.t (Tk.t (Tk.t Tk.h))) rfl ?_; refine GO.fieldAddr rfl rfl ?_; refine GO.fieldAddr rfl rfl ?_; refine GO.load1 rfl rfl rfl (Tk.t Tk.h) rfl ?_; refine GO.fieldAddr rfl rfl ?_; refine GO.fieldAddr rfl rfl ?_; refine GO.load1 rfl rfl rfl (Tk.t Tk.h) rfl ?_)
  refine GO.call3 rfl rfl rfl rfl (block_mat side b X i j) (Tks.c (Tk.t (Tk.t Tk.h)) Tks.n) ?_
  rintro _ _ ⟨rfl, rfl⟩
  rw [blockM_t hh]
  (refine GO.move rfl rfl ?_; refine GO.extract rfl rfl rfl ?_; refine GO.extract rfl rfl rfl ?_; refine GO.alloc rfl fun b4 => ?_)
  rw [cells_zero]
  (refine GO.storeW rfl rfl Tk.h ⟨cells_len _, cells_len _⟩ (cells_one _) ?_; refine GO.assign rfl rfl ?_; refine GO.nil ?_; refine kthen_n ?_; refine G.seq ?_)
  refine G.draw 7 (by kernel_rfl) ?_
  ((apply GQ.step; focus (intro Z; refine GO.fieldAddr rfl rfl ?_; exact KQ.z)); (apply GQ.step; focus (intro Z; refine GO.loadA2 rfl rfl rfl rfl (Tk.t (Tk.t (Tk.t Tk.h))) ?_; exact KQ.z)); (apply GQ.step; focus (intro Z; refine GO.fieldAddr rfl rfl ?_; exact KQ.z)); (apply GQ.step; focus (intro Z; refine GO.loadB2 rfl rfl rfl rfl (Tk.t (Tk.t (Tk.t Tk.h))) ?_; exact KQ.z)); (apply GQ.step; focus (intro Z; refine GO.loadW rfl rfl rfl Tk.h (cells_len _) ?_; exact KQ.z)))
  apply GQ.step; focus (intro Z; refine GO.call2 rfl rfl rfl (less_spec C (blkAt X i j)) Tks.n ?_; rintro _ _ ⟨rfl, rfl⟩; exact KQ.z)
  apply GQ.step; focus (intro Z; refine GO.build2 rfl rfl rfl (by simp [blk, Value.cells, cells_len, putParts]) ?_; exact KQ.zv (v := .agg (qV i j (lessB C (blkAt X i j))).toArray) (by simp [putParts, qV, blk, Value.cells]))
  refine GQ.nil ?_
  refine GO.storeW rfl rfl (Tk.t (Tk.t Tk.h)) ⟨qV_len _ _ _, by simp [cells_len]⟩ (qV_one _ _ _) ?_
  (refine GO.nil ?_; refine kthen_n ?_; refine G.ret ?_)
  refine KF2.r1 rfl (RV.cW rfl rfl (by (exact Tk.h)) (qV_len _ _ _)) ⟨rfl, rfl⟩ (ImpS.sb ?_)
  ((refine Sb.c (Tk.t (Tk.t Tk.h)) ?_; refine Sb.c (Tk.t (Tk.t (Tk.t Tk.h))) ?_); (refine Sb.s ?_; refine Sb.s ?_; refine Sb.s ?_; exact Sb.r))
set_option maxHeartbeats 2000000 in
theorem less_self (s b : Nat) (X : Nat → Nat → Bool) : Fn Tryd.prog 21 #[ptrV b, ptrV b] [mat s X b] (fun r Q => ∃ b', r = .tuple #[ptrV b', i64 0] ∧ Q = [mat s (diffX X X) b', mat s X b]) := by
  refine Fn.mk2 Tryd.func21 rfl rfl fun w0 F => ?_
  refine G.matFact Tk.h fun hsd hin => ?_
  have hfold := less_fold X hsd.2 hin
  have rs := mat_side (side := s) (b := b) (X := X)
  have d1 : decide ((s : Int) ≠ (s : Int)) = false := decide_eq_false (fun h => h rfl)
  (refine G.seq ?_; refine G.region ?_; refine GO.box rfl rfl rfl fun b3 => ?_; refine GO.assign rfl rfl ?_; refine GO.assign rfl rfl ?_; refine GO.nil ?_; refine kthen_n ?_; refine G.seq ?_; refine G.block ?_; refine G.seq ?_; refine G.region ?_; refine GO.move rfl rfl ?_)
  refine GO.call1 rfl rfl (is_mat s b X) (Tks.c (Tk.t Tk.h) Tks.n) ?_
  rintro _ _ ⟨rfl, rfl⟩
  (refine GO.not rfl rfl ?_; refine GO.move rfl rfl ?_; refine GO.gT rfl rfl rfl ?_; refine GO.load1 rfl rfl rfl (Tk.t Tk.h) rfl ?_; refine GO.gT rfl rfl rfl ?_)
  refine GO.call1 rfl rfl (is_mat s b X) (Tks.c Tk.h Tks.n) ?_
  rintro _ _ ⟨rfl, rfl⟩
  (refine GO.gT rfl rfl rfl ?_; refine GO.not rfl rfl ?_; refine GO.pickF rfl rfl rfl ?_; refine GO.assign rfl rfl ?_; refine GO.nil ?_; refine kthen_n ?_; refine G.condF rfl rfl ?_; refine G.seq ?_)
  refine G.draw 10 (by kernel_rfl) ?_
  ((apply GQ.step; focus (intro Z; refine GO.move rfl rfl ?_; exact KQ.z)); (apply GQ.step; focus (intro Z; refine GO.nilCheck rfl rfl ?_; exact KQ.z)); (apply GQ.step; focus (intro Z; refine GO.fieldAddr rfl rfl ?_; exact KQ.z)); (apply GQ.step; focus (intro Z; refine GO.loadQ rfl rfl rfl Tk.h (by assumption) ?_; exact KQ.z)); (apply GQ.step; focus (intro Z; refine GO.load1 rfl rfl rfl (Tk.t Tk.h) rfl ?_; exact KQ.z)); (apply GQ.step; focus (intro Z; refine GO.nilCheck rfl rfl ?_; exact KQ.z)); (apply GQ.step; focus (intro Z; refine GO.fieldAddr rfl rfl ?_; exact KQ.z)); (apply GQ.step; focus (intro Z; refine GO.loadQ rfl rfl rfl Tk.h (by assumption) ?_; exact KQ.z)); (apply GQ.step; focus (intro Z; refine GO.neF rfl rfl rfl rfl ?_; exact KQ.z)); (apply GQ.step; focus (intro Z; refine GO.assign rfl rfl ?_; exact KQ.z)); refine GQ.nil ?_)
  (refine GO.nil ?_; refine kthen_n ?_; refine G.condF rfl rfl ?_; refine G.skip ?_; refine kblock_n ?_; refine kthen_n ?_; refine G.seq ?_; refine G.region ?_; refine GO.move rfl rfl ?_; refine GO.makeFunc1 rfl rfl ?_)
  refine GO.call2 rfl rfl rfl (made_spec s b X (pt b3 (row [ptrV b] 24)) (.func (.func 47) #[] #[.pointer (some ⟨b3, 0, none⟩)]) (fun z => z / 16) (fun z => z % 16) (fun z => lessB (blkAt X (z / 16) (z % 16)) (blkAt X (z / 16) (z % 16))) (fun z hz => ⟨by have := (posL_mem.1 hz).1; omega, by have := (posL_mem.1 hz).1; omega, less_fit hin⟩) (fun z hz => FnV.of (args := [.agg (plV X z).toArray]) (caps := [.pointer (some ⟨b3, 0, none⟩)]) (less1s_spec _ _ _ _ _ _ _ (posL_at hin hz).1 (posL_at hin hz).2))) (Tks.c Tk.h (Tks.c Tk.h Tks.n)) ?_
  rintro _ _ ⟨b', rfl, rfl⟩
  rw [hfold]
  (refine GO.assign rfl rfl ?_; refine GO.assign rfl rfl ?_; refine GO.nil ?_; refine kthen_n ?_; refine G.ret ?_)
  refine KF2.r2 rfl (RV.t rfl) (RV.t rfl) ⟨b', rfl, rfl⟩ (ImpS.sb ?_)
  ((refine Sb.c Tk.h ?_; refine Sb.c Tk.h ?_); (refine Sb.s ?_; exact Sb.r))
theorem blocks_nil : Fn Tryd.prog 84 #[.pointer none] [] (fun r Q => ∃ b3 v', r = .func (.func 90) #[] #[.pointer (some ⟨b3, 0, none⟩)] ∧ Q = [bkM noX b3 v']) := by
  refine Fn.mk2 Tryd.func84 rfl rfl fun w0 F => ?_
  (refine G.seq ?_; refine G.region ?_; refine GO.assign rfl rfl ?_; refine GO.nil ?_; refine kthen_n ?_; refine G.seq ?_; refine G.region ?_; refine GO.move rfl rfl ?_)
  refine GO.call1 rfl rfl (all_nil) Tks.n ?_
  rintro _ _ ⟨rfl, rfl⟩
  (refine GO.alloc rfl fun b3 => ?_; refine GO.store1 rfl rfl rfl Tk.h (by decide) ?_; refine GO.nil ?_; refine kthen_n ?_; refine G.seq ?_; refine G.region ?_; refine GO.makeFunc1 rfl rfl ?_; refine GO.assign rfl rfl ?_; refine GO.nil ?_; refine kthen_n ?_; refine G.ret ?_)
  refine KF2.r1 rfl (RV.t rfl) ⟨b3, .slice none 0 0, rfl, rfl⟩ ?_
  refine ImpS.flat (k := [_, _]) (M := F) ?_
  rw [posL_no, show allV noX [] = [] by unfold allV; rfl, show ([] : List Nat).length = 0 from rfl]
  refine ImpS.trans (ImpS.nilOwn (el := 84) (sz := 66)) (ImpS.sb ?_)
  ((refine Sb.c (Tk.t Tk.h) ?_; refine Sb.c Tk.h ?_); (exact Sb.r))
theorem blocksE (p : HP) (v : Value) (o : OptM) (h : MatO p v o) : Fn Tryd.prog 84 #[v] [p] (fun r Q => ∃ b3 v', r = .func (.func 90) #[] #[.pointer (some ⟨b3, 0, none⟩)] ∧ Q = [bkM (setO o) b3 v', p]) := by
  rcases h with ⟨rfl, rfl⟩ | ⟨s, X, b, rfl, rfl, rfl⟩
  · exact (Fn.frame blocks_nil [p]).mono fun r Q h => by obtain ⟨Q', ⟨b3, v', h1, rfl⟩, rfl⟩ := h; exact ⟨b3, v', h1, rfl⟩
  · exact blocks_mat s b X
theorem lessS (p : HP) (v : Value) (o : OptM) (wo : WfM o) (h : MatO p v o) :
    Fn Tryd.prog 21 #[v, v] [p] (fun r Q => ∃ v' p', r = .tuple #[v', i64 (pairE (sideO o) (sideO o))] ∧ MatO p' v' (lessO o o) ∧ Q = [p', p]) := by
  rcases h with ⟨rfl, rfl⟩ | ⟨s, X, b, rfl, rfl, rfl⟩
  · refine Fn.weak (Fn.nilF p (less_nil1 none)) ?_
    rintro _ _ ⟨rfl, rfl⟩
    exact ⟨_, ⟨_, star [], by rw [show sideO none = 0 from rfl, pairE_n1], MatO.nil _, rfl⟩, ImpS.e1 _⟩
  · refine (less_self s b X).mono ?_
    rintro _ _ ⟨b', rfl, rfl⟩
    exact ⟨_, _, by rw [show pairE (sideO (some (s, X))) (sideO (some (s, X))) = 0 from pairE_same (wo s X rfl).1.1], by rw [lessO_same, diff_less]; exact MatO.one s b' _, rfl⟩
theorem sameS (p : HP) (v : Value) (o : OptM) (h : MatO p v o) : Fn Tryd.prog 14 #[v, v] [p] (fun r Q => r = .bool (sameO o o) ∧ Q = [p]) := by
  rw [sameO_self]
  rcases h with ⟨rfl, rfl⟩ | ⟨s, X, b, rfl, rfl, rfl⟩
  · exact Fn.nilF p same_nil
  · exact same_self s b X
theorem sameE (p p2 : HP) (v v2 : Value) (o o2 : OptM) (wo : WfM o) (wo2 : WfM o2) (h : MatO p v o) (h2 : MatO p2 v2 o2) : Fn Tryd.prog 14 #[v, v2] [p, p2] (fun r Q => r = .bool (sameO o o2) ∧ Q = [p, p2]) := by
  rcases h with ⟨rfl, rfl⟩ | ⟨s, X, b, rfl, rfl, rfl⟩
  · rcases h2 with ⟨rfl, rfl⟩ | ⟨t, Y, b2, rfl, rfl, rfl⟩
    · rw [sameO_self]
      exact Fn.nilF2 p p2 same_nil
    · have ht := (wo2 t Y rfl).1.1
      rw [sameO_side (a := none) (b := some (t, Y)) (by show 0 ≠ t; omega)]
      exact Fn.oneF' p _ (same_nil1 t b2 Y)
  · have hs := (wo s X rfl).1
    rcases h2 with ⟨rfl, rfl⟩ | ⟨t, Y, b2, rfl, rfl, rfl⟩
    · rw [sameO_side (a := some (s, X)) (b := none) (by show s ≠ 0; omega)]
      exact Fn.oneF _ p2 (same_nil2 s b X)
    · have ht := (wo2 t Y rfl).1
      refine (same_mat s t b b2 X Y).mono ?_
      rintro _ _ ⟨bb, rfl, hbb, rfl⟩
      refine ⟨?_, rfl⟩
      have e : bb = sameO (some (s, X)) (some (t, Y)) := by
        rw [Bool.eq_iff_iff, hbb]
        unfold sameO
        rw [Bool.and_eq_true, decide_eq_true_iff, decide_eq_true_iff]
        exact and_congr Iff.rfl (cells_eq hs.2 ht.2 (wo s X rfl).2 (wo2 t Y rfl).2).symm
      rw [e]
theorem blockE (p : HP) (v : Value) (o : OptM) (wo : WfM o) (h : MatO p v o) (i j : Int) : Fn Tryd.prog 48 #[v, i64 i, i64 j] [p] (fun r Q => r = .tuple #[blk (blkG o i j), i64 (wbO (sideO o) i j)] ∧ Q = [p]) := by
  rcases h with ⟨rfl, rfl⟩ | ⟨s, X, b, rfl, rfl, rfl⟩
  · rw [show blkG none i j = zeroB from if_neg (by rw [show sideO none = 0 from rfl, wbO_none]; decide), show wbO (sideO none) i j = 1 from wbO_none i j]
    exact Fn.nilF p (block_nil i j)
  · refine (block_mat s b X i j).mono ?_
    rintro _ _ ⟨rfl, rfl⟩
    refine ⟨?_, rfl⟩
    have hs := (wo s X rfl).1.1
    unfold blockM blkG
    cases hh : hasM s i j with
    | true => rw [if_pos rfl, show wbO (sideO (some (s, X))) i j = 0 from wbO_t hs hh, if_pos rfl]; rfl
    | false => rw [if_neg (by simp), show wbO (sideO (some (s, X))) i j = 2 from wbO_f hs hh, if_neg (by decide)]
theorem putE (p : HP) (v : Value) (o : OptM) (wo : WfM o) (h : MatO p v o) (i j : Int) (bb : Blk) : Fn Tryd.prog 57 #[v, i64 i, i64 j, blk bb] [p] (fun r Q => ∃ p', r = .tuple #[.bool (putG o i j bb), i64 (wpO (sideO o) i j bb)] ∧ MatO p' v (putO o i j bb) ∧ Q = [p']) := by
  rcases h with ⟨rfl, rfl⟩ | ⟨s, X, b, rfl, rfl, rfl⟩
  · have h0 : wpO (sideO none) i j bb ≠ 0 := by show wpO 0 i j bb ≠ 0; rw [wpO_none]; decide
    rw [putG_no (o := none) h0, putO_no (o := none) h0, show wpO (sideO none) i j bb = 1 from wpO_none i j bb]
    exact (Fn.nilF p (put_nil i j bb)).mono fun r Q hq => ⟨p, hq.1, MatO.nil p, hq.2⟩
  · have hs := (wo s X rfl).1.1
    refine (put_mat s b X i j bb).mono ?_
    rintro _ _ (⟨m, n, rfl, rfl, hm, hn, hf, rfl, rfl⟩ | ⟨hno, rfl, rfl⟩)
    · have e0 : wpO (sideO (some (s, X))) (m : Nat) (n : Nat) bb = 0 := wpO_t hs hm hn hf
      refine ⟨_, ?_, ?_, rfl⟩
      · unfold putG
        rw [e0, decide_eq_true rfl, Bool.true_and]; rfl
      · unfold putO
        rw [if_pos e0]
        exact MatO.one s b _
    · have e0 : wpO (sideO (some (s, X))) i j bb = 2 := wpO_f hs hno
      have h0 : wpO (sideO (some (s, X))) i j bb ≠ 0 := by rw [e0]; decide
      exact ⟨_, by rw [putG_no h0, e0], by rw [putO_no h0]; exact MatO.one s b X, rfl⟩
theorem rowG_in {s m : Nat} (X : Nat → Nat → Bool) (hs : 1 ≤ s) (hm : m < s) : rowG (some (s, X)) m = rowX X m := by
  unfold rowG
  rw [show sideO (some (s, X)) = s from rfl, show wrO s (m : Nat) 0 = 0 from wrO_in (n := 0) hs hm (Nat.lt_of_lt_of_le Nat.zero_lt_one hs)]; rfl
theorem rowG_no {o : OptM} {i : Int} (h : wrO (sideO o) i 0 ≠ 0) : rowG o i = [] := if_neg h
theorem natsV_nil : natsV [] = [] := by unfold natsV; rfl
theorem rowE (p q : HP) (hq : Tab q) (v : Value) (o : OptM) (wo : WfM o) (h : MatO p v o) (i : Int) : Fn Tryd.prog 12 #[v, i64 i] [p, q] (fun r Q => ∃ v', r = .tuple #[v', i64 (wrO (sideO o) i 0)] ∧ Q = [own 3 1 (rowG o i).length v' (natsV (rowG o i)), p, q]) := by
  rcases h with ⟨rfl, rfl⟩ | ⟨s, X, b, rfl, rfl, rfl⟩
  · have h0 : wrO (sideO none) i 0 ≠ 0 := by show wrO 0 i 0 ≠ 0; rw [wrO_none]; decide
    refine Fn.weak (Fn.nilF2 p q (row_nil i)) ?_
    rintro _ _ ⟨rfl, rfl⟩
    rw [rowG_no (o := none) h0, show wrO (sideO none) i 0 = 1 from wrO_none i 0, natsV_nil]
    exact ⟨_, ⟨_, rfl, rfl⟩, ImpS.nilOwn⟩
  · have hs := (wo s X rfl).1.1
    refine Fn.weak (mrow_mat q hq s b X i) ?_
    rintro _ _ (⟨m, rfl, hm, v', rfl, rfl⟩ | ⟨hno, rfl, rfl⟩)
    · rw [rowG_in X hs hm, show wrO (sideO (some (s, X))) (m : Nat) 0 = 0 from wrO_in (n := 0) hs hm (Nat.lt_of_lt_of_le Nat.zero_lt_one hs)]
      exact ⟨_, ⟨v', rfl, rfl⟩, ImpS.refl⟩
    · have h2 : wrO (sideO (some (s, X))) i 0 = 2 := wrO_out hs (by unfold inM; rw [decide_eq_false hno]; rfl)
      have h0 : wrO (sideO (some (s, X))) i 0 ≠ 0 := by rw [h2]; decide
      rw [rowG_no h0, h2, natsV_nil]
      exact ⟨_, ⟨_, rfl, rfl⟩, ImpS.nilOwn⟩
end Go.Proofs.YtfoahdfflchidaaDoor
namespace Go.Proofs.YtfoahdfflchidaaDoor
open Go
theorem newM (X : Nat → Nat → Bool) {m n : Nat} (hm : m < 1024) (hn : n < 1024) : decide (cntX X < cntX (uniX X (addX noX m n))) = !X m n := by
  rw [uni_add]
  cases h : X m n with
  | true => rw [addX_has h, decide_eq_false (by omega)]; rfl
  | false => rw [cntX_add hm hn h, decide_eq_true (by omega)]; rfl
attribute [local irreducible] G GO GR GT GW Fn FnV pt init exs pur sat own ImpS mat posL allV orL restX cellsX cellsV cntX lessX uniX rowX natsV lines plc
set_option maxHeartbeats 4000000 in
theorem rSet_err (s : Nat) (i j : Int) (va : Value) (ha : va.oneCell' = true) (h : wrO s i j ≠ 0) : Fn Tryd.prog 54 #[refV s va, i64 i, i64 j] [] (fun r Q => r = .tuple #[refV s va, .bool false, i64 (wrO s i j)] ∧ Q = []) := by
  have hw := refWrong2 s i j va ha
  have d0 : decide (wrO s i j ≠ 0) = true := decide_eq_true h
  generalize wrO s i j = e at hw d0 ⊢
  refine Fn.mk2 Tryd.func54 rfl rfl fun w0 F => ?_
  (refine G.seq ?_; refine G.region ?_; refine GO.box rfl rfl rfl fun b3 => ?_; refine GO.alloc rfl fun b6 => ?_; refine GO.assign rfl rfl ?_; refine GO.assign rfl rfl ?_; refine GO.nil ?_; refine kthen_n ?_; refine G.seq ?_; refine G.region ?_; refine GO.loadW rfl rfl rfl (Tk.t Tk.h) rfl ?_; refine GO.move rfl rfl ?_; refine GO.move rfl rfl ?_)
  refine GO.call3 rfl rfl rfl rfl (hw) Tks.n ?_
  rintro _ _ ⟨rfl, rfl⟩
  (refine GO.assign rfl rfl ?_; refine GO.nil ?_; refine kthen_n ?_; refine G.seq ?_; refine G.seq ?_; refine G.region ?_; refine GO.move rfl rfl ?_; refine GO.nei rfl rfl rfl ?_; refine GO.nil ?_; refine kthen_n ?_; refine G.condT rfl (by assumption) ?_; refine G.seq ?_; refine G.region ?_; refine GO.loadW rfl rfl rfl (Tk.t Tk.h) rfl ?_; refine GO.move rfl rfl ?_; refine GO.storeW rfl rfl Tk.h ⟨rfl, rfl⟩ (by simp [Value.oneCell']; assumption) ?_; refine GO.assign rfl rfl ?_; refine GO.assign rfl rfl ?_; refine GO.nil ?_; refine kthen_n ?_; refine G.ret ?_; refine kthen_r ?_)
  refine KF2.r3 rfl (RV.cW (n := 2) rfl rfl (by (exact Tk.h)) rfl) (RV.t rfl) (RV.t rfl) ⟨rfl, rfl⟩ (ImpS.sb ?_)
  (skip; (refine Sb.s ?_; refine Sb.s ?_; exact Sb.r))
set_option maxHeartbeats 8000000 in
theorem rSet_core (z : HP) (ra : Value) (s m n : Nat) (X : Nat → Nat → Bool) (hra : RefO z ra (some (s, X))) (hs : 1 ≤ s ∧ s ≤ 1024) (hm : m < s) (hn : n < s) (hx : ∀ r c, X r c = true → r < s ∧ c < s) :
    Fn Tryd.prog 54 #[ra, i64 (m : Nat), i64 (n : Nat)] [z] (fun r Q => ∃ v b, r = .tuple #[refV s v, .bool (!X m n), i64 0] ∧ Q = [own 34 2 (castL (cellsX (addX X m n))).length v (cellsV (castL (cellsX (addX X m n)))), star [pt b (row [i64 (m : Nat), i64 (n : Nat)] 34), z]]) := by
  have h1in : ∀ r c, addX noX m n r c = true → r < s ∧ c < s := addX_in (fun r c h => by cases h) hm hn
  have e1 := mrg_uni hs.2 hx h1in
  have e2 := mrgM_uni hs.2 hx h1in
  rw [newM X (by omega) (by omega)] at e2
  rw [uni_add] at e1
  have hl1 := cast_small X
  have hl2 := cast_small (addX noX m n)
  have hlen : (castL (cellsX (addX noX m n))).length = 1 := by rw [one_cells m n (by omega) (by omega)]; rfl
  have ea : ∃ va, ra = refV s va ∧ va.oneCell' = true := hra.slR
  have hmg := fun (b : Nat) => (by
    obtain ⟨v1, q1, _, q2⟩ := hra.right (z' := pt b (row [i64 (m : Nat), i64 (n : Nat)] 34))
    obtain ⟨v2, q3, _, q4⟩ := (RefO.single b s m n (by omega) (by omega)).left (z' := z)
    have q5 : v2 = .slice (some ⟨b, 0, none⟩) 1 1 := by
      have e : (Value.agg #[i64 (s : Nat), .slice (some ⟨b, 0, none⟩) 1 1]) = .agg #[i64 (s : Nat), v2] := q3
      exact ((by simpa using e : Value.slice (some ⟨b, 0, none⟩) 1 1 = v2)).symm
    have q6 := merge_spec (star [pt b (row [i64 (m : Nat), i64 (n : Nat)] 34), z]) v1 v2 (castL (cellsX X)) (castL (cellsX (addX noX m n))) q2.slR q4.slR (by omega)
    rw [e1, e2] at q6
    exact ⟨v1, q1, q5 ▸ q6⟩ : ∃ v1, ra = refV s v1 ∧ Fn Tryd.prog 78 #[v1, .slice (some ⟨b, 0, none⟩) 1 1] [star [pt b (row [i64 (m : Nat), i64 (n : Nat)] 34), z]] (fun r Q => ∃ v, r = .tuple #[v, .bool (!X m n)] ∧ Q = [own 34 2 (castL (cellsX (addX X m n))).length v (cellsV (castL (cellsX (addX X m n)))), star [pt b (row [i64 (m : Nat), i64 (n : Nat)] 34), z]]))
  obtain ⟨va, rfl, honea⟩ := ea
  have hm2 : ∀ b : Nat, Fn Tryd.prog 78 #[va, .slice (some ⟨b, 0, none⟩) 1 1] [star [pt b (row [i64 (m : Nat), i64 (n : Nat)] 34), z]] (fun r Q => ∃ v, r = .tuple #[v, .bool (!X m n)] ∧ Q = [own 34 2 (castL (cellsX (addX X m n))).length v (cellsV (castL (cellsX (addX X m n)))), star [pt b (row [i64 (m : Nat), i64 (n : Nat)] 34), z]]) := fun b => by
    obtain ⟨v1, q1, q2⟩ := hmg b
    obtain rfl : va = v1 := by
      have e : (Value.agg #[i64 (s : Nat), va]) = .agg #[i64 (s : Nat), v1] := q1
      simpa using e
    exact q2
  clear hmg
  have hw := refWrong2 s (m : Nat) (n : Nat) va honea
  rw [wrO_in hs.1 hm hn] at hw
  generalize (!X m n) = bn at *
  generalize castL (cellsX (addX X m n)) = L2 at *
  refine Fn.mk2 Tryd.func54 rfl rfl fun w0 F => ?_
  (refine G.seq ?_; refine G.region ?_; refine GO.box rfl rfl rfl fun b3 => ?_; refine GO.alloc rfl fun b6 => ?_; refine GO.assign rfl rfl ?_; refine GO.assign rfl rfl ?_; refine GO.nil ?_; refine kthen_n ?_; refine G.seq ?_; refine G.region ?_; refine GO.loadW rfl rfl rfl (Tk.t Tk.h) rfl ?_; refine GO.move rfl rfl ?_; refine GO.move rfl rfl ?_)
  refine GO.call3 rfl rfl rfl rfl (hw) Tks.n ?_
  rintro _ _ ⟨rfl, rfl⟩
  (refine GO.assign rfl rfl ?_; refine GO.nil ?_; refine kthen_n ?_; refine G.seq ?_; refine G.seq ?_; refine G.region ?_; refine GO.move rfl rfl ?_; refine GO.neF rfl rfl rfl rfl ?_; refine GO.nil ?_; refine kthen_n ?_; refine G.condF rfl rfl ?_; refine G.skip ?_; refine kthen_n ?_; refine G.seq ?_; refine G.region ?_; refine GO.fieldAddr rfl rfl ?_; refine GO.load1 rfl rfl rfl (Tk.t Tk.h) rfl ?_; refine GO.move rfl rfl ?_; refine GO.move rfl rfl ?_; refine GO.build2 rfl rfl rfl rfl ?_)
  refine GO.buildSlice1 rfl rfl (by simp; rfl) rfl ⟨by omega, by omega⟩ fun bs => ?_
  refine GO.merge (x := pt bs (row [i64 (m : Nat), i64 (n : Nat)] 34)) (y := z) (Tks.c Tk.h (Tks.c (Tk.t (Tk.t Tk.h)) Tks.n)) ?_
  skip
  refine GO.call2 rfl rfl rfl (hm2 bs) (Tks.c Tk.h Tks.n) ?_
  rintro _ _ ⟨v, rfl, rfl⟩
  refine GO.ownV Tk.h fun a9 cap9 hv9 => ?_
  subst hv9
  (refine GO.move rfl rfl ?_; refine GO.extract rfl rfl rfl ?_; refine GO.extract rfl rfl rfl ?_; refine GO.assign rfl rfl ?_; refine GO.assign rfl rfl ?_; refine GO.nil ?_; refine kthen_n ?_; refine G.seq ?_; refine G.region ?_; refine GO.fieldAddr rfl rfl ?_; refine GO.load1 rfl rfl rfl (Tk.t (Tk.t (Tk.t Tk.h))) rfl ?_; refine GO.move rfl rfl ?_; refine GO.build2 rfl rfl rfl rfl ?_; refine GO.move rfl rfl ?_)
  rw [show ∀ k : Nat, (putParts [i64 (s : Nat), Value.slice a9 k cap9]).toArray = #[i64 (s : Nat), Value.slice a9 k cap9] from fun k => by simp [putParts, Value.cells]]
  (refine GO.storeW rfl rfl (Tk.t (Tk.t Tk.h)) ⟨rfl, rfl⟩ (by simp [Value.oneCell']) ?_; refine GO.assign rfl rfl ?_; refine GO.assign rfl rfl ?_; refine GO.nil ?_; refine kthen_n ?_; refine G.ret ?_)
  refine KF2.r3 rfl (RV.cW (n := 2) rfl rfl (by (exact Tk.h)) rfl) (RV.t rfl) (RV.t rfl) ⟨_, bs, rfl, rfl⟩ (ImpS.sb ?_)
  ((refine Sb.c (Tk.t Tk.h) ?_; refine Sb.c (Tk.t Tk.h) ?_); (refine Sb.s ?_; refine Sb.s ?_; exact Sb.r))
theorem rSetE (z : HP) (ra : Value) (o : OptM) (hra : RefO z ra o) (wo : WfM o) (i j : Int) :
    Fn Tryd.prog 54 #[ra, i64 i, i64 j] [z] (fun r Q => ∃ v z', r = .tuple #[refV (sideO o) v, .bool (newG o i j), i64 (wrO (sideO o) i j)] ∧ v.oneCell' = true ∧ RefO z' (refV (sideO o) v) (addS o i j) ∧ Sup z z' ∧ Q = [z']) := by
  rcases wrO_cases o wo i j with h | ⟨s, X, m, n, rfl, rfl, rfl, hm, hn, h1, h2, hx⟩
  · rw [addS_no h, newG_no h]
    have hra0 := hra
    obtain ⟨va, rfl, hone⟩ := hra.slR
    exact (Fn.nilF z (rSet_err (sideO o) i j va hone h)).mono fun r Q hq => ⟨va, z, hq.1, hone, hra0, Sup.refl z, hq.2⟩
  · rw [addS_in X h1 hm hn, newG_in X h1 hm hn, show wrO (sideO (some (s, X))) (m : Nat) (n : Nat) = 0 from wrO_in h1 hm hn]
    have h := rSet_core z ra s m n X hra ⟨h1, h2⟩ hm hn hx
    unfold Fn at *
    intro F w hw
    refine (h F w hw).mono ?_
    rintro e w' ⟨v, Q, e1, e2, ⟨u, b, rfl, rfl⟩, d⟩
    have d1 := own_one d
    have d2 := own_slC d
    exact ⟨_, _, e1, e2, ⟨u, star [_, star [_, z]], rfl, d1, (RefO.own d1 d2).left, (Sup.right _ z).trans (Sup.right _ _), rfl⟩, sat_flat.2 d⟩
theorem rJoin_same (z : HP) (ra rb : Value) (s : Nat) (X Y : Nat → Nat → Bool) (hra : RefO z ra (some (s, X))) (hrb : RefO z rb (some (s, Y))) (hs : 1 ≤ s ∧ s ≤ 1024) (hx : ∀ r c, X r c = true → r < s ∧ c < s) (hy : ∀ r c, Y r c = true → r < s ∧ c < s) :
    Fn Tryd.prog 55 #[ra, rb] [z] (fun r Q => ∃ v p, r = .tuple #[refV s v, .bool (decide (cntX X < cntX (uniX X Y))), i64 0] ∧ v.oneCell' = true ∧ RefO p (refV s v) (some (s, uniX X Y)) ∧ Q = [p, z]) := by
  have h := rJoin_core z ra rb s X Y hra hrb hs hx hy
  unfold Fn at *
  intro F w hw
  refine (h F w hw).mono ?_
  rintro e w' ⟨v, Q, h1, h2, ⟨u, rfl, rfl⟩, d⟩
  have d1 := own_one d
  have d2 := own_slC d
  exact ⟨_, _, h1, h2, ⟨u, _, rfl, d1, RefO.own d1 d2, rfl⟩, d⟩
set_option maxHeartbeats 4000000 in
theorem rJoin_err (s t : Nat) (va vb : Value) (ha : va.oneCell' = true) (hb : vb.oneCell' = true) (h : pairE s t ≠ 0) : Fn Tryd.prog 55 #[refV s va, refV t vb] [] (fun r Q => r = .tuple #[refV s va, .bool false, i64 (pairE s t)] ∧ Q = []) := by
  have hw := rpair_spec s t va vb ha hb
  have d0 : decide (pairE s t ≠ 0) = true := decide_eq_true h
  generalize pairE s t = e at hw d0 ⊢
  refine Fn.mk2 Tryd.func55 rfl rfl fun w0 F => ?_
  (refine G.seq ?_; refine G.region ?_; refine GO.box rfl rfl rfl fun b2 => ?_; refine GO.box rfl rfl rfl fun b3 => ?_; refine GO.alloc rfl fun b4 => ?_; refine GO.assign rfl rfl ?_; refine GO.assign rfl rfl ?_; refine GO.nil ?_; refine kthen_n ?_; refine G.seq ?_; refine G.region ?_; refine GO.loadW rfl rfl rfl (Tk.t (Tk.t Tk.h)) rfl ?_; refine GO.loadW rfl rfl rfl (Tk.t Tk.h) rfl ?_)
  refine GO.call2 rfl rfl rfl (hw) Tks.n ?_
  rintro _ _ ⟨rfl, rfl⟩
  (refine GO.assign rfl rfl ?_; refine GO.nil ?_; refine kthen_n ?_; refine G.seq ?_; refine G.seq ?_; refine G.region ?_; refine GO.move rfl rfl ?_; refine GO.nei rfl rfl rfl ?_; refine GO.nil ?_; refine kthen_n ?_; refine G.condT rfl (by assumption) ?_; refine G.seq ?_; refine G.region ?_; refine GO.loadW rfl rfl rfl (Tk.t (Tk.t Tk.h)) rfl ?_; refine GO.move rfl rfl ?_; refine GO.storeW rfl rfl Tk.h ⟨rfl, rfl⟩ (by simp [Value.oneCell']; assumption) ?_; refine GO.assign rfl rfl ?_; refine GO.assign rfl rfl ?_; refine GO.nil ?_; refine kthen_n ?_; refine G.ret ?_; refine kthen_r ?_)
  refine KF2.r3 rfl (RV.cW (n := 2) rfl rfl (by (exact Tk.h)) rfl) (RV.t rfl) (RV.t rfl) ⟨rfl, rfl⟩ (ImpS.sb ?_)
  (skip; (refine Sb.s ?_; refine Sb.s ?_; refine Sb.s ?_; exact Sb.r))
set_option maxHeartbeats 4000000 in
theorem rLess_err (s t : Nat) (va vb : Value) (ha : va.oneCell' = true) (hb : vb.oneCell' = true) (h : pairE s t ≠ 0) : Fn Tryd.prog 26 #[refV s va, refV t vb] [] (fun r Q => r = .tuple #[refV 0 (.slice none 0 0), i64 (pairE s t)] ∧ Q = []) := by
  have hw := rpair_spec s t va vb ha hb
  have d0 : decide (pairE s t ≠ 0) = true := decide_eq_true h
  generalize pairE s t = e at hw d0 ⊢
  refine Fn.mk2 Tryd.func26 rfl rfl fun w0 F => ?_
  (refine G.seq ?_; refine G.region ?_; refine GO.box rfl rfl rfl fun b2 => ?_; refine GO.box rfl rfl rfl fun b3 => ?_; refine GO.alloc rfl fun b4 => ?_; refine GO.assign rfl rfl ?_; refine GO.nil ?_; refine kthen_n ?_; refine G.seq ?_; refine G.region ?_; refine GO.loadW rfl rfl rfl (Tk.t (Tk.t Tk.h)) rfl ?_; refine GO.loadW rfl rfl rfl (Tk.t Tk.h) rfl ?_)
  refine GO.call2 rfl rfl rfl (hw) Tks.n ?_
  rintro _ _ ⟨rfl, rfl⟩
  (refine GO.assign rfl rfl ?_; refine GO.nil ?_; refine kthen_n ?_; refine G.seq ?_; refine G.seq ?_; refine G.region ?_; refine GO.move rfl rfl ?_; refine GO.nei rfl rfl rfl ?_; refine GO.nil ?_; refine kthen_n ?_; refine G.condT rfl (by assumption) ?_; refine G.seq ?_; refine G.region ?_; refine GO.build0 rfl ?_; refine GO.move rfl rfl ?_; refine GO.storeW rfl rfl Tk.h ⟨rfl, rfl⟩ (by simp [Value.oneCell']) ?_; refine GO.assign rfl rfl ?_; refine GO.nil ?_; refine kthen_n ?_; refine G.ret ?_; refine kthen_r ?_)
  refine KF2.r2 rfl (RV.cW (n := 2) rfl rfl (by (exact Tk.h)) rfl) (RV.t rfl) ⟨rfl, rfl⟩ (ImpS.sb ?_)
  (skip; (refine Sb.s ?_; refine Sb.s ?_; refine Sb.s ?_; exact Sb.r))
theorem pairE_cases (a b : OptM) (wa : WfM a) (wb : WfM b) : (pairE (sideO a) (sideO b) ≠ 0 ∧ joinO a b = a ∧ joinB a b = false ∧ lessO a b = none) ∨ ∃ s X Y, a = some (s, X) ∧ b = some (s, Y) ∧ 1 ≤ s ∧ s ≤ 1024 ∧ (∀ r c, X r c = true → r < s ∧ c < s) ∧ (∀ r c, Y r c = true → r < s ∧ c < s) := by
  cases a with
  | none => exact .inl ⟨by rw [show sideO none = 0 from rfl, pairE_n1]; decide, rfl, rfl, rfl⟩
  | some p =>
    obtain ⟨s, X⟩ := p
    cases b with
    | none => exact .inl ⟨by rw [show sideO none = 0 from rfl, pairE_n2]; decide, rfl, rfl, rfl⟩
    | some p2 =>
      obtain ⟨t, Y⟩ := p2
      have hs := wa s X rfl
      have ht := wb t Y rfl
      by_cases h : s = t
      · subst h
        exact .inr ⟨s, X, Y, rfl, rfl, hs.1.1, hs.1.2, hs.2, ht.2⟩
      · refine .inl ⟨?_, if_neg h, ?_, lessO_ne X Y h⟩
        · rw [show pairE (sideO (some (s, X))) (sideO (some (t, Y))) = 5 from pairE_ne hs.1.1 ht.1.1 h]; decide
        · show (decide (s = t) && _) = false
          rw [decide_eq_false h]; rfl
theorem rJoinE (z : HP) (ra rb : Value) (a b : OptM) (hra : RefO z ra a) (hrb : RefO z rb b) (wa : WfM a) (wb : WfM b) :
    Fn Tryd.prog 55 #[ra, rb] [z] (fun r Q => ∃ v z', r = .tuple #[refV (sideO a) v, .bool (joinB a b), i64 (pairE (sideO a) (sideO b))] ∧ v.oneCell' = true ∧ RefO z' (refV (sideO a) v) (joinO a b) ∧ Sup z z' ∧ Q = [z']) := by
  rcases pairE_cases a b wa wb with ⟨h1, h2, h3, _⟩ | ⟨s, X, Y, rfl, rfl, h1, h2, hx, hy⟩
  · rw [h2, h3]
    have hra0 := hra
    obtain ⟨va, rfl, hone⟩ := hra.slR
    obtain ⟨vb, rfl, hone2⟩ := hrb.slR
    exact (Fn.nilF z (rJoin_err (sideO a) (sideO b) va vb hone hone2 h1)).mono fun r Q hq => ⟨va, z, hq.1, hone, hra0, Sup.refl z, hq.2⟩
  · rw [joinO_same, joinB_same, show pairE (sideO (some (s, X))) (sideO (some (s, Y))) = 0 from pairE_same h1]
    refine Fn.weak (rJoin_same z ra rb s X Y hra hrb ⟨h1, h2⟩ hx hy) ?_
    rintro _ _ ⟨v, p, rfl, hone, hp, rfl⟩
    exact ⟨_, ⟨v, star [p, z], rfl, hone, hp.left, Sup.right _ z, rfl⟩, ImpS.pk _⟩
theorem rLessE (z : HP) (ra rb : Value) (a b : OptM) (hra : RefO z ra a) (hrb : RefO z rb b) (wa : WfM a) (wb : WfM b) :
    Fn Tryd.prog 26 #[ra, rb] [z] (fun r Q => ∃ v z', r = .tuple #[refV (sideO (lessO a b)) v, i64 (pairE (sideO a) (sideO b))] ∧ v.oneCell' = true ∧ RefO z' (refV (sideO (lessO a b)) v) (lessO a b) ∧ Sup z z' ∧ Q = [z']) := by
  rcases pairE_cases a b wa wb with ⟨h1, _, _, h4⟩ | ⟨s, X, Y, rfl, rfl, h1, h2, hx, hy⟩
  · rw [h4]
    obtain ⟨va, rfl, hone⟩ := hra.slR
    obtain ⟨vb, rfl, hone2⟩ := hrb.slR
    exact (Fn.nilF z (rLess_err (sideO a) (sideO b) va vb hone hone2 h1)).mono fun r Q hq => ⟨_, z, hq.1, rfl, RefO.nil z, Sup.refl z, hq.2⟩
  · rw [lessO_same, show pairE (sideO (some (s, X))) (sideO (some (s, Y))) = 0 from pairE_same h1]
    refine Fn.weak (rLess_same z ra rb s X Y hra hrb ⟨h1, h2⟩ hx hy) ?_
    rintro _ _ ⟨v, p, rfl, hone, hp, rfl⟩
    exact ⟨_, ⟨v, star [p, z], rfl, hone, hp.left, Sup.right _ z, rfl⟩, ImpS.pk _⟩
end Go.Proofs.YtfoahdfflchidaaDoor
namespace Go.Proofs.YtfoahdfflchidaaDoor
open Go
def swpL (l : List Cl) : List Cl := l.map fun p => (p.2, p.1)
theorem swpL_succ {l : List Cl} {k : Nat} {x : Cl} (h : l[k]? = some x) : swpL (l.take (k + 1)) = swpL (l.take k) ++ [(x.2, x.1)] := by
  unfold swpL; rw [List.take_add_one, h, Option.toList_some, List.map_append]; rfl
theorem swpL_len (l : List Cl) : (swpL l).length = l.length := List.length_map _
theorem flip_in {s : Nat} {X : Nat → Nat → Bool} (hx : ∀ r c, X r c = true → r < s ∧ c < s) : ∀ r c, flipX X r c = true → r < s ∧ c < s := fun r c h => (hx c r h).symm
theorem srt_swap {s : Nat} {X : Nat → Nat → Bool} (hs : s ≤ 1024) (hx : ∀ r c, X r c = true → r < s ∧ c < s) : srt (swpL (castL (cellsX X))) = castL (cellsX (flipX X)) := by
  refine up_unique (srt_up _ _ (Nat.le_refl _)) (cells_up _) fun p => ?_
  rw [srt_mem _ _ (Nat.le_refl _), cast_mem hs (flip_in hx)]
  unfold swpL
  rw [List.mem_map]
  constructor
  · rintro ⟨q, hq, rfl⟩
    have h := (cast_mem hs hx q).1 hq
    exact ⟨h.2.1, h.1, h.2.2⟩
  · rintro ⟨h1, h2, h3⟩
    exact ⟨(p.2, p.1), (cast_mem hs hx _).2 ⟨h2, h1, h3⟩, rfl⟩
/-- The columns of a row's cells. -/
def colsL (l : List (Nat × Nat)) (m : Nat) : List Nat := (l.filter fun p => decide (p.1 = m)).map (·.2)
theorem colsL_yes {l : List (Nat × Nat)} {k m : Nat} {x : Nat × Nat} (h : l[k]? = some x) (e : x.1 = m) : colsL (l.take (k + 1)) m = colsL (l.take k) m ++ [x.2] := by
  unfold colsL
  rw [List.take_add_one, h, Option.toList_some, List.filter_append, List.filter_cons_of_pos (by rw [decide_eq_true e]), List.filter_nil, List.map_append]; rfl
theorem colsL_no {l : List (Nat × Nat)} {k m : Nat} {x : Nat × Nat} (h : l[k]? = some x) (e : x.1 ≠ m) : colsL (l.take (k + 1)) m = colsL (l.take k) m := by
  unfold colsL
  rw [List.take_add_one, h, Option.toList_some, List.filter_append, List.filter_cons_of_neg (by rw [decide_eq_false e]; simp), List.filter_nil, List.append_nil]
theorem colsL_len (l : List (Nat × Nat)) (k m : Nat) : (colsL (l.take k) m).length ≤ k := by
  unfold colsL
  rw [List.length_map]
  exact Nat.le_trans (List.length_filter_le _ _) (by rw [List.length_take]; omega)
theorem colsL_row {s m : Nat} {X : Nat → Nat → Bool} (hs : s ≤ 1024) (hx : ∀ r c, X r c = true → r < s ∧ c < s) : colsL (cellsX X) m = rowX X m := by
  refine strict_unique (R := fun a b : Nat => a < b) (fun _ _ h => by omega) ?_ (List.Pairwise.filter _ List.pairwise_lt_range) fun c => ?_
  · unfold colsL
    rw [List.pairwise_map]
    refine List.Pairwise.imp_of_mem ?_ (List.Pairwise.filter _ (cells_pairs X))
    intro a b ha hb h
    have h1 := of_decide_eq_true (List.mem_filter.1 ha).2
    have h2 := of_decide_eq_true (List.mem_filter.1 hb).2
    rw [ltC_iff] at h
    dsimp only at h
    omega
  · unfold colsL rowX
    rw [List.mem_map, List.mem_filter, List.mem_range]
    constructor
    · rintro ⟨p, hp, rfl⟩
      obtain ⟨hp1, hp2⟩ := List.mem_filter.1 hp
      have e := of_decide_eq_true hp2
      subst e
      have h := (cellsX_iff hs hx p).1 hp1
      have := hx _ _ h
      exact ⟨by omega, h⟩
    · rintro ⟨_, h⟩
      exact ⟨(m, c), List.mem_filter.2 ⟨(cellsX_iff hs hx (m, c)).2 h, decide_eq_true rfl⟩, rfl⟩
theorem turn_eq (o : OptM) (wo : WfM o) : srt (swpL (castL (cellsX (setO o)))) = castL (cellsX (setO (turnO o))) := by
  cases o with
  | none => show srt (swpL (castL (cellsX noX))) = castL (cellsX noX); rw [cells_no]; unfold castL swpL; rw [List.map_nil, List.map_nil, srt_small (by simp)]
  | some p => obtain ⟨s, X⟩ := p; exact srt_swap (wo s X rfl).1.2 (wo s X rfl).2
theorem turn_side (o : OptM) : sideO (turnO o) = sideO o := by cases o <;> rfl
attribute [local irreducible] G GO GR GT GW Fn FnV pt init exs pur sat own ImpS mat posL allV orL restX cellsX cellsV cntX lessX uniX rowX natsV lines plc swpL colsL
set_option maxHeartbeats 8000000 in
theorem rTurn_core (z : HP) (s : Nat) (va : Value) (la : List Cl) (hone : va.oneCell' = true) (hsl : SlC z va la) (hn : ¬ 1048576 < la.length) :
    Fn Tryd.prog 25 #[refV s va] [z] (fun r Q => ∃ v, r = refV s v ∧ Q = [own 34 2 (srt (swpL la)).length v (cellsV (srt (swpL la))), z]) := by
  have hsort := fun (v : Value) (R : HP) (h : SlC R v (swpL la)) => sorted_spec _ (swpL la) (Nat.le_refl _) R v h (by rw [swpL_len]; omega)
  obtain ⟨aa, capa, rfl, _, hra⟩ := hsl
  refine Fn.mk2 Tryd.func25 rfl rfl fun w0 F => ?_
  refine G.ownNil (T := 34) (sz := 2) ?_
  (refine G.seq ?_; refine G.region ?_; refine GO.box rfl rfl rfl fun b1 => ?_; refine GO.alloc rfl fun b2 => ?_; refine GO.nil ?_; refine kthen_n ?_; refine G.seq ?_; refine G.region ?_; refine GO.assign rfl rfl ?_; refine GO.nil ?_; refine kthen_n ?_; refine G.seq ?_; refine G.seq ?_; refine G.region ?_; refine GO.assign rfl rfl ?_; refine GO.nil ?_; refine kthen_n ?_; refine G.block ?_)
  refine G.loop2 (fun (k : Nat) (v : Value) => [(1, ptrV b1), (2, ptrV b2), (3, v), (4, i64 (k : Nat))])
    (fun k v => own 34 2 (swpL (la.take k)).length v (cellsV (swpL (la.take k))) :: pt b1 (row [i64 (s : Nat), .slice aa la.length capa] 52) :: pt b2 (row [i64 0, .slice none 0 0] 52) :: z :: F)
    (fun k _ => k ≤ la.length) (fun k _ => la.length - k) 0 (.slice none 0 0) (Nat.zero_le _) ?_ ?_ ?_
  · (refine SubE.c rfl rfl ?_; refine SubE.c rfl rfl ?_; refine SubE.c rfl rfl ?_; refine SubE.c rfl rfl ?_; exact SubE.n)
  · rw [show swpL (la.take 0) = [] by unfold swpL; rfl, show cellsV [] = [] by unfold cellsV; rfl]
    ((refine Sb.c (Tk.t (Tk.t Tk.h)) ?_; refine Sb.c (Tk.t Tk.h) ?_; refine Sb.c Tk.h ?_; refine Sb.c Tk.h ?_); (exact Sb.r))
  rintro k v hk
  (refine G.seq ?_; refine G.seq ?_; refine G.region ?_; refine GO.move rfl rfl ?_; refine GO.fieldAddr rfl rfl ?_; refine GO.load1 rfl rfl rfl (Tk.t Tk.h) rfl ?_; refine GO.lenS rfl rfl ?_; refine GO.lti rfl rfl rfl ?_; refine GO.nil ?_; refine kthen_n ?_)
  refine G.condD rfl (fun hlt => ?_) (fun hge => ?_)
  · have hkl : k < la.length := by omega
    obtain ⟨x, hxk⟩ : ∃ x, la[k]? = some x := ⟨_, List.getElem?_eq_getElem hkl⟩
    have hstep := swpL_succ hxk
    have hlen : (swpL (la.take k)).length = k := by rw [swpL_len, List.length_take]; omega
    obtain ⟨ba, oa, rfl, hrx⟩ := hra (by omega)
    have r1 : Rd z ⟨ba, oa + k * 2, none⟩ (i64 x.1) := hrx _ _ (cellsV_get hxk).1
    have r2 : Rd z ⟨ba, oa + k * 2 + 1, none⟩ (i64 x.2) := hrx _ _ (cellsV_get hxk).2
    (refine G.skip ?_; refine kthen_n ?_; refine G.seq ?_; refine G.block ?_)
    refine G.drawT 16 49152 [pt b1 (row [i64 (s : Nat), .slice (some ⟨ba, oa, none⟩) la.length capa] 52), z] (own 34 2 (swpL (la.take k)).length v (cellsV (swpL (la.take k))) :: pt b2 (row [i64 0, .slice none 0 0] 52) :: F) (by kernel_rfl) (keys_of rfl) (ImpS.sb (by ((refine Sb.c (Tk.t Tk.h) ?_; refine Sb.c (Tk.t (Tk.t Tk.h)) ?_; refine Sb.c Tk.h ?_; refine Sb.c Tk.h ?_); (exact Sb.r)))) ?_
    ((apply GR.step rfl; focus (intro Z; refine GO.move rfl rfl ?_; exact KQ.z)); (apply GR.step rfl; focus (intro Z; refine GO.fieldAddr rfl rfl ?_; exact KQ.z)); (apply GR.step rfl; focus (intro Z; refine GO.load1 rfl rfl rfl Tk.h rfl ?_; exact KQ.z)); (apply GR.step rfl; focus (intro Z; refine GO.move rfl rfl ?_; exact KQ.z)); (apply GR.step rfl; focus (intro Z; refine GO.idxS rfl rfl rfl ⟨rfl, by omega⟩ ?_; exact KQ.z)); (apply GR.step rfl; focus (intro Z; refine GO.fieldAddr rfl rfl ?_; exact KQ.z)); (apply GR.step rfl; focus (intro Z; refine GO.loadQ rfl rfl rfl (Tk.t Tk.h) (by assumption) ?_; exact KQ.z)); (apply GR.step rfl; focus (intro Z; refine GO.fieldAddr rfl rfl ?_; exact KQ.z)); (apply GR.step rfl; focus (intro Z; refine GO.load1 rfl rfl rfl Tk.h rfl ?_; exact KQ.z)); (apply GR.step rfl; focus (intro Z; refine GO.move rfl rfl ?_; exact KQ.z)); (apply GR.step rfl; focus (intro Z; refine GO.idxS rfl rfl rfl ⟨rfl, by omega⟩ ?_; exact KQ.z)); (apply GR.step rfl; focus (intro Z; refine GO.fieldAddr rfl rfl ?_; exact KQ.z)); (apply GR.step rfl; focus (intro Z; refine GO.loadQ rfl rfl rfl (Tk.t Tk.h) (by assumption) ?_; exact KQ.z)); (apply GR.step rfl; focus (intro Z; refine GO.build2 rfl rfl rfl rfl ?_; exact KQ.z)); refine GR.skip rfl ?_; refine GR.skip rfl ?_; refine GR.nil ?_)
    (repeat refine GT.skip rfl ?_)
    refine GT.step rfl ?_
    refine GO.buildSlice1 (n := 2) rfl rfl (by simp; rfl) rfl ⟨by omega, by omega⟩ fun bs => ?_
    refine GO.nil ⟨rfl, _, pt bs (row [i64 x.2, i64 x.1] 34) :: own 34 2 (swpL (la.take k)).length v (cellsV (swpL (la.take k))) :: pt b2 (row [i64 0, .slice none 0 0] 52) :: F, rfl, ImpS.sb (by ((refine Sb.c (Tk.t Tk.h) ?_; refine Sb.c (Tk.t Tk.h) ?_; refine Sb.c Tk.h ?_; refine Sb.c Tk.h ?_; refine Sb.c Tk.h ?_); (exact Sb.r))), ?_⟩
    refine GT.step rfl ?_
    refine GO.appendOwn (m := 1) (news := [i64 x.2, i64 x.1]) rfl rfl rfl (Tk.t (Tk.t (Tk.t Tk.h))) (Tk.t (Tk.t Tk.h)) rfl (by simp [Value.oneCell']) ⟨by decide, rfl⟩ Nat.one_pos (by unfold maxLen; omega) (by omega) fun v4 => ?_
    rw [cellsV_snoc (p := (x.2, x.1)), show (swpL (la.take k)).length + 1 = (swpL (la.take k) ++ [(x.2, x.1)]).length by rw [List.length_append]; rfl, ← hstep]
    refine GO.nil ⟨rfl, _, own 34 2 (swpL (la.take (k + 1))).length v4 (cellsV (swpL (la.take (k + 1)))) :: pt b2 (row [i64 0, .slice none 0 0] 52) :: F, rfl, ImpS.sb (by ((refine Sb.c (Tk.t Tk.h) ?_; refine Sb.c (Tk.t Tk.h) ?_; refine Sb.c Tk.h ?_; refine Sb.c (Tk.t Tk.h) ?_); (refine Sb.s ?_; exact Sb.r))), ?_⟩
    refine GT.nil ?_
    (refine GO.assign rfl rfl ?_; refine GO.nil ?_; refine kblock_n ?_; refine kthen_n ?_; refine G.region ?_; refine GO.move rfl rfl ?_; refine GO.addi rfl rfl rfl (by omega) ?_; refine GO.assign rfl rfl ?_; refine GO.nil ?_; refine kthen_n ?_)
    refine ⟨k + 1, v4, by omega, by omega, ?_, ?_⟩
    · (refine SubE.c rfl rfl ?_; refine SubE.c rfl rfl ?_; refine SubE.c rfl rfl ?_; refine SubE.c rfl rfl ?_; exact SubE.n)
    · ((refine Sb.c (Tk.t (Tk.t Tk.h)) ?_; refine Sb.c Tk.h ?_; refine Sb.c (Tk.t Tk.h) ?_; refine Sb.c Tk.h ?_); (exact Sb.r))
  · obtain rfl : k = la.length := by omega
    rw [List.take_length]
    (refine G.exit ?_; refine kthen_x ?_; refine kthen_x ?_; refine kblock_x ?_; refine kthen_n ?_; refine G.seq ?_)
    refine G.drawT 5 24 [pt b1 (row [i64 (s : Nat), .slice aa la.length capa] 52)] (own 34 2 (swpL la).length v (cellsV (swpL la)) :: pt b2 (row [i64 0, .slice none 0 0] 52) :: z :: F) (by kernel_rfl) (keys_of rfl) (ImpS.sb (by ((refine Sb.c (Tk.t Tk.h) ?_; refine Sb.c Tk.h ?_; refine Sb.c Tk.h ?_; refine Sb.c Tk.h ?_); (exact Sb.r)))) ?_
    ((apply GR.step rfl; focus (intro Z; refine GO.fieldAddr rfl rfl ?_; exact KQ.z)); (apply GR.step rfl; focus (intro Z; refine GO.load1 rfl rfl rfl Tk.h rfl ?_; exact KQ.z)); (apply GR.step rfl; focus (intro Z; refine GO.move rfl rfl ?_; exact KQ.z)); refine GR.skip rfl ?_; refine GR.skip rfl ?_; refine GR.nil ?_)
    (repeat refine GT.skip rfl ?_)
    refine GT.step rfl ?_
    refine GO.ownSlC (l := swpL la) (Tk.t Tk.h) fun hqq => ?_
    refine GO.call1 rfl rfl (hsort v _ hqq) (Tks.c (Tk.t Tk.h) Tks.n) ?_
    rintro v2 _ rfl
    refine GO.nil ⟨rfl, _, own 34 2 (srt (swpL la)).length v2 (cellsV (srt (swpL la))) :: own 34 2 (swpL la).length v (cellsV (swpL la)) :: pt b2 (row [i64 0, .slice none 0 0] 52) :: z :: F, rfl, ImpS.sb (by ((refine Sb.c (Tk.t (Tk.t Tk.h)) ?_; refine Sb.c Tk.h ?_; refine Sb.c Tk.h ?_; refine Sb.c Tk.h ?_; refine Sb.c Tk.h ?_); (exact Sb.r))), ?_⟩
    refine GT.step rfl ?_
    refine GO.ownV (Tk.t Tk.h) fun a9 cap9 hv9 => ?_
    subst hv9
    refine GO.build2 rfl rfl rfl rfl ?_
    rw [show ∀ n : Nat, (putParts [i64 (s : Nat), Value.slice a9 n cap9]).toArray = #[i64 (s : Nat), Value.slice a9 n cap9] from fun n => by simp [putParts, Value.cells]]
    refine GO.nil ⟨rfl, _, _, rfl, ImpS.refl, ?_⟩
    refine GT.nil ?_
    (refine GO.storeW rfl rfl (Tk.t (Tk.t (Tk.t Tk.h))) ⟨rfl, rfl⟩ (by simp [Value.oneCell']) ?_; refine GO.nil ?_; refine kthen_n ?_; refine G.ret ?_)
    refine KF2.r1 rfl (RV.cW (n := 2) rfl rfl (by (exact Tk.h)) rfl) ⟨_, rfl, rfl⟩ (ImpS.sb ?_)
    ((refine Sb.c (Tk.t (Tk.t Tk.h)) ?_; refine Sb.c (Tk.t (Tk.t (Tk.t Tk.h))) ?_); (refine Sb.s ?_; refine Sb.s ?_; refine Sb.s ?_; exact Sb.r))
theorem rTurnE (z : HP) (ra : Value) (o : OptM) (hra : RefO z ra o) (wo : WfM o) :
    Fn Tryd.prog 25 #[ra] [z] (fun r Q => ∃ v z', r = refV (sideO (turnO o)) v ∧ v.oneCell' = true ∧ RefO z' (refV (sideO (turnO o)) v) (turnO o) ∧ Sup z z' ∧ Q = [z']) := by
  obtain ⟨va, rfl, hone, hsl⟩ := hra
  have h := rTurn_core z (sideO o) va _ hone hsl (by have := cast_small (setO o); omega)
  rw [turn_eq o wo] at h
  rw [turn_side]
  unfold Fn at *
  intro F w hw
  refine (h F w hw).mono ?_
  rintro e w' ⟨v, Q, e1, e2, ⟨u, rfl, rfl⟩, d⟩
  have d1 := own_one d
  have d2 := own_slC d
  exact ⟨_, _, e1, e2, ⟨u, star [_, z], rfl, d1, RefO.left ⟨u, by rw [turn_side], d1, d2⟩, Sup.right _ z, rfl⟩, sat_flat.2 d⟩
set_option maxHeartbeats 8000000 in
theorem rRow_core (z : HP) (s m : Nat) (va : Value) (la : List (Nat × Nat)) (hone : va.oneCell' = true) (hsl : SlC z va (castL la)) (hn : ¬ 1048576 < la.length) (hs : 1 ≤ s) (hm : m < s) :
    Fn Tryd.prog 61 #[refV s va, i64 (m : Nat)] [z] (fun r Q => ∃ v, r = .tuple #[v, i64 0] ∧ Q = [own 3 1 (colsL la m).length v (natsV (colsL la m)), z]) := by
  have hw := refWrong2 s (m : Nat) (0 : Nat) va hone
  rw [wrO_in hs hm (Nat.lt_of_lt_of_le Nat.zero_lt_one hs)] at hw
  obtain ⟨aa, capa, rfl, _, hra⟩ := hsl
  rw [castL_len] at hra hw ⊢
  refine Fn.mk2 Tryd.func61 rfl rfl fun w0 F => ?_
  refine G.ownNil (T := 3) (sz := 1) ?_
  (refine G.seq ?_; refine G.region ?_; refine GO.box rfl rfl rfl fun b2 => ?_; refine GO.assign rfl rfl ?_; refine GO.assign rfl rfl ?_; refine GO.nil ?_; refine kthen_n ?_; refine G.seq ?_; refine G.region ?_; refine GO.loadW rfl rfl rfl Tk.h rfl ?_; refine GO.move rfl rfl ?_)
  refine GO.call3 rfl rfl rfl rfl (hw) Tks.n ?_
  rintro _ _ ⟨rfl, rfl⟩
  (refine GO.assign rfl rfl ?_; refine GO.nil ?_; refine kthen_n ?_; refine G.seq ?_; refine G.seq ?_; refine G.region ?_; refine GO.move rfl rfl ?_; refine GO.neF rfl rfl rfl rfl ?_; refine GO.nil ?_; refine kthen_n ?_; refine G.condF rfl rfl ?_; refine G.skip ?_; refine kthen_n ?_; refine G.seq ?_; refine G.region ?_; refine GO.assign rfl rfl ?_; refine GO.nil ?_; refine kthen_n ?_; refine G.seq ?_; refine G.seq ?_; refine G.region ?_; refine GO.assign rfl rfl ?_; refine GO.nil ?_; refine kthen_n ?_; refine G.block ?_)
  refine G.loop2 (fun (k : Nat) (v : Value) => [(1, i64 (m : Nat)), (2, ptrV b2), (7, v), (8, i64 (k : Nat))])
    (fun k v => own 3 1 (colsL (la.take k) m).length v (natsV (colsL (la.take k) m)) :: pt b2 (row [i64 (s : Nat), .slice aa la.length capa] 52) :: z :: F)
    (fun k _ => k ≤ la.length) (fun k _ => la.length - k) 0 (.slice none 0 0) (Nat.zero_le _) ?_ ?_ ?_
  · (refine SubE.c rfl rfl ?_; refine SubE.c rfl rfl ?_; refine SubE.c rfl rfl ?_; refine SubE.c rfl rfl ?_; exact SubE.n)
  · rw [show colsL (la.take 0) m = [] by unfold colsL; rfl, show natsV [] = [] by unfold natsV; rfl]
    ((refine Sb.c (Tk.t Tk.h) ?_; refine Sb.c Tk.h ?_; refine Sb.c Tk.h ?_); (exact Sb.r))
  rintro k v hk
  (refine G.seq ?_; refine G.seq ?_; refine G.region ?_; refine GO.move rfl rfl ?_; refine GO.fieldAddr rfl rfl ?_; refine GO.load1 rfl rfl rfl (Tk.t Tk.h) rfl ?_; refine GO.lenS rfl rfl ?_; refine GO.lti rfl rfl rfl ?_; refine GO.nil ?_; refine kthen_n ?_)
  refine G.condD rfl (fun hlt => ?_) (fun hge => ?_)
  · have hkl : k < la.length := by omega
    obtain ⟨x, hxk⟩ : ∃ x, la[k]? = some x := ⟨_, List.getElem?_eq_getElem hkl⟩
    have hlen := colsL_len la k m
    have hpc : (castL la)[k]? = some ((x.1 : Int), (x.2 : Int)) := by unfold castL; rw [List.getElem?_map, hxk]; rfl
    obtain ⟨ba, oa, rfl, hrx⟩ := hra (by omega)
    have r1 : Rd z ⟨ba, oa + k * 2, none⟩ (i64 ((x.1 : Nat) : Int)) := hrx _ _ (cellsV_get hpc).1
    have r2 : Rd z ⟨ba, oa + k * 2 + 1, none⟩ (i64 ((x.2 : Nat) : Int)) := hrx _ _ (cellsV_get hpc).2
    (refine G.skip ?_; refine kthen_n ?_; refine G.seq ?_; refine G.block ?_; refine G.seq ?_; refine G.region ?_; refine GO.fieldAddr rfl rfl ?_; refine GO.load1 rfl rfl rfl (Tk.t Tk.h) rfl ?_; refine GO.move rfl rfl ?_; refine GO.idxS rfl rfl rfl ⟨rfl, by omega⟩ ?_; refine GO.fieldAddr rfl rfl ?_; refine GO.loadQ rfl rfl rfl (Tk.t (Tk.t Tk.h)) (by assumption) ?_; refine GO.move rfl rfl ?_; refine GO.eqi rfl rfl rfl ?_; refine GO.nil ?_; refine kthen_n ?_)
    refine G.condD rfl (fun he => ?_) (fun hne => ?_)
    · have hstep := colsL_yes hxk (show x.1 = m by omega)
      (refine G.region ?_; refine GO.move rfl rfl ?_; refine GO.fieldAddr rfl rfl ?_; refine GO.load1 rfl rfl rfl (Tk.t Tk.h) rfl ?_; refine GO.move rfl rfl ?_; refine GO.idxS rfl rfl rfl ⟨rfl, by omega⟩ ?_; refine GO.fieldAddr rfl rfl ?_; refine GO.loadQ rfl rfl rfl (Tk.t (Tk.t Tk.h)) (by assumption) ?_)
      refine GO.buildSlice1 rfl rfl (by simp; rfl) rfl ⟨by omega, by omega⟩ fun bs => ?_
      refine GO.appendOwn (m := 1) (news := [i64 ((x.2 : Nat) : Int)]) rfl rfl rfl (Tk.t Tk.h) Tk.h rfl (by simp [Value.oneCell']) ⟨by decide, rfl⟩ Nat.one_pos (by unfold maxLen; omega) (by omega) fun v4 => ?_
      rw [natsV_one, show (colsL (la.take k) m).length + 1 = (colsL (la.take k) m ++ [x.2]).length by rw [List.length_append]; rfl, ← hstep]
      (refine GO.assign rfl rfl ?_; refine GO.nil ?_; refine kblock_n ?_; refine kthen_n ?_; refine G.region ?_; refine GO.move rfl rfl ?_; refine GO.addi rfl rfl rfl (by omega) ?_; refine GO.assign rfl rfl ?_; refine GO.nil ?_; refine kthen_n ?_)
      refine ⟨k + 1, v4, by omega, by omega, ?_, ?_⟩
      · (refine SubE.c rfl rfl ?_; refine SubE.c rfl rfl ?_; refine SubE.c rfl rfl ?_; refine SubE.c rfl rfl ?_; exact SubE.n)
      · ((refine Sb.c Tk.h ?_; refine Sb.c (Tk.t Tk.h) ?_; refine Sb.c (Tk.t Tk.h) ?_); (refine Sb.s ?_; exact Sb.r))
    · have hstep := colsL_no hxk (show x.1 ≠ m by omega)
      (refine G.skip ?_; refine kblock_n ?_; refine kthen_n ?_; refine G.region ?_; refine GO.move rfl rfl ?_; refine GO.addi rfl rfl rfl (by omega) ?_; refine GO.assign rfl rfl ?_; refine GO.nil ?_; refine kthen_n ?_)
      refine ⟨k + 1, v, by omega, by omega, ?_, ?_⟩
      · (refine SubE.c rfl rfl ?_; refine SubE.c rfl rfl ?_; refine SubE.c rfl rfl ?_; refine SubE.c rfl rfl ?_; exact SubE.n)
      · rw [hstep]
        ((refine Sb.c Tk.h ?_; refine Sb.c Tk.h ?_; refine Sb.c Tk.h ?_); (exact Sb.r))
  · obtain rfl : k = la.length := by omega
    rw [List.take_length]
    (refine G.exit ?_; refine kthen_x ?_; refine kthen_x ?_; refine kblock_x ?_; refine kthen_n ?_; refine G.seq ?_; refine G.region ?_; refine GO.move rfl rfl ?_; refine GO.assign rfl rfl ?_; refine GO.assign rfl rfl ?_; refine GO.nil ?_; refine kthen_n ?_; refine G.ret ?_)
    refine KF2.r2 rfl (RV.t rfl) (RV.t rfl) ⟨_, rfl, rfl⟩ (ImpS.sb ?_)
    ((refine Sb.c Tk.h ?_; refine Sb.c (Tk.t Tk.h) ?_); (refine Sb.s ?_; exact Sb.r))
set_option maxHeartbeats 4000000 in
theorem rRow_err (s : Nat) (i : Int) (va : Value) (ha : va.oneCell' = true) (h : wrO s i 0 ≠ 0) : Fn Tryd.prog 61 #[refV s va, i64 i] [] (fun r Q => r = .tuple #[.slice none 0 0, i64 (wrO s i 0)] ∧ Q = []) := by
  have hw := refWrong2 s i 0 va ha
  have d0 : decide (wrO s i 0 ≠ 0) = true := decide_eq_true h
  generalize wrO s i 0 = e at hw d0 ⊢
  refine Fn.mk2 Tryd.func61 rfl rfl fun w0 F => ?_
  (refine G.seq ?_; refine G.region ?_; refine GO.box rfl rfl rfl fun b2 => ?_; refine GO.assign rfl rfl ?_; refine GO.assign rfl rfl ?_; refine GO.nil ?_; refine kthen_n ?_; refine G.seq ?_; refine G.region ?_; refine GO.loadW rfl rfl rfl Tk.h rfl ?_; refine GO.move rfl rfl ?_)
  refine GO.call3 rfl rfl rfl rfl (hw) Tks.n ?_
  rintro _ _ ⟨rfl, rfl⟩
  (refine GO.assign rfl rfl ?_; refine GO.nil ?_; refine kthen_n ?_; refine G.seq ?_; refine G.seq ?_; refine G.region ?_; refine GO.move rfl rfl ?_; refine GO.nei rfl rfl rfl ?_; refine GO.nil ?_; refine kthen_n ?_; refine G.condT rfl (by assumption) ?_; refine G.seq ?_; refine G.region ?_; refine GO.move rfl rfl ?_; refine GO.assign rfl rfl ?_; refine GO.assign rfl rfl ?_; refine GO.nil ?_; refine kthen_n ?_; refine G.ret ?_; refine kthen_r ?_)
  refine KF2.r2 rfl (RV.t rfl) (RV.t rfl) ⟨rfl, rfl⟩ (ImpS.sb ?_)
  (skip; (refine Sb.s ?_; exact Sb.r))
theorem rRowE (z : HP) (ra : Value) (o : OptM) (hra : RefO z ra o) (wo : WfM o) (i : Int) :
    Fn Tryd.prog 61 #[ra, i64 i] [z] (fun r Q => ∃ v, r = .tuple #[v, i64 (wrO (sideO o) i 0)] ∧ Q = [own 3 1 (rowG o i).length v (natsV (rowG o i)), z]) := by
  rcases wrO_cases o wo i 0 with h | ⟨s, X, m, n, rfl, rfl, hn0, hm, hn, h1, h2, hx⟩
  · obtain ⟨va, rfl, hone⟩ := hra.slR
    refine Fn.weak (Fn.nilF z (rRow_err (sideO o) i va hone h)) ?_
    rintro _ _ ⟨rfl, rfl⟩
    rw [rowG_no h, natsV_nil]
    exact ⟨_, ⟨_, rfl, rfl⟩, ImpS.nilOwn⟩
  · obtain ⟨va, rfl, hone, hsl⟩ := hra
    rw [rowG_in X h1 hm, show wrO (sideO (some (s, X))) (m : Nat) 0 = 0 from wrO_in (n := 0) h1 hm (Nat.lt_of_lt_of_le Nat.zero_lt_one h1), ← colsL_row h2 hx]
    exact rRow_core z s m va (cellsX X) hone hsl (by have := cast_small X; rw [castL_len] at this; omega) h1 hm
end Go.Proofs.YtfoahdfflchidaaDoor
