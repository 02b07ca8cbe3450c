/-
  The document's table: places, what comes of a body.
-/
import Derived.Test.YtjokibfldngkeaaDI
import Derived.Test.YtjokibfldngkeaaZ
namespace Go.Proofs.Ytjokibfldngkeaa
open Go
theorem lin_lt {a i m n : Nat} (ha : a < m) (hi : i < n) : a * n + i < m * n := by
  have h1 : (a + 1) * n ≤ m * n := Nat.mul_le_mul_right n ha
  rw [Nat.succ_mul] at h1
  omega
theorem lin_inj {a b i j n : Nat} (hi : i < n) (hj : j < n) (h : a * n + i = b * n + j) : a = b ∧ i = j := by
  rcases Nat.lt_trichotomy a b with h1 | h1 | h1
  · have := lin_lt h1 hi; omega
  · subst h1; exact ⟨rfl, by omega⟩
  · have := lin_lt h1 hj; omega
/-- A fact's place. -/
def atN (n a i j : Nat) : Nat := (a * n + i) * n + j
theorem atN_lt {n m a i j : Nat} (ha : a < m) (hi : i < n) (hj : j < n) : atN n a i j < m * n * n := lin_lt (lin_lt ha hi) hj
theorem atN_inj {n a b i k j l : Nat} (hi : i < n) (hk : k < n) (hj : j < n) (hl : l < n) (h : atN n a i j = atN n b k l) : a = b ∧ i = k ∧ j = l := by
  obtain ⟨h1, h2⟩ := lin_inj hj hl h
  obtain ⟨h3, h4⟩ := lin_inj hi hk h1
  exact ⟨h3, h4, h2⟩
/-- How many are not known. -/
def cntF (K : Nat → Bool) : Nat → Nat
  | 0 => 0
  | n + 1 => cntF K n + if K n then 0 else 1
theorem cntF_out (K : Nat → Bool) (x : Nat) (b : Bool) : ∀ n, n ≤ x → cntF (upd K x b) n = cntF K n
  | 0, _ => rfl
  | n + 1, h => by
    unfold cntF
    rw [cntF_out K x b n (by omega), upd_ne K b (by omega)]
theorem cntF_upd (K : Nat → Bool) (x : Nat) (hx : K x = false) : ∀ n, x < n → cntF (upd K x true) n < cntF K n
  | 0, h => absurd h (Nat.not_lt_zero _)
  | n + 1, h => by
    unfold cntF
    by_cases e : x = n
    · subst e
      rw [cntF_out K x true x (Nat.le_refl _), upd_at, hx]
      simp
    · have := cntF_upd K x hx n (by omega)
      rw [upd_ne K true (fun h => e h.symm)]
      omega
/-- What comes of a body, by what is known. -/
def ComeP (K : Nat → Bool) (w : List Int) (ss : List SymD) (i j : Nat) : Prop :=
  (ss = [] ∧ i = j) ∨ (∃ s, ss = [s] ∧ j = i + 1 ∧ w[i]? = some s.2) ∨
  (∃ s t, ss = [s, t] ∧ ∃ k, i ≤ k ∧ k ≤ j ∧ K (atN (w.length + 1) s.2.toNat i k) = true ∧ K (atN (w.length + 1) t.2.toNat k j) = true)
/-- A weak body's numbers. -/
def BodyOK (m : Nat) (ss : List SymD) : Prop := ss.length ≤ 2 ∧ (ss.length = 2 → ∀ s ∈ ss, 0 ≤ s.2 ∧ s.2 < m)
attribute [local irreducible] G GO GR GT Fn FnV pt init exs pur sat own ImpS symsV wordV
set_option maxHeartbeats 4000000 in
theorem at_spec (a i j n : Nat) (h1 : ¬ 1024 < a) (h2 : ¬ 65 < i) (h3 : ¬ 65 < j) (h4 : ¬ 65 < n) : Fn Try.prog 30 #[i64 (a : Nat), i64 (i : Nat), i64 (j : Nat), i64 (n : Nat)] [] (fun r Q => r = i64 (atN n a i j : Nat) ∧ Q = []) := by
  have b1 : a * n ≤ 1024 * 65 := Nat.mul_le_mul (by omega) (by omega)
  have b2 : (a * n + i) * n ≤ 66625 * 65 := Nat.mul_le_mul (by omega) (by omega)
  have i1 : 0 ≤ (a : Int) * (n : Int) ∧ (a : Int) * (n : Int) ≤ 66560 := by
    have e : (a : Int) * (n : Int) = ((a * n : Nat) : Int) := by push_cast; rfl
    rw [e]; omega
  have i2 : 0 ≤ ((a : Int) * (n : Int) + (i : Int)) * (n : Int) ∧ ((a : Int) * (n : Int) + (i : Int)) * (n : Int) ≤ 4330625 := by
    have e : ((a : Int) * (n : Int) + (i : Int)) * (n : Int) = (((a * n + i) * n : Nat) : Int) := by push_cast; rfl
    rw [e]; omega
  have e3 : ((a : Int) * (n : Int) + (i : Int)) * (n : Int) + (j : Int) = ((atN n a i j : Nat) : Int) := by unfold atN; push_cast; rfl
  refine Fn.mk2 Try.func30 rfl rfl fun w0 F => ?_
  (refine G.seq ?_; refine G.region ?_; refine GO.assign rfl rfl ?_; refine GO.nil ?_; refine kthen_n ?_; refine G.seq ?_; refine G.region ?_; refine GO.move rfl rfl ?_; refine GO.move rfl rfl ?_; refine GO.muli rfl rfl rfl (by omega) ?_; refine GO.move rfl rfl ?_; refine GO.addi rfl rfl rfl (by omega) ?_; refine GO.move rfl rfl ?_; refine GO.muli rfl rfl rfl (by omega) ?_; refine GO.move rfl rfl ?_; refine GO.addi rfl rfl rfl (by omega) ?_; refine GO.assign rfl rfl ?_; refine GO.nil ?_; refine kthen_n ?_; refine G.ret ?_)
  rw [e3]
  refine KF2.r1 rfl (RV.t rfl) ⟨rfl, rfl⟩ (ImpS.sb ?_)
  (skip; (exact Sb.r))
abbrev knM (bo N : Nat) (K : Nat → Bool) : HP := pt bo (row (boolsV K N) 4)
set_option maxHeartbeats 16000000 in
theorem come_spec (q : HP) (m : Nat) (hm : ¬ 1024 < m) (w : List Int) (wv bv : Value) (ss : List SymD) (hw : WordR q wv w) (hs : SymsR q bv ss) (hl : ¬ 64 < w.length) (hb : BodyOK m ss) (bo N : Nat) (hN : N = m * (w.length + 1) * (w.length + 1)) (K : Nat → Bool) (i j : Nat) (hi : i ≤ j) (hj : j ≤ w.length) :
    Fn Try.prog 45 #[bv, wv, .slice (some ⟨bo, 0, none⟩) N N, i64 (i : Nat), i64 (j : Nat)] [q, knM bo N K] (fun r Q => ∃ b, r = .bool b ∧ (b = true ↔ ComeP K w ss i j) ∧ Q = [q, knM bo N K]) := by
  obtain ⟨ab, cb, rfl⟩ := hs.form
  obtain ⟨aw, cw, rfl⟩ := hw.form
  refine Fn.mk2 Try.func45 rfl rfl fun w0 F => ?_
  match ss, hs, hb with
  | [], hs, hb =>
    (refine G.seq ?_; refine G.region ?_; refine GO.assign rfl rfl ?_; refine GO.nil ?_; refine kthen_n ?_; refine G.seq ?_; refine G.region ?_; refine GO.move rfl rfl ?_; refine GO.lenS rfl rfl ?_; refine GO.addi rfl rfl rfl (by omega) ?_; refine GO.assign rfl rfl ?_; refine GO.nil ?_; refine kthen_n ?_; refine G.seq ?_; refine G.seq ?_; refine G.region ?_; refine GO.move rfl rfl ?_; refine GO.lenS rfl rfl ?_; refine GO.eqT rfl rfl rfl rfl ?_; refine GO.nil ?_; refine kthen_n ?_; refine G.condT rfl rfl ?_; refine G.seq ?_; refine G.region ?_; refine GO.move rfl rfl ?_; refine GO.move rfl rfl ?_; refine GO.eqi rfl rfl rfl ?_; refine GO.assign rfl rfl ?_; refine GO.nil ?_; refine kthen_n ?_; refine G.ret ?_; refine kthen_r ?_)
    refine KF2.r1 rfl (RV.t rfl) ⟨_, rfl, ?_, rfl⟩ (ImpS.sb ?_)
    · rw [decide_eq_true_iff]
      constructor
      · intro h; exact .inl ⟨rfl, by omega⟩
      · rintro (⟨_, h⟩ | ⟨s, h, _⟩ | ⟨s, t, h, _⟩)
        · omega
        · cases h
        · cases h
    · ((refine Sb.c Tk.h ?_; refine Sb.c Tk.h ?_); (exact Sb.r))
  | [s], hs, hb =>
    obtain ⟨bb, ob, rfl, _, _, rs⟩ := hs.at (k := 0) (s := s) rfl
    by_cases hji : j = i + 1
    · have dj : decide ((j : Int) = (i : Int) + 1) = true := decide_eq_true (by omega)
      obtain ⟨x, hx⟩ : ∃ x, w[i]? = some x := ⟨_, List.getElem?_eq_getElem (by omega)⟩
      obtain ⟨bw, ow, rfl, _, rw1⟩ := hw.at hx
      (refine G.seq ?_; refine G.region ?_; refine GO.assign rfl rfl ?_; refine GO.nil ?_; refine kthen_n ?_; refine G.seq ?_; refine G.region ?_; refine GO.move rfl rfl ?_; refine GO.lenS rfl rfl ?_; refine GO.addi rfl rfl rfl (by omega) ?_; refine GO.assign rfl rfl ?_; refine GO.nil ?_; refine kthen_n ?_; refine G.seq ?_; refine G.seq ?_; refine G.region ?_; refine GO.move rfl rfl ?_; refine GO.lenS rfl rfl ?_; refine GO.eqi rfl rfl rfl ?_; refine GO.nil ?_; refine kthen_n ?_; refine G.condF rfl rfl ?_; refine G.skip ?_; refine kthen_n ?_; refine G.seq ?_; refine G.seq ?_; refine G.region ?_; refine GO.move rfl rfl ?_; refine GO.lenS rfl rfl ?_; refine GO.eqT rfl rfl rfl rfl ?_; refine GO.nil ?_; refine kthen_n ?_; refine G.condT rfl rfl ?_; refine G.seq ?_)
      refine G.draw 16 (by kernel_rfl) ?_
      ((apply GQ.step; focus (intro Z; refine GO.move rfl rfl ?_; exact KQ.z)); (apply GQ.step; focus (intro Z; refine GO.move rfl rfl ?_; exact KQ.z)); (apply GQ.step; focus (intro Z; refine GO.addi rfl rfl rfl (by omega) ?_; exact KQ.z)); (apply GQ.step; focus (intro Z; refine GO.eqi rfl rfl rfl ?_; exact KQ.z)); (apply GQ.step; focus (intro Z; refine GO.move rfl rfl ?_; exact KQ.z)); (apply GQ.step; focus (intro Z; refine GO.gT rfl rfl (by assumption) ?_; refine GO.move rfl rfl ?_; exact KQ.z)); (apply GQ.step; focus (intro Z; refine GO.gT rfl rfl (by assumption) ?_; refine GO.move rfl rfl ?_; exact KQ.z)); (apply GQ.step; focus (intro Z; refine GO.gT rfl rfl (by assumption) ?_; refine GO.idxS rfl rfl rfl ⟨rfl, by omega⟩ ?_; exact KQ.z)); (apply GQ.step; focus (intro Z; refine GO.gT rfl rfl (by assumption) ?_; refine GO.loadQ rfl rfl rfl Tk.h (by assumption) ?_; exact KQ.z)); (apply GQ.step; focus (intro Z; refine GO.gT rfl rfl (by assumption) ?_; refine GO.move rfl rfl ?_; exact KQ.z)))
      apply GQ.step; focus (intro Z; refine GO.gT rfl rfl (by assumption) ?_; refine GO.idxS (j := 0) rfl rfl rfl ⟨rfl, by simp⟩ ?_; exact KQ.z)
      ((apply GQ.step; focus (intro Z; refine GO.gT rfl rfl (by assumption) ?_; refine GO.fieldAddr rfl rfl ?_; exact KQ.z)); (apply GQ.step; focus (intro Z; refine GO.gT rfl rfl (by assumption) ?_; refine GO.loadQ rfl rfl rfl Tk.h (by assumption) ?_; exact KQ.z)); (apply GQ.step; focus (intro Z; refine GO.gT rfl rfl (by assumption) ?_; refine GO.eqi rfl rfl rfl ?_; exact KQ.z)); (apply GQ.step; focus (intro Z; refine GO.pickTa rfl rfl (by assumption) rfl ?_; exact KQ.z)); (apply GQ.step; focus (intro Z; refine GO.assign rfl rfl ?_; exact KQ.z)); refine GQ.nil ?_)
      (refine GO.nil ?_; refine kthen_n ?_; refine G.ret ?_; refine kthen_r ?_)
      refine KF2.r1 rfl (RV.t rfl) ⟨_, rfl, ?_, rfl⟩ (ImpS.sb ?_)
      · rw [decide_eq_true_iff]
        constructor
        · intro h; exact .inr (.inl ⟨s, rfl, hji, by rw [hx, h]⟩)
        · rintro (⟨h, _⟩ | ⟨s', h, _, h2⟩ | ⟨s', t, h, _⟩)
          · cases h
          · injection h with h _
            subst h
            rw [hx] at h2
            injection h2
          · cases h
      · ((refine Sb.c Tk.h ?_; refine Sb.c Tk.h ?_); (exact Sb.r))
    · have dj : decide ((j : Int) = (i : Int) + 1) = false := decide_eq_false (by omega)
      (refine G.seq ?_; refine G.region ?_; refine GO.assign rfl rfl ?_; refine GO.nil ?_; refine kthen_n ?_; refine G.seq ?_; refine G.region ?_; refine GO.move rfl rfl ?_; refine GO.lenS rfl rfl ?_; refine GO.addi rfl rfl rfl (by omega) ?_; refine GO.assign rfl rfl ?_; refine GO.nil ?_; refine kthen_n ?_; refine G.seq ?_; refine G.seq ?_; refine G.region ?_; refine GO.move rfl rfl ?_; refine GO.lenS rfl rfl ?_; refine GO.eqi rfl rfl rfl ?_; refine GO.nil ?_; refine kthen_n ?_; refine G.condF rfl rfl ?_; refine G.skip ?_; refine kthen_n ?_; refine G.seq ?_; refine G.seq ?_; refine G.region ?_; refine GO.move rfl rfl ?_; refine GO.lenS rfl rfl ?_; refine GO.eqT rfl rfl rfl rfl ?_; refine GO.nil ?_; refine kthen_n ?_; refine G.condT rfl rfl ?_; refine G.seq ?_)
      refine G.draw 16 (by kernel_rfl) ?_
      ((apply GQ.step; focus (intro Z; refine GO.move rfl rfl ?_; exact KQ.z)); (apply GQ.step; focus (intro Z; refine GO.move rfl rfl ?_; exact KQ.z)); (apply GQ.step; focus (intro Z; refine GO.addi rfl rfl rfl (by omega) ?_; exact KQ.z)); (apply GQ.step; focus (intro Z; refine GO.eqi rfl rfl rfl ?_; exact KQ.z)); (apply GQ.step; focus (intro Z; refine GO.move rfl rfl ?_; exact KQ.z)); (apply GQ.step; focus (intro Z; refine GO.gF rfl rfl rfl (by assumption) ?_; exact KQ.z)); (apply GQ.step; focus (intro Z; refine GO.gF rfl rfl rfl (by assumption) ?_; exact KQ.z)); (apply GQ.step; focus (intro Z; refine GO.gF rfl rfl rfl (by assumption) ?_; exact KQ.z)); (apply GQ.step; focus (intro Z; refine GO.gF rfl rfl rfl (by assumption) ?_; exact KQ.z)); (apply GQ.step; focus (intro Z; refine GO.gF rfl rfl rfl (by assumption) ?_; exact KQ.z)); (apply GQ.step; focus (intro Z; refine GO.gF rfl rfl rfl (by assumption) ?_; exact KQ.z)); (apply GQ.step; focus (intro Z; refine GO.gF rfl rfl rfl (by assumption) ?_; exact KQ.z)); (apply GQ.step; focus (intro Z; refine GO.gF rfl rfl rfl (by assumption) ?_; exact KQ.z)); (apply GQ.step; focus (intro Z; refine GO.gF rfl rfl rfl (by assumption) ?_; exact KQ.z)); (apply GQ.step; focus (intro Z; refine GO.pickFa rfl rfl (by assumption) rfl ?_; exact KQ.z)); (apply GQ.step; focus (intro Z; refine GO.assign rfl rfl ?_; exact KQ.z)); refine GQ.nil ?_)
      (refine GO.nil ?_; refine kthen_n ?_; refine G.ret ?_; refine kthen_r ?_)
      refine KF2.r1 rfl (RV.t rfl) ⟨false, rfl, ?_, rfl⟩ (ImpS.sb ?_)
      · constructor
        · intro h; cases h
        · rintro (⟨h, _⟩ | ⟨s', _, h, _⟩ | ⟨s', t, h, _⟩)
          · cases h
          · exact absurd h hji
          · cases h
      · ((refine Sb.c Tk.h ?_; refine Sb.c Tk.h ?_); (exact Sb.r))
  | [s, t], hs, hb =>
    obtain ⟨bb, ob, rfl, _, _, rs⟩ := hs.at (k := 0) (s := s) rfl
    obtain ⟨bb', ob', e, _, _, rt⟩ := hs.at (k := 1) (s := t) rfl
    injection e with e
    injection e with e1 e2
    subst e1 e2
    have hs1 := hb.2 rfl s (by simp)
    have ht1 := hb.2 rfl t (by simp)
    obtain ⟨s1, s2⟩ := s
    obtain ⟨t1, t2⟩ := t
    dsimp only at hs1 ht1 rs rt
    obtain ⟨a, rfl⟩ := Int.eq_ofNat_of_zero_le hs1.1
    obtain ⟨c, rfl⟩ := Int.eq_ofNat_of_zero_le ht1.1
    have ham : a < m := by omega
    have hcm : c < m := by omega
    (refine G.seq ?_; refine G.region ?_; refine GO.assign rfl rfl ?_; refine GO.nil ?_; refine kthen_n ?_; refine G.seq ?_; refine G.region ?_; refine GO.move rfl rfl ?_; refine GO.lenS rfl rfl ?_; refine GO.addi rfl rfl rfl (by omega) ?_; refine GO.assign rfl rfl ?_; refine GO.nil ?_; refine kthen_n ?_; refine G.seq ?_; refine G.seq ?_; refine G.region ?_; refine GO.move rfl rfl ?_; refine GO.lenS rfl rfl ?_; refine GO.eqi rfl rfl rfl ?_; refine GO.nil ?_; refine kthen_n ?_; refine G.condF rfl rfl ?_; refine G.skip ?_; refine kthen_n ?_; refine G.seq ?_; refine G.seq ?_; refine G.region ?_; refine GO.move rfl rfl ?_; refine GO.lenS rfl rfl ?_; refine GO.eqi rfl rfl rfl ?_; refine GO.nil ?_; refine kthen_n ?_; refine G.condF rfl rfl ?_; refine G.skip ?_; refine kthen_n ?_; refine G.seq ?_; refine G.seq ?_; refine G.region ?_; refine GO.move rfl rfl ?_; refine GO.assign rfl rfl ?_; refine GO.nil ?_; refine kthen_n ?_; refine G.block ?_)
    refine G.loop (fun k : Nat => [(0, .slice (some ⟨bb, ob, none⟩) 2 cb), (2, .slice (some ⟨bo, 0, none⟩) N N), (3, i64 (i : Nat)), (4, i64 (j : Nat)), (11, .int .i64 ((w.length : Int) + 1)), (12, i64 (k : Nat))]) (fun _ => q :: knM bo N K :: F)
      (fun k => i ≤ k ∧ k ≤ j + 1 ∧ ∀ x, i ≤ x → x < k → ¬ (K (atN (w.length + 1) a i x) = true ∧ K (atN (w.length + 1) c x j) = true)) (fun k => j + 1 - k) i ⟨Nat.le_refl _, by omega, fun x h1 h2 => absurd h2 (by omega)⟩ ?_ ?_ ?_
    · (refine SubE.c rfl rfl ?_; refine SubE.c rfl rfl ?_; refine SubE.c rfl rfl ?_; refine SubE.c rfl rfl ?_; refine SubE.c rfl rfl ?_; refine SubE.c rfl rfl ?_; exact SubE.n)
    · ((refine Sb.c Tk.h ?_; refine Sb.c Tk.h ?_); (exact Sb.r))
    · rintro k ⟨hk1, hk2, hall⟩
      (refine G.seq ?_; refine G.seq ?_; refine G.region ?_; refine GO.move rfl rfl ?_; refine GO.move rfl rfl ?_; refine GO.lei rfl rfl rfl ?_; refine GO.nil ?_; refine kthen_n ?_)
      refine G.condD rfl (fun hlt => ?_) (fun hge => ?_)
      · have hx1 : atN (w.length + 1) a i k < N := by rw [hN]; exact atN_lt ham (by omega) (by omega)
        have hx2 : atN (w.length + 1) c k j < N := by rw [hN]; exact atN_lt hcm (by omega) (by omega)
        have ha1 := at_spec a i k (w.length + 1) (by omega) (by omega) (by omega) (by omega)
        have ha2 := at_spec c k j (w.length + 1) (by omega) (by omega) (by omega) (by omega)
        rw [show i64 ((w.length + 1 : Nat) : Int) = .int .i64 ((w.length : Int) + 1) from rfl] at ha1 ha2
        generalize hX : atN (w.length + 1) a i k = x at hx1 ha1
        generalize hY : atN (w.length + 1) c k j = y at hx2 ha2
        (refine G.skip ?_; refine kthen_n ?_; refine G.seq ?_; refine G.block ?_; refine G.seq ?_; refine G.region ?_; refine GO.move rfl rfl ?_; refine GO.move rfl rfl ?_)
        refine GO.idxS (j := 0) rfl rfl rfl ⟨rfl, by decide⟩ ?_
        (refine GO.fieldAddr rfl rfl ?_; refine GO.loadQ rfl rfl rfl Tk.h (by assumption) ?_; refine GO.move rfl rfl ?_; refine GO.move rfl rfl ?_; refine GO.move rfl rfl ?_)
        refine GO.call4 rfl rfl rfl rfl rfl (ha1) Tks.n ?_
        rintro _ _ ⟨rfl, rfl⟩
        (refine GO.idxS rfl rfl rfl ⟨rfl, by omega⟩ ?_; refine GO.load1 rfl rfl rfl (Tk.t Tk.h) (rowV_get1 (by assumption)) ?_; refine GO.move rfl rfl ?_)
        cases hK1 : K x with
        | false =>
          (refine GO.gF rfl rfl rfl rfl ?_; refine GO.gF rfl rfl rfl rfl ?_; refine GO.gF rfl rfl rfl rfl ?_; refine GO.gF rfl rfl rfl rfl ?_; refine GO.gF rfl rfl rfl rfl ?_; refine GO.gF rfl rfl rfl rfl ?_; refine GO.gF rfl rfl rfl rfl ?_; refine GO.gF rfl rfl rfl rfl ?_; refine GO.gF rfl rfl rfl rfl ?_; refine GO.gF rfl rfl rfl rfl ?_; refine GO.gF rfl rfl rfl rfl ?_; refine GO.pickF rfl rfl rfl ?_; refine GO.nil ?_; refine kthen_n ?_; refine G.condF rfl rfl ?_; refine G.skip ?_; refine kblock_n ?_; refine kthen_n ?_; refine G.region ?_; refine GO.move rfl rfl ?_; refine GO.addi rfl rfl rfl (by omega) ?_; refine GO.assign rfl rfl ?_; refine GO.nil ?_; refine kthen_n ?_)
          refine ⟨k + 1, ⟨by omega, by omega, fun z h1 h2 h3 => ?_⟩, by omega, ?_, ?_⟩
          · by_cases e : z = k
            · subst e; rw [hX, hK1] at h3; cases h3.1
            · exact hall z h1 (by omega) h3
          · (refine SubE.c rfl rfl ?_; refine SubE.c rfl rfl ?_; refine SubE.c rfl rfl ?_; refine SubE.c rfl rfl ?_; refine SubE.c rfl rfl ?_; refine SubE.c rfl rfl ?_; exact SubE.n)
          · ((refine Sb.c Tk.h ?_; refine Sb.c Tk.h ?_); (exact Sb.r))
        | true =>
          (refine GO.gT rfl rfl rfl ?_; refine GO.move rfl rfl ?_; refine GO.gT rfl rfl rfl ?_; refine GO.move rfl rfl ?_; refine GO.gT rfl rfl rfl ?_)
          refine GO.idxS (j := 1) rfl rfl rfl ⟨rfl, by decide⟩ ?_
          (refine GO.gT rfl rfl rfl ?_; refine GO.fieldAddr rfl rfl ?_; refine GO.gT rfl rfl rfl ?_; refine GO.loadQ rfl rfl rfl Tk.h (by assumption) ?_; refine GO.gT rfl rfl rfl ?_; refine GO.move rfl rfl ?_; refine GO.gT rfl rfl rfl ?_; refine GO.move rfl rfl ?_; refine GO.gT rfl rfl rfl ?_; refine GO.move rfl rfl ?_; refine GO.gT rfl rfl rfl ?_)
          refine GO.call4 rfl rfl rfl rfl rfl (ha2) Tks.n ?_
          rintro _ _ ⟨rfl, rfl⟩
          (refine GO.gT rfl rfl rfl ?_; refine GO.idxS rfl rfl rfl ⟨rfl, by omega⟩ ?_; refine GO.gT rfl rfl rfl ?_; refine GO.load1 rfl rfl rfl (Tk.t Tk.h) (rowV_get1 (by assumption)) ?_; refine GO.pickT rfl rfl rfl ?_; refine GO.nil ?_; refine kthen_n ?_)
          cases hK2 : K y with
          | false =>
            (refine G.condF rfl rfl ?_; refine G.skip ?_; refine kblock_n ?_; refine kthen_n ?_; refine G.region ?_; refine GO.move rfl rfl ?_; refine GO.addi rfl rfl rfl (by omega) ?_; refine GO.assign rfl rfl ?_; refine GO.nil ?_; refine kthen_n ?_)
            refine ⟨k + 1, ⟨by omega, by omega, fun z h1 h2 h3 => ?_⟩, by omega, ?_, ?_⟩
            · by_cases e : z = k
              · subst e; rw [hY, hK2] at h3; cases h3.2
              · exact hall z h1 (by omega) h3
            · (refine SubE.c rfl rfl ?_; refine SubE.c rfl rfl ?_; refine SubE.c rfl rfl ?_; refine SubE.c rfl rfl ?_; refine SubE.c rfl rfl ?_; refine SubE.c rfl rfl ?_; exact SubE.n)
            · ((refine Sb.c Tk.h ?_; refine Sb.c Tk.h ?_); (exact Sb.r))
          | true =>
            (refine G.condT rfl rfl ?_; refine G.seq ?_; refine G.region ?_; refine GO.assign rfl rfl ?_; refine GO.nil ?_; refine kthen_n ?_; refine G.ret ?_; refine kblock_r ?_; refine kthen_r ?_; refine kthen_r ?_; refine kblock_r ?_; refine kthen_r ?_)
            refine KF2.r1 rfl (RV.t rfl) ⟨true, rfl, ?_, rfl⟩ (ImpS.sb ?_)
            · constructor
              · intro _
                exact .inr (.inr ⟨_, _, rfl, k, hk1, by omega, by show K (atN (w.length + 1) a i k) = true; rw [hX]; exact hK1, by show K (atN (w.length + 1) c k j) = true; rw [hY]; exact hK2⟩)
              · intro _; rfl
            · ((refine Sb.c Tk.h ?_; refine Sb.c Tk.h ?_); (exact Sb.r))
      · (refine G.exit ?_; refine kthen_x ?_; refine kthen_x ?_; refine kblock_x ?_; refine kthen_n ?_; refine G.seq ?_; refine G.region ?_; refine GO.assign rfl rfl ?_; refine GO.nil ?_; refine kthen_n ?_; refine G.ret ?_)
        refine KF2.r1 rfl (RV.t rfl) ⟨false, rfl, ?_, rfl⟩ (ImpS.sb ?_)
        · constructor
          · intro h; cases h
          · rintro (⟨h, _⟩ | ⟨s', h, _⟩ | ⟨s', t', h, x, h1, h2, h3, h4⟩)
            · cases h
            · cases h
            · injection h with e1 h
              injection h with e2 _
              subst e1 e2
              exact absurd ⟨h3, h4⟩ (hall x h1 (by omega))
        · ((refine Sb.c Tk.h ?_; refine Sb.c Tk.h ?_); (exact Sb.r))
  | s :: t :: u :: more, hs, hb => exact absurd hb.1 (by simp)
end Go.Proofs.Ytjokibfldngkeaa
