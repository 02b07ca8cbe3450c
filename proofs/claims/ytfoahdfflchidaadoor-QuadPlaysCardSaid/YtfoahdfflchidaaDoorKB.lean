/-
  The contracts of the functions of package block (cells asked and set), and of its reference.
-/
import Derived.Test.YtfoahdfflchidaaDoorKA
namespace Go.Proofs.YtfoahdfflchidaaDoor
open Go
attribute [local irreducible] G GO GQ Fn pt init exs pur sat

theorem in_spec (n : Int) : Fn Tryd.prog 68 #[i64 n] [] (fun v Q => v = .bool (decide (0 ≤ n ∧ n < 64)) ∧ Q = []) := by
  refine Fn.mk Tryd.func68 rfl rfl fun w0 F => ?_
  (refine G.seq ?_; refine G.region ?_; refine GO.assign rfl rfl ?_; refine GO.nil ?_; refine kthen_n ?_; refine G.seq ?_; refine G.region ?_; refine GO.move rfl rfl ?_; refine GO.gei rfl rfl rfl ?_; refine GO.move rfl rfl ?_)
  refine GO.splitD 5 rfl (fun h => ?_) (fun h => ?_)
  · (refine GO.gT rfl rfl rfl ?_; refine GO.move rfl rfl ?_; refine GO.gT rfl rfl rfl ?_; refine GO.lti rfl rfl rfl ?_; refine GO.pickT rfl rfl rfl ?_; refine GO.assign rfl rfl ?_; refine GO.nil ?_; refine kthen_n ?_; refine G.ret ?_)
    refine KF.r1 rfl (RV.t rfl) ⟨?_, rfl⟩ ?_
    · simp [h]
    · (skip; (exact Sb.r))
  · (refine GO.gF rfl rfl rfl rfl ?_; refine GO.gF rfl rfl rfl rfl ?_; refine GO.pickF rfl rfl rfl ?_; refine GO.assign rfl rfl ?_; refine GO.nil ?_; refine kthen_n ?_; refine G.ret ?_)
    refine KF.r1 rfl (RV.t rfl) ⟨?_, rfl⟩ ?_
    · simp; omega
    · (skip; (exact Sb.r))
/-- Is it a cell? -/
def inB (r k : Int) : Bool := decide ((0 ≤ r ∧ r < 64) ∧ (0 ≤ k ∧ k < 64))
theorem inB_t {r k : Nat} (hr : r < 64) (hk : k < 64) : inB r k = true := by unfold inB; simp; omega
theorem cases_in (r k : Int) {p : Prop} (h1 : ∀ m n : Nat, m < 64 → n < 64 → r = m → k = n → p) (h2 : ¬ (0 ≤ r ∧ r < 64) → p) (h3 : (0 ≤ r ∧ r < 64) → ¬ (0 ≤ k ∧ k < 64) → p) : p := by
  by_cases hr : 0 ≤ r ∧ r < 64
  · by_cases hk : 0 ≤ k ∧ k < 64
    · exact h1 r.toNat k.toNat (by omega) (by omega) (by omega) (by omega)
    · exact h3 hr hk
  · exact h2 hr
/-- What Get answers. -/
def getV (B : Blk) (r k : Int) : Value := if inB r k then .tuple #[.bool ((B r.toNat).getLsbD k.toNat), i64 0] else .tuple #[.bool false, i64 2]
theorem getV_t (B : Blk) {r k : Nat} (hr : r < 64) (hk : k < 64) : getV B r k = .tuple #[.bool ((B r).getLsbD k), i64 0] := by unfold getV; rw [if_pos (inB_t hr hk)]; rfl
theorem getV_f (B : Blk) {r k : Int} (h : inB r k = false) : getV B r k = .tuple #[.bool false, i64 2] := by unfold getV; simp [h]
theorem get_spec (B : Blk) (r k : Int) : Fn Tryd.prog 43 #[blk B, i64 r, i64 k] [] (fun v Q => v = getV B r k ∧ Q = []) := by
  refine Fn.mk Tryd.func43 rfl rfl fun w0 F => ?_
  (refine G.seq ?_; refine G.region ?_)
  refine GO.box rfl rfl rfl fun b => ?_
  (refine GO.assign rfl rfl ?_; refine GO.assign rfl rfl ?_; refine GO.nil ?_; refine kthen_n ?_; refine G.seq ?_; refine G.seq ?_; refine G.region ?_; refine GO.move rfl rfl ?_)
  refine GO.call1 rfl rfl (in_spec r) Tks.n ?_
  rintro _ _ ⟨rfl, rfl⟩
  (refine GO.not rfl rfl ?_; refine GO.move rfl rfl ?_)
  refine cases_in r k (fun m n hm hn er ek => ?_) (fun h => ?_) (fun h h' => ?_)
  · subst er ek
    refine GO.gT rfl rfl (by simp; omega) ?_
    (refine GO.move rfl rfl ?_)
    refine GO.gT rfl rfl (by simp; omega) ?_
    refine GO.call1 rfl rfl (in_spec _) Tks.n ?_
    rintro _ _ ⟨rfl, rfl⟩
    refine GO.gT rfl rfl (by simp; omega) ?_
    (refine GO.not rfl rfl ?_)
    refine GO.split 11 rfl (fun hb => by simp at hb; omega) (fun _ => ?_)
    (refine GO.pickF rfl rfl rfl ?_; refine GO.nil ?_; refine kthen_n ?_)
    refine G.condF rfl (by simp; omega) ?_
    (refine G.skip ?_; refine kthen_n ?_; refine G.seq ?_; refine G.region ?_; refine GO.move rfl rfl ?_; refine GO.idxA rfl rfl rfl ⟨rfl, by omega⟩ ?_)
    refine GO.load1 rfl rfl rfl Tk.h (cells_get B hm (by omega)) ?_
    (refine GO.move rfl rfl ?_; refine GO.shru rfl rfl rfl ?_; refine GO.andu rfl rfl rfl ?_; refine GO.equ rfl rfl rfl ?_; refine GO.assign rfl rfl ?_; refine GO.assign rfl rfl ?_; refine GO.nil ?_; refine kthen_n ?_; refine G.ret ?_)
    refine KF.r2 rfl (RV.t rfl) (RV.t rfl) ⟨?_, rfl⟩ ?_
    · rw [getV_t B hm hn, has_and]
    · (skip; (refine Sb.s ?_; exact Sb.r))
  · refine GO.gF rfl rfl rfl (by simp; omega) ?_
    refine GO.gF rfl rfl rfl (by simp; omega) ?_
    refine GO.gF rfl rfl rfl (by simp; omega) ?_
    refine GO.split 11 rfl (fun _ => ?_) (fun hb => by simp at hb; omega)
    (refine GO.pickT rfl rfl rfl ?_; refine GO.nil ?_; refine kthen_n ?_; refine G.condT rfl rfl ?_; refine G.seq ?_; refine G.region ?_; refine GO.assign rfl rfl ?_; refine GO.assign rfl rfl ?_; refine GO.nil ?_; refine kthen_n ?_; refine G.ret ?_; refine kthen_r ?_)
    refine KF.r2 rfl (RV.t rfl) (RV.t rfl) ⟨?_, rfl⟩ ?_
    · rw [getV_f B (by unfold inB; simp; omega)]
    · (skip; (refine Sb.s ?_; exact Sb.r))
  · refine GO.gT rfl rfl (by simp; omega) ?_
    (refine GO.move rfl rfl ?_)
    refine GO.gT rfl rfl (by simp; omega) ?_
    refine GO.call1 rfl rfl (in_spec _) Tks.n ?_
    rintro _ _ ⟨rfl, rfl⟩
    refine GO.gT rfl rfl (by simp; omega) ?_
    (refine GO.not rfl rfl ?_)
    refine GO.split 11 rfl (fun hb => by simp at hb; omega) (fun _ => ?_)
    (refine GO.pickF rfl rfl rfl ?_; refine GO.nil ?_; refine kthen_n ?_)
    refine G.condT rfl (by simp; omega) ?_
    (refine G.seq ?_; refine G.region ?_; refine GO.assign rfl rfl ?_; refine GO.assign rfl rfl ?_; refine GO.nil ?_; refine kthen_n ?_; refine G.ret ?_; refine kthen_r ?_)
    refine KF.r2 rfl (RV.t rfl) (RV.t rfl) ⟨?_, rfl⟩ ?_
    · rw [getV_f B (by unfold inB; simp; omega)]
    · (skip; (refine Sb.s ?_; exact Sb.r))

/-! ## Set -/
/-! ## Row -/
def rowOf (B : Blk) (r : Int) : Value := if 0 ≤ r ∧ r < 64 then .tuple #[u64 (B r.toNat), i64 0] else .tuple #[u64 0#64, i64 2]
theorem row_spec (B : Blk) (r : Int) : Fn Tryd.prog 34 #[blk B, i64 r] [] (fun v Q => v = rowOf B r ∧ Q = []) := by
  refine Fn.mk Tryd.func34 rfl rfl fun w0 F => ?_
  (refine G.seq ?_; refine G.region ?_)
  refine GO.box rfl rfl rfl fun b => ?_
  (refine GO.assign rfl rfl ?_; refine GO.assign rfl rfl ?_; refine GO.nil ?_; refine kthen_n ?_; refine G.seq ?_; refine G.seq ?_; refine G.region ?_; refine GO.move rfl rfl ?_)
  refine GO.call1 rfl rfl (in_spec r) Tks.n ?_
  rintro _ _ ⟨rfl, rfl⟩
  (refine GO.not rfl rfl ?_; refine GO.nil ?_; refine kthen_n ?_)
  by_cases h : 0 ≤ r ∧ r < 64
  · obtain ⟨m, rfl⟩ := Int.eq_ofNat_of_zero_le h.1
    refine G.condF rfl (by simp; omega) ?_
    (refine G.skip ?_; refine kthen_n ?_; refine G.seq ?_; refine G.region ?_; refine GO.move rfl rfl ?_; refine GO.idxA rfl rfl rfl ⟨rfl, by omega⟩ ?_)
    refine GO.load1 rfl rfl rfl Tk.h (cells_get B (j := m) (by omega) (by omega)) ?_
    (refine GO.assign rfl rfl ?_; refine GO.assign rfl rfl ?_; refine GO.nil ?_; refine kthen_n ?_; refine G.ret ?_)
    refine KF.r2 rfl (RV.t rfl) (RV.t rfl) ⟨?_, rfl⟩ ?_
    · unfold rowOf; rw [if_pos h]; rfl
    · (skip; (refine Sb.s ?_; exact Sb.r))
  · refine G.condT rfl (by simp; omega) ?_
    (refine G.seq ?_; refine G.region ?_; refine GO.assign rfl rfl ?_; refine GO.assign rfl rfl ?_; refine GO.nil ?_; refine kthen_n ?_; refine G.ret ?_; refine kthen_r ?_)
    refine KF.r2 rfl (RV.t rfl) (RV.t rfl) ⟨?_, rfl⟩ ?_
    · unfold rowOf; rw [if_neg h]; rfl
    · (skip; (refine Sb.s ?_; exact Sb.r))
/-! ## Col -/
end Go.Proofs.YtfoahdfflchidaaDoor
