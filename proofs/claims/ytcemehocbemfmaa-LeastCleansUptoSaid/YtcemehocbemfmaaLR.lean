/-
  The law's own small grammar: head.
-/
import Derived.Test.YtcemehocbemfmaaLQ
namespace Go.Proofs.Ytcemehocbemfmaa
open Go
attribute [local irreducible] G GO GR GT Fn FnV pt init exs pur sat own ImpS
theorem built_sym : Try.prog.built 63 [(0, .bool true)] = some [.bool true, i64 0].toArray := by kernel_rfl
abbrev tiny : CnfD := ⟨2, [(1, [(true, 0)])]⟩
theorem tiny_fits : Fits tiny := by
  refine ⟨by decide, fun p hp => ?_⟩
  simp at hp; subst hp; decide
theorem tiny_ok : okC tiny = true := by decide
theorem tiny_at (b5 b7 : Nat) : CnfR (star [pt b7 (row [i64 1, .slice (some ⟨b5, 0, none⟩) 1 1] 42), pt b5 (row [.bool true, i64 0] 63)]) (.agg [i64 2, .slice (some ⟨b7, 0, none⟩) 1 1].toArray) tiny := by
  refine ⟨_, rfl, [i64 1, .slice (some ⟨b5, 0, none⟩) 1 1], ⟨_, _, rfl, rfl, fun _ => ⟨b7, 0, rfl, fun j u hj => ?_⟩⟩, fun k p hk => ?_⟩
  · rw [Nat.zero_add]
    exact Sup.left _ _ _ _ (Rd.row hj)
  · match k, hk with
    | 0, hk =>
      simp at hk
      subst hk
      refine ⟨_, rfl, rfl, _, _, rfl, rfl, fun _ => ⟨b5, 0, rfl, fun j u hj => ?_⟩⟩
      rw [Nat.zero_add]
      exact Sup.right _ _ _ _ (Rd.row hj)
    | k + 1, hk => simp at hk
theorem tiny_end {s : Nat → Int} (hR : Reach shoStep tiny.prods (fun _ => -1) s) (hst : ∀ p ∈ tiny.prods, (shoStep s p).2 = false) : numsV s 2 = [i64 (-1), i64 1] := by
  have h := shortest_end (n := 2) (okC_in tiny_ok).2 hR hst
  have h0 : s 0 = -1 := by rw [h 0 (by omega)]; decide
  have h1 : s 1 = 1 := by rw [h 1 (by omega)]; decide
  show [i64 (s 0), i64 (s 1)] = _
  rw [h0, h1]
set_option maxHeartbeats 4000000 in
set_option maxRecDepth 20000 in
theorem head_spec : Fn Try.prog 13 #[] [] (fun r Q => r = .bool true ∧ Q = []) := by
  refine Fn.mk Try.func13 rfl rfl fun w0 F => ?_
  (refine G.seq ?_; refine G.region ?_; refine GO.assign rfl rfl ?_; refine GO.nil ?_; refine kthen_n ?_; refine G.seq ?_; refine G.region ?_)
  refine GO.buildPart1 built_sym rfl rfl ?_
  skip
  refine GO.buildSlice1 rfl rfl (by simp; rfl) rfl ⟨by omega, by omega⟩ fun b5 => ?_
  (refine GO.build2 rfl rfl rfl rfl ?_)
  refine GO.buildSlice1 rfl rfl (by simp; rfl) rfl ⟨by omega, by omega⟩ fun b7 => ?_
  (refine GO.build2 rfl rfl rfl rfl ?_)
  refine GO.merge (x := pt b7 (row [i64 1, .slice (some ⟨b5, 0, none⟩) 1 1] 42)) (y := pt b5 (row [.bool true, i64 0] 63)) (Tks.c Tk.h (Tks.c Tk.h Tks.n)) ?_
  have hq := tiny_at b5 b7
  generalize star [pt b7 (row [i64 1, .slice (some ⟨b5, 0, none⟩) 1 1] 42), pt b5 (row [.bool true, i64 0] 63)] = q at hq ⊢
  refine GO.call1 rfl rfl (shortest_spec q _ tiny hq tiny_fits) (Tks.c Tk.h Tks.n) ?_
  rintro _ _ (⟨_, b, s, rfl, hR, hst, rfl⟩ | ⟨h, _⟩)
  · rw [show tiny.nts.toNat = 2 from rfl, tiny_end hR hst]
    (refine GO.move rfl rfl ?_; refine GO.extract rfl rfl rfl ?_; refine GO.extract rfl rfl rfl ?_; refine GO.assign rfl rfl ?_; refine GO.assign rfl rfl ?_; refine GO.nil ?_; refine kthen_n ?_; refine G.seq ?_; refine G.region ?_; refine GO.move rfl rfl ?_; refine GO.eqT rfl rfl rfl rfl ?_; refine GO.move rfl rfl ?_; refine GO.gT rfl rfl rfl ?_; refine GO.move rfl rfl ?_; refine GO.gT rfl rfl rfl ?_; refine GO.lenS rfl rfl ?_; refine GO.gT rfl rfl rfl ?_; refine GO.eqT rfl rfl rfl rfl ?_; refine GO.pickT rfl rfl rfl ?_; refine GO.move rfl rfl ?_; refine GO.gT rfl rfl rfl ?_; refine GO.move rfl rfl ?_; refine GO.gT rfl rfl rfl ?_)
    refine GO.idxS (j := 0) rfl rfl rfl ⟨rfl, by omega⟩ ?_
    (refine GO.gT rfl rfl rfl ?_; refine GO.load1 rfl rfl rfl Tk.h rfl ?_; refine GO.gT rfl rfl rfl ?_; refine GO.eqT rfl rfl rfl rfl ?_; refine GO.pickT rfl rfl rfl ?_; refine GO.move rfl rfl ?_; refine GO.gT rfl rfl rfl ?_; refine GO.move rfl rfl ?_; refine GO.gT rfl rfl rfl ?_)
    refine GO.idxS (j := 1) rfl rfl rfl ⟨rfl, by omega⟩ ?_
    (refine GO.gT rfl rfl rfl ?_; refine GO.load1 rfl rfl rfl Tk.h rfl ?_; refine GO.gT rfl rfl rfl ?_; refine GO.eqT rfl rfl rfl rfl ?_; refine GO.pickT rfl rfl rfl ?_; refine GO.assign rfl rfl ?_; refine GO.nil ?_; refine kthen_n ?_; refine G.ret ?_)
    refine KF.r1 rfl (RV.t rfl) ⟨rfl, rfl⟩ ?_
    (skip; (refine Sb.s ?_; refine Sb.s ?_; exact Sb.r))
  · rw [tiny_ok] at h; cases h
end Go.Proofs.Ytcemehocbemfmaa
