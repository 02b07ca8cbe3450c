/-
  The law TopBoxes, part 2.
-/
import Derived.Test.YtbconcohpfkncaaGreatM1
namespace Go.Proofs.YtbconcohpfkncaaGreat
open Go
/-- What Read answers: the nodes, a place, an error. -/
def readF (s : List UInt8) : List NodeD × Nat × Nat :=
  if 2048 < s.length then ([], 0, 3) else
  match exprF (marksF s) ((marksF s).length + 1) 0 with
  | .error k => ([], placeAt (marksF s) (badF s) k, 172)
  | .ok (l, k) => if k < (marksF s).length ∨ badF s < s.length then ([], placeAt (marksF s) (badF s) k, 172) else (l, 0, 0)
theorem ImpS.ownNil0 {T : TypeId} {H : List HP} : ImpS H (Go.Proofs.YtbconcohpfkncaaGreat.own T 3 ([] : List NodeD).length (.slice none 0 0) (nodesV []) :: H) := fun _ _ s => own_nil s
attribute [local irreducible] G GO GR GT Fn FnX FnV FnXV Dfr pt init exs pur sat own ImpS kAt placeAt
set_option maxHeartbeats 4000000 in
theorem read1_calm (c2 c3 c4 : Nat) : Dfr Tryz.prog 105 #[ptrV c2, ptrV c3, ptrV c4] .returning .returning [] (fun _ Q => Q = []) := by
  refine Dfr.mk Tryz.func105 rfl rfl rfl rfl Rcv.calm fun w0 F => ?_
  refine .seq (.region (.move rfl rfl ?_))
  refine GO.neqIfN rfl rfl ?_
  refine .nil (kthen_n (.condF rfl rfl (.skip ?_)))
  refine KF2.n0 rfl rfl (ImpS.sb ?_)
  exact .r
set_option maxHeartbeats 4000000 in
theorem read1_caught (c2 c3 c4 i : Nat) (x y z : Value) : Dfr Tryz.prog 105 #[ptrV c2, ptrV c3, ptrV c4] (.panicking (chn (wrongV i))) (.panicking [{ v := wrongV i, recovered := true }]) [pt c2 (row [x] 39), pt c3 (row [y] 3), pt c4 (row [z] 24)]
    (fun _ Q => Q = [pt c2 (row [.slice none 0 0] 39), pt c3 (row [i64 (i : Nat)] 3), pt c4 (row [i64 172] 24)]) := by
  refine Dfr.mk Tryz.func105 rfl rfl rfl rfl (Rcv.caught (wrongV i)) fun w0 F => ?_
  refine .seq (.region (.move rfl rfl ?_))
  refine GO.neqIf rfl rfl ?_
  refine .nil (kthen_n (.condT rfl rfl (.seq (.region (.move rfl rfl ?_)))))
  refine GO.assertT rfl rfl rfl ?_
  (refine GO.move rfl rfl (GO.extract rfl rfl rfl (GO.extract rfl rfl rfl (GO.alloc rfl fun b4 => ?_))); refine GO.storeW rfl rfl Tk.h ⟨rfl, rfl⟩ (by simp [Value.oneCell']) ?_; refine GO.assign rfl rfl (GO.nil (kthen_n (G.seq (G.seq (G.region (GO.move rfl rfl (GO.not rfl rfl (GO.nil (kthen_n (G.condF rfl rfl (G.skip (kthen_n ?_)))))))))))))
  refine G.drawT 5 28 [pt b4 (row [i64 (i : Nat)] 168)] (pt c2 (row [x] 39) :: pt c3 (row [y] 3) :: pt c4 (row [z] 24) :: F) (by kernel_rfl) (keys_of rfl) (ImpS.sb (.c .h (.c .h (.c .h (.c .h .r))))) ?_
  refine .step rfl (fun _ => .fieldAddr rfl rfl KQ.z) (.step rfl (fun _ => .load1 rfl rfl rfl .h rfl KQ.z) (.skip rfl (.skip rfl (.skip rfl (.nil ?_)))))
  repeat refine GT.skip rfl ?_
  refine GT.step rfl ?_
  refine .store1 rfl rfl rfl (.t .h) (by simp) (.nil ?_)
  refine ⟨rfl, .tuple #[], pt c2 (row [.slice none 0 0] 39) :: pt c3 (row [y] 3) :: pt c4 (row [z] 24) :: F, rfl, ImpS.sb (.c (.t .h) (.c .h (.c .h (.c .h .r)))), ?_⟩
  repeat refine GT.skip rfl ?_
  refine GT.step rfl ?_
  refine .store1 rfl rfl rfl (.t (.t .h)) (by simp) (.nil ?_)
  refine ⟨rfl, .tuple #[], pt c2 (row [.slice none 0 0] 39) :: pt c3 (row [i64 (i : Nat)] 3) :: pt c4 (row [z] 24) :: F, rfl, ImpS.sb (.c (.t .h) (.c (.t .h) (.c .h (.c .h .r)))), ?_⟩
  repeat refine GT.skip rfl ?_
  refine GT.step rfl ?_
  refine .store1 rfl rfl rfl (.t (.t (.t .h))) (by simp) (.nil ?_)
  refine ⟨rfl, .tuple #[], pt c2 (row [.slice none 0 0] 39) :: pt c3 (row [i64 (i : Nat)] 3) :: pt c4 (row [i64 172] 24) :: F, rfl, ImpS.sb (.c (.t .h) (.c (.t .h) (.c (.t .h) (.c .h .r)))), ?_⟩
  refine GT.nil ?_
  refine .nil ?_
  refine KF2.n0 rfl rfl (ImpS.sb ?_)
  exact .c (.t .h) (.c (.t .h) (.c (.t .h) (.s .r)))
/-- What Read answers, as it lies in memory. -/
def ReadR (z : List NodeD × Nat × Nat) : Value → List HP → Prop := fun r Q => ∃ v, r = .tuple #[v, i64 (z.2.1 : Nat), i64 (z.2.2 : Nat)] ∧ v.oneCell' = true ∧ Q = [own 78 3 z.1.length v (nodesV z.1)]
theorem built_reader (n : Nat) : Tryz.prog.built 172 [(2, i64 (n : Nat))] = some [.slice none 0 0, i64 0, i64 (n : Nat)].toArray := by kernel_rfl
theorem scan_whole (s : List UInt8) (hs : ¬ 1048576 < s.length) : Fn Tryz.prog 14 #[str (s.take (badF s))] [] (fun r Q => ∃ v, r = .tuple #[v, i64 0, i64 0] ∧ v.oneCell' = true ∧ Q = [own 95 3 (marksF s).length v (marksV (marksF s))]) := by
  obtain ⟨h1, h2⟩ := marks_all s
  have hb := badF_le s
  refine (scan_spec (s.take (badF s)) (by rw [List.length_take]; omega)).mono ?_
  rintro r Q (⟨h, _⟩ | ⟨_, v, h3, h4, h5⟩)
  · rw [h2, List.length_take] at h; omega
  · rw [h1] at h5
    exact ⟨v, h3, h4, h5⟩
set_option maxHeartbeats 32000000 in
set_option maxRecDepth 40000 in
theorem read_spec (s : List UInt8) : Fn Tryz.prog 69 #[str s] [] (ReadR (readF s)) := by
  refine Fn.mkD Tryz.func69 rfl rfl fun w0 F => ?_
  refine GZ.seq ?_
  refine .region (.alloc rfl fun b2 => .alloc rfl fun b3 => .alloc rfl fun b4 => .nil (kthen_n ?_))
  refine GZ.seq ?_
  by_cases hlen : 2048 < s.length
  · have e1 : decide ((2048 : Int) < (s.length : Int)) = true := decide_eq_true (by omega)
    have hr : readF s = ([], 0, 3) := by unfold readF; rw [if_pos hlen]
    rw [hr]
    (refine .seq (.region (.move rfl rfl (.strLen rfl rfl (.gti rfl rfl rfl (.nil (kthen_n (.condT rfl (by assumption) (.seq (.region (.store1 rfl rfl rfl (.t (.t .h)) (by decide) (.store1 rfl rfl rfl (.t (.t .h)) (by decide) (.store1 rfl rfl rfl (.t (.t .h)) (by decide) (.nil (kthen_n (.ret ?_))))))))))))))); refine kthen_r ?_)
    refine KF2.r3 rfl (RV.c1 rfl rfl (Tk.t (Tk.t Tk.h)) rfl) (RV.c1 rfl rfl (Tk.t Tk.h) rfl) (RV.c1 rfl rfl Tk.h rfl) ⟨.slice none 0 0, rfl, rfl, rfl⟩ (ImpS.trans (ImpS.sb (M := F) ?_) ImpS.ownNil0)
    exact .s (.s (.s .r))
  have e1 : decide ((2048 : Int) < (s.length : Int)) = false := decide_eq_false (by omega)
  have hlM := marksF_len s
  have hbl := badF_le s
  have hwh := scan_whole s (by omega)
  have hrd : readF s = match exprF (marksF s) ((marksF s).length + 1) 0 with
      | .error k => ([], placeAt (marksF s) (badF s) k, 172)
      | .ok (l, k) => if k < (marksF s).length ∨ badF s < s.length then ([], placeAt (marksF s) (badF s) k, 172) else (l, 0, 0) := by
    unfold readF; rw [if_neg hlen]
  have hex : ∀ q v br e, MarksR q v (marksF s) → ExOK q br v (marksF s) e 0 (exprF (marksF s) ((marksF s).length + 1) 0) := fun q v br e hq => expr_ok q v (marksF s) hq br e (by omega) _ 0 (Nat.zero_le _) (by omega)
  have hfl : ∀ q v br e i, MarksR q v (marksF s) → i ≤ (marksF s).length → _ := fun q v br e i hq => fail_spec q v (marksF s) hq br e i
  have hgo := exprF_goes (marksF s) ((marksF s).length + 1) 0
  have hsc := scan_spec s (by omega)
  generalize exprF (marksF s) ((marksF s).length + 1) 0 = ex at hrd hex hgo
  rw [hrd]
  generalize badF s = bad at *
  generalize marksF s = ms at *
  clear hrd
  refine .seq (.region (.move rfl rfl (.strLen rfl rfl (.gti rfl rfl rfl (.nil (kthen_n (.condF rfl (by assumption) (.skip (kthen_n ?_)))))))))
  refine GZ.defer (vs := [ptrV b2, ptrV b3, ptrV b4]) rfl ⟨rfl, rfl, rfl, trivial⟩ ?_
  refine .seq (.region (.move rfl rfl (.strLen rfl rfl ?_)))
  refine GO.buildPart1 (built_reader s.length) rfl rfl ?_
  refine .box rfl rfl rfl fun b16 => .assign rfl rfl (.nil (kthen_n (.seq (.region (.move rfl rfl ?_)))))
  refine GO.call1 rfl rfl (hsc) Tks.n ?_
  rintro _ _ (⟨hb, rfl, rfl⟩ | ⟨hb, v, rfl, hv1, rfl⟩)
  · have d1 : decide ((160 : Int) ≠ 0) = true := rfl
    (refine .move rfl rfl (.extract rfl rfl rfl (.extract rfl rfl rfl (.extract rfl rfl rfl (.assign rfl rfl (.assign rfl rfl (.assign rfl rfl (.nil (kthen_n (.seq (.seq (.region (.move rfl rfl (.nei rfl rfl rfl (.nil (kthen_n ?_))))))))))))))); refine .condT rfl rfl (.seq (.region (.move rfl rfl (.move rfl rfl (.nilCheck rfl rfl (.fieldAddr rfl rfl (.store1 rfl rfl rfl .h (by simp) (.nil (kthen_n (.region (.move rfl rfl (.move rfl rfl ?_)))))))))))))
    refine GO.strHi rfl rfl rfl ⟨rfl, by omega⟩ ?_
    skip
    refine GO.call1 rfl rfl (hwh) Tks.n ?_
    rintro _ _ ⟨v, rfl, hv1, rfl⟩
    (refine .move rfl rfl (.extract rfl rfl rfl (.extract rfl rfl rfl (.extract rfl rfl rfl (.assign rfl rfl (.nil (kthen_n (.seq (.region (.move rfl rfl (.move rfl rfl (.nilCheck rfl rfl (.fieldAddr rfl rfl (.store1 rfl rfl (by assumption) (.t .h) (by simp) (.nil (kthen_n ?_))))))))))))))); refine .seq (.region (.move rfl rfl ?_)))
    refine GO.ownRd (n := ms.length) (v := v) (xs := marksV ms) (Tk.t Tk.h) fun q hq => ?_
    obtain ⟨am, cm, rfl⟩ := marks_sl hq
    have hx := hex q _ b16 bad hq
    have hf := fun k (hk : k ≤ ms.length) => fail_spec q _ ms hq b16 bad k hk
    unfold ExOK at hx
    clear hq hex hfl
    skip
    refine GO.callX1 rfl rfl (hx) (Tks.c (Tk.t Tk.h) (Tks.c Tk.h Tks.n)) ?_ ?_
    · rintro _ _ ⟨k, rfl, rfl, rfl⟩
      repeat (first | refine kthen_p ?_ | refine kblock_p ?_ | refine kscope_p ?_)
      refine KFD.p3 (read1_caught b2 b3 b4 (placeAt ms bad k) _ _ _) (X := F) (ImpS.sb (.c (.t (.t (.t (.t .h)))) (.c (.t (.t (.t .h))) (.c (.t (.t .h)) (.s (.s .r)))))) rfl (RV.c1 rfl rfl Tk.h rfl) (RV.c1 rfl rfl (Tk.t Tk.h) rfl) (RV.c1 rfl rfl (Tk.t (Tk.t Tk.h)) rfl) ⟨.slice none 0 0, rfl, rfl, rfl⟩ (ImpS.trans (ImpS.sb (M := F) ?_) ImpS.ownNil0)
      exact .s (.s (.s .r))
    rintro r _ ⟨l, k, rfl, rfl⟩
    obtain ⟨g1, g2, g3⟩ := hgo l k rfl
    refine GO.ownOne Tk.h fun hone => ?_
    refine .store1 rfl rfl (by assumption) (.t (.t (.t (.t (.t .h))))) (by decide) (.nil (kthen_n (.seq (.seq ?_))))
    dsimp only
    by_cases hk : k < ms.length
    · have c1 : decide ((k : Int) < (ms.length : Int)) = true := decide_eq_true (by omega)
      rw [if_pos (.inl hk)]
      refine G.draw 14 (by kernel_rfl) ?_
      refine .step (fun _ => .move rfl rfl KQ.z) (.step (fun _ => .nilCheck rfl rfl KQ.z) (.step (fun _ => .fieldAddr rfl rfl KQ.z) (.step (fun _ => .load1 rfl rfl rfl (.t (.t .h)) rfl KQ.z) (.step (fun _ => .move rfl rfl KQ.z) (.step (fun _ => .nilCheck rfl rfl KQ.z) (.step (fun _ => .fieldAddr rfl rfl KQ.z) (.step (fun _ => .load1 rfl rfl rfl (.t (.t .h)) rfl KQ.z) (.step (fun _ => .lenS rfl rfl KQ.z) (.step (fun _ => .lti rfl rfl rfl KQ.z) (.step (fun _ => .move rfl rfl KQ.z) (.step (fun _ => .gF rfl rfl rfl (by assumption) KQ.z) (.step (fun _ => .gF rfl rfl rfl (by assumption) KQ.z) (.step (fun _ => .pickTa rfl rfl (by assumption) rfl KQ.z) (.nil ?_))))))))))))))
      refine .nil (kthen_n (.condT rfl rfl (.region (.move rfl rfl ?_))))
      refine GO.callX1 rfl rfl (hf k (by omega)) (Tks.c (Tk.t (Tk.t Tk.h)) (Tks.c (Tk.t (Tk.t Tk.h)) Tks.n)) ?_ ?_
      · rintro _ _ ⟨rfl, rfl⟩
        repeat (first | refine kthen_p ?_ | refine kblock_p ?_ | refine kscope_p ?_)
        refine KFD.p3 (read1_caught b2 b3 b4 (placeAt ms bad k) _ _ _) (X := F) (ImpS.sb (.c (.t (.t .h)) (.c (.t (.t (.t (.t .h)))) (.c (.t (.t (.t .h))) (.s (.s (.s .r))))))) rfl (RV.c1 rfl rfl Tk.h rfl) (RV.c1 rfl rfl (Tk.t Tk.h) rfl) (RV.c1 rfl rfl (Tk.t (Tk.t Tk.h)) rfl) ⟨.slice none 0 0, rfl, rfl, rfl⟩ (ImpS.trans (ImpS.sb (M := F) ?_) ImpS.ownNil0)
        exact .s (.s (.s .r))
      · intro _ _ h
        exact h.elim
    · have c1 : decide ((k : Int) < (ms.length : Int)) = false := decide_eq_false (by omega)
      rw [if_pos (.inr hb)]
      refine G.draw 14 (by kernel_rfl) ?_
      refine .step (fun _ => .move rfl rfl KQ.z) (.step (fun _ => .nilCheck rfl rfl KQ.z) (.step (fun _ => .fieldAddr rfl rfl KQ.z) (.step (fun _ => .load1 rfl rfl rfl (.t (.t .h)) rfl KQ.z) (.step (fun _ => .move rfl rfl KQ.z) (.step (fun _ => .nilCheck rfl rfl KQ.z) (.step (fun _ => .fieldAddr rfl rfl KQ.z) (.step (fun _ => .load1 rfl rfl rfl (.t (.t .h)) rfl KQ.z) (.step (fun _ => .lenS rfl rfl KQ.z) (.step (fun _ => .lti rfl rfl rfl KQ.z) (.step (fun _ => .move rfl rfl KQ.z) (.step (fun _ => .gT rfl rfl (by assumption) (.move rfl rfl KQ.z)) (.step (fun _ => .gT rfl rfl (by assumption) (.nei rfl rfl rfl KQ.z)) (.step (fun _ => .pickFa rfl rfl (by assumption) rfl KQ.z) (.nil ?_))))))))))))))
      refine .nil (kthen_n (.condT rfl rfl (.region (.move rfl rfl ?_))))
      refine GO.callX1 rfl rfl (hf k (by omega)) (Tks.c (Tk.t (Tk.t Tk.h)) (Tks.c (Tk.t (Tk.t Tk.h)) Tks.n)) ?_ ?_
      · rintro _ _ ⟨rfl, rfl⟩
        repeat (first | refine kthen_p ?_ | refine kblock_p ?_ | refine kscope_p ?_)
        refine KFD.p3 (read1_caught b2 b3 b4 (placeAt ms bad k) _ _ _) (X := F) (ImpS.sb (.c (.t (.t .h)) (.c (.t (.t (.t (.t .h)))) (.c (.t (.t (.t .h))) (.s (.s (.s .r))))))) rfl (RV.c1 rfl rfl Tk.h rfl) (RV.c1 rfl rfl (Tk.t Tk.h) rfl) (RV.c1 rfl rfl (Tk.t (Tk.t Tk.h)) rfl) ⟨.slice none 0 0, rfl, rfl, rfl⟩ (ImpS.trans (ImpS.sb (M := F) ?_) ImpS.ownNil0)
        exact .s (.s (.s .r))
      · intro _ _ h
        exact h.elim
  · subst hb
    (refine .move rfl rfl (.extract rfl rfl rfl (.extract rfl rfl rfl (.extract rfl rfl rfl (.assign rfl rfl (.assign rfl rfl (.assign rfl rfl (.nil (kthen_n (.seq (.seq (.region (.move rfl rfl (.neF rfl rfl rfl rfl (.nil (kthen_n ?_))))))))))))))); refine .condF rfl rfl (.skip (kthen_n (.seq (.region (.move rfl rfl (.move rfl rfl (.nilCheck rfl rfl (.fieldAddr rfl rfl (.store1 rfl rfl (by assumption) (.t .h) (by simp) (.nil (kthen_n (.seq (.region (.move rfl rfl ?_)))))))))))))))
    refine GO.ownRd (n := ms.length) (v := v) (xs := marksV ms) (Tk.t Tk.h) fun q hq => ?_
    obtain ⟨am, cm, rfl⟩ := marks_sl hq
    have hx := hex q _ b16 s.length hq
    have hf := fun k (hk : k ≤ ms.length) => fail_spec q _ ms hq b16 s.length k hk
    unfold ExOK at hx
    clear hq hex hfl
    skip
    refine GO.callX1 rfl rfl (hx) (Tks.c (Tk.t Tk.h) (Tks.c Tk.h Tks.n)) ?_ ?_
    · rintro _ _ ⟨k, rfl, rfl, rfl⟩
      repeat (first | refine kthen_p ?_ | refine kblock_p ?_ | refine kscope_p ?_)
      refine KFD.p3 (read1_caught b2 b3 b4 (placeAt ms s.length k) _ _ _) (X := F) (ImpS.sb (.c (.t (.t (.t (.t .h)))) (.c (.t (.t (.t .h))) (.c (.t (.t .h)) (.s (.s .r)))))) rfl (RV.c1 rfl rfl Tk.h rfl) (RV.c1 rfl rfl (Tk.t Tk.h) rfl) (RV.c1 rfl rfl (Tk.t (Tk.t Tk.h)) rfl) ⟨.slice none 0 0, rfl, rfl, rfl⟩ (ImpS.trans (ImpS.sb (M := F) ?_) ImpS.ownNil0)
      exact .s (.s (.s .r))
    rintro r _ ⟨l, k, rfl, rfl⟩
    obtain ⟨g1, g2, g3⟩ := hgo l k rfl
    refine GO.ownOne Tk.h fun hone => ?_
    refine .store1 rfl rfl (by assumption) (.t (.t (.t (.t (.t .h))))) (by decide) (.nil (kthen_n (.seq (.seq ?_))))
    dsimp only
    by_cases hk : k < ms.length
    · have c1 : decide ((k : Int) < (ms.length : Int)) = true := decide_eq_true (by omega)
      rw [if_pos (.inl hk)]
      refine G.draw 14 (by kernel_rfl) ?_
      refine .step (fun _ => .move rfl rfl KQ.z) (.step (fun _ => .nilCheck rfl rfl KQ.z) (.step (fun _ => .fieldAddr rfl rfl KQ.z) (.step (fun _ => .load1 rfl rfl rfl (.t (.t .h)) rfl KQ.z) (.step (fun _ => .move rfl rfl KQ.z) (.step (fun _ => .nilCheck rfl rfl KQ.z) (.step (fun _ => .fieldAddr rfl rfl KQ.z) (.step (fun _ => .load1 rfl rfl rfl (.t (.t .h)) rfl KQ.z) (.step (fun _ => .lenS rfl rfl KQ.z) (.step (fun _ => .lti rfl rfl rfl KQ.z) (.step (fun _ => .move rfl rfl KQ.z) (.step (fun _ => .gF rfl rfl rfl (by assumption) KQ.z) (.step (fun _ => .gF rfl rfl rfl (by assumption) KQ.z) (.step (fun _ => .pickTa rfl rfl (by assumption) rfl KQ.z) (.nil ?_))))))))))))))
      refine .nil (kthen_n (.condT rfl rfl (.region (.move rfl rfl ?_))))
      refine GO.callX1 rfl rfl (hf k (by omega)) (Tks.c (Tk.t (Tk.t Tk.h)) (Tks.c (Tk.t (Tk.t Tk.h)) Tks.n)) ?_ ?_
      · rintro _ _ ⟨rfl, rfl⟩
        repeat (first | refine kthen_p ?_ | refine kblock_p ?_ | refine kscope_p ?_)
        refine KFD.p3 (read1_caught b2 b3 b4 (placeAt ms s.length k) _ _ _) (X := F) (ImpS.sb (.c (.t (.t .h)) (.c (.t (.t (.t (.t .h)))) (.c (.t (.t (.t .h))) (.s (.s (.s .r))))))) rfl (RV.c1 rfl rfl Tk.h rfl) (RV.c1 rfl rfl (Tk.t Tk.h) rfl) (RV.c1 rfl rfl (Tk.t (Tk.t Tk.h)) rfl) ⟨.slice none 0 0, rfl, rfl, rfl⟩ (ImpS.trans (ImpS.sb (M := F) ?_) ImpS.ownNil0)
        exact .s (.s (.s .r))
      · intro _ _ h
        exact h.elim
    · have c1 : decide ((k : Int) < (ms.length : Int)) = false := decide_eq_false (by omega)
      rw [if_neg (by omega)]
      refine G.draw 14 (by kernel_rfl) ?_
      refine .step (fun _ => .move rfl rfl KQ.z) (.step (fun _ => .nilCheck rfl rfl KQ.z) (.step (fun _ => .fieldAddr rfl rfl KQ.z) (.step (fun _ => .load1 rfl rfl rfl (.t (.t .h)) rfl KQ.z) (.step (fun _ => .move rfl rfl KQ.z) (.step (fun _ => .nilCheck rfl rfl KQ.z) (.step (fun _ => .fieldAddr rfl rfl KQ.z) (.step (fun _ => .load1 rfl rfl rfl (.t (.t .h)) rfl KQ.z) (.step (fun _ => .lenS rfl rfl KQ.z) (.step (fun _ => .lti rfl rfl rfl KQ.z) (.step (fun _ => .move rfl rfl KQ.z) (.step (fun _ => .gT rfl rfl (by assumption) (.move rfl rfl KQ.z)) (.step (fun _ => .gT rfl rfl (by assumption) (.neF rfl rfl rfl rfl KQ.z)) (.step (fun _ => .pickFa rfl rfl (by assumption) rfl KQ.z) (.nil ?_))))))))))))))
      refine .nil (kthen_n (.condF rfl rfl (.skip (kthen_n (.seq (.region (.load1 rfl rfl rfl .h rfl (.store1 rfl rfl (by assumption) .h (by simp) (.store1 rfl rfl rfl (.t (.t (.t (.t (.t .h))))) (by decide) (.store1 rfl rfl rfl (.t (.t (.t (.t (.t .h))))) (by decide) (.nil (kthen_n (.ret ?_)))))))))))))
      refine KFD.r3 (read1_calm b2 b3 b4) rfl (RV.c1 rfl rfl (Tk.t (Tk.t Tk.h)) rfl) (RV.c1 rfl rfl (Tk.t Tk.h) rfl) (RV.c1 rfl rfl Tk.h rfl) ⟨r, rfl, hone, rfl⟩ (ImpS.sb ?_)
      exact .c (.t (.t (.t .h))) (.s (.s (.s (.s (.s .r)))))
end Go.Proofs.YtbconcohpfkncaaGreat
namespace Go.Proofs.YtbconcohpfkncaaGreat
open Go
def upperB (b : UInt8) : Bool := decide (65 ≤ (b.toNat : Int)) && decide ((b.toNat : Int) ≤ 90)
def lowerB (b : UInt8) : Bool := decide (97 ≤ (b.toNat : Int)) && decide ((b.toNat : Int) ≤ 122)
def nameB (b : UInt8) : Bool := upperB b || lowerB b || (decide (48 ≤ (b.toNat : Int)) && decide ((b.toNat : Int) ≤ 57)) || decide ((b.toNat : Int) = 95)
def namedF (s : List UInt8) (first : UInt8 → Bool) : Bool := match s with
  | [] => false
  | b :: _ => decide (s.length ≤ 16) && (first b && s.all nameB)
def mayN (m : NodeD) : Bool :=
  if m.kind = 1 then decide (m.name = []) && decide (m.kids = 0) else if m.kind = 2 then decide (m.kids = 0) && namedF m.name upperB else if m.kind = 3 then decide (m.kids = 0) && namedF m.name lowerB
  else if m.kind = 4 ∨ m.kind = 5 then decide (m.name = []) && decide (2 ≤ m.kids) else if m.kind = 6 ∨ m.kind = 7 ∨ m.kind = 8 then decide (m.name = []) && decide (m.kids = 1) else false
def wholeL (n : Nat) : Nat → List NodeD → Option Nat
  | o, [] => some o
  | o, m :: r => if o = 0 ∨ mayN m = false ∨ n < m.kids then none else wholeL n (o + m.kids - 1) r
def wholeF (l : List NodeD) : Bool := decide (wholeL l.length 1 l = some 0) && decide (0 < l.length)
/-- How many kids are wanted still, of each node above, the nearest first: without those that want none. -/
def popA : Nat → List Nat → List Nat
  | n + 1, r => (n + 1) :: r
  | 0, [] => []
  | 0, c :: r => popA (c - 1) r
def heightL : Nat → List Nat → List NodeD → Nat
  | most, _, [] => most
  | most, over, m :: r => heightL (max most (over.length + 1)) (popA m.kids over) r
def heightF (l : List NodeD) : Nat := heightL 0 [] l
/-- A tree. -/
inductive Tree where
  | node (kind : Nat) (name : List UInt8) (kids : List Tree)
mutual
def flat : Tree → List NodeD
  | .node k n ts => ⟨k, n, ts.length⟩ :: flats ts
def flats : List Tree → List NodeD
  | [] => []
  | t :: ts => flat t ++ flats ts
end
mutual
def okT : Tree → Bool
  | .node k n ts => mayN ⟨k, n, ts.length⟩ && okTs ts
def okTs : List Tree → Bool
  | [] => true
  | t :: ts => okT t && okTs ts
end
def Tree.kind : Tree → Nat
  | .node k _ _ => k
def Tree.name : Tree → List UInt8
  | .node _ n _ => n
def Tree.kids : Tree → List Tree
  | .node _ _ ts => ts
theorem flat_eq (t : Tree) : flat t = ⟨t.kind, t.name, t.kids.length⟩ :: flats t.kids := by cases t; rw [flat]; rfl
theorem flats_app : ∀ ts us : List Tree, flats (ts ++ us) = flats ts ++ flats us
  | [], us => by rw [flats]; rfl
  | t :: ts, us => by rw [List.cons_append, flats, flats, flats_app ts us, List.append_assoc]
theorem flat_pos (t : Tree) : 0 < (flat t).length := by rw [flat_eq]; simp
theorem okTs_app : ∀ ts us : List Tree, okTs (ts ++ us) = (okTs ts && okTs us)
  | [], us => by rw [okTs]; rfl
  | t :: ts, us => by rw [List.cons_append, okTs, okTs, okTs_app ts us, Bool.and_assoc]
theorem okTs_mem : ∀ {ts : List Tree} {t : Tree}, okTs ts = true → t ∈ ts → okT t = true
  | u :: ts, t, h, ht => by
    rw [okTs, Bool.and_eq_true] at h
    rcases List.mem_cons.1 ht with rfl | ht
    · exact h.1
    · exact okTs_mem h.2 ht
/-- A list that opens so many trees, and shuts them all, is these trees. -/
theorem whole_trees (n : Nat) : ∀ (l : List NodeD) (o : Nat), wholeL n o l = some 0 → ∃ ts : List Tree, ts.length = o ∧ flats ts = l ∧ okTs ts = true
  | [], o, h => by
    simp only [wholeL, Option.some.injEq] at h
    subst h
    exact ⟨[], rfl, by rw [flats], by rw [okTs]⟩
  | m :: r, o, h => by
    simp only [wholeL] at h
    split at h
    · cases h
    · rename_i hc
      have hm : mayN m = true := by
        cases e : mayN m with
        | true => rfl
        | false => exact absurd (.inr (.inl e)) hc
      have ho : o ≠ 0 := fun e => hc (.inl e)
      obtain ⟨ts, h1, h2, h3⟩ := whole_trees n r _ h
      refine ⟨.node m.kind m.name (ts.take m.kids) :: ts.drop m.kids, ?_, ?_, ?_⟩
      · rw [List.length_cons, List.length_drop]; omega
      · have hl : (ts.take m.kids).length = m.kids := by rw [List.length_take]; omega
        rw [flats, flat, hl, List.cons_append, ← flats_app, List.take_append_drop, h2]
      · have hl : (ts.take m.kids).length = m.kids := by rw [List.length_take]; omega
        rw [okTs, okT, hl]
        rw [← List.take_append_drop m.kids ts, okTs_app, Bool.and_eq_true] at h3
        rw [h3.1, h3.2, hm]; rfl
theorem whole_tree {l : List NodeD} (h : wholeF l = true) : ∃ t : Tree, flat t = l ∧ okT t = true := by
  unfold wholeF at h
  rw [Bool.and_eq_true] at h
  obtain ⟨ts, h1, h2, h3⟩ := whole_trees _ _ _ (of_decide_eq_true h.1)
  match ts, h1 with
  | [t], _ =>
    rw [flats, flats, List.append_nil] at h2
    rw [okTs, okTs, Bool.and_true] at h3
    exact ⟨t, h2, h3⟩
end Go.Proofs.YtbconcohpfkncaaGreat
namespace Go.Proofs.YtbconcohpfkncaaGreat
open Go
attribute [local irreducible] G GO GR GT Fn FnX FnV FnXV Dfr pt init exs pur sat own ImpS
set_option maxHeartbeats 4000000 in
theorem upper_spec (b : UInt8) : Fn Tryz.prog 140 #[u8 b] [] (fun r Q => r = .bool (upperB b) ∧ Q = []) := by
  refine Fn.mk2 Tryz.func140 rfl rfl fun w0 F => ?_
  unfold upperB
  cases e1 : decide (65 ≤ (b.toNat : Int))
  · (refine .seq (.region (.assign rfl rfl (.nil (kthen_n (.seq (.region (.move rfl rfl (.gei rfl rfl rfl (.move rfl rfl (.gF rfl rfl rfl (by assumption) (.gF rfl rfl rfl (by assumption) (.pickFa rfl rfl (by assumption) rfl (.assign rfl rfl (.nil (kthen_n ?_))))))))))))))); refine .ret ?_)
    refine KF2.r1 rfl (RV.t rfl) ⟨rfl, rfl⟩ (ImpS.sb ?_)
    exact .r
  · (refine .seq (.region (.assign rfl rfl (.nil (kthen_n (.seq (.region (.move rfl rfl (.gei rfl rfl rfl (.move rfl rfl (.gT rfl rfl (by assumption) (.move rfl rfl (.gT rfl rfl (by assumption) (.lei rfl rfl rfl (.pickTa rfl rfl (by assumption) rfl (.assign rfl rfl ?_))))))))))))))); refine .nil (kthen_n (.ret ?_)))
    refine KF2.r1 rfl (RV.t rfl) ⟨rfl, rfl⟩ (ImpS.sb ?_)
    exact .r
set_option maxHeartbeats 4000000 in
theorem lower_spec (b : UInt8) : Fn Tryz.prog 141 #[u8 b] [] (fun r Q => r = .bool (lowerB b) ∧ Q = []) := by
  refine Fn.mk2 Tryz.func141 rfl rfl fun w0 F => ?_
  unfold lowerB
  cases e1 : decide (97 ≤ (b.toNat : Int))
  · (refine .seq (.region (.assign rfl rfl (.nil (kthen_n (.seq (.region (.move rfl rfl (.gei rfl rfl rfl (.move rfl rfl (.gF rfl rfl rfl (by assumption) (.gF rfl rfl rfl (by assumption) (.pickFa rfl rfl (by assumption) rfl (.assign rfl rfl (.nil (kthen_n ?_))))))))))))))); refine .ret ?_)
    refine KF2.r1 rfl (RV.t rfl) ⟨rfl, rfl⟩ (ImpS.sb ?_)
    exact .r
  · (refine .seq (.region (.assign rfl rfl (.nil (kthen_n (.seq (.region (.move rfl rfl (.gei rfl rfl rfl (.move rfl rfl (.gT rfl rfl (by assumption) (.move rfl rfl (.gT rfl rfl (by assumption) (.lei rfl rfl rfl (.pickTa rfl rfl (by assumption) rfl (.assign rfl rfl ?_))))))))))))))); refine .nil (kthen_n (.ret ?_)))
    refine KF2.r1 rfl (RV.t rfl) ⟨rfl, rfl⟩ (ImpS.sb ?_)
    exact .r
set_option maxHeartbeats 16000000 in
theorem named_spec (s : List UInt8) (fv : Value) (first : UInt8 → Bool) (hf : ∀ b, FnV Tryz.prog fv [u8 b] [] (fun r Q => r = .bool (first b) ∧ Q = [])) : Fn Tryz.prog 139 #[str s, fv] [] (fun r Q => r = .bool (namedF s first) ∧ Q = []) := by
  refine Fn.mk2 Tryz.func139 rfl rfl fun w0 F => ?_
  cases s with
  | nil =>
    rw [show namedF [] first = false from rfl]
    (refine .seq (.region (.assign rfl rfl (.nil (kthen_n (.seq (.seq (.region (.move rfl rfl (.strLen rfl rfl (.lti rfl rfl rfl (.move rfl rfl (.gF rfl rfl rfl rfl (.gF rfl rfl rfl rfl (.gF rfl rfl rfl rfl (.pickT rfl rfl rfl ?_))))))))))))))); refine .move rfl rfl (.gF rfl rfl rfl rfl (.gF rfl rfl rfl rfl (.gF rfl rfl rfl rfl (.gF rfl rfl rfl rfl (.gF rfl rfl rfl rfl (.pickT rfl rfl rfl (.nil (kthen_n (.condT rfl rfl (.seq (.region (.assign rfl rfl (.nil (kthen_n (.ret ?_))))))))))))))); refine kthen_r ?_)
    refine KF2.r1 rfl (RV.t rfl) ⟨rfl, rfl⟩ (ImpS.sb ?_)
    exact .r
  | cons b0 s0 =>
  have hb0 : (b0 :: s0)[0]? = some b0 := rfl
  have hn : namedF (b0 :: s0) first = (decide ((b0 :: s0).length ≤ 16) && (first b0 && (b0 :: s0).all nameB)) := rfl
  have hpos : 0 < (b0 :: s0).length := by simp
  rw [hn]
  generalize b0 :: s0 = s at *
  have d1 : decide ((s.length : Int) < 1) = false := decide_eq_false (by omega)
  by_cases h16 : s.length ≤ 16
  · rw [decide_eq_true h16, Bool.true_and]
    have d2 : decide ((16 : Int) < (s.length : Int)) = false := decide_eq_false (by omega)
    (refine .seq (.region (.assign rfl rfl (.nil (kthen_n (.seq (.seq (.region (.move rfl rfl (.strLen rfl rfl (.lti rfl rfl rfl (.move rfl rfl (.gT rfl rfl (by assumption) (.move rfl rfl (.gT rfl rfl (by assumption) (.strLen rfl rfl ?_))))))))))))))); refine .gT rfl rfl (by assumption) (.gti rfl rfl rfl (.pickFa rfl rfl (by assumption) rfl (.move rfl rfl (.gT rfl rfl (by assumption) (.move rfl rfl (.gT rfl rfl (by assumption) (.move rfl rfl (.gT rfl rfl (by assumption) (.strIdx rfl rfl rfl rfl (by assumption) (.gT rfl rfl (by assumption) ?_)))))))))))
    refine GO.callV1 rfl rfl rfl (hf b0) Tks.n ?_
    rintro _ _ ⟨rfl, rfl⟩
    cases e1 : first b0
    · refine .gT rfl rfl (by assumption) (.not rfl rfl (.pickFa rfl rfl (by assumption) rfl (.nil (kthen_n (.condT rfl rfl (.seq (.region (.assign rfl rfl (.nil (kthen_n (.ret (kthen_r ?_))))))))))))
      refine KF2.r1 rfl (RV.t rfl) ⟨rfl, rfl⟩ (ImpS.sb ?_)
      exact .r
    · rw [Bool.true_and]
      (refine .gT rfl rfl (by assumption) (.not rfl rfl (.pickFa rfl rfl (by assumption) rfl (.nil (kthen_n (.condF rfl rfl (.skip (kthen_n (.seq (.seq (.region (.move rfl rfl (.strLen rfl rfl (.move rfl rfl (.nil (kthen_n ?_))))))))))))))); refine .block ?_)
      refine G.loopI (σ := Nat) (fun k => [(0, str s), (1, fv), (23, i64 (s.length : Nat)), (24, i64 (k : Nat))]) (fun _ => F) (fun k => k ≤ s.length ∧ ∀ j b, j < k → s[j]? = some b → nameB b = true) (fun k => s.length - k) 0 ⟨Nat.zero_le _, fun j b h => by omega⟩ ?_ ?_ ?_
      · exact .c rfl rfl (.c rfl rfl (.c rfl rfl (.c rfl rfl .n)))
      · refine ImpS.sb ?_
        exact .r
      rintro k ⟨hk, hall⟩
      refine .seq (.region (.lti rfl rfl rfl (.nil (kthen_n (.seq ?_)))))
      by_cases hlt : k < s.length
      · have d3 : decide ((k : Int) < (s.length : Int)) = true := decide_eq_true (by omega)
        obtain ⟨b, hb⟩ : ∃ b, s[k]? = some b := ⟨_, List.getElem?_eq_getElem hlt⟩
        have nob : nameB b = false → s.all nameB = false := fun h => by
          rw [Bool.eq_false_iff]
          intro h2
          have := List.all_eq_true.1 h2 b (List.mem_of_getElem? hb)
          rw [h] at this; cases this
        have yes : nameB b = true → ∀ j b', j < k + 1 → s[j]? = some b' → nameB b' = true := fun h j b' hj hb' => by
          rcases Nat.lt_succ_iff_lt_or_eq.1 hj with h1 | h1
          · exact hall j b' h1 hb'
          · subst h1; rw [hb] at hb'; cases hb'; exact h
        (refine .condT rfl (by assumption) (.skip (kthen_n (.seq (.block (.seq (.region (.move rfl rfl (.assign rfl rfl (.nil (kthen_n (.seq (.region (.move rfl rfl (.move rfl rfl (.strIdx rfl rfl rfl rfl (by assumption) ?_))))))))))))))); refine .assign rfl rfl (.nil (kthen_n (.seq (.region (.move rfl rfl ?_))))))
        refine GO.call1 rfl rfl (upper_spec b) Tks.n ?_
        rintro _ _ ⟨rfl, rfl⟩
        cases u1 : upperB b
        · refine .move rfl rfl (.gT rfl rfl rfl (.move rfl rfl (.gT rfl rfl rfl ?_)))
          refine GO.call1 rfl rfl (lower_spec b) Tks.n ?_
          rintro _ _ ⟨rfl, rfl⟩
          cases u2 : lowerB b
          · cases u3 : decide (48 ≤ (b.toNat : Int))
            · cases u5 : decide ((b.toNat : Int) = 95)
              · (refine .pickF rfl rfl rfl (.move rfl rfl (.gT rfl rfl rfl (.move rfl rfl (.gT rfl rfl rfl (.gei rfl rfl rfl (.gT rfl rfl rfl (.move rfl rfl (.gF rfl rfl rfl (by assumption) (.gF rfl rfl rfl (by assumption) (.gT rfl rfl rfl (.pickFa rfl rfl (by assumption) rfl (.pickF rfl rfl rfl (.move rfl rfl (.gT rfl rfl rfl (.move rfl rfl ?_))))))))))))))); refine .gT rfl rfl rfl (.eqi rfl rfl rfl (.pickF rfl rfl rfl (.not rfl rfl (.nil (kthen_n ?_))))))
                refine G.condT rfl (by rw [u5]; rfl) ?_
                refine .seq (.region (.assign rfl rfl (.nil (kthen_n (.ret (kblock_r (kthen_r (kthen_r (kblock_r (kthen_r ?_))))))))))
                refine KF2.r1 rfl (RV.t rfl) ⟨by rw [nob (by unfold nameB; rw [u1, u2, u3, u5]; rfl)], rfl⟩ (ImpS.sb ?_)
                exact .r
              · (refine .pickF rfl rfl rfl (.move rfl rfl (.gT rfl rfl rfl (.move rfl rfl (.gT rfl rfl rfl (.gei rfl rfl rfl (.gT rfl rfl rfl (.move rfl rfl (.gF rfl rfl rfl (by assumption) (.gF rfl rfl rfl (by assumption) (.gT rfl rfl rfl (.pickFa rfl rfl (by assumption) rfl (.pickF rfl rfl rfl (.move rfl rfl (.gT rfl rfl rfl (.move rfl rfl ?_))))))))))))))); refine .gT rfl rfl rfl (.eqi rfl rfl rfl (.pickF rfl rfl rfl (.not rfl rfl (.nil (kthen_n ?_))))))
                refine G.condF rfl (by rw [u5]; rfl) ?_
                refine .skip (kblock_n (kthen_n (.region (.addi rfl rfl rfl (by omega) (.move rfl rfl (.nil (kthen_n ?_)))))))
                refine ⟨k + 1, ⟨by omega, yes (by unfold nameB; rw [u1, u2, u3, u5]; rfl)⟩, by omega, ?_, ImpS.sb ?_⟩
                · exact .c rfl rfl (.c rfl rfl (.c rfl rfl (.c rfl rfl .n)))
                · exact .r
            · cases u4 : decide ((b.toNat : Int) ≤ 57)
              · cases u5 : decide ((b.toNat : Int) = 95)
                · (refine .pickF rfl rfl rfl (.move rfl rfl (.gT rfl rfl rfl (.move rfl rfl (.gT rfl rfl rfl (.gei rfl rfl rfl (.gT rfl rfl rfl (.move rfl rfl (.gT rfl rfl (by assumption) (.move rfl rfl (.gT rfl rfl (by assumption) (.lei rfl rfl rfl (.gT rfl rfl rfl (.pickTa rfl rfl (by assumption) rfl (.pickF rfl rfl rfl (.move rfl rfl ?_))))))))))))))); refine .gT rfl rfl (by assumption) (.move rfl rfl (.gT rfl rfl (by assumption) (.eqi rfl rfl rfl (.pickFa rfl rfl (by assumption) rfl (.not rfl rfl (.nil (kthen_n ?_))))))))
                  refine G.condT rfl (by rw [u5]; rfl) ?_
                  refine .seq (.region (.assign rfl rfl (.nil (kthen_n (.ret (kblock_r (kthen_r (kthen_r (kblock_r (kthen_r ?_))))))))))
                  refine KF2.r1 rfl (RV.t rfl) ⟨by rw [nob (by unfold nameB; rw [u1, u2, u3, u4, u5]; rfl)], rfl⟩ (ImpS.sb ?_)
                  exact .r
                · (refine .pickF rfl rfl rfl (.move rfl rfl (.gT rfl rfl rfl (.move rfl rfl (.gT rfl rfl rfl (.gei rfl rfl rfl (.gT rfl rfl rfl (.move rfl rfl (.gT rfl rfl (by assumption) (.move rfl rfl (.gT rfl rfl (by assumption) (.lei rfl rfl rfl (.gT rfl rfl rfl (.pickTa rfl rfl (by assumption) rfl (.pickF rfl rfl rfl (.move rfl rfl ?_))))))))))))))); refine .gT rfl rfl (by assumption) (.move rfl rfl (.gT rfl rfl (by assumption) (.eqi rfl rfl rfl (.pickFa rfl rfl (by assumption) rfl (.not rfl rfl (.nil (kthen_n ?_))))))))
                  refine G.condF rfl (by rw [u5]; rfl) ?_
                  refine .skip (kblock_n (kthen_n (.region (.addi rfl rfl rfl (by omega) (.move rfl rfl (.nil (kthen_n ?_)))))))
                  refine ⟨k + 1, ⟨by omega, yes (by unfold nameB; rw [u1, u2, u3, u4, u5]; rfl)⟩, by omega, ?_, ImpS.sb ?_⟩
                  · exact .c rfl rfl (.c rfl rfl (.c rfl rfl (.c rfl rfl .n)))
                  · exact .r
              · (refine .pickF rfl rfl rfl (.move rfl rfl (.gT rfl rfl rfl (.move rfl rfl (.gT rfl rfl rfl (.gei rfl rfl rfl (.gT rfl rfl rfl (.move rfl rfl (.gT rfl rfl (by assumption) (.move rfl rfl (.gT rfl rfl (by assumption) (.lei rfl rfl rfl (.gT rfl rfl rfl (.pickTa rfl rfl (by assumption) rfl (.pickF rfl rfl rfl (.move rfl rfl ?_))))))))))))))); refine .gF rfl rfl rfl (by assumption) (.gF rfl rfl rfl (by assumption) (.pickTa rfl rfl (by assumption) rfl (.not rfl rfl (.nil (kthen_n (.condF rfl rfl (.skip (kblock_n (kthen_n (.region (.addi rfl rfl rfl (by omega) (.move rfl rfl (.nil (kthen_n ?_)))))))))))))))
                refine ⟨k + 1, ⟨by omega, yes (by unfold nameB; rw [u1, u2, u3, u4]; rfl)⟩, by omega, ?_, ImpS.sb ?_⟩
                · exact .c rfl rfl (.c rfl rfl (.c rfl rfl (.c rfl rfl .n)))
                · exact .r
          · (refine .pickF rfl rfl rfl (.move rfl rfl (.gF rfl rfl rfl rfl (.gF rfl rfl rfl rfl (.gF rfl rfl rfl rfl (.gU rfl rfl rfl (.gU rfl rfl rfl (.gF rfl rfl rfl rfl (.pickT rfl rfl rfl (.move rfl rfl (.gF rfl rfl rfl rfl (.gF rfl rfl rfl rfl (.pickT rfl rfl rfl (.not rfl rfl (.nil (kthen_n ?_))))))))))))))); refine .condF rfl rfl (.skip (kblock_n (kthen_n (.region (.addi rfl rfl rfl (by omega) (.move rfl rfl (.nil (kthen_n ?_)))))))))
            refine ⟨k + 1, ⟨by omega, yes (by unfold nameB; rw [u1, u2]; rfl)⟩, by omega, ?_, ImpS.sb ?_⟩
            · exact .c rfl rfl (.c rfl rfl (.c rfl rfl (.c rfl rfl .n)))
            · exact .r
        · (refine .move rfl rfl (.gF rfl rfl rfl rfl (.gF rfl rfl rfl rfl (.pickT rfl rfl rfl (.move rfl rfl (.gF rfl rfl rfl rfl (.gF rfl rfl rfl rfl (.gF rfl rfl rfl rfl (.gU rfl rfl rfl (.gU rfl rfl rfl (.gF rfl rfl rfl rfl (.pickT rfl rfl rfl (.move rfl rfl (.gF rfl rfl rfl rfl (.gF rfl rfl rfl rfl (.pickT rfl rfl rfl ?_))))))))))))))); refine .not rfl rfl (.nil (kthen_n (.condF rfl rfl (.skip (kblock_n (kthen_n (.region (.addi rfl rfl rfl (by omega) (.move rfl rfl (.nil (kthen_n ?_))))))))))))
          refine ⟨k + 1, ⟨by omega, yes (by unfold nameB; rw [u1]; rfl)⟩, by omega, ?_, ImpS.sb ?_⟩
          · exact .c rfl rfl (.c rfl rfl (.c rfl rfl (.c rfl rfl .n)))
          · exact .r
      · have d3 : decide ((k : Int) < (s.length : Int)) = false := decide_eq_false (by omega)
        have hyes : s.all nameB = true := List.all_eq_true.2 fun b hb => by
          obtain ⟨j, hj⟩ := List.getElem?_of_mem hb
          exact hall j b (by have := (List.getElem?_eq_some_iff.1 hj).1; omega) hj
        rw [hyes]
        refine .condF rfl (by assumption) (.exit (kthen_x (kthen_x (kblock_x (kthen_n (.seq (.region (.assign rfl rfl (.nil (kthen_n (.ret ?_)))))))))))
        refine KF2.r1 rfl (RV.t rfl) ⟨rfl, rfl⟩ (ImpS.sb ?_)
        exact .r
  · rw [decide_eq_false h16, Bool.false_and]
    have d2 : decide ((16 : Int) < (s.length : Int)) = true := decide_eq_true (by omega)
    (refine .seq (.region (.assign rfl rfl (.nil (kthen_n (.seq (.seq (.region (.move rfl rfl (.strLen rfl rfl (.lti rfl rfl rfl (.move rfl rfl (.gT rfl rfl (by assumption) (.move rfl rfl (.gT rfl rfl (by assumption) (.strLen rfl rfl ?_))))))))))))))); refine .gT rfl rfl (by assumption) (.gti rfl rfl rfl (.pickFa rfl rfl (by assumption) rfl (.move rfl rfl (.gF rfl rfl rfl (by assumption) (.gF rfl rfl rfl (by assumption) (.gF rfl rfl rfl (by assumption) (.gF rfl rfl rfl (by assumption) (.gF rfl rfl rfl (by assumption) (.pickTa rfl rfl (by assumption) rfl (.nil (kthen_n (.condT rfl rfl (.seq (.region (.assign rfl rfl ?_))))))))))))))); refine .nil (kthen_n (.ret (kthen_r ?_))))
    refine KF2.r1 rfl (RV.t rfl) ⟨rfl, rfl⟩ (ImpS.sb ?_)
    exact .r
end Go.Proofs.YtbconcohpfkncaaGreat
namespace Go.Proofs.YtbconcohpfkncaaGreat
open Go
theorem upper_fv (b : UInt8) : FnV Tryz.prog (.func (.func 140) #[] #[]) [u8 b] [] (fun r Q => r = .bool (upperB b) ∧ Q = []) := FnV.of (args := [u8 b]) (caps := []) (upper_spec b)
theorem lower_fv (b : UInt8) : FnV Tryz.prog (.func (.func 141) #[] #[]) [u8 b] [] (fun r Q => r = .bool (lowerB b) ∧ Q = []) := FnV.of (args := [u8 b]) (caps := []) (lower_spec b)
attribute [local irreducible] G GO GR GT Fn FnX FnV FnXV Dfr pt init exs pur sat own ImpS namedF
set_option maxHeartbeats 16000000 in
theorem may_spec (m : NodeD) : Fn Tryz.prog 102 #[.agg [i64 (m.kind : Nat), str m.name, i64 (m.kids : Nat)].toArray] [] (fun r Q => r = .bool (mayN m) ∧ Q = []) := by
  refine Fn.mk2 Tryz.func102 rfl rfl fun w0 F => ?_
  unfold mayN
  obtain ⟨kind, name, kids⟩ := m
  dsimp only
  (refine .seq (.region (.box rfl rfl rfl fun b1 => .assign rfl rfl (.nil (kthen_n (.seq (.seq (.region (.fieldAddr rfl rfl (.load1 rfl rfl rfl .h rfl (.nil (kthen_n (.block (.seq (.region ?_)))))))))))))); refine .eqi rfl rfl rfl (.assign rfl rfl (.nil (kthen_n ?_))))
  by_cases c1 : kind = 1
  · have d1 : decide ((kind : Int) = 1) = true := decide_eq_true (by omega)
    rw [if_pos c1]
    cases e1 : decide (name = [])
    · (refine .condT rfl (by assumption) (.seq (.region (.fieldAddr rfl rfl (.load1 rfl rfl rfl .h rfl (.binS rfl rfl rfl rfl (.move rfl rfl (.gF rfl rfl rfl (by assumption) (.gF rfl rfl rfl (by assumption) (.gF rfl rfl rfl (by assumption) (.pickFa rfl rfl (by assumption) rfl (.assign rfl rfl (.nil (kthen_n (.ret (kblock_r ?_))))))))))))))); refine kthen_r ?_)
      refine KF2.r1 rfl (RV.t rfl) ⟨rfl, rfl⟩ (ImpS.sb ?_)
      exact .s .r
    · (refine .condT rfl (by assumption) (.seq (.region (.fieldAddr rfl rfl (.load1 rfl rfl rfl .h rfl (.binS rfl rfl rfl rfl (.move rfl rfl (.gT rfl rfl (by assumption) (.fieldAddr rfl rfl (.gT rfl rfl (by assumption) (.load1 rfl rfl rfl .h rfl (.gT rfl rfl (by assumption) (.eqi rfl rfl rfl (.pickTa rfl rfl (by assumption) rfl (.assign rfl rfl (.nil ?_))))))))))))))); refine kthen_n (.ret (kblock_r (kthen_r ?_))))
      refine KF2.r1 rfl (RV.t rfl) ⟨by rw [Bool.true_and]; exact congrArg Value.bool (show decide ((kids : Int) = 0) = decide (kids = 0) from decide_eq_decide.2 (by omega)), rfl⟩ (ImpS.sb ?_)
      exact .s .r
  have d1 : decide ((kind : Int) = 1) = false := decide_eq_false (by omega)
  by_cases c2 : kind = 2
  · have d2 : decide ((kind : Int) = 2) = true := decide_eq_true (by omega)
    rw [if_neg c1, if_pos c2, show decide (kids = 0) = decide ((kids : Int) = 0) from decide_eq_decide.2 (by omega)]
    cases e1 : decide ((kids : Int) = 0)
    · (refine .condF rfl (by assumption) (.seq (.region (.eqi rfl rfl rfl (.assign rfl rfl (.nil (kthen_n (.condT rfl (by assumption) (.seq (.region (.fieldAddr rfl rfl (.load1 rfl rfl rfl .h rfl (.eqi rfl rfl rfl (.move rfl rfl (.gF rfl rfl rfl (by assumption) (.gF rfl rfl rfl (by assumption) ?_))))))))))))))); refine .gF rfl rfl rfl (by assumption) (.pickFa rfl rfl (by assumption) rfl (.assign rfl rfl (.nil (kthen_n (.ret (kblock_r (kthen_r ?_))))))))
      refine KF2.r1 rfl (RV.t rfl) ⟨rfl, rfl⟩ (ImpS.sb ?_)
      exact .s .r
    · (refine .condF rfl (by assumption) (.seq (.region (.eqi rfl rfl rfl (.assign rfl rfl (.nil (kthen_n (.condT rfl (by assumption) (.seq (.region (.fieldAddr rfl rfl (.load1 rfl rfl rfl .h rfl (.eqi rfl rfl rfl (.move rfl rfl (.gT rfl rfl (by assumption) (.fieldAddr rfl rfl ?_))))))))))))))); refine .gT rfl rfl (by assumption) (.load1 rfl rfl rfl .h rfl (.gT rfl rfl (by assumption) ?_)))
      refine GO.call2 rfl rfl rfl (named_spec name (.func (.func 140) #[] #[]) upperB upper_fv) Tks.n ?_
      rintro _ _ ⟨rfl, rfl⟩
      refine .pickTa rfl rfl (by assumption) rfl (.assign rfl rfl (.nil (kthen_n (.ret (kblock_r (kthen_r ?_))))))
      refine KF2.r1 rfl (RV.t rfl) ⟨rfl, rfl⟩ (ImpS.sb ?_)
      exact .s .r
  have d2 : decide ((kind : Int) = 2) = false := decide_eq_false (by omega)
  by_cases c3 : kind = 3
  · have d3 : decide ((kind : Int) = 3) = true := decide_eq_true (by omega)
    rw [if_neg c1, if_neg c2, if_pos c3, show decide (kids = 0) = decide ((kids : Int) = 0) from decide_eq_decide.2 (by omega)]
    cases e1 : decide ((kids : Int) = 0)
    · (refine .condF rfl (by assumption) (.seq (.region (.eqi rfl rfl rfl (.assign rfl rfl (.nil (kthen_n (.condF rfl (by assumption) (.seq (.region (.eqi rfl rfl rfl (.assign rfl rfl (.nil (kthen_n (.condT rfl (by assumption) (.seq ?_))))))))))))))); refine .region (.fieldAddr rfl rfl (.load1 rfl rfl rfl .h rfl (.eqi rfl rfl rfl (.move rfl rfl (.gF rfl rfl rfl (by assumption) (.gF rfl rfl rfl (by assumption) (.gF rfl rfl rfl (by assumption) (.pickFa rfl rfl (by assumption) rfl (.assign rfl rfl (.nil (kthen_n (.ret (kblock_r (kthen_r ?_)))))))))))))))
      refine KF2.r1 rfl (RV.t rfl) ⟨rfl, rfl⟩ (ImpS.sb ?_)
      exact .s .r
    · (refine .condF rfl (by assumption) (.seq (.region (.eqi rfl rfl rfl (.assign rfl rfl (.nil (kthen_n (.condF rfl (by assumption) (.seq (.region (.eqi rfl rfl rfl (.assign rfl rfl (.nil (kthen_n (.condT rfl (by assumption) (.seq ?_))))))))))))))); refine .region (.fieldAddr rfl rfl (.load1 rfl rfl rfl .h rfl (.eqi rfl rfl rfl (.move rfl rfl (.gT rfl rfl (by assumption) (.fieldAddr rfl rfl (.gT rfl rfl (by assumption) (.load1 rfl rfl rfl .h rfl (.gT rfl rfl (by assumption) ?_))))))))))
      refine GO.call2 rfl rfl rfl (named_spec name (.func (.func 141) #[] #[]) lowerB lower_fv) Tks.n ?_
      rintro _ _ ⟨rfl, rfl⟩
      refine .pickTa rfl rfl (by assumption) rfl (.assign rfl rfl (.nil (kthen_n (.ret (kblock_r (kthen_r ?_))))))
      refine KF2.r1 rfl (RV.t rfl) ⟨rfl, rfl⟩ (ImpS.sb ?_)
      exact .s .r
  have d3 : decide ((kind : Int) = 3) = false := decide_eq_false (by omega)
  by_cases c4 : kind = 4
  · have d4 : decide ((kind : Int) = 4) = true := decide_eq_true (by omega)
    rw [if_neg c1, if_neg c2, if_neg c3, if_pos (by omega)]
    cases e1 : decide (name = [])
    · (refine .condF rfl (by assumption) (.seq (.region (.eqi rfl rfl rfl (.assign rfl rfl (.nil (kthen_n (.condF rfl (by assumption) (.seq (.region (.eqi rfl rfl rfl (.assign rfl rfl (.nil (kthen_n (.condF rfl (by assumption) (.seq ?_))))))))))))))); refine .seq (.region (.eqi rfl rfl rfl (.assign rfl rfl (.nil (kthen_n (.condT rfl (by assumption) (.skip (kthen_n (.condT rfl (by assumption) (.seq (.region (.fieldAddr rfl rfl (.load1 rfl rfl rfl .h rfl (.binS rfl rfl rfl rfl (.move rfl rfl ?_))))))))))))))); refine .gF rfl rfl rfl (by assumption) (.gF rfl rfl rfl (by assumption) (.gF rfl rfl rfl (by assumption) (.pickFa rfl rfl (by assumption) rfl (.assign rfl rfl (.nil (kthen_n (.ret (kblock_r (kthen_r ?_))))))))))
      refine KF2.r1 rfl (RV.t rfl) ⟨rfl, rfl⟩ (ImpS.sb ?_)
      exact .s .r
    · (refine .condF rfl (by assumption) (.seq (.region (.eqi rfl rfl rfl (.assign rfl rfl (.nil (kthen_n (.condF rfl (by assumption) (.seq (.region (.eqi rfl rfl rfl (.assign rfl rfl (.nil (kthen_n (.condF rfl (by assumption) (.seq ?_))))))))))))))); refine .seq (.region (.eqi rfl rfl rfl (.assign rfl rfl (.nil (kthen_n (.condT rfl (by assumption) (.skip (kthen_n (.condT rfl (by assumption) (.seq (.region (.fieldAddr rfl rfl (.load1 rfl rfl rfl .h rfl (.binS rfl rfl rfl rfl (.move rfl rfl ?_))))))))))))))); refine .gT rfl rfl (by assumption) (.fieldAddr rfl rfl (.gT rfl rfl (by assumption) (.load1 rfl rfl rfl .h rfl (.gT rfl rfl (by assumption) (.gei rfl rfl rfl (.pickTa rfl rfl (by assumption) rfl (.assign rfl rfl (.nil (kthen_n (.ret (kblock_r (kthen_r ?_)))))))))))))
      refine KF2.r1 rfl (RV.t rfl) ⟨by rw [Bool.true_and]; exact congrArg Value.bool (show decide ((2 : Int) ≤ (kids : Int)) = decide (2 ≤ kids) from decide_eq_decide.2 (by omega)), rfl⟩ (ImpS.sb ?_)
      exact .s .r
  have d4 : decide ((kind : Int) = 4) = false := decide_eq_false (by omega)
  by_cases c5 : kind = 5
  · have d5 : decide ((kind : Int) = 5) = true := decide_eq_true (by omega)
    rw [if_neg c1, if_neg c2, if_neg c3, if_pos (by omega)]
    cases e1 : decide (name = [])
    · (refine .condF rfl (by assumption) (.seq (.region (.eqi rfl rfl rfl (.assign rfl rfl (.nil (kthen_n (.condF rfl (by assumption) (.seq (.region (.eqi rfl rfl rfl (.assign rfl rfl (.nil (kthen_n (.condF rfl (by assumption) (.seq ?_))))))))))))))); refine .seq (.region (.eqi rfl rfl rfl (.assign rfl rfl (.nil (kthen_n (.condF rfl (by assumption) (.region (.eqi rfl rfl rfl (.assign rfl rfl (.nil (kthen_n (.condT rfl (by assumption) (.seq (.region (.fieldAddr rfl rfl ?_))))))))))))))); refine .load1 rfl rfl rfl .h rfl (.binS rfl rfl rfl rfl (.move rfl rfl (.gF rfl rfl rfl (by assumption) (.gF rfl rfl rfl (by assumption) (.gF rfl rfl rfl (by assumption) (.pickFa rfl rfl (by assumption) rfl (.assign rfl rfl (.nil (kthen_n (.ret (kblock_r (kthen_r ?_)))))))))))))
      refine KF2.r1 rfl (RV.t rfl) ⟨rfl, rfl⟩ (ImpS.sb ?_)
      exact .s .r
    · (refine .condF rfl (by assumption) (.seq (.region (.eqi rfl rfl rfl (.assign rfl rfl (.nil (kthen_n (.condF rfl (by assumption) (.seq (.region (.eqi rfl rfl rfl (.assign rfl rfl (.nil (kthen_n (.condF rfl (by assumption) (.seq ?_))))))))))))))); refine .seq (.region (.eqi rfl rfl rfl (.assign rfl rfl (.nil (kthen_n (.condF rfl (by assumption) (.region (.eqi rfl rfl rfl (.assign rfl rfl (.nil (kthen_n (.condT rfl (by assumption) (.seq (.region (.fieldAddr rfl rfl ?_))))))))))))))); refine .load1 rfl rfl rfl .h rfl (.binS rfl rfl rfl rfl (.move rfl rfl (.gT rfl rfl (by assumption) (.fieldAddr rfl rfl (.gT rfl rfl (by assumption) (.load1 rfl rfl rfl .h rfl (.gT rfl rfl (by assumption) (.gei rfl rfl rfl (.pickTa rfl rfl (by assumption) rfl (.assign rfl rfl (.nil (kthen_n (.ret (kblock_r (kthen_r ?_))))))))))))))))
      refine KF2.r1 rfl (RV.t rfl) ⟨by rw [Bool.true_and]; exact congrArg Value.bool (show decide ((2 : Int) ≤ (kids : Int)) = decide (2 ≤ kids) from decide_eq_decide.2 (by omega)), rfl⟩ (ImpS.sb ?_)
      exact .s .r
  have d5 : decide ((kind : Int) = 5) = false := decide_eq_false (by omega)
  by_cases c6 : kind = 6
  · have d6 : decide ((kind : Int) = 6) = true := decide_eq_true (by omega)
    rw [if_neg c1, if_neg c2, if_neg c3, if_neg (by omega), if_pos (by omega)]
    cases e1 : decide (name = [])
    · (refine .condF rfl (by assumption) (.seq (.region (.eqi rfl rfl rfl (.assign rfl rfl (.nil (kthen_n (.condF rfl (by assumption) (.seq (.region (.eqi rfl rfl rfl (.assign rfl rfl (.nil (kthen_n (.condF rfl (by assumption) (.seq ?_))))))))))))))); refine .seq (.region (.eqi rfl rfl rfl (.assign rfl rfl (.nil (kthen_n (.condF rfl (by assumption) (.region (.eqi rfl rfl rfl (.assign rfl rfl (.nil (kthen_n (.condF rfl (by assumption) (.seq (.seq (.region ?_))))))))))))))); refine .eqi rfl rfl rfl (.assign rfl rfl (.nil (kthen_n (.condT rfl (by assumption) (.skip (kthen_n (.condT rfl (by assumption) (.seq (.region (.fieldAddr rfl rfl (.load1 rfl rfl rfl .h rfl (.binS rfl rfl rfl rfl (.move rfl rfl (.gF rfl rfl rfl (by assumption) (.gF rfl rfl rfl (by assumption) ?_))))))))))))))); refine .gF rfl rfl rfl (by assumption) (.pickFa rfl rfl (by assumption) rfl (.assign rfl rfl (.nil (kthen_n (.ret (kblock_r (kthen_r ?_))))))))
      refine KF2.r1 rfl (RV.t rfl) ⟨rfl, rfl⟩ (ImpS.sb ?_)
      exact .s .r
    · (refine .condF rfl (by assumption) (.seq (.region (.eqi rfl rfl rfl (.assign rfl rfl (.nil (kthen_n (.condF rfl (by assumption) (.seq (.region (.eqi rfl rfl rfl (.assign rfl rfl (.nil (kthen_n (.condF rfl (by assumption) (.seq ?_))))))))))))))); refine .seq (.region (.eqi rfl rfl rfl (.assign rfl rfl (.nil (kthen_n (.condF rfl (by assumption) (.region (.eqi rfl rfl rfl (.assign rfl rfl (.nil (kthen_n (.condF rfl (by assumption) (.seq (.seq (.region ?_))))))))))))))); refine .eqi rfl rfl rfl (.assign rfl rfl (.nil (kthen_n (.condT rfl (by assumption) (.skip (kthen_n (.condT rfl (by assumption) (.seq (.region (.fieldAddr rfl rfl (.load1 rfl rfl rfl .h rfl (.binS rfl rfl rfl rfl (.move rfl rfl (.gT rfl rfl (by assumption) (.fieldAddr rfl rfl ?_))))))))))))))); refine .gT rfl rfl (by assumption) (.load1 rfl rfl rfl .h rfl (.gT rfl rfl (by assumption) (.eqi rfl rfl rfl (.pickTa rfl rfl (by assumption) rfl (.assign rfl rfl (.nil (kthen_n (.ret (kblock_r (kthen_r ?_)))))))))))
      refine KF2.r1 rfl (RV.t rfl) ⟨by rw [Bool.true_and]; exact congrArg Value.bool (show decide ((kids : Int) = 1) = decide (kids = 1) from decide_eq_decide.2 (by omega)), rfl⟩ (ImpS.sb ?_)
      exact .s .r
  have d6 : decide ((kind : Int) = 6) = false := decide_eq_false (by omega)
  by_cases c7 : kind = 7
  · have d7 : decide ((kind : Int) = 7) = true := decide_eq_true (by omega)
    rw [if_neg c1, if_neg c2, if_neg c3, if_neg (by omega), if_pos (by omega)]
    cases e1 : decide (name = [])
    · (refine .condF rfl (by assumption) (.seq (.region (.eqi rfl rfl rfl (.assign rfl rfl (.nil (kthen_n (.condF rfl (by assumption) (.seq (.region (.eqi rfl rfl rfl (.assign rfl rfl (.nil (kthen_n (.condF rfl (by assumption) (.seq ?_))))))))))))))); refine .seq (.region (.eqi rfl rfl rfl (.assign rfl rfl (.nil (kthen_n (.condF rfl (by assumption) (.region (.eqi rfl rfl rfl (.assign rfl rfl (.nil (kthen_n (.condF rfl (by assumption) (.seq (.seq (.region ?_))))))))))))))); refine .eqi rfl rfl rfl (.assign rfl rfl (.nil (kthen_n (.condF rfl (by assumption) (.seq (.region (.eqi rfl rfl rfl (.assign rfl rfl (.nil (kthen_n (.condT rfl (by assumption) (.skip (kthen_n (.condT rfl (by assumption) (.seq ?_))))))))))))))); refine .region (.fieldAddr rfl rfl (.load1 rfl rfl rfl .h rfl (.binS rfl rfl rfl rfl (.move rfl rfl (.gF rfl rfl rfl (by assumption) (.gF rfl rfl rfl (by assumption) (.gF rfl rfl rfl (by assumption) (.pickFa rfl rfl (by assumption) rfl (.assign rfl rfl (.nil (kthen_n (.ret (kblock_r (kthen_r ?_)))))))))))))))
      refine KF2.r1 rfl (RV.t rfl) ⟨rfl, rfl⟩ (ImpS.sb ?_)
      exact .s .r
    · (refine .condF rfl (by assumption) (.seq (.region (.eqi rfl rfl rfl (.assign rfl rfl (.nil (kthen_n (.condF rfl (by assumption) (.seq (.region (.eqi rfl rfl rfl (.assign rfl rfl (.nil (kthen_n (.condF rfl (by assumption) (.seq ?_))))))))))))))); refine .seq (.region (.eqi rfl rfl rfl (.assign rfl rfl (.nil (kthen_n (.condF rfl (by assumption) (.region (.eqi rfl rfl rfl (.assign rfl rfl (.nil (kthen_n (.condF rfl (by assumption) (.seq (.seq (.region ?_))))))))))))))); refine .eqi rfl rfl rfl (.assign rfl rfl (.nil (kthen_n (.condF rfl (by assumption) (.seq (.region (.eqi rfl rfl rfl (.assign rfl rfl (.nil (kthen_n (.condT rfl (by assumption) (.skip (kthen_n (.condT rfl (by assumption) (.seq ?_))))))))))))))); refine .region (.fieldAddr rfl rfl (.load1 rfl rfl rfl .h rfl (.binS rfl rfl rfl rfl (.move rfl rfl (.gT rfl rfl (by assumption) (.fieldAddr rfl rfl (.gT rfl rfl (by assumption) (.load1 rfl rfl rfl .h rfl (.gT rfl rfl (by assumption) (.eqi rfl rfl rfl (.pickTa rfl rfl (by assumption) rfl (.assign rfl rfl (.nil (kthen_n (.ret ?_))))))))))))))); refine kblock_r (kthen_r ?_))
      refine KF2.r1 rfl (RV.t rfl) ⟨by rw [Bool.true_and]; exact congrArg Value.bool (show decide ((kids : Int) = 1) = decide (kids = 1) from decide_eq_decide.2 (by omega)), rfl⟩ (ImpS.sb ?_)
      exact .s .r
  have d7 : decide ((kind : Int) = 7) = false := decide_eq_false (by omega)
  by_cases c8 : kind = 8
  · have d8 : decide ((kind : Int) = 8) = true := decide_eq_true (by omega)
    rw [if_neg c1, if_neg c2, if_neg c3, if_neg (by omega), if_pos (by omega)]
    cases e1 : decide (name = [])
    · (refine .condF rfl (by assumption) (.seq (.region (.eqi rfl rfl rfl (.assign rfl rfl (.nil (kthen_n (.condF rfl (by assumption) (.seq (.region (.eqi rfl rfl rfl (.assign rfl rfl (.nil (kthen_n (.condF rfl (by assumption) (.seq ?_))))))))))))))); refine .seq (.region (.eqi rfl rfl rfl (.assign rfl rfl (.nil (kthen_n (.condF rfl (by assumption) (.region (.eqi rfl rfl rfl (.assign rfl rfl (.nil (kthen_n (.condF rfl (by assumption) (.seq (.seq (.region ?_))))))))))))))); refine .eqi rfl rfl rfl (.assign rfl rfl (.nil (kthen_n (.condF rfl (by assumption) (.seq (.region (.eqi rfl rfl rfl (.assign rfl rfl (.nil (kthen_n (.condF rfl (by assumption) (.region (.eqi rfl rfl rfl (.assign rfl rfl (.nil ?_))))))))))))))); refine kthen_n (.condT rfl (by assumption) (.seq (.region (.fieldAddr rfl rfl (.load1 rfl rfl rfl .h rfl (.binS rfl rfl rfl rfl (.move rfl rfl (.gF rfl rfl rfl (by assumption) (.gF rfl rfl rfl (by assumption) (.gF rfl rfl rfl (by assumption) (.pickFa rfl rfl (by assumption) rfl (.assign rfl rfl (.nil (kthen_n (.ret ?_))))))))))))))); refine kblock_r (kthen_r ?_))
      refine KF2.r1 rfl (RV.t rfl) ⟨rfl, rfl⟩ (ImpS.sb ?_)
      exact .s .r
    · (refine .condF rfl (by assumption) (.seq (.region (.eqi rfl rfl rfl (.assign rfl rfl (.nil (kthen_n (.condF rfl (by assumption) (.seq (.region (.eqi rfl rfl rfl (.assign rfl rfl (.nil (kthen_n (.condF rfl (by assumption) (.seq ?_))))))))))))))); refine .seq (.region (.eqi rfl rfl rfl (.assign rfl rfl (.nil (kthen_n (.condF rfl (by assumption) (.region (.eqi rfl rfl rfl (.assign rfl rfl (.nil (kthen_n (.condF rfl (by assumption) (.seq (.seq (.region ?_))))))))))))))); refine .eqi rfl rfl rfl (.assign rfl rfl (.nil (kthen_n (.condF rfl (by assumption) (.seq (.region (.eqi rfl rfl rfl (.assign rfl rfl (.nil (kthen_n (.condF rfl (by assumption) (.region (.eqi rfl rfl rfl (.assign rfl rfl (.nil ?_))))))))))))))); refine kthen_n (.condT rfl (by assumption) (.seq (.region (.fieldAddr rfl rfl (.load1 rfl rfl rfl .h rfl (.binS rfl rfl rfl rfl (.move rfl rfl (.gT rfl rfl (by assumption) (.fieldAddr rfl rfl (.gT rfl rfl (by assumption) (.load1 rfl rfl rfl .h rfl (.gT rfl rfl (by assumption) (.eqi rfl rfl rfl (.pickTa rfl rfl (by assumption) rfl (.assign rfl rfl ?_))))))))))))))); refine .nil (kthen_n (.ret (kblock_r (kthen_r ?_)))))
      refine KF2.r1 rfl (RV.t rfl) ⟨by rw [Bool.true_and]; exact congrArg Value.bool (show decide ((kids : Int) = 1) = decide (kids = 1) from decide_eq_decide.2 (by omega)), rfl⟩ (ImpS.sb ?_)
      exact .s .r
  have d8 : decide ((kind : Int) = 8) = false := decide_eq_false (by omega)
  rw [if_neg c1, if_neg c2, if_neg c3, if_neg (by omega), if_neg (by omega)]
  (refine .condF rfl (by assumption) (.seq (.region (.eqi rfl rfl rfl (.assign rfl rfl (.nil (kthen_n (.condF rfl (by assumption) (.seq (.region (.eqi rfl rfl rfl (.assign rfl rfl (.nil (kthen_n (.condF rfl (by assumption) (.seq ?_))))))))))))))); refine .seq (.region (.eqi rfl rfl rfl (.assign rfl rfl (.nil (kthen_n (.condF rfl (by assumption) (.region (.eqi rfl rfl rfl (.assign rfl rfl (.nil (kthen_n (.condF rfl (by assumption) (.seq (.seq (.region ?_))))))))))))))); refine .eqi rfl rfl rfl (.assign rfl rfl (.nil (kthen_n (.condF rfl (by assumption) (.seq (.region (.eqi rfl rfl rfl (.assign rfl rfl (.nil (kthen_n (.condF rfl (by assumption) (.region (.eqi rfl rfl rfl (.assign rfl rfl (.nil ?_))))))))))))))); refine kthen_n (.condF rfl (by assumption) (.skip (kblock_n (kthen_n (.seq (.region (.assign rfl rfl (.nil (kthen_n (.ret ?_)))))))))))
  refine KF2.r1 rfl (RV.t rfl) ⟨rfl, rfl⟩ (ImpS.sb ?_)
  exact .s .r
end Go.Proofs.YtbconcohpfkncaaGreat
namespace Go.Proofs.YtbconcohpfkncaaGreat
open Go
/-- A slice that can be read, its length at most its capacity. -/
def SlK (q : HP) (v : Value) (n sz : Nat) (l : List Value) : Prop :=
  ∃ a cap, v = .slice a n cap ∧ n ≤ cap ∧ l.length = n * sz ∧ (0 < n → ∃ b o, a = some ⟨b, o, none⟩ ∧ ∀ j u, l[j]? = some u → Rd q ⟨b, o + j, none⟩ u)
theorem SlK.sl {q : HP} {v : Value} {n sz : Nat} {l : List Value} (h : SlK q v n sz l) : Sl q v n sz l := let ⟨a, cap, h1, _, h3, h4⟩ := h; ⟨a, cap, h1, h3, h4⟩
theorem SlK.one {q : HP} {v : Value} {n sz : Nat} {l : List Value} (h : SlK q v n sz l) : v.oneCell' = true := let ⟨_, _, h1, _⟩ := h; by rw [h1]; rfl
theorem GO.ownRdK {P : Program} {c : Cx} {A : Array Oper} {K : Kont} {L : Env} {H : List HP} {el : TypeId} {sz n : Nat} {v : Value} {xs : List Value} {F : List HP} {os : List Oper} (tk : Tk (own el sz n v xs) H F) (k : ∀ q, SlK q v n sz xs → GO P c A os K L (q :: F)) : GO P c A os K L H := by
  refine GO.own_open tk (fun hv hn hx => ?_) (fun b cap rest' hv h1 h2 h3 h4 => ?_)
  · subst hv hn hx
    exact GO.imp (H' := Go.Proofs.YtbconcohpfkncaaGreat.pur True :: F) (fun _ _ s => sat_pur.2 ⟨trivial, s⟩) (k _ ⟨none, 0, rfl, Nat.le_refl _, by simp, fun h => absurd h (by omega)⟩)
  · subst hv
    refine k _ ⟨_, _, rfl, h2, h1, fun _ => ⟨b, 0, rfl, fun j u hj => ?_⟩⟩
    rw [Nat.zero_add]
    exact Rd.row (by rw [List.getElem?_append_left (List.getElem?_eq_some_iff.1 hj).1]; exact hj)
theorem G.ownRdK {P : Program} {c : Cx} {K : Kont} {L : Env} {H : List HP} {el : TypeId} {sz n : Nat} {v : Value} {xs : List Value} {F : List HP} {C : Code} (tk : Tk (own el sz n v xs) H F) (k : ∀ q, SlK q v n sz xs → G P c C K L (q :: F)) : G P c C K L H := by
  rintro a w ⟨h1, h2, ds, h3, h4, h5⟩
  have s1 : sat (own el sz n v xs :: (F ++ (c.X ++ ds.map dblk))) w := sat_perm (List.Perm.append_right _ tk) h5
  rcases own_shape s1 with ⟨rfl, rfl, rfl, s2⟩ | ⟨b, cap, rest', rfl, g1, g2, _, _, s2⟩
  · exact k (Go.Proofs.YtbconcohpfkncaaGreat.pur True) ⟨none, 0, rfl, Nat.le_refl _, by simp, fun h => absurd h (by omega)⟩ a w ⟨h1, h2, ds, h3, h4, sat_pur.2 ⟨trivial, s2⟩⟩
  · refine k (pt b (row (xs ++ rest') el)) ⟨_, _, rfl, g2, g1, fun _ => ⟨b, 0, rfl, fun j u hj => ?_⟩⟩ a w ⟨h1, h2, ds, h3, h4, s2⟩
    rw [Nat.zero_add]
    exact Rd.row (by rw [List.getElem?_append_left (List.getElem?_eq_some_iff.1 hj).1]; exact hj)
/-- Nodes, readable in q. -/
abbrev NodesR (q : HP) (v : Value) (l : List NodeD) : Prop := SlK q v l.length 3 (nodesV l)
theorem nodes_rd {q : HP} {v : Value} {l : List NodeD} {i : Nat} {m : NodeD} (hq : NodesR q v l) (h : l[i]? = some m) : ∃ b o cap, v = .slice (some ⟨b, o, none⟩) l.length cap ∧ l.length ≤ cap ∧
    (∀ j u, [i64 (m.kind : Nat), str m.name, i64 (m.kids : Nat)][j]? = some u → Rd q ⟨b, o + i * 3 + j, none⟩ u) := by
  obtain ⟨a, cap, rfl, hcap, _, hr⟩ := hq
  have hi := (List.getElem?_eq_some_iff.1 h).1
  obtain ⟨b, o, rfl, hr2⟩ := hr (by omega)
  refine ⟨b, o, cap, rfl, hcap, fun j u hu => ?_⟩
  have hj : j < 3 := (List.getElem?_eq_some_iff.1 hu).1
  rw [Nat.add_assoc]
  exact hr2 _ _ (by unfold nodesV; rw [flatX_get (enc := nodeVs) (k := 3) (fun _ => rfl) h hj]; exact hu)
theorem nodes_sl {q : HP} {v : Value} {l : List NodeD} (hq : NodesR q v l) : ∃ a cap, v = .slice a l.length cap := let ⟨a, cap, h, _⟩ := hq; ⟨a, cap, h⟩
theorem mul_bound {a b : Nat} (ha : a ≤ 1048576) (hb : b ≤ 1048576) : a * b ≤ 1099511627776 := Nat.le_trans (Nat.mul_le_mul ha hb) (by decide)
attribute [local irreducible] G GO GR GT Fn FnX FnV FnXV Dfr pt init exs pur sat own ImpS mayN
set_option maxHeartbeats 16000000 in
theorem whole_spec (q : HP) (v : Value) (l : List NodeD) (hq : NodesR q v l) (hl : ¬ 1048576 < l.length) : Fn Tryz.prog 58 #[v] [q] (fun r Q => r = .bool (wholeF l) ∧ Q = [q]) := by
  have hrd : ∀ i m, l[i]? = some m → _ := fun i m h => nodes_rd hq h
  obtain ⟨a, cap, rfl⟩ := nodes_sl hq
  clear hq
  unfold wholeF
  refine Fn.mk2 Tryz.func58 rfl rfl fun w0 F => ?_
  generalize hfin : wholeL l.length 1 l = fin
  (refine .seq (.region (.assign rfl rfl (.nil (kthen_n (.seq (.region (.assign rfl rfl (.nil (kthen_n (.seq (.seq (.region (.move rfl rfl (.lenS rfl rfl (.move rfl rfl ?_))))))))))))))); refine .nil (kthen_n (.block ?_)))
  refine G.loopI (σ := Nat × Nat) (fun z => [(0, .slice a l.length cap), (3, i64 (z.2 : Nat)), (6, .slice a l.length cap), (7, i64 (l.length : Nat)), (8, i64 (z.1 : Nat))]) (fun _ => q :: F) (fun z => z.1 ≤ l.length ∧ z.2 ≤ 1 + z.1 * l.length ∧ wholeL l.length z.2 (l.drop z.1) = fin) (fun z => l.length - z.1) (0, 1) ⟨Nat.zero_le _, by dsimp only; omega, hfin⟩ ?_ ?_ ?_
  · exact .c rfl rfl (.c rfl rfl (.c rfl rfl (.c rfl rfl (.c rfl rfl .n))))
  · refine ImpS.sb ?_
    exact .c .h .r
  clear hfin
  rintro ⟨i, o⟩ ⟨hi, ho, hw⟩
  dsimp only at hi ho hw ⊢
  have hmb := mul_bound (a := i) (b := l.length) (by omega) (by omega)
  have hsm : (i + 1) * l.length = i * l.length + l.length := by rw [Nat.add_mul, Nat.one_mul]
  (refine G.seq ?_; refine G.region ?_; refine GO.lti rfl rfl rfl ?_; refine GO.nil ?_; refine kthen_n ?_; refine G.seq ?_)
  by_cases hlt : i < l.length
  · have d1 : decide ((i : Int) < (l.length : Int)) = true := decide_eq_true (by omega)
    obtain ⟨m, hm⟩ : ∃ m, l[i]? = some m := ⟨_, List.getElem?_eq_getElem hlt⟩
    obtain ⟨b, o2, cap2, e, _, rm⟩ := hrd i m hm
    injection e with e _ e2
    subst e e2
    rw [drop_at hm] at hw
    simp only [wholeL] at hw
    (refine G.condT rfl (by assumption) ?_; refine G.skip ?_; refine kthen_n ?_; refine G.seq ?_; refine G.block ?_; refine G.seq ?_; refine G.region ?_; refine GO.idxS rfl rfl rfl ⟨rfl, by omega⟩ ?_)
    refine GO.loadM (vs := [i64 (m.kind : Nat), str m.name, i64 (m.kids : Nat)]) rfl rfl rfl Tk.h rfl rm ?_
    (refine GO.alloc rfl fun b5 => ?_; refine GO.storeW rfl rfl Tk.h ⟨rfl, rfl⟩ (by simp [Value.oneCell']) ?_; refine GO.nil ?_; refine kthen_n ?_; refine G.seq ?_; refine G.seq ?_; refine G.region ?_; refine GO.move rfl rfl ?_; refine GO.eqi rfl rfl rfl ?_; refine GO.move rfl rfl ?_)
    by_cases h0 : o = 0
    · rw [if_pos (.inl h0)] at hw
      subst hw
      have d2 : decide ((o : Int) = 0) = true := decide_eq_true (by omega)
      (refine .gF rfl rfl rfl (by assumption) (.gF rfl rfl rfl (by assumption) (.gF rfl rfl rfl (by assumption) (.pickTa rfl rfl (by assumption) rfl (.move rfl rfl (.gF rfl rfl rfl rfl (.gF rfl rfl rfl rfl (.gF rfl rfl rfl rfl (.gF rfl rfl rfl rfl (.gF rfl rfl rfl rfl (.pickT rfl rfl rfl (.nil (kthen_n (.condT rfl rfl (.seq (.region ?_))))))))))))))); refine .assign rfl rfl (.nil (kthen_n (.ret (kthen_r (kblock_r (kthen_r (kthen_r (kblock_r (kthen_r ?_))))))))))
      refine KF2.r1 rfl (RV.t rfl) ⟨rfl, rfl⟩ (ImpS.sb ?_)
      exact .c (.t .h) (.s .r)
    have d2 : decide ((o : Int) = 0) = false := decide_eq_false (by omega)
    refine .gT rfl rfl (by assumption) (.loadW rfl rfl rfl .h rfl (.gT rfl rfl (by assumption) ?_))
    refine GO.call1 rfl rfl (may_spec m) Tks.n ?_
    rintro _ _ ⟨rfl, rfl⟩
    cases hmay : mayN m
    · rw [if_pos (.inr (.inl hmay))] at hw
      subst hw
      (refine .gT rfl rfl (by assumption) (.not rfl rfl (.pickFa rfl rfl (by assumption) rfl (.move rfl rfl (.gF rfl rfl rfl rfl (.gF rfl rfl rfl rfl (.gF rfl rfl rfl rfl (.gF rfl rfl rfl rfl (.gF rfl rfl rfl rfl (.pickT rfl rfl rfl (.nil (kthen_n (.condT rfl rfl (.seq (.region (.assign rfl rfl ?_))))))))))))))); refine .nil (kthen_n (.ret (kthen_r (kblock_r (kthen_r (kthen_r (kblock_r (kthen_r ?_)))))))))
      refine KF2.r1 rfl (RV.t rfl) ⟨rfl, rfl⟩ (ImpS.sb ?_)
      exact .c (.t .h) (.s .r)
    by_cases hk : l.length < m.kids
    · rw [if_pos (.inr (.inr hk))] at hw
      subst hw
      have d3 : decide ((l.length : Int) < (m.kids : Int)) = true := decide_eq_true (by omega)
      (refine .gT rfl rfl (by assumption) (.not rfl rfl (.pickFa rfl rfl (by assumption) rfl (.move rfl rfl (.gT rfl rfl rfl (.fieldAddr rfl rfl (.gT rfl rfl rfl (.load1 rfl rfl rfl .h rfl (.gT rfl rfl rfl (.move rfl rfl (.gT rfl rfl rfl (.lenS rfl rfl (.gT rfl rfl rfl (.gti rfl rfl rfl (.pickF rfl rfl rfl (.nil ?_))))))))))))))); refine kthen_n (.condT rfl (by assumption) (.seq (.region (.assign rfl rfl (.nil (kthen_n (.ret (kthen_r (kblock_r (kthen_r (kthen_r (kblock_r (kthen_r ?_))))))))))))))
      refine KF2.r1 rfl (RV.t rfl) ⟨rfl, rfl⟩ (ImpS.sb ?_)
      exact .c (.t .h) (.s .r)
    rw [if_neg (by rw [hmay]; rintro (h | h | h); exact h0 h; cases h; exact hk h)] at hw
    have d3 : decide ((l.length : Int) < (m.kids : Int)) = false := decide_eq_false (by omega)
    (refine .gT rfl rfl (by assumption) (.not rfl rfl (.pickFa rfl rfl (by assumption) rfl (.move rfl rfl (.gT rfl rfl rfl (.fieldAddr rfl rfl (.gT rfl rfl rfl (.load1 rfl rfl rfl .h rfl (.gT rfl rfl rfl (.move rfl rfl (.gT rfl rfl rfl (.lenS rfl rfl (.gT rfl rfl rfl (.gti rfl rfl rfl (.pickF rfl rfl rfl (.nil ?_))))))))))))))); refine kthen_n (.condF rfl (by assumption) (.skip (kthen_n (.region (.move rfl rfl (.fieldAddr rfl rfl (.load1 rfl rfl rfl .h rfl (.subi rfl rfl rfl (by omega) (.addi rfl rfl rfl (by omega) (.assign rfl rfl (.nil (kblock_n (kthen_n (.region (.addi rfl rfl rfl (by omega) ?_))))))))))))))); refine .move rfl rfl (.nil (kthen_n ?_)))
    refine ⟨(i + 1, o + m.kids - 1), ⟨by dsimp only; omega, by dsimp only; rw [hsm]; omega, hw⟩, by dsimp only; omega, ?_, ImpS.sb ?_⟩
    · (refine SubE.c rfl rfl ?_; (refine SubE.c rfl ?_ ?_; focus (simp; omega)); refine SubE.c rfl rfl ?_; refine SubE.c rfl rfl ?_; refine SubE.c rfl rfl ?_; exact SubE.n)
    · exact .c (.t .h) (.s .r)
  · have d1 : decide ((i : Int) < (l.length : Int)) = false := decide_eq_false (by omega)
    rw [List.drop_eq_nil_of_le (by omega)] at hw
    subst hw
    have e1 : decide (wholeL l.length o [] = some 0) = decide ((o : Int) = 0) := decide_eq_decide.2 (by simp only [wholeL, Option.some.injEq]; omega)
    have e2 : decide (0 < l.length) = decide ((0 : Int) < (l.length : Int)) := decide_eq_decide.2 (by omega)
    rw [e1, e2]
    refine .condF rfl (by assumption) (.exit (kthen_x (kthen_x (kblock_x (kthen_n (.seq (.region (.move rfl rfl (.eqi rfl rfl rfl (.move rfl rfl ?_))))))))))
    cases d2 : decide ((o : Int) = 0)
    · refine .gF rfl rfl rfl rfl (.gF rfl rfl rfl rfl (.gF rfl rfl rfl rfl (.pickF rfl rfl rfl (.assign rfl rfl (.nil (kthen_n (.ret ?_)))))))
      refine KF2.r1 rfl (RV.t rfl) ⟨rfl, rfl⟩ (ImpS.sb ?_)
      exact .c .h .r
    · refine .gT rfl rfl rfl (.move rfl rfl (.gT rfl rfl rfl (.lenS rfl rfl (.gT rfl rfl rfl (.gti rfl rfl rfl (.pickT rfl rfl rfl (.assign rfl rfl (.nil (kthen_n (.ret ?_))))))))))
      refine KF2.r1 rfl (RV.t rfl) ⟨rfl, rfl⟩ (ImpS.sb ?_)
      exact .c .h .r
end Go.Proofs.YtbconcohpfkncaaGreat
namespace Go.Proofs.YtbconcohpfkncaaGreat
open Go
section
variable {P : Program} {c : Cx} {A : Array Oper} {rest : List Oper} {K : Kont} {L : Env} {H : List HP} {t : TypeId} {p : String} {e : Array Edge} {d : Nat}
/-- s[l:h:h]. -/
theorem GO.sliceLHM {ty el : TypeId} {sz n cap l h b o : Nat} {kk kh km : IntKind} {i j m : Int} {x y z u : Operand} [hu : UL P ty (.slice el)] [hs : SZ P el sz] (hN : Nat.blt d c.N = true) (hx : evl L x = some (.slice (some ⟨b, o, none⟩) n cap)) (hy : evl L y = some (.int kk i)) (hz : evl L z = some (.int kh j)) (hm : evl L u = some (.int km m)) (hi : i = (l : Int) ∧ j = (h : Int) ∧ m = (h : Int) ∧ l < h ∧ h ≤ cap)
    (k : GO P c A rest K ((d, .slice (some ⟨b, o + l * sz, none⟩) (h - l) (h - l)) :: L) H) : GO P c A (⟨some d, .slice ty x (some y) (some z) (some u), t, p, e, none⟩ :: rest) K L H :=
  GO.val hN rfl (fun a w Y hh _ => by
    obtain ⟨rfl, rfl, rfl, h1, h2⟩ := hi
    have hle : (l : Int) ≤ h := by omega
    have hle2 : (h : Int) ≤ cap := by omega
    have hle3 : (h : Int) ≤ h := by omega
    have hne : ¬ h = l := by omega
    simp only [execOp, hh.eval hx, Option.map_some, hh.eval hy, hh.eval hz, hh.eval hm]
    simp [Instr.sliceAt, Instr.slice, Sem.run_bind, run_underlying hu.out, Instr.sliceBounds, run_sliceBound w _ _ _ _ (Int.natCast_nonneg l) hle, run_sliceBound w _ _ _ _ (Int.natCast_nonneg h) hle2, run_sliceBound w _ _ _ _ (Int.natCast_nonneg h) hle3, run_sizeOf_SZ, Result.andThen, hne, add_plain]) k
end
theorem nodes_sub {q : HP} {b o cap c : Nat} {A B C : List NodeD} (hq : NodesR q (.slice (some ⟨b, o, none⟩) (A ++ B ++ C).length cap) (A ++ B ++ C)) (hB : 0 < B.length) (hc : B.length ≤ c) : NodesR q (.slice (some ⟨b, o + A.length * 3, none⟩) B.length c) B := by
  obtain ⟨a, cap', e, _, _, hr⟩ := hq
  injection e with e1 e2 e3
  obtain ⟨b', o', e4, hr⟩ := hr (by simp; omega)
  rw [← e1] at e4
  injection e4 with e4
  injection e4 with e5 e6
  subst e5 e6
  refine ⟨_, c, rfl, hc, nodesV_len B, fun _ => ⟨b, o + A.length * 3, rfl, fun j u hu => ?_⟩⟩
  rw [Nat.add_assoc]
  refine hr _ _ ?_
  have hj : j < (nodesV B).length := (List.getElem?_eq_some_iff.1 hu).1
  rw [nodesV_app, nodesV_app, List.append_assoc, List.getElem?_append_right (by rw [nodesV_len]; omega), nodesV_len, Nat.add_sub_cancel_left, List.getElem?_append_left hj]
  exact hu
/-- The kids, each a slice of its own, of which the first k have come. -/
def KidsR (q : HP) (ts : List Tree) (k : Nat) (vals : List Value) : Prop := vals.length = k ∧ ∀ i u, i < k → ts[i]? = some u → ∃ w, vals[i]? = some w ∧ w.oneCell' = true ∧ NodesR q w (flat u)
theorem KidsR.snoc {q : HP} {ts : List Tree} {k : Nat} {vals : List Value} {u : Tree} {w : Value} (h : KidsR q ts k vals) (hu : ts[k]? = some u) (h1 : w.oneCell' = true) (hw : NodesR q w (flat u)) : KidsR q ts (k + 1) (vals ++ [w]) := by
  refine ⟨by rw [List.length_append, h.1]; rfl, fun i u' hi hu' => ?_⟩
  rcases Nat.lt_succ_iff_lt_or_eq.1 hi with h2 | h2
  · obtain ⟨w', e, g⟩ := h.2 i u' h2 hu'
    exact ⟨w', by rw [List.getElem?_append_left (by rw [h.1]; exact h2)]; exact e, g⟩
  · subst h2
    rw [hu] at hu'; cases hu'
    exact ⟨w, by rw [List.getElem?_append_right (by rw [h.1]; exact Nat.le_refl _), h.1, Nat.sub_self]; rfl, h1, hw⟩
theorem KidsR.one {q : HP} {ts : List Tree} {vals : List Value} (h : KidsR q ts ts.length vals) : ∀ w ∈ vals, w.oneCell' = true := by
  intro w hw
  obtain ⟨i, hi⟩ := List.getElem?_of_mem hw
  have hl := (List.getElem?_eq_some_iff.1 hi).1
  rw [h.1] at hl
  obtain ⟨w', e, g, _⟩ := h.2 i _ hl (List.getElem?_eq_getElem hl)
  rw [hi] at e; cases e; exact g
attribute [local irreducible] G GO GR GT Fn FnX FnV FnXV Dfr pt init exs pur sat own ImpS
theorem kids_le : ∀ ts : List Tree, ts.length ≤ (flats ts).length
  | [] => by simp
  | u :: us => by rw [flats, List.length_append, List.length_cons]; have := flat_pos u; have := kids_le us; omega
set_option maxHeartbeats 32000000 in
theorem kids_spec (q : HP) (v : Value) (t : Tree) (hq : NodesR q v (flat t)) (hl : ¬ 1048576 < (flat t).length) : Fn Tryz.prog 60 #[v] [q] (fun r Q => ∃ vals, KidsR q t.kids t.kids.length vals ∧ Q = [own 39 1 t.kids.length r vals, q]) := by
  have hrd : ∀ i m, (flat t)[i]? = some m → _ := fun i m h => nodes_rd hq h
  have h0 := flat_eq t
  have hk : t.kids.length ≤ (flat t).length := by
    rw [h0, List.length_cons]
    have := kids_le t.kids
    omega
  have hpos := flat_pos t
  have hql := hq
  obtain ⟨b, o, cap, rfl, hcap, rm0⟩ := hrd 0 ⟨t.kind, t.name, t.kids.length⟩ (by rw [h0]; rfl)
  generalize hts : t.kids = ts at *
  have hd1 : (flat t).drop 1 = flats ts := by rw [h0]; rfl
  generalize flat t = l at *
  clear h0
  have r2 := rm0 2 (i64 (ts.length : Nat)) rfl
  refine Fn.mk2 Tryz.func60 rfl rfl fun w0 F => ?_
  refine G.ownNil (T := 39) (sz := 1) ?_
  (refine .seq (.region (.assign rfl rfl (.nil (kthen_n (.seq (.region (.assign rfl rfl (.nil (kthen_n (.seq (.region (.assign rfl rfl (.nil (kthen_n (.seq ?_))))))))))))))); refine .seq (.region (.move rfl rfl (.idxS rfl rfl rfl ⟨rfl, by omega⟩ (.fieldAddr rfl rfl (.loadQ rfl rfl rfl (.t .h) (by assumption) (.move rfl rfl (.nil (kthen_n (.block ?_))))))))))
  refine G.loopI (σ := Nat × Nat × List Value × Value) (fun z => [(0, .slice (some ⟨b, o, none⟩) l.length cap), (3, z.2.2.2), (4, i64 (z.2.1 : Nat)), (10, i64 (ts.length : Nat)), (11, i64 (z.1 : Nat))]) (fun z => own 39 1 z.1 z.2.2.2 z.2.2.1 :: q :: F)
    (fun z => z.1 ≤ ts.length ∧ z.2.1 ≤ l.length ∧ l.drop z.2.1 = flats (ts.drop z.1) ∧ KidsR q ts z.1 z.2.2.1) (fun z => ts.length - z.1) (0, 1, [], .slice none 0 0) ⟨Nat.zero_le _, hpos, by rw [List.drop_zero]; exact hd1, rfl, fun i u h => absurd h (Nat.not_lt_zero i)⟩ ?_ ?_ ?_
  · exact .c rfl rfl (.c rfl rfl (.c rfl rfl (.c rfl rfl (.c rfl rfl .n))))
  · refine ImpS.sb ?_
    exact .c .h (.c .h .r)
  rintro ⟨k, i, vals, v3⟩ ⟨hkn, hi, hdr, hK⟩
  dsimp only at hkn hi hdr hK ⊢
  refine .seq (.region (.lti rfl rfl rfl (.nil (kthen_n (.seq ?_)))))
  by_cases hlt : k < ts.length
  · have d1 : decide ((k : Int) < (ts.length : Int)) = true := decide_eq_true (by omega)
    obtain ⟨u, hu⟩ : ∃ u, ts[k]? = some u := ⟨_, List.getElem?_eq_getElem hlt⟩
    rw [drop_at hu, flats] at hdr
    generalize hR : flats (ts.drop (k + 1)) = R at hdr
    refine .condT rfl (by assumption) (.skip (kthen_n (.seq (.block (.seq (.region (.move rfl rfl (.assign rfl rfl (.assign rfl rfl (.nil (kthen_n (.seq (.block ?_)))))))))))))
    refine G.loopI (σ := Nat × List Tree) (fun z => [(0, .slice (some ⟨b, o, none⟩) l.length cap), (3, v3), (4, i64 (z.1 : Nat)), (5, i64 (i : Nat)), (6, i64 (z.2.length : Nat)), (10, i64 (ts.length : Nat)), (11, i64 (k : Nat))]) (fun z => own 39 1 k v3 vals :: q :: F)
      (fun z => z.1 ≤ l.length ∧ l.drop z.1 = flats z.2 ++ R) (fun z => l.length - z.1) (i, [u]) ⟨hi, by rw [hdr, flats, flats, List.append_nil]⟩ ?_ ?_ ?_
    · exact .c rfl rfl (.c rfl rfl (.c rfl rfl (.c rfl rfl (.c rfl rfl (.c rfl rfl (.c rfl rfl .n))))))
    · refine ImpS.sb ?_
      exact .c .h (.c .h .r)
    rintro ⟨j, us⟩ ⟨hj, hjd⟩
    dsimp only at hj hjd ⊢
    have hlen := congrArg List.length hjd
    rw [List.length_append, List.length_drop] at hlen
    cases us with
    | nil =>
      rw [flats, List.nil_append] at hjd
      have hlr : R.length = l.length - j := by rw [← hjd, List.length_drop]
      have hlu : (flat u).length + R.length = l.length - i := by rw [← List.length_append, ← hdr, List.length_drop]
      have hup := flat_pos u
      have hl3 : l = l.take i ++ flat u ++ R := by rw [List.append_assoc, ← hdr, List.take_append_drop]
      have hsub : NodesR q (.slice (some ⟨b, o + i * 3, none⟩) (flat u).length (flat u).length) (flat u) := by
        have := nodes_sub (q := q) (b := b) (o := o) (cap := cap) (c := (flat u).length) (A := l.take i) (B := flat u) (C := R) (by rw [← hl3]; exact hql) hup (Nat.le_refl _)
        rw [List.length_take, Nat.min_eq_left hi] at this
        exact this
      have d2 : decide ((0 : Int) < (([] : List Tree).length : Int)) = false := rfl
      (refine .seq (.seq (.region (.move rfl rfl (.gti rfl rfl rfl (.nil (kthen_n (.condF rfl rfl (.exit (kthen_x (kthen_x (kblock_x (kthen_n (.region (.move rfl rfl (.move rfl rfl ?_))))))))))))))); refine .move rfl rfl (.move rfl rfl (.move rfl rfl ?_)))
      refine GO.sliceLHM (l := i) (h := j) rfl rfl rfl rfl rfl ⟨rfl, rfl, rfl, by omega, by omega⟩ ?_
      rw [show j - i = (flat u).length by omega]
      refine GO.buildSlice1 rfl rfl (by simp; rfl) rfl ⟨by omega, by omega⟩ fun bs => ?_
      refine GO.appendOwn (m := 1) (news := [.slice (some ⟨b, o + i * 3, none⟩) (flat u).length (flat u).length]) rfl rfl rfl (Tk.t Tk.h) Tk.h rfl (by simp [Value.oneCell']) ⟨by decide, rfl⟩ Nat.one_pos (by unfold maxLen; omega) (by omega) fun v4 => ?_
      refine .assign rfl rfl (.nil (kblock_n (kthen_n (.region (.addi rfl rfl rfl (by omega) (.move rfl rfl (.nil (kthen_n ?_))))))))
      refine ⟨(k + 1, j, vals ++ [.slice (some ⟨b, o + i * 3, none⟩) (flat u).length (flat u).length], v4), ⟨hlt, hj, by dsimp only; rw [hR]; exact hjd, hK.snoc hu rfl hsub⟩, by dsimp only; omega, ?_, ImpS.sb ?_⟩
      · exact .c rfl rfl (.c rfl rfl (.c rfl rfl (.c rfl rfl (.c rfl rfl .n))))
      · exact .c .h (.c (.t .h) (.s .r))
    | cons u' us =>
      rw [flats, flat_eq, List.cons_append, List.cons_append] at hjd
      have hjl : l[j]? = some ⟨u'.kind, u'.name, u'.kids.length⟩ := by
        have := congrArg (·[0]?) hjd
        simpa [List.getElem?_drop] using this
      have hjlt := (List.getElem?_eq_some_iff.1 hjl).1
      have hjd1 : l.drop (j + 1) = flats (u'.kids ++ us) ++ R := by
        rw [drop_at hjl] at hjd
        rw [flats_app]
        exact (List.cons.injEq _ _ _ _ ▸ hjd).2
      have hlen1 := congrArg List.length hjd1
      have hku := kids_le (u'.kids ++ us)
      rw [List.length_append] at hlen1 hku
      rw [List.length_drop] at hlen1
      obtain ⟨b', o', cap', e, _, rm⟩ := hrd j _ hjl
      injection e with e _ e2
      injection e with e
      injection e with e e3
      subst e e2 e3
      have r2' : Rd q ⟨b, o + j * 3 + 2, none⟩ (i64 (u'.kids.length : Nat)) := rm 2 _ rfl
      have hcl : (u' :: us).length = us.length + 1 := rfl
      clear rm
      have d2 : decide ((0 : Int) < ((u' :: us).length : Int)) = true := decide_eq_true (by rw [List.length_cons]; omega)
      (refine .seq (.seq (.region (.move rfl rfl (.gti rfl rfl rfl (.nil (kthen_n (.condT rfl (by assumption) (.skip (kthen_n (.block (.seq (.region (.move rfl rfl (.move rfl rfl (.move rfl rfl ?_))))))))))))))); refine .idxS rfl rfl rfl ⟨rfl, by omega⟩ (.fieldAddr rfl rfl (.loadQ rfl rfl rfl (.t .h) (by assumption) (.subi rfl rfl rfl (by omega) (.addi rfl rfl rfl (by omega) (.assign rfl rfl (.nil (kthen_n (.region (.move rfl rfl (.addi rfl rfl rfl (by omega) (.assign rfl rfl (.nil (kblock_n (kthen_n ?_)))))))))))))))
      refine ⟨(j + 1, u'.kids ++ us), ⟨hjlt, hjd1⟩, by dsimp only; omega, ?_, ImpS.sb ?_⟩
      · (refine SubE.c rfl rfl ?_; refine SubE.c rfl rfl ?_; refine SubE.c rfl rfl ?_; refine SubE.c rfl rfl ?_; (refine SubE.c rfl ?_ ?_; focus (simp; omega)); refine SubE.c rfl rfl ?_; refine SubE.c rfl rfl ?_; exact SubE.n)
      · exact .c .h (.c .h .r)
  · have d1 : decide ((k : Int) < (ts.length : Int)) = false := decide_eq_false (by omega)
    obtain rfl : k = ts.length := by omega
    refine .condF rfl (by assumption) (.exit (kthen_x (kthen_x (kblock_x (kthen_n (.seq (.region (.move rfl rfl (.assign rfl rfl (.nil (kthen_n (.ret ?_))))))))))))
    refine KF2.r1 rfl (RV.t rfl) ⟨vals, hK, rfl⟩ (ImpS.sb ?_)
    exact .c .h (.c .h .r)
end Go.Proofs.YtbconcohpfkncaaGreat
namespace Go.Proofs.YtbconcohpfkncaaGreat
open Go
def strsV (l : List (List UInt8)) : List Value := l.map str
theorem strsV_len (l : List (List UInt8)) : (strsV l).length = l.length * 1 := by simp [strsV]
theorem strsV_one (l : List (List UInt8)) : ∀ u ∈ strsV l, u.oneCell' = true := fun u hu => by
  obtain ⟨_, _, rfl⟩ := List.mem_map.1 hu; rfl
theorem strsV_get {l : List (List UInt8)} {i : Nat} {x : List UInt8} (h : l[i]? = some x) : (strsV l)[i]? = some (str x) := by simp [strsV, h]
/-- Strings, readable in q. -/
abbrev StrsR (q : HP) (v : Value) (l : List (List UInt8)) : Prop := SlK q v l.length 1 (strsV l)
def joinF (sep : List UInt8) : List (List UInt8) → List UInt8
  | [] => []
  | x :: r => x ++ r.flatMap fun y => sep ++ y
def sumL (l : List (List UInt8)) : Nat := (l.map List.length).sum
theorem sumL_snoc (l : List (List UInt8)) (x : List UInt8) : sumL (l ++ [x]) = sumL l + x.length := by simp [sumL]
theorem flatMap_len (sep : List UInt8) : ∀ r : List (List UInt8), (r.flatMap fun y => sep ++ y).length = sep.length * r.length + sumL r
  | [] => by simp [sumL]
  | y :: r => by
    rw [List.flatMap_cons, List.length_append, List.length_append, flatMap_len sep r, List.length_cons, Nat.mul_add, Nat.mul_one]
    simp only [sumL, List.map_cons, List.sum_cons]
    omega
theorem joinF_len (sep x : List UInt8) (r : List (List UInt8)) : (joinF sep (x :: r)).length = sep.length * r.length + sumL (x :: r) := by
  show (x ++ r.flatMap fun y => sep ++ y).length = _
  rw [List.length_append, flatMap_len]
  simp only [sumL, List.map_cons, List.sum_cons]
  omega
theorem sumL_app (l k : List (List UInt8)) : sumL (l ++ k) = sumL l + sumL k := by simp [sumL]
theorem sumL_take (l : List (List UInt8)) (k : Nat) : sumL (l.take k) ≤ sumL l := by
  have := sumL_app (l.take k) (l.drop k)
  rw [List.take_append_drop] at this
  omega
theorem sumL_ge {l : List (List UInt8)} (h : ∀ x ∈ l, 0 < x.length) : l.length ≤ sumL l := by
  induction l with
  | nil => simp
  | cons x l ih =>
    have h1 := h x (by simp)
    have h2 := ih fun y hy => h y (by simp [hy])
    simp only [sumL, List.map_cons, List.sum_cons, List.length_cons] at h2 ⊢
    omega
theorem flatMap_take (sep : List UInt8) (r : List (List UInt8)) (k : Nat) : ((r.take k).flatMap fun y => sep ++ y).length ≤ (r.flatMap fun y => sep ++ y).length := by
  have : (r.flatMap fun y => sep ++ y) = ((r.take k).flatMap fun y => sep ++ y) ++ ((r.drop k).flatMap fun y => sep ++ y) := by rw [← List.flatMap_append, List.take_append_drop]
  rw [this, List.length_append]
  omega
theorem strs_rd {q : HP} {v : Value} {l : List (List UInt8)} {i : Nat} {x : List UInt8} (hq : StrsR q v l) (h : l[i]? = some x) : ∃ b o cap, v = .slice (some ⟨b, o, none⟩) l.length cap ∧ l.length ≤ cap ∧ Rd q ⟨b, o + i * 1, none⟩ (str x) := by
  obtain ⟨a, cap, rfl, hcap, _, hr⟩ := hq
  have hi := (List.getElem?_eq_some_iff.1 h).1
  obtain ⟨b, o, rfl, hr2⟩ := hr (by omega)
  exact ⟨b, o, cap, rfl, hcap, by rw [Nat.mul_one]; exact hr2 _ _ (strsV_get h)⟩
attribute [local irreducible] G GO GR GT Fn FnX FnV FnXV pt init exs pur sat own ImpS sumL
set_option maxHeartbeats 32000000 in
theorem join_spec (q : HP) (v : Value) (sep : List UInt8) (l : List (List UInt8)) (hq : StrsR q v l) (hne : ∀ x ∈ l, 0 < x.length) (hsep : 0 < sep.length ∨ l.length ≤ 1) (hb : ¬ 1048576 < (joinF sep l).length) :
    Fn Tryz.prog 142 #[v, str sep] [q] (fun r Q => r = str (joinF sep l) ∧ Q = [q]) := by
  have hrd : ∀ i x, l[i]? = some x → _ := fun i x h => strs_rd hq h
  obtain ⟨a, cap, rfl, hcap, _⟩ := id hq
  refine Fn.mk2 Tryz.func142 rfl rfl fun w0 F => ?_
  match l, hrd, hne, hsep, hb, hcap with
  | [], hrd, hne, hsep, hb, hcap =>
    (refine .seq (.region (.assign rfl rfl (.nil (kthen_n (.seq (.seq (.region (.move rfl rfl (.lenS rfl rfl (.nil (kthen_n (.block (.seq (.region (.eqT rfl rfl rfl rfl ?_))))))))))))))); refine .assign rfl rfl (.nil (kthen_n (.condT rfl rfl (.seq (.region (.assign rfl rfl (.nil (kthen_n (.ret (kblock_r (kthen_r ?_))))))))))))
    refine KF2.r1 rfl (RV.t rfl) ⟨rfl, rfl⟩ (ImpS.sb ?_)
    exact .c .h .r
  | [x], hrd, hne, hsep, hb, hcap =>
    obtain ⟨b, o, cap2, e, _, r0⟩ := hrd 0 x rfl
    injection e with e _ e2
    subst e e2
    (refine .seq (.region (.assign rfl rfl (.nil (kthen_n (.seq (.seq (.region (.move rfl rfl (.lenS rfl rfl (.nil (kthen_n (.block (.seq (.region (.eqi rfl rfl rfl ?_))))))))))))))); refine .assign rfl rfl (.nil (kthen_n (.condF rfl rfl (.seq (.region (.eqT rfl rfl rfl rfl (.assign rfl rfl (.nil (kthen_n (.condT rfl rfl (.seq (.region (.move rfl rfl (.idxS (j := 0) rfl rfl rfl ⟨rfl, by simp⟩ (.loadQ rfl rfl rfl .h (by assumption) ?_))))))))))))))); refine .assign rfl rfl (.nil (kthen_n (.ret (kblock_r (kthen_r ?_))))))
    refine KF2.r1 rfl (RV.t rfl) ⟨by simp [joinF], rfl⟩ (ImpS.sb ?_)
    exact .c .h .r
  | x :: y :: r, hrd, hne, hsep, hb, hcap =>
    have hj : joinF sep (x :: y :: r) = x ++ (y :: r).flatMap fun z => sep ++ z := rfl
    have hjl := joinF_len sep x (y :: r)
    have hft := fun k => flatMap_take sep (y :: r) k
    have hge := sumL_ge hne
    have hx := hne x (by simp)
    have hR : ∀ k, (y :: r)[k]? = (x :: y :: r)[k + 1]? := fun k => rfl
    have hRl : (y :: r).length + 1 = (x :: y :: r).length := rfl
    have hR1 : 1 ≤ (y :: r).length := by simp
    have h0 : (x :: y :: r)[0]? = some x := rfl
    have hst := fun k => sumL_take (x :: y :: r) k
    have hsn : ∀ k z, (x :: y :: r)[k]? = some z → sumL ((x :: y :: r).take (k + 1)) = sumL ((x :: y :: r).take k) + z.length := fun k z h => by rw [take_snoc h, sumL_snoc]
    have htl : (x :: y :: r).take (x :: y :: r).length = x :: y :: r := List.take_length
    rw [hj] at hjl ⊢
    rw [hj] at hb
    generalize y :: r = R at *
    generalize hLe : x :: R = L at *
    obtain ⟨b, o, cap2, e, _, r0⟩ := hrd 0 x h0
    injection e with e _ e2
    subst e e2
    rw [hjl] at hb
    have hpl : 0 < sep.length := by rcases hsep with h | h <;> omega
    have hW : ∀ k, (x ++ (R.take k).flatMap fun z => sep ++ z).length ≤ sep.length * R.length + sumL L := fun k => by
      have := hft k
      rw [List.length_append] at hjl ⊢
      omega
    have hmul : (sep.length : Int) * ((L.length : Int) - 1) = ((sep.length * R.length : Nat) : Int) := by
      rw [Int.natCast_mul]; congr 1; omega
    have hquo : ¬ (9223372036854775807 / ((L.length : Int) - 1) ≤ (sep.length : Int)) := by
      have h1 : ((sep.length : Int) + 1) * ((L.length : Int) - 1) ≤ 9223372036854775807 := by
        rw [Int.add_mul, hmul]; omega
      have := Int.le_ediv_of_mul_le (show (0 : Int) < (L.length : Int) - 1 by omega) h1
      omega
    generalize hP : sep.length * R.length = p at *
    have hsl : sep.length ≤ p := by
      rw [← hP]; exact Nat.le_mul_of_pos_right _ hR1
    have d0 : decide ((L.length : Int) = 0) = false := decide_eq_false (by omega)
    have d1 : decide ((L.length : Int) = 1) = false := decide_eq_false (by omega)
    have d2 : decide ((0 : Int) < (sep.length : Int)) = true := decide_eq_true (by omega)
    have d3 : decide (9223372036854775807 / ((L.length : Int) - 1) ≤ (sep.length : Int)) = false := decide_eq_false hquo
    (refine .seq (.region (.assign rfl rfl (.nil (kthen_n (.seq (.seq (.region (.move rfl rfl (.lenS rfl rfl (.nil (kthen_n (.block (.seq (.region (.eqi rfl rfl rfl ?_))))))))))))))); refine .assign rfl rfl (.nil (kthen_n (.condF rfl (by assumption) (.seq (.region (.eqi rfl rfl rfl (.assign rfl rfl (.nil (kthen_n (.condF rfl (by assumption) (.skip (kblock_n (kthen_n (.seq (.region ?_))))))))))))))); refine .assign rfl rfl (.nil (kthen_n (.seq (.seq (.region (.move rfl rfl (.strLen rfl rfl (.gti rfl rfl rfl (.nil (kthen_n (.condT rfl (by assumption) (.seq (.seq (.region (.move rfl rfl ?_))))))))))))))); refine .strLen rfl rfl (.move rfl rfl (.lenS rfl rfl (.subi rfl rfl rfl (by omega) (.quoi rfl rfl rfl (by omega) (.gei rfl rfl rfl (.nil (kthen_n (.condF rfl (by assumption) (.skip (kthen_n (.region (.move rfl rfl (.move rfl rfl (.strLen rfl rfl (.move rfl rfl ?_))))))))))))))); refine .lenS rfl rfl (.subi rfl rfl rfl (by omega) (.muli rfl rfl rfl (by omega) (.addi rfl rfl rfl (by omega) (.assign rfl rfl (.nil (kthen_n (.seq (.seq (.region (.move rfl rfl (.lenS rfl rfl (.move rfl rfl (.nil (kthen_n (.block ?_))))))))))))))))
    refine G.loopI (σ := Nat) (fun k => [(0, .slice (some ⟨b, o, none⟩) L.length cap), (1, str sep), (5, i64 ((p + sumL (L.take k) : Nat) : Int)), (39, .slice (some ⟨b, o, none⟩) L.length cap), (40, i64 (L.length : Nat)), (41, i64 (k : Nat))]) (fun _ => q :: F) (fun k => k ≤ L.length) (fun k => L.length - k) 0 (Nat.zero_le _) ?_ ?_ ?_
    · rw [List.take_zero, show sumL [] = 0 by unfold sumL; rfl]
      (refine SubE.c rfl rfl ?_; refine SubE.c rfl rfl ?_; (refine SubE.c rfl ?_ ?_; focus (simp; omega)); refine SubE.c rfl rfl ?_; refine SubE.c rfl rfl ?_; refine SubE.c rfl rfl ?_; exact SubE.n)
    · refine ImpS.sb ?_
      exact .c .h .r
    intro k hk
    refine .seq (.region (.lti rfl rfl rfl (.nil (kthen_n (.seq ?_)))))
    by_cases hlt : k < L.length
    · have d4 : decide ((k : Int) < (L.length : Int)) = true := decide_eq_true (by omega)
      obtain ⟨z, hz⟩ : ∃ z, L[k]? = some z := ⟨_, List.getElem?_eq_getElem hlt⟩
      obtain ⟨b', o', cap', e, _, rz⟩ := hrd k z hz
      injection e with e _ e2
      injection e with e
      injection e with e e3
      subst e e2 e3
      have hs1 := hsn k z hz
      have hs2 := hst (k + 1)
      rw [hs1] at hs2
      generalize sumL (L.take k) = sk at *
      have d5 : decide (9223372036854775807 - ((p + sk : Nat) : Int) < (z.length : Int)) = false := decide_eq_false (by omega)
      (refine .condT rfl (by assumption) (.skip (kthen_n (.seq (.block (.seq (.region (.idxS rfl rfl rfl ⟨rfl, by omega⟩ (.loadQ rfl rfl rfl .h (by assumption) (.assign rfl rfl (.nil (kthen_n (.seq (.seq (.region (.move rfl rfl ?_))))))))))))))); refine .strLen rfl rfl (.move rfl rfl (.subi rfl rfl rfl (by omega) (.gti rfl rfl rfl (.nil (kthen_n (.condF rfl (by assumption) (.skip (kthen_n (.region (.move rfl rfl (.move rfl rfl (.strLen rfl rfl (.addi rfl rfl rfl (by omega) (.assign rfl rfl (.nil ?_))))))))))))))); refine kblock_n (kthen_n (.region (.addi rfl rfl rfl (by omega) (.move rfl rfl (.nil (kthen_n ?_)))))))
      refine ⟨k + 1, hlt, by omega, ?_, ImpS.sb ?_⟩
      · rw [hs1]
        (refine SubE.c rfl rfl ?_; refine SubE.c rfl rfl ?_; (refine SubE.c rfl ?_ ?_; focus (simp; omega)); refine SubE.c rfl rfl ?_; refine SubE.c rfl rfl ?_; refine SubE.c rfl rfl ?_; exact SubE.n)
      · exact .c .h .r
    · have d4 : decide ((k : Int) < (L.length : Int)) = false := decide_eq_false (by omega)
      obtain rfl : k = L.length := by omega
      rw [htl]
      refine .condF rfl (by assumption) (.exit (kthen_x (kthen_x (kblock_x (kthen_n (.seq (.region (.alloc rfl fun b8 => .nil (kthen_n (.seq (.region (.move rfl rfl ?_))))))))))))
      refine GO.call2 rfl rfl rfl (bgrow_spec b8 (p + sumL L) (by omega) (by omega)) (Tks.c Tk.h Tks.n) ?_
      rintro _ _ ⟨v8, rfl⟩
      have hL0 : 0 < L.length := by omega
      have hw0 : ¬ 140737488355328 < ([] : List UInt8).length + x.length := by
        rw [List.length_append] at hjl
        show ¬ 140737488355328 < 0 + x.length
        omega
      refine .nil (kthen_n (.seq (.region (.move rfl rfl (.idxS rfl rfl rfl ⟨rfl, by omega⟩ (.loadQ rfl rfl rfl (.t (.t .h)) (by assumption) ?_))))))
      refine GO.call2 rfl rfl rfl (bwrite_spec b8 (ptrV b8) v8 (.inr rfl) [] x hx hw0) (Tks.c Tk.h (Tks.c Tk.h Tks.n)) ?_
      rintro _ _ ⟨rfl, v9, rfl⟩
      rw [List.nil_append]
      refine .nil (kthen_n (.seq (.seq (.region (.move rfl rfl ?_)))))
      refine GO.sliceLo (l := 1) rfl rfl rfl ⟨rfl, by omega, by omega⟩ ?_
      refine .lenS rfl rfl (.move rfl rfl (.nil (kthen_n (.block ?_))))
      refine G.loopI (σ := Nat × Value) (fun z => [(0, .slice (some ⟨b, o, none⟩) L.length cap), (1, str sep), (8, ptrV b8), (63, .slice (some ⟨b, o + 1 * 1, none⟩) (L.length - 1) (cap - 1)), (64, i64 ((L.length - 1 : Nat) : Int)), (65, i64 (z.1 : Nat))]) (fun z => bldP b8 (ptrV b8) z.2 :: bufP z.2 (x ++ (R.take z.1).flatMap fun y => sep ++ y) :: q :: F) (fun z => z.1 ≤ R.length) (fun z => R.length - z.1) (0, v9) (Nat.zero_le _) ?_ ?_ ?_
      · exact .c rfl rfl (.c rfl rfl (.c rfl rfl (.c rfl rfl (.c rfl rfl (.c rfl rfl .n)))))
      · rw [List.take_zero, List.flatMap_nil, List.append_nil]
        refine ImpS.sb ?_
        exact .c .h (.c .h (.c .h .r))
      rintro ⟨k, v10⟩ hk
      dsimp only at hk ⊢
      refine .seq (.region (.lti rfl rfl rfl (.nil (kthen_n (.seq ?_)))))
      by_cases hlt : k < R.length
      · have d4 : decide ((k : Int) < ((L.length - 1 : Nat) : Int)) = true := decide_eq_true (by omega)
        obtain ⟨z, hz⟩ : ∃ z, R[k]? = some z := ⟨_, List.getElem?_eq_getElem hlt⟩
        have hz1 := hz
        rw [hR] at hz1
        obtain ⟨b', o', cap', e, _, rz⟩ := hrd (k + 1) z hz1
        injection e with e _ e2
        injection e with e
        injection e with e e3
        subst e e2 e3
        rw [show o + (k + 1) * 1 = o + 1 * 1 + k * 1 by omega] at rz
        have hzp : 0 < z.length := hne z (List.mem_of_getElem? hz1)
        have hw1 := hW (k + 1)
        rw [take_snoc hz, List.flatMap_append, List.flatMap_cons, List.flatMap_nil, List.append_nil, ← List.append_assoc, ← List.append_assoc] at hw1
        have hW2 : (x ++ (R.take (k + 1)).flatMap fun y => sep ++ y) = (x ++ (R.take k).flatMap fun y => sep ++ y) ++ sep ++ z := by
          rw [take_snoc hz, List.flatMap_append, List.flatMap_cons, List.flatMap_nil, List.append_nil]; simp only [List.append_assoc]
        generalize (x ++ (R.take k).flatMap fun y => sep ++ y) = wk at *
        rw [List.length_append, List.length_append] at hw1
        refine .condT rfl (by assumption) (.skip (kthen_n (.seq (.block (.seq (.region (.idxS rfl rfl rfl ⟨rfl, by omega⟩ (.loadQ rfl rfl rfl (.t (.t .h)) (by assumption) (.assign rfl rfl (.nil (kthen_n (.seq (.region (.move rfl rfl ?_))))))))))))))
        refine GO.call2 rfl rfl rfl (bwrite_spec b8 (ptrV b8) v10 (.inr rfl) wk sep hpl (by omega)) (Tks.c Tk.h (Tks.c Tk.h Tks.n)) ?_
        rintro _ _ ⟨rfl, v11, rfl⟩
        refine .nil (kthen_n (.region (.move rfl rfl ?_)))
        refine GO.call2 rfl rfl rfl (bwrite_spec b8 (ptrV b8) v11 (.inr rfl) (wk ++ sep) z hzp (by rw [List.length_append]; omega)) (Tks.c Tk.h (Tks.c Tk.h Tks.n)) ?_
        rintro _ _ ⟨rfl, v12, rfl⟩
        refine .nil (kblock_n (kthen_n (.region (.addi rfl rfl rfl (by omega) (.move rfl rfl (.nil (kthen_n ?_)))))))
        refine ⟨(k + 1, v12), hlt, by dsimp only; omega, ?_, ?_⟩
        · exact .c rfl rfl (.c rfl rfl (.c rfl rfl (.c rfl rfl (.c rfl rfl (.c rfl rfl .n)))))
        · dsimp only
          rw [hW2]
          refine ImpS.sb ?_
          exact .c .h (.c .h (.c .h .r))
      · have d4 : decide ((k : Int) < ((L.length - 1 : Nat) : Int)) = false := decide_eq_false (by omega)
        obtain rfl : k = R.length := by omega
        rw [List.take_length]
        have hn0 : x ++ R.flatMap (fun y => sep ++ y) ≠ [] := by
          intro h
          have := congrArg List.length h
          rw [List.length_append, List.length_nil] at this
          omega
        refine .condF rfl (by assumption) (.exit (kthen_x (kthen_x (kblock_x (kthen_n (.seq (.region ?_)))))))
        refine GO.call1 rfl rfl (bstr_spec b8 (ptrV b8) v10 (x ++ R.flatMap fun y => sep ++ y) hn0) (Tks.c Tk.h (Tks.c Tk.h Tks.n)) ?_
        rintro _ _ ⟨rfl, rfl⟩
        refine .assign rfl rfl (.nil (kthen_n (.ret ?_)))
        refine KF2.r1 rfl (RV.t rfl) ⟨rfl, rfl⟩ (ImpS.sb ?_)
        exact .c (.t .h) (.s .r)
end Go.Proofs.YtbconcohpfkncaaGreat
namespace Go.Proofs.YtbconcohpfkncaaGreat
open Go
def betF (k : Nat) : List UInt8 := if k = 5 then [32, 124, 32] else if k = 4 then [32] else []
def signF (k : Nat) : List UInt8 := if k = 6 then [42] else if k = 7 then [43] else if k = 8 then [63] else []
def wrapT (k j : Nat) (s : List UInt8) : List UInt8 := if j = 5 ∨ (j = 4 ∧ k ≠ 5) then [40] ++ s ++ [41] else s
mutual
def textT : Tree → List UInt8
  | .node k n ts => if k = 1 then [37] else if k = 2 ∨ k = 3 then n else joinF (betF k) (textTs k ts) ++ signF k
def textTs (k : Nat) : List Tree → List (List UInt8)
  | [] => []
  | t :: ts => wrapT k t.kind (textT t) :: textTs k ts
end
theorem textTs_map (k : Nat) : ∀ ts : List Tree, textTs k ts = ts.map fun t => wrapT k t.kind (textT t)
  | [] => by rw [textTs]; rfl
  | t :: ts => by rw [textTs, textTs_map k ts]; rfl
theorem textT_eq (t : Tree) : textT t = if t.kind = 1 then [37] else if t.kind = 2 ∨ t.kind = 3 then t.name else joinF (betF t.kind) (t.kids.map fun u => wrapT t.kind u.kind (textT u)) ++ signF t.kind := by
  cases t; rw [textT, textTs_map]; rfl
theorem flats_sum : ∀ ts : List Tree, (flats ts).length = (ts.map fun t => (flat t).length).sum
  | [] => by rw [flats]; rfl
  | t :: ts => by rw [flats, List.length_append, flats_sum ts]; rfl
theorem flat_kid {t u : Tree} (h : u ∈ t.kids) : (flat u).length < (flat t).length := by
  rw [flat_eq t, List.length_cons, flats_sum]
  have : ∀ ts : List Tree, u ∈ ts → (flat u).length ≤ (ts.map fun t => (flat t).length).sum := by
    intro ts
    induction ts with
    | nil => intro h; cases h
    | cons x ts ih =>
      intro h
      rw [List.map_cons, List.sum_cons]
      rcases List.mem_cons.1 h with rfl | h
      · omega
      · have := ih h; omega
  have := this _ h
  omega
theorem okT_eq (t : Tree) : okT t = (mayN ⟨t.kind, t.name, t.kids.length⟩ && okTs t.kids) := by cases t; rw [okT]; rfl
/-- A property of trees by their kids. -/
theorem Tree.ind {p : Tree → Prop} (h : ∀ t : Tree, (∀ u ∈ t.kids, p u) → p t) (t : Tree) : p t := by
  have : ∀ n, ∀ t : Tree, (flat t).length ≤ n → p t := by
    intro n
    induction n with
    | zero => intro t ht; have := flat_pos t; omega
    | succ n ih => intro t ht; exact h t fun u hu => ih u (by have := flat_kid hu; omega)
  exact this _ t (Nat.le_refl _)
theorem namedF_len {s : List UInt8} {f : UInt8 → Bool} (h : namedF s f = true) : 0 < s.length ∧ s.length ≤ 16 := by
  match s, h with
  | b :: r, h =>
    simp only [namedF, Bool.and_eq_true, decide_eq_true_eq] at h
    exact ⟨by simp, h.1⟩
/-- What a node that may be is. -/
theorem mayN_cases {m : NodeD} (h : mayN m = true) : (m.kind = 1 ∧ m.name = [] ∧ m.kids = 0) ∨ (m.kind = 2 ∧ m.kids = 0 ∧ namedF m.name upperB = true) ∨ (m.kind = 3 ∧ m.kids = 0 ∧ namedF m.name lowerB = true) ∨ ((m.kind = 4 ∨ m.kind = 5) ∧ m.name = [] ∧ 2 ≤ m.kids) ∨ ((m.kind = 6 ∨ m.kind = 7 ∨ m.kind = 8) ∧ m.name = [] ∧ m.kids = 1) := by
  unfold mayN at h
  split at h
  · simp only [Bool.and_eq_true, decide_eq_true_eq] at h; exact .inl ⟨by assumption, h⟩
  split at h
  · simp only [Bool.and_eq_true, decide_eq_true_eq] at h; exact .inr (.inl ⟨by assumption, h⟩)
  split at h
  · simp only [Bool.and_eq_true, decide_eq_true_eq] at h; exact .inr (.inr (.inl ⟨by assumption, h⟩))
  split at h
  · simp only [Bool.and_eq_true, decide_eq_true_eq] at h; exact .inr (.inr (.inr (.inl ⟨by assumption, h⟩)))
  split at h
  · simp only [Bool.and_eq_true, decide_eq_true_eq] at h; exact .inr (.inr (.inr (.inr ⟨by assumption, h⟩)))
  · cases h
theorem betF_le (k : Nat) : (betF k).length ≤ 3 := by
  unfold betF
  split
  · decide
  split <;> decide
theorem signF_le (k : Nat) : (signF k).length ≤ 1 := by
  unfold signF
  split
  · decide
  split
  · decide
  split <;> decide
theorem wrapT_len (k j : Nat) (s : List UInt8) : s.length ≤ (wrapT k j s).length ∧ (wrapT k j s).length ≤ s.length + 2 := by unfold wrapT; split <;> simp <;> omega
theorem joinF_le (sep : List UInt8) (h : sep.length ≤ 3) (l : List (List UInt8)) : (joinF sep l).length + 3 ≤ sumL l + 3 * l.length + (if l = [] then 3 else 0) := by
  cases l with
  | nil => simp [joinF]
  | cons x r =>
    rw [joinF_len, if_neg (by simp), List.length_cons]
    have := Nat.mul_le_mul_right r.length h
    omega
theorem joinF_pos {sep x : List UInt8} {r : List (List UInt8)} (h : 0 < x.length) : 0 < (joinF sep (x :: r)).length := by
  rw [joinF_len]; simp only [sumL, List.map_cons, List.sum_cons]; omega
theorem textT_len (t : Tree) : okT t = true → 0 < (textT t).length ∧ (textT t).length + 5 ≤ 22 * (flat t).length := by
  refine Tree.ind (p := fun t => okT t = true → 0 < (textT t).length ∧ (textT t).length + 5 ≤ 22 * (flat t).length) (fun t ih => ?_) t
  intro h
  rw [okT_eq, Bool.and_eq_true] at h
  have hp := flat_pos t
  have hk := fun u hu => ih u hu (okTs_mem h.2 hu)
  rw [textT_eq]
  rcases mayN_cases h.1 with ⟨h1, _, _⟩ | ⟨h1, _, h2⟩ | ⟨h1, _, h2⟩ | h3
  · have h1' : t.kind = 1 := h1
    rw [if_pos h1']
    exact ⟨by decide, by show 1 + 5 ≤ _; omega⟩
  · have h1' : t.kind = 2 := h1
    rw [if_neg (by omega), if_pos (.inl h1')]
    have := namedF_len h2
    dsimp only at this
    omega
  · have h1' : t.kind = 3 := h1
    rw [if_neg (by omega), if_pos (.inr h1')]
    have := namedF_len h2
    dsimp only at this
    omega
  · have h3' : 4 ≤ t.kind ∧ 1 ≤ t.kids.length := by rcases h3 with ⟨h, _, h'⟩ | ⟨h, _, h'⟩ <;> dsimp only at h h' <;> omega
    rw [if_neg (by omega), if_neg (by omega), List.length_append]
    have hs := signF_le t.kind
    have hb := joinF_le (betF t.kind) (betF_le t.kind) (t.kids.map fun u => wrapT t.kind u.kind (textT u))
    have hsum : ∀ ts : List Tree, (∀ u ∈ ts, 0 < (textT u).length ∧ (textT u).length + 5 ≤ 22 * (flat u).length) → sumL (ts.map fun u => wrapT t.kind u.kind (textT u)) + 3 * ts.length ≤ 22 * (flats ts).length := by
      intro ts
      induction ts with
      | nil => intro _; simp [sumL]
      | cons x ts ih =>
        intro h
        have h1 := h x (by simp)
        have h2 := ih fun u hu => h u (by simp [hu])
        have h3 := wrapT_len t.kind x.kind (textT x)
        rw [flats, List.length_append, List.map_cons, List.length_cons]
        simp only [sumL, List.map_cons, List.sum_cons] at h2 ⊢
        omega
    have := hsum _ hk
    have hf : (flat t).length = (flats t.kids).length + 1 := by rw [flat_eq t, List.length_cons]
    have hpos : 0 < (joinF (betF t.kind) (t.kids.map fun u => wrapT t.kind u.kind (textT u))).length := by
      cases hk2 : t.kids with
      | nil => rw [hk2] at h3'; exact absurd h3'.2 (by decide)
      | cons x r =>
        rw [List.map_cons]
        refine joinF_pos ?_
        have := hk x (by rw [hk2]; simp)
        have := wrapT_len t.kind x.kind (textT x)
        omega
    rw [List.length_map] at hb
    have hne : t.kids.map (fun u => wrapT t.kind u.kind (textT u)) ≠ [] := by intro h; have := congrArg List.length h; rw [List.length_map] at this; simp at this; rw [this] at h3'; exact absurd h3'.2 (by decide)
    rw [if_neg hne] at hb
    omega
attribute [local irreducible] G GO GR GT Fn FnX FnV FnXV Dfr pt init exs pur sat own ImpS mayN
set_option maxHeartbeats 8000000 in
theorem sign_spec (k : Nat) : Fn Tryz.prog 143 #[i64 (k : Nat)] [] (fun r Q => r = str (signF k) ∧ Q = []) := by
  refine Fn.mk2 Tryz.func143 rfl rfl fun w0 F => ?_
  unfold signF
  (refine .seq (.region (.assign rfl rfl (.nil (kthen_n (.seq (.seq (.region (.move rfl rfl (.nil (kthen_n (.block (.seq (.region (.eqi rfl rfl rfl (.assign rfl rfl ?_))))))))))))))); refine .nil (kthen_n ?_))
  by_cases h6 : k = 6
  · have c1 : decide ((k : Int) = 6) = true := decide_eq_true (by omega)
    rw [if_pos h6]
    refine .condT rfl (by assumption) (.seq (.region (.assign rfl rfl (.nil (kthen_n (.ret (kblock_r (kthen_r ?_))))))))
    refine KF2.r1 rfl (RV.t rfl) ⟨rfl, rfl⟩ (ImpS.sb ?_)
    exact .r
  have c1 : decide ((k : Int) = 6) = false := decide_eq_false (by omega)
  rw [if_neg h6]
  by_cases h7 : k = 7
  · have c2 : decide ((k : Int) = 7) = true := decide_eq_true (by omega)
    rw [if_pos h7]
    refine .condF rfl (by assumption) (.seq (.region (.eqi rfl rfl rfl (.assign rfl rfl (.nil (kthen_n (.condT rfl (by assumption) (.seq (.region (.assign rfl rfl (.nil (kthen_n (.ret (kblock_r (kthen_r ?_)))))))))))))))
    refine KF2.r1 rfl (RV.t rfl) ⟨rfl, rfl⟩ (ImpS.sb ?_)
    exact .r
  have c2 : decide ((k : Int) = 7) = false := decide_eq_false (by omega)
  rw [if_neg h7]
  by_cases h8 : k = 8
  · have c3 : decide ((k : Int) = 8) = true := decide_eq_true (by omega)
    rw [if_pos h8]
    (refine .condF rfl (by assumption) (.seq (.region (.eqi rfl rfl rfl (.assign rfl rfl (.nil (kthen_n (.condF rfl (by assumption) (.seq (.region (.eqi rfl rfl rfl (.assign rfl rfl (.nil (kthen_n (.condT rfl (by assumption) (.seq ?_))))))))))))))); refine .region (.assign rfl rfl (.nil (kthen_n (.ret (kblock_r (kthen_r ?_)))))))
    refine KF2.r1 rfl (RV.t rfl) ⟨rfl, rfl⟩ (ImpS.sb ?_)
    exact .r
  have c3 : decide ((k : Int) = 8) = false := decide_eq_false (by omega)
  rw [if_neg h8]
  (refine .condF rfl (by assumption) (.seq (.region (.eqi rfl rfl rfl (.assign rfl rfl (.nil (kthen_n (.condF rfl (by assumption) (.seq (.region (.eqi rfl rfl rfl (.assign rfl rfl (.nil (kthen_n (.condF rfl (by assumption) (.skip ?_))))))))))))))); refine kblock_n (kthen_n (.seq (.region (.assign rfl rfl (.nil (kthen_n (.ret ?_))))))))
  refine KF2.r1 rfl (RV.t rfl) ⟨rfl, rfl⟩ (ImpS.sb ?_)
  exact .r
end Go.Proofs.YtbconcohpfkncaaGreat
namespace Go.Proofs.YtbconcohpfkncaaGreat
open Go
attribute [local irreducible] G GO GR GT Fn FnX FnV FnXV Dfr pt init exs pur sat own ImpS mayN
set_option maxHeartbeats 32000000 in
theorem text_spec (n : Nat) : ∀ (q : HP) (v : Value) (t : Tree), NodesR q v (flat t) → okT t = true → (flat t).length ≤ n → ¬ 4096 < (flat t).length →
    Fn Tryz.prog 104 #[v] [q] (fun r Q => r = str (textT t) ∧ Q = [q]) := by
  induction n with
  | zero => intro q v t _ _ h; have := flat_pos t; omega
  | succ n ih =>
  intro q v t hq hok hn hb
  have h0 := flat_eq t
  have hlen := textT_len t hok
  have hks := kids_spec q v t hq (by omega)
  have hmay := okT_eq t
  rw [hok] at hmay
  have hmay := (Bool.and_eq_true _ _).mp hmay.symm
  have hkid : ∀ u ∈ t.kids, okT u = true ∧ (flat u).length < (flat t).length := fun u hu => ⟨okTs_mem hmay.2 hu, flat_kid hu⟩
  have hm := mayN_cases hmay.1
  dsimp only at hm
  obtain ⟨b, o, cap, rfl, hcap, rm⟩ := nodes_rd hq (i := 0) (m := ⟨t.kind, t.name, t.kids.length⟩) (by rw [h0]; rfl)
  have hpos := flat_pos t
  rw [textT_eq] at hlen ⊢
  generalize hk : t.kind = k at *
  refine Fn.mk2 Tryz.func104 rfl rfl fun w0 F => ?_
  refine .seq (.region (.assign rfl rfl (.nil (kthen_n (.seq (.region (.move rfl rfl (.idxS rfl rfl rfl ⟨rfl, by omega⟩ ?_))))))))
  refine GO.loadM (vs := [i64 (k : Nat), str t.name, i64 (t.kids.length : Nat)]) rfl rfl rfl Tk.h rfl rm ?_
  (refine GO.alloc rfl fun b3 => ?_; refine GO.storeW rfl rfl Tk.h ⟨rfl, rfl⟩ (by simp [Value.oneCell']) ?_; refine GO.nil (kthen_n (G.seq (G.region (GO.assign rfl rfl (GO.nil (kthen_n (G.seq (G.seq (G.region (GO.fieldAddr rfl rfl (GO.load1 rfl rfl rfl Tk.h rfl (GO.nil (kthen_n (G.block (G.seq ?_))))))))))))))); refine G.region (GO.eqi rfl rfl rfl (GO.assign rfl rfl (GO.nil (kthen_n ?_)))))
  by_cases h1 : k = 1
  · have c1 : decide ((k : Int) = 1) = true := decide_eq_true (by omega)
    rw [if_pos h1]
    refine .condT rfl (by assumption) (.seq (.region (.assign rfl rfl (.nil (kthen_n (.ret (kblock_r (kthen_r ?_))))))))
    refine KF2.r1 rfl (RV.t rfl) ⟨rfl, rfl⟩ (ImpS.sb ?_)
    exact .c (.t .h) (.s .r)
  have c1 : decide ((k : Int) = 1) = false := decide_eq_false (by omega)
  rw [if_neg h1] at hlen ⊢
  by_cases h2 : k = 2
  · have c2 : decide ((k : Int) = 2) = true := decide_eq_true (by omega)
    rw [if_pos (.inl h2)]
    (refine .condF rfl (by assumption) (.seq (.seq (.region (.eqi rfl rfl rfl (.assign rfl rfl (.nil (kthen_n (.condT rfl (by assumption) (.skip (kthen_n (.condT rfl (by assumption) (.seq (.region (.fieldAddr rfl rfl (.load1 rfl rfl rfl .h rfl ?_))))))))))))))); refine .assign rfl rfl (.nil (kthen_n (.ret (kblock_r (kthen_r ?_))))))
    refine KF2.r1 rfl (RV.t rfl) ⟨rfl, rfl⟩ (ImpS.sb ?_)
    exact .c (.t .h) (.s .r)
  have c2 : decide ((k : Int) = 2) = false := decide_eq_false (by omega)
  by_cases h3 : k = 3
  · have c3 : decide ((k : Int) = 3) = true := decide_eq_true (by omega)
    rw [if_pos (.inr h3)]
    (refine .condF rfl (by assumption) (.seq (.seq (.region (.eqi rfl rfl rfl (.assign rfl rfl (.nil (kthen_n (.condF rfl (by assumption) (.region (.eqi rfl rfl rfl (.assign rfl rfl (.nil (kthen_n (.condT rfl (by assumption) (.seq ?_))))))))))))))); refine .region (.fieldAddr rfl rfl (.load1 rfl rfl rfl .h rfl (.assign rfl rfl (.nil (kthen_n (.ret (kblock_r (kthen_r ?_)))))))))
    refine KF2.r1 rfl (RV.t rfl) ⟨rfl, rfl⟩ (ImpS.sb ?_)
    exact .c (.t .h) (.s .r)
  have c3 : decide ((k : Int) = 3) = false := decide_eq_false (by omega)
  rw [if_neg (by omega)] at hlen ⊢
  refine G.midB [(0, .slice (some ⟨b, o, none⟩) (flat t).length cap), (3, ptrV b3), (4, str (betF k))] (pt b3 (row [i64 (k : Nat), str t.name, i64 (t.kids.length : Nat)] 78) :: q :: F) ?_ ?_
  · unfold betF
    (refine .condF rfl (by assumption) (.seq (.seq (.region (.eqi rfl rfl rfl (.assign rfl rfl (.nil (kthen_n (.condF rfl (by assumption) (.region (.eqi rfl rfl rfl (.assign rfl rfl (.nil (kthen_n (.condF rfl (by assumption) (.seq ?_))))))))))))))); refine .region (.eqi rfl rfl rfl (.assign rfl rfl (.nil (kthen_n ?_)))))
    by_cases h5 : k = 5
    · have c5 : decide ((k : Int) = 5) = true := decide_eq_true (by omega)
      rw [if_pos h5]
      refine .condT rfl (by assumption) (.region (.assign rfl rfl (.nil (kblock_n (kthen_n ?_)))))
      refine ⟨?_, ImpS.sb ?_⟩
      · exact .c rfl rfl (.c rfl rfl (.c rfl rfl .n))
      · exact .c .h (.c .h .r)
    have c5 : decide ((k : Int) = 5) = false := decide_eq_false (by omega)
    rw [if_neg h5]
    by_cases h4 : k = 4
    · have c4 : decide ((k : Int) = 4) = true := decide_eq_true (by omega)
      rw [if_pos h4]
      refine .condF rfl (by assumption) (.seq (.region (.eqi rfl rfl rfl (.assign rfl rfl (.nil (kthen_n (.condT rfl (by assumption) (.region (.assign rfl rfl (.nil (kblock_n (kthen_n ?_))))))))))))
      refine ⟨?_, ImpS.sb ?_⟩
      · exact .c rfl rfl (.c rfl rfl (.c rfl rfl .n))
      · exact .c .h (.c .h .r)
    have c4 : decide ((k : Int) = 4) = false := decide_eq_false (by omega)
    rw [if_neg h4]
    refine .condF rfl (by assumption) (.seq (.region (.eqi rfl rfl rfl (.assign rfl rfl (.nil (kthen_n (.condF rfl (by assumption) (.skip (kblock_n (kthen_n ?_))))))))))
    refine ⟨?_, ImpS.sb ?_⟩
    · exact .c rfl rfl (.c rfl rfl (.c rfl rfl .n))
    · exact .c .h (.c .h .r)
  have hkn : 1 ≤ t.kids.length ∧ ((betF k).length = 0 → t.kids.length = 1) := by
    unfold betF
    rcases hm with h | h | h | ⟨h | h, _, h'⟩ | ⟨h, _, h'⟩
    · omega
    · omega
    · omega
    · rw [if_neg (by omega), if_pos h]; exact ⟨by omega, fun h => by cases h⟩
    · rw [if_pos h]; exact ⟨by omega, fun h => by cases h⟩
    · exact ⟨by omega, fun _ => h'⟩
  have hkl : t.kids.length < (flat t).length := by rw [h0, List.length_cons]; have := kids_le t.kids; omega
  clear h0 hm
  refine .seq (.region (.assign rfl rfl (.nil (kthen_n (.seq (.seq (.region (.move rfl rfl ?_))))))))
  refine GO.call1 rfl rfl (hks) (Tks.c (Tk.t Tk.h) Tks.n) ?_
  rintro r _ ⟨vals, hK, rfl⟩
  refine GO.ownRdK Tk.h fun qk hqk => ?_
  obtain ⟨ak, capk, rfl, hcapk, _, hkr⟩ := hqk
  obtain ⟨bk, ok, rfl, hkr2⟩ := hkr (by omega)
  generalize hps : t.kids.map (fun u => wrapT k u.kind (textT u)) = ps at *
  have hpl : ps.length = t.kids.length := by rw [← hps, List.length_map]
  have hpg : ∀ j u, t.kids[j]? = some u → ps[j]? = some (wrapT k u.kind (textT u)) := fun j u h => by rw [← hps, List.getElem?_map, h]; rfl
  have hpn : ∀ x ∈ ps, 0 < x.length := fun x hx => by
    rw [← hps] at hx
    obtain ⟨u, hu, rfl⟩ := List.mem_map.1 hx
    have := textT_len u (hkid u hu).1
    have := wrapT_len k u.kind (textT u)
    omega
  refine GO.ownNil (T := 9) (sz := 1) ?_
  refine .lenS rfl rfl (.move rfl rfl (.nil (kthen_n (.block ?_))))
  refine G.loopI (σ := Nat × Value) (fun z => [(0, .slice (some ⟨b, o, none⟩) (flat t).length cap), (3, ptrV b3), (4, str (betF k)), (5, z.2), (26, .slice (some ⟨bk, ok, none⟩) t.kids.length capk), (27, i64 (t.kids.length : Nat)), (28, i64 (z.1 : Nat))]) (fun z => own 9 1 z.1 z.2 (strsV (ps.take z.1)) :: pt b3 (row [i64 (k : Nat), str t.name, i64 (t.kids.length : Nat)] 78) :: qk :: q :: F) (fun z => z.1 ≤ t.kids.length) (fun z => t.kids.length - z.1) (0, .slice none 0 0) (Nat.zero_le _) ?_ ?_ ?_
  · exact .c rfl rfl (.c rfl rfl (.c rfl rfl (.c rfl rfl (.c rfl rfl (.c rfl rfl (.c rfl rfl .n))))))
  · refine ImpS.sb ?_
    exact .c .h (.c (.t (.t .h)) (.c .h (.c .h .r)))
  rintro ⟨j, v5⟩ hj
  dsimp only at hj ⊢
  refine .seq (.region (.lti rfl rfl rfl (.nil (kthen_n (.seq ?_)))))
  by_cases hlt : j < t.kids.length
  · have d1 : decide ((j : Int) < (t.kids.length : Int)) = true := decide_eq_true (by omega)
    obtain ⟨u, hu⟩ : ∃ u, t.kids[j]? = some u := ⟨_, List.getElem?_eq_getElem hlt⟩
    obtain ⟨w, hw1, hw2, hw⟩ := hK.2 j u hlt hu
    obtain ⟨hku1, hku2⟩ := hkid u (List.mem_of_getElem? hu)
    have rk : Rd qk ⟨bk, ok + j * 1, none⟩ w := by rw [Nat.mul_one]; exact hkr2 j w hw1
    obtain ⟨bu, ou, cu, rfl, hcu, rmu⟩ := nodes_rd hw (i := 0) (m := ⟨u.kind, u.name, u.kids.length⟩) (by rw [flat_eq u]; rfl)
    have ru : Rd q ⟨bu, ou + 0 * 3 + 0, none⟩ (i64 (u.kind : Nat)) := rmu 0 _ rfl
    have hup := flat_pos u
    have hul := textT_len u hku1
    have hT : strsV (ps.take (j + 1)) = strsV (ps.take j) ++ [str (wrapT k u.kind (textT u))] := by
      unfold strsV
      rw [take_snoc (hpg j u hu), List.map_append]; rfl
    clear rmu
    refine .condT rfl (by assumption) (.skip (kthen_n (.seq (.block (.seq (.region (.idxS rfl rfl rfl ⟨rfl, by omega⟩ (.loadQ rfl rfl rfl (.t (.t .h)) (by assumption) (.assign rfl rfl (.nil (kthen_n (.seq (.region (.move rfl rfl ?_))))))))))))))
    refine GO.call1 rfl rfl (ih q (.slice (some ⟨bu, ou, none⟩) (flat u).length cu) u hw hku1 (by omega) (by omega)) (Tks.c (Tk.t (Tk.t (Tk.t Tk.h))) Tks.n) ?_
    rintro _ _ ⟨rfl, rfl⟩
    unfold wrapT at hT
    generalize textT u = s at *
    refine .assign rfl rfl (.nil (kthen_n (.seq (.seq (.region (.move rfl rfl (.idxS rfl rfl rfl ⟨rfl, by omega⟩ (.fieldAddr rfl rfl (.loadQ rfl rfl rfl .h (by assumption) (.eqi rfl rfl rfl (.move rfl rfl ?_)))))))))))
    by_cases g5 : u.kind = 5
    · have e5 : decide ((u.kind : Int) = 5) = true := decide_eq_true (by omega)
      rw [if_pos (.inl g5)] at hT
      refine .gF rfl rfl rfl (by assumption) (.gF rfl rfl rfl (by assumption) (.gF rfl rfl rfl (by assumption) (.gF rfl rfl rfl (by assumption) (.gF rfl rfl rfl (by assumption) (.gF rfl rfl rfl (by assumption) (.gU rfl rfl rfl (.gU rfl rfl rfl (.gU rfl rfl rfl (.gF rfl rfl rfl (by assumption) (.pickTa rfl rfl (by assumption) rfl (.nil (kthen_n (.condT rfl rfl (.region (.move rfl rfl ?_)))))))))))))))
      refine GO.strCat (a := [40]) rfl rfl rfl (by rw [show [(40 : UInt8)].length = 1 from rfl]; omega) ?_
      refine GO.strCat (b := [41]) rfl rfl rfl (by rw [List.length_append, show [(40 : UInt8)].length = 1 from rfl, show [(41 : UInt8)].length = 1 from rfl]; omega) ?_
      refine .assign rfl rfl (.nil (kthen_n (.region (.move rfl rfl (.move rfl rfl ?_)))))
      refine GO.buildSlice1 (n := 1) rfl rfl (fun v hv => by rw [List.mem_singleton.1 hv]; rfl) rfl ⟨by decide, by decide⟩ fun bs => ?_
      refine GO.appendOwn (m := 1) (news := [str ([40] ++ s ++ [41])]) rfl rfl rfl (Tk.t (Tk.t Tk.h)) Tk.h rfl (by simp [Value.oneCell', str]) ⟨by decide, rfl⟩ Nat.one_pos (by unfold maxLen; omega) (by omega) fun v6 => ?_
      refine .assign rfl rfl (.nil (kblock_n (kthen_n (.region (.addi rfl rfl rfl (by omega) (.move rfl rfl (.nil (kthen_n ?_))))))))
      refine ⟨(j + 1, v6), hlt, by dsimp only; omega, ?_, ?_⟩
      · exact .c rfl rfl (.c rfl rfl (.c rfl rfl (.c rfl rfl (.c rfl rfl (.c rfl rfl (.c rfl rfl .n))))))
      · dsimp only
        rw [hT]
        refine ImpS.sb ?_
        exact .c .h (.c (.t (.t .h)) (.c (.t (.t .h)) (.c (.t .h) (.s .r))))
    have e5 : decide ((u.kind : Int) = 5) = false := decide_eq_false (by omega)
    by_cases g4 : u.kind = 4
    · have e4 : decide ((u.kind : Int) = 4) = true := decide_eq_true (by omega)
      by_cases h5 : k = 5
      · have c5 : decide ((k : Int) ≠ 5) = false := decide_eq_false (by omega)
        rw [if_neg (by omega)] at hT
        (refine .gT rfl rfl (by assumption) (.move rfl rfl (.gT rfl rfl (by assumption) (.idxS rfl rfl rfl ⟨rfl, by omega⟩ (.gT rfl rfl (by assumption) (.fieldAddr rfl rfl (.gT rfl rfl (by assumption) (.loadQ rfl rfl rfl .h (by assumption) (.gT rfl rfl (by assumption) (.eqi rfl rfl rfl (.gT rfl rfl (by assumption) (.move rfl rfl (.gT rfl rfl (by assumption) (.fieldAddr rfl rfl (.gT rfl rfl (by assumption) (.load1 rfl rfl rfl (.t (.t .h)) rfl ?_))))))))))))))); refine .gT rfl rfl (by assumption) (.nei rfl rfl rfl (.gT rfl rfl (by assumption) (.pickTa rfl rfl (by assumption) rfl (.pickFa rfl rfl (by assumption) rfl (.nil (kthen_n (.condF rfl (by assumption) (.skip (kthen_n (.region (.move rfl rfl (.move rfl rfl ?_)))))))))))))
        refine GO.buildSlice1 (n := 1) rfl rfl (fun v hv => by rw [List.mem_singleton.1 hv]; rfl) rfl ⟨by decide, by decide⟩ fun bs => ?_
        refine GO.appendOwn (m := 1) (news := [str (s)]) rfl rfl rfl (Tk.t (Tk.t Tk.h)) Tk.h rfl (by simp [Value.oneCell', str]) ⟨by decide, rfl⟩ Nat.one_pos (by unfold maxLen; omega) (by omega) fun v6 => ?_
        refine .assign rfl rfl (.nil (kblock_n (kthen_n (.region (.addi rfl rfl rfl (by omega) (.move rfl rfl (.nil (kthen_n ?_))))))))
        refine ⟨(j + 1, v6), hlt, by dsimp only; omega, ?_, ?_⟩
        · exact .c rfl rfl (.c rfl rfl (.c rfl rfl (.c rfl rfl (.c rfl rfl (.c rfl rfl (.c rfl rfl .n))))))
        · dsimp only
          rw [hT]
          refine ImpS.sb ?_
          exact .c .h (.c (.t (.t .h)) (.c (.t (.t .h)) (.c (.t .h) (.s .r))))
      · have c5 : decide ((k : Int) ≠ 5) = true := decide_eq_true (by omega)
        rw [if_pos (.inr ⟨g4, h5⟩)] at hT
        (refine .gT rfl rfl (by assumption) (.move rfl rfl (.gT rfl rfl (by assumption) (.idxS rfl rfl rfl ⟨rfl, by omega⟩ (.gT rfl rfl (by assumption) (.fieldAddr rfl rfl (.gT rfl rfl (by assumption) (.loadQ rfl rfl rfl .h (by assumption) (.gT rfl rfl (by assumption) (.eqi rfl rfl rfl (.gT rfl rfl (by assumption) (.move rfl rfl (.gT rfl rfl (by assumption) (.fieldAddr rfl rfl (.gT rfl rfl (by assumption) (.load1 rfl rfl rfl (.t (.t .h)) rfl ?_))))))))))))))); refine .gT rfl rfl (by assumption) (.nei rfl rfl rfl (.gT rfl rfl (by assumption) (.pickTa rfl rfl (by assumption) rfl (.pickFa rfl rfl (by assumption) rfl (.nil (kthen_n (.condT rfl (by assumption) (.region (.move rfl rfl ?_))))))))))
        refine GO.strCat (a := [40]) rfl rfl rfl (by rw [show [(40 : UInt8)].length = 1 from rfl]; omega) ?_
        refine GO.strCat (b := [41]) rfl rfl rfl (by rw [List.length_append, show [(40 : UInt8)].length = 1 from rfl, show [(41 : UInt8)].length = 1 from rfl]; omega) ?_
        refine .assign rfl rfl (.nil (kthen_n (.region (.move rfl rfl (.move rfl rfl ?_)))))
        refine GO.buildSlice1 (n := 1) rfl rfl (fun v hv => by rw [List.mem_singleton.1 hv]; rfl) rfl ⟨by decide, by decide⟩ fun bs => ?_
        refine GO.appendOwn (m := 1) (news := [str ([40] ++ s ++ [41])]) rfl rfl rfl (Tk.t (Tk.t Tk.h)) Tk.h rfl (by simp [Value.oneCell', str]) ⟨by decide, rfl⟩ Nat.one_pos (by unfold maxLen; omega) (by omega) fun v6 => ?_
        refine .assign rfl rfl (.nil (kblock_n (kthen_n (.region (.addi rfl rfl rfl (by omega) (.move rfl rfl (.nil (kthen_n ?_))))))))
        refine ⟨(j + 1, v6), hlt, by dsimp only; omega, ?_, ?_⟩
        · exact .c rfl rfl (.c rfl rfl (.c rfl rfl (.c rfl rfl (.c rfl rfl (.c rfl rfl (.c rfl rfl .n))))))
        · dsimp only
          rw [hT]
          refine ImpS.sb ?_
          exact .c .h (.c (.t (.t .h)) (.c (.t (.t .h)) (.c (.t .h) (.s .r))))
    · have e4 : decide ((u.kind : Int) = 4) = false := decide_eq_false (by omega)
      rw [if_neg (by omega)] at hT
      (refine .gT rfl rfl (by assumption) (.move rfl rfl (.gT rfl rfl (by assumption) (.idxS rfl rfl rfl ⟨rfl, by omega⟩ (.gT rfl rfl (by assumption) (.fieldAddr rfl rfl (.gT rfl rfl (by assumption) (.loadQ rfl rfl rfl .h (by assumption) (.gT rfl rfl (by assumption) (.eqi rfl rfl rfl (.gT rfl rfl (by assumption) (.move rfl rfl (.gF rfl rfl rfl (by assumption) (.gF rfl rfl rfl (by assumption) (.gF rfl rfl rfl (by assumption) (.gT rfl rfl (by assumption) ?_))))))))))))))); refine .pickFa rfl rfl (by assumption) rfl (.pickFa rfl rfl (by assumption) rfl (.nil (kthen_n (.condF rfl rfl (.skip (kthen_n (.region (.move rfl rfl (.move rfl rfl ?_))))))))))
      refine GO.buildSlice1 (n := 1) rfl rfl (fun v hv => by rw [List.mem_singleton.1 hv]; rfl) rfl ⟨by decide, by decide⟩ fun bs => ?_
      refine GO.appendOwn (m := 1) (news := [str (s)]) rfl rfl rfl (Tk.t (Tk.t Tk.h)) Tk.h rfl (by simp [Value.oneCell', str]) ⟨by decide, rfl⟩ Nat.one_pos (by unfold maxLen; omega) (by omega) fun v6 => ?_
      refine .assign rfl rfl (.nil (kblock_n (kthen_n (.region (.addi rfl rfl rfl (by omega) (.move rfl rfl (.nil (kthen_n ?_))))))))
      refine ⟨(j + 1, v6), hlt, by dsimp only; omega, ?_, ?_⟩
      · exact .c rfl rfl (.c rfl rfl (.c rfl rfl (.c rfl rfl (.c rfl rfl (.c rfl rfl (.c rfl rfl .n))))))
      · dsimp only
        rw [hT]
        refine ImpS.sb ?_
        exact .c .h (.c (.t (.t .h)) (.c (.t (.t .h)) (.c (.t .h) (.s .r))))
  · have d1 : decide ((j : Int) < (t.kids.length : Int)) = false := decide_eq_false (by omega)
    obtain rfl : j = t.kids.length := by omega
    rw [show ps.take t.kids.length = ps from List.take_of_length_le (by omega), ← hpl]
    rw [← hpl] at d1
    refine G.ownRdK Tk.h fun qp hqp => ?_
    refine .condF rfl (by assumption) (.exit (kthen_x (kthen_x (kblock_x (kthen_n (.seq ?_))))))
    rw [List.length_append] at hlen
    refine G.draw 7 (by kernel_rfl) ?_
    refine .step (fun _ => .move rfl rfl KQ.z) (.step (fun _ => .move rfl rfl KQ.z) ?_)
    apply GQ.step; focus (intro Z; refine GO.call2 rfl rfl rfl (join_spec qp v5 (betF k) ps hqp hpn (by omega) (by omega)) (Tks.c Tk.h Tks.n) ?_; rintro _ _ ⟨rfl, rfl⟩; refine GO.nil (KQ.s ?_); ((refine Sb.c Tk.h ?_; refine Sb.c Tk.h ?_; refine Sb.c Tk.h ?_; refine Sb.c Tk.h ?_); (exact Sb.r)))
    refine .step (fun _ => .fieldAddr rfl rfl KQ.z) (.step (fun _ => .load1 rfl rfl rfl (.t .h) rfl KQ.z) ?_)
    apply GQ.step; focus (intro Z; refine GO.call1 rfl rfl (sign_spec k) Tks.n ?_; rintro _ _ ⟨rfl, rfl⟩; refine GO.nil (KQ.s ?_); ((refine Sb.c Tk.h ?_; refine Sb.c Tk.h ?_; refine Sb.c Tk.h ?_; refine Sb.c Tk.h ?_); (exact Sb.r)))
    skip
    apply GQ.step; focus (intro Z; refine GO.strCat rfl rfl rfl (by omega) ?_; exact KQ.z)
    refine .nil ?_
    refine .assign rfl rfl (.nil (kthen_n (.ret ?_)))
    refine KF2.r1 rfl (RV.t rfl) ⟨rfl, rfl⟩ (ImpS.sb ?_)
    exact .c (.t (.t (.t .h))) (.s (.s (.s .r)))
end Go.Proofs.YtbconcohpfkncaaGreat
namespace Go.Proofs.YtbconcohpfkncaaGreat
open Go
def natsV (l : List Nat) : List Value := l.map fun (n : Nat) => i64 n
theorem natsV_len (l : List Nat) : (natsV l).length = l.length := by simp [natsV]
theorem natsV_app (l k : List Nat) : natsV (l ++ k) = natsV l ++ natsV k := by simp [natsV]
/-- What stays when all that want none more are shut. -/
def popS : List Nat → List Nat
  | [] => []
  | c :: r => popA c r
theorem GO.max2 {P : Program} {c : Cx} {A : Array Oper} {rest : List Oper} {K : Kont} {L : Env} {H : List HP} {t : TypeId} {p : String} {e : Array Edge} {d : Nat} {x y : Operand} {kx ky : IntKind} {m n : Int} {ats : Array TypeId} (hN : Nat.blt d c.N = true) (hx : evl L x = some (.int kx m)) (hy : evl L y = some (.int ky n))
    (k : GO P c A rest K ((d, .int kx (max m n)) :: L) H) : GO P c A (⟨some d, .call ⟨.builtin .max, #[x, y], ats⟩, t, p, e, none⟩ :: rest) K L H :=
  GO.val hN rfl (fun a w Y h _ => by
    have e1 : (if m < n then n else m) = max m n := by rw [Int.max_def]; split <;> split <;> omega
    simp only [execOp, resolve, invoke, builtin]
    simp [Sem.run_bind, Result.andThen, h.eval hx, h.eval hy, run_max_int2, e1]) k
attribute [local irreducible] G GO GR GT Fn FnX FnV FnXV Dfr pt init exs pur sat own ImpS mayN
set_option maxHeartbeats 32000000 in
theorem height_spec (q : HP) (v : Value) (l : List NodeD) (hq : NodesR q v l) (hl : ¬ 4096 < l.length) (hks : ∀ m ∈ l, ¬ 1048576 < m.kids) : Fn Tryz.prog 103 #[v] [q] (fun r Q => r = i64 (heightF l : Nat) ∧ Q = [q]) := by
  have hrd : ∀ i m, l[i]? = some m → _ := fun i m h => nodes_rd hq h
  obtain ⟨a, cap, rfl⟩ := nodes_sl hq
  clear hq
  refine Fn.mk2 Tryz.func103 rfl rfl fun w0 F => ?_
  unfold heightF
  generalize hfin : heightL 0 [] l = fin
  refine G.ownNil (T := 3) (sz := 1) ?_
  (refine .seq (.region (.assign rfl rfl (.nil (kthen_n (.seq (.region (.assign rfl rfl (.nil (kthen_n (.seq (.region (.assign rfl rfl (.nil (kthen_n (.seq ?_))))))))))))))); refine .seq (.region (.move rfl rfl (.lenS rfl rfl (.move rfl rfl (.nil (kthen_n (.block ?_))))))))
  refine G.loopI (σ := Nat × Nat × List Nat × Value) (fun z => [(0, .slice a l.length cap), (3, i64 (z.2.1 : Nat)), (4, z.2.2.2), (7, .slice a l.length cap), (8, i64 (l.length : Nat)), (9, i64 (z.1 : Nat))]) (fun z => own 3 1 z.2.2.1.length z.2.2.2 (natsV z.2.2.1.reverse) :: q :: F)
    (fun z => z.1 ≤ l.length ∧ heightL z.2.1 z.2.2.1 (l.drop z.1) = fin ∧ z.2.2.1.length ≤ z.1 ∧ z.2.1 ≤ z.1 ∧ (∀ c ∈ z.2.2.1, 1 ≤ c) ∧ ∀ c ∈ z.2.2.1, ¬ 1048576 < c) (fun z => l.length - z.1) (0, 0, [], .slice none 0 0) ⟨Nat.zero_le _, hfin, Nat.zero_le _, Nat.zero_le _, by simp, by simp⟩ ?_ ?_ ?_
  · exact .c rfl rfl (.c rfl rfl (.c rfl rfl (.c rfl rfl (.c rfl rfl (.c rfl rfl .n)))))
  · refine ImpS.sb ?_
    exact .c .h (.c .h .r)
  clear hfin
  rintro ⟨i, most, over, v4⟩ ⟨hi, hw, ho, hmi, hp1, hp2⟩
  dsimp only at hi hw ho hmi hp1 hp2 ⊢
  (refine G.seq ?_; refine G.region ?_; refine GO.lti rfl rfl rfl ?_; refine GO.nil ?_; refine kthen_n ?_; refine G.seq ?_)
  by_cases hlt : i < l.length
  · have d1 : decide ((i : Int) < (l.length : Int)) = true := decide_eq_true (by omega)
    obtain ⟨m, hm⟩ : ∃ m, l[i]? = some m := ⟨_, List.getElem?_eq_getElem hlt⟩
    have hmk := hks m (List.mem_of_getElem? hm)
    obtain ⟨b, o2, cap2, e, _, rm⟩ := hrd i m hm
    injection e with e _ e2
    subst e e2
    rw [drop_at hm, heightL] at hw
    (refine G.condT rfl (by assumption) ?_; refine G.skip ?_; refine kthen_n ?_; refine G.seq ?_; refine G.block ?_; refine G.seq ?_; refine G.region ?_; refine GO.idxS rfl rfl rfl ⟨rfl, by omega⟩ ?_)
    refine GO.loadM (vs := [i64 (m.kind : Nat), str m.name, i64 (m.kids : Nat)]) rfl rfl rfl (Tk.t Tk.h) rfl rm ?_
    (refine GO.alloc rfl fun b6 => ?_; refine GO.storeW rfl rfl Tk.h ⟨rfl, rfl⟩ (by simp [Value.oneCell']) ?_; refine GO.nil ?_; refine kthen_n ?_; refine G.seq ?_; refine G.region ?_; refine GO.move rfl rfl ?_; refine GO.move rfl rfl ?_; refine GO.lenOwn rfl rfl (Tk.t Tk.h) ?_; refine GO.addi rfl rfl rfl (by omega) ?_)
    refine GO.max2 rfl rfl rfl ?_
    rw [show max (most : Int) ((over.length : Int) + 1) = ((max most (over.length + 1) : Nat) : Int) by omega]
    generalize hmx : max most (over.length + 1) = mx at hw ⊢
    refine .assign rfl rfl (.nil (kthen_n (.seq (.region (.move rfl rfl (.fieldAddr rfl rfl (.load1 rfl rfl rfl .h rfl ?_)))))))
    refine GO.buildSlice1 (n := 1) rfl rfl (fun v hv => by rw [List.mem_singleton.1 hv]; rfl) rfl ⟨by decide, by decide⟩ fun bs => ?_
    refine GO.appendOwn (m := 1) (news := [i64 (m.kids : Nat)]) rfl rfl rfl (Tk.t (Tk.t Tk.h)) Tk.h rfl (by simp [Value.oneCell']) ⟨by decide, rfl⟩ Nat.one_pos (by unfold maxLen; omega) (by omega) fun v6 => ?_
    refine .assign rfl rfl (.nil (kthen_n (.block ?_)))
    refine G.loopI (σ := List Nat × Value) (fun z => [(0, .slice (some ⟨b, o2, none⟩) l.length cap), (3, i64 (mx : Nat)), (4, z.2), (7, .slice (some ⟨b, o2, none⟩) l.length cap), (8, i64 (l.length : Nat)), (9, i64 (i : Nat))]) (fun z => own 3 1 z.1.length z.2 (natsV z.1.reverse) :: q :: F)
      (fun z => popS z.1 = popA m.kids over ∧ z.1.length ≤ over.length + 1 ∧ (∀ c ∈ z.1.tail, 1 ≤ c) ∧ ∀ c ∈ z.1, ¬ 1048576 < c) (fun z => z.1.length) (m.kids :: over, v6) ⟨rfl, Nat.le_refl _, hp1, fun c hc => by rcases List.mem_cons.1 hc with rfl | hc; exact hmk; exact hp2 c hc⟩ ?_ ?_ ?_
    · exact .c rfl rfl (.c rfl rfl (.c rfl rfl (.c rfl rfl (.c rfl rfl (.c rfl rfl .n)))))
    · dsimp only
      rw [List.reverse_cons, natsV_app]
      refine ImpS.sb ?_
      exact .c .h (.c (.t (.t .h)) (.s (.s .r)))
    rintro ⟨s, v7⟩ ⟨hs, hsl, hs1, hs2⟩
    dsimp only at hs hsl hs1 hs2 ⊢
    refine .seq (.seq (.region (.move rfl rfl (.lenOwn rfl rfl .h (.gti rfl rfl rfl (.move rfl rfl ?_))))))
    cases s with
    | nil =>
      have d2 : decide ((0 : Int) < (([] : List Nat).length : Int)) = false := rfl
      rw [popS] at hs
      rw [← hs] at hw
      (refine .gF rfl rfl rfl rfl (.gF rfl rfl rfl rfl (.gF rfl rfl rfl rfl (.gF rfl rfl rfl rfl (.gF rfl rfl rfl rfl (.gF rfl rfl rfl rfl (.gF rfl rfl rfl rfl (.pickF rfl rfl rfl (.nil (kthen_n (.condF rfl rfl (.exit (kthen_x (kthen_x (kblock_x (kblock_n ?_))))))))))))))); refine kthen_n (.region (.addi rfl rfl rfl (by omega) (.move rfl rfl (.nil (kthen_n ?_))))))
      refine ⟨(i + 1, mx, [], v7), ⟨hlt, hw, Nat.zero_le _, by dsimp only; omega, by simp, by simp⟩, by dsimp only; omega, ?_, ImpS.sb ?_⟩
      · exact .c rfl rfl (.c rfl rfl (.c rfl rfl (.c rfl rfl (.c rfl rfl (.c rfl rfl .n)))))
      · exact .c .h (.c .h .r)
    | cons c r =>
      have hcl : (c :: r).length = r.length + 1 := rfl
      have d2 : decide ((0 : Int) < ((c :: r).length : Int)) = true := decide_eq_true (by omega)
      refine GO.ownForm (by omega) Tk.h fun b7 cap7 e7 hc7 _ _ => ?_
      subst e7
      have r7 : Rd (own 3 1 (c :: r).length (.slice (some ⟨b7, 0, none⟩) (c :: r).length cap7) (natsV (c :: r).reverse)) ⟨b7, 0 + r.length * 1, none⟩ (i64 (c : Nat)) := Rd.own (by
        rw [List.reverse_cons, natsV_app, List.getElem?_append_right (by rw [natsV_len, List.length_reverse]; omega), natsV_len, List.length_reverse, show 0 + r.length * 1 - r.length = 0 by omega]; rfl)
      refine .gT rfl rfl (by assumption) (.move rfl rfl (.gT rfl rfl (by assumption) (.move rfl rfl (.gT rfl rfl (by assumption) (.lenS rfl rfl (.gT rfl rfl (by assumption) (.subi rfl rfl rfl (by omega) (.gT rfl rfl (by assumption) ?_))))))))
      refine GO.idxS (j := r.length) rfl rfl rfl ⟨by omega, by omega⟩ ?_
      refine .gT rfl rfl (by assumption) (.loadQ rfl rfl rfl .h (by assumption) (.gT rfl rfl (by assumption) (.eqi rfl rfl rfl (.pickTa rfl rfl (by assumption) rfl (.nil (kthen_n ?_))))))
      cases c with
      | succ c =>
        have d3 : decide (((c + 1 : Nat) : Int) = 0) = false := decide_eq_false (by omega)
        rw [popS, popA] at hs
        rw [← hs] at hw
        refine .condF rfl rfl (.exit (kthen_x (kthen_x (kblock_x (kblock_n (kthen_n (.region (.addi rfl rfl rfl (by omega) (.move rfl rfl (.nil (kthen_n ?_)))))))))))
        refine ⟨(i + 1, mx, (c + 1) :: r, .slice (some ⟨b7, 0, none⟩) ((c + 1) :: r).length cap7), ⟨hlt, hw, by dsimp only; omega, by dsimp only; omega, fun d hd => by rcases List.mem_cons.1 hd with rfl | hd; exact Nat.succ_pos _; exact hs1 d hd, hs2⟩, by dsimp only; omega, ?_, ImpS.sb ?_⟩
        · exact .c rfl rfl (.c rfl rfl (.c rfl rfl (.c rfl rfl (.c rfl rfl (.c rfl rfl .n)))))
        · exact .c .h (.c .h .r)
      | zero =>
        have d3 : decide (((0 : Nat) : Int) = 0) = true := rfl
        have hcut : (natsV (0 :: r).reverse).take (r.length * 1) = natsV r.reverse := by
          rw [List.reverse_cons, natsV_app, List.take_append_of_le_length (by rw [natsV_len, List.length_reverse]; omega), List.take_of_length_le (by rw [natsV_len, List.length_reverse]; omega)]
        rw [popS] at hs
        refine .condT rfl rfl (.skip (kthen_n (.block (.seq (.region (.move rfl rfl (.move rfl rfl (.lenS rfl rfl (.subi rfl rfl rfl (by omega) ?_)))))))))
        refine GO.cutOwn (h := r.length) rfl rfl rfl ⟨by omega, by omega⟩ Tk.h fun v8 => ?_
        rw [hcut]
        clear hcut r7
        refine .assign rfl rfl (.nil (kthen_n (.seq (.region (.move rfl rfl (.lenOwn rfl rfl .h (.gti rfl rfl rfl (.nil (kthen_n ?_)))))))))
        cases r with
        | nil =>
          have d4 : decide ((0 : Int) < (([] : List Nat).length : Int)) = false := rfl
          refine .condF rfl rfl (.skip (kblock_n (kthen_n ?_)))
          refine ⟨([], v8), ⟨by rw [popS, ← hs, popA], Nat.zero_le _, by simp, by simp⟩, by dsimp only; omega, ?_, ImpS.sb ?_⟩
          · exact .c rfl rfl (.c rfl rfl (.c rfl rfl (.c rfl rfl (.c rfl rfl (.c rfl rfl .n)))))
          · exact .c .h (.c .h .r)
        | cons c r =>
          have hcl2 : (c :: r).length = r.length + 1 := rfl
          have d4 : decide ((0 : Int) < ((c :: r).length : Int)) = true := decide_eq_true (by omega)
          have hc1 : 1 ≤ c := hs1 c (by simp)
          have hc2 : ¬ 1048576 < c := hs2 c (by simp)
          refine G.ownForm (by omega) Tk.h fun b8 cap8 e8 hc8 _ _ => ?_
          subst e8
          have r8 : Rd (own 3 1 (c :: r).length (.slice (some ⟨b8, 0, none⟩) (c :: r).length cap8) (natsV (c :: r).reverse)) ⟨b8, 0 + r.length * 1, none⟩ (i64 (c : Nat)) := Rd.own (by
            rw [List.reverse_cons, natsV_app, List.getElem?_append_right (by rw [natsV_len, List.length_reverse]; omega), natsV_len, List.length_reverse, show 0 + r.length * 1 - r.length = 0 by omega]; rfl)
          have hst : (natsV (c :: r).reverse).take (0 + r.length * 1) ++ [i64 ((c - 1 : Nat) : Int)] ++ (natsV (c :: r).reverse).drop (0 + r.length * 1 + 1) = natsV ((c - 1) :: r).reverse := by
            rw [List.reverse_cons, List.reverse_cons, natsV_app, natsV_app, show 0 + r.length * 1 = r.length by omega, List.take_append_of_le_length (by rw [natsV_len, List.length_reverse]; omega), List.take_of_length_le (by rw [natsV_len, List.length_reverse]; omega), List.drop_eq_nil_of_le (by rw [List.length_append, natsV_len, natsV_len, List.length_reverse]; exact Nat.le_refl _), List.append_nil]; rfl
          have hxl : (natsV (c :: r).reverse).length = r.length + 1 := by rw [natsV_len, List.length_reverse, List.length_cons]
          have hci : ((c : Int) - 1) = ((c - 1 : Nat) : Int) := by omega
          refine .condT rfl (by assumption) (.region (.move rfl rfl (.move rfl rfl (.lenS rfl rfl (.subi rfl rfl rfl (by omega) ?_)))))
          refine GO.idxS (j := r.length) rfl rfl rfl ⟨by omega, by omega⟩ ?_
          refine .loadQ rfl rfl rfl .h (by assumption) (.subi rfl rfl rfl (by omega) ?_)
          refine GO.idxS (j := r.length) rfl rfl rfl ⟨by omega, by omega⟩ ?_
          rw [hci]
          refine GO.storeOwn (w0 := 1) (vs := [i64 ((c - 1 : Nat) : Int)]) rfl rfl rfl rfl Tk.h (by rw [hxl]; omega) (by simp [Value.oneCell']) ?_
          rw [hst]
          clear hst r8
          refine .nil (kblock_n (kthen_n ?_))
          refine ⟨((c - 1) :: r, .slice (some ⟨b8, 0, none⟩) ((c - 1) :: r).length cap8), ⟨by rw [popS, ← hs, popA], by dsimp only; rw [List.length_cons] at hsl ⊢; omega, fun d hd => hs1 d (by simp only [List.tail_cons] at hd ⊢; exact List.mem_cons_of_mem _ hd), fun d hd => by
            rcases List.mem_cons.1 hd with rfl | hd
            · omega
            · exact hs2 d (by simp [hd])⟩, by dsimp only; rw [List.length_cons, List.length_cons, List.length_cons]; omega, ?_, ImpS.sb ?_⟩
          · exact .c rfl rfl (.c rfl rfl (.c rfl rfl (.c rfl rfl (.c rfl rfl (.c rfl rfl .n)))))
          · exact .c .h (.c .h .r)
  · have d1 : decide ((i : Int) < (l.length : Int)) = false := decide_eq_false (by omega)
    rw [List.drop_eq_nil_of_le (by omega), heightL] at hw
    subst hw
    refine .condF rfl (by assumption) (.exit (kthen_x (kthen_x (kblock_x (kthen_n (.seq (.region (.move rfl rfl (.assign rfl rfl (.nil (kthen_n (.ret ?_))))))))))))
    refine KF2.r1 rfl (RV.t rfl) ⟨rfl, rfl⟩ (ImpS.sb ?_)
    exact .c (.t .h) (.s .r)
end Go.Proofs.YtbconcohpfkncaaGreat
namespace Go.Proofs.YtbconcohpfkncaaGreat
open Go
/-- The trees that a list is, one behind the other. -/
def stackT : List NodeD → List Tree
  | [] => []
  | m :: r => .node m.kind m.name ((stackT r).take m.kids) :: (stackT r).drop m.kids
def treeL (l : List NodeD) : Tree := match stackT l with
  | t :: _ => t
  | [] => .node 0 [] []
theorem stackT_flat (t : Tree) : ∀ r, stackT (flat t ++ r) = t :: stackT r := by
  refine Tree.ind (p := fun t => ∀ r, stackT (flat t ++ r) = t :: stackT r) (fun t ih => ?_) t
  intro r
  have h : ∀ ts : List Tree, (∀ u ∈ ts, ∀ r, stackT (flat u ++ r) = u :: stackT r) → stackT (flats ts ++ r) = ts ++ stackT r := by
    intro ts
    induction ts with
    | nil => intro _; rw [flats]; rfl
    | cons u us ihu => intro h; rw [flats, List.append_assoc, h u (by simp), ihu fun x hx => h x (by simp [hx])]; rfl
  rw [flat_eq, List.cons_append, stackT, h _ ih]
  dsimp only
  rw [List.take_append_of_le_length (Nat.le_refl _), List.take_length, List.drop_append_of_le_length (Nat.le_refl _), List.drop_length]
  cases t; rfl
theorem treeL_flat (t : Tree) : treeL (flat t) = t := by
  have := stackT_flat t []
  rw [List.append_nil] at this
  unfold treeL
  rw [this]
theorem flat_kids (t : Tree) : ∀ m ∈ flat t, m.kids < (flat t).length := by
  refine Tree.ind (p := fun t => ∀ m ∈ flat t, m.kids < (flat t).length) (fun t ih => ?_) t
  intro m hm
  rw [flat_eq] at hm
  rcases List.mem_cons.1 hm with rfl | hm
  · rw [flat_eq t, List.length_cons]
    have := kids_le t.kids
    dsimp only
    omega
  · have : ∃ u ∈ t.kids, m ∈ flat u := by
      revert hm
      generalize t.kids = ts
      induction ts with
      | nil => intro h; rw [flats] at h; cases h
      | cons u us ihu =>
        intro h
        rw [flats] at h
        rcases List.mem_append.1 h with h | h
        · exact ⟨u, by simp, h⟩
        · obtain ⟨x, hx, hx2⟩ := ihu h
          exact ⟨x, by simp [hx], hx2⟩
    obtain ⟨u, hu, hu2⟩ := this
    have := ih u hu m hu2
    have := flat_kid hu
    omega
def boundF (t : Tree) : Nat := if 16 < heightF (flat t) then 171 else if 2048 < (textT t).length then 174 else 0
def checkF (l : List NodeD) : Nat := if 2048 < l.length then 3 else if wholeF l = true then boundF (treeL l) else 170
def printF (l : List NodeD) : List UInt8 := if checkF l = 0 then textT (treeL l) else []
def HeightF (l : List NodeD) : Nat := if wholeF l = true then heightF l else 0
attribute [local irreducible] G GO GR GT Fn FnX FnV FnXV Dfr pt init exs pur sat own ImpS mayN
set_option maxHeartbeats 8000000 in
set_option maxRecDepth 40000 in
theorem bounded_spec (q : HP) (v : Value) (t : Tree) (hq : NodesR q v (flat t)) (hok : okT t = true) (hl : ¬ 4096 < (flat t).length) : Fn Tryz.prog 59 #[v] [q] (fun r Q => r = i64 (boundF t : Nat) ∧ Q = [q]) := by
  refine Fn.mk2 Tryz.func59 rfl rfl fun w0 F => ?_
  have hk := flat_kids t
  have htl := (textT_len t hok).2
  unfold boundF
  refine .seq (.region (.assign rfl rfl (.nil (kthen_n (.seq (.seq (.region (.move rfl rfl ?_))))))))
  refine GO.call1 rfl rfl (height_spec q v (flat t) hq hl (fun m hm => by have := hk m hm; omega)) (Tks.c Tk.h Tks.n) ?_
  rintro _ _ ⟨rfl, rfl⟩
  by_cases h : 16 < heightF (flat t)
  · have d1 : decide ((16 : Int) < (heightF (flat t) : Int)) = true := decide_eq_true (by omega)
    rw [if_pos h]
    refine .gti rfl rfl rfl (.nil (kthen_n (.condT rfl (by assumption) (.seq (.region (.assign rfl rfl (.nil (kthen_n (.ret (kthen_r ?_))))))))))
    refine KF2.r1 rfl (RV.t rfl) ⟨rfl, rfl⟩ (ImpS.sb ?_)
    exact .c .h .r
  have d1 : decide ((16 : Int) < (heightF (flat t) : Int)) = false := decide_eq_false (by omega)
  rw [if_neg h]
  refine .gti rfl rfl rfl (.nil (kthen_n (.condF rfl (by assumption) (.skip (kthen_n (.seq (.seq (.region (.move rfl rfl ?_)))))))))
  refine GO.call1 rfl rfl (text_spec _ q v t hq hok (Nat.le_refl _) hl) (Tks.c Tk.h Tks.n) ?_
  rintro _ _ ⟨rfl, rfl⟩
  by_cases h2 : 2048 < (textT t).length
  · rw [if_pos h2]
    refine .strLen rfl rfl (.gti rfl rfl rfl (.nil (kthen_n ?_)))
    rw [show decide ((2048 : Int) < ((textT t).length : Int)) = true from decide_eq_true (by omega)]
    refine .condT rfl rfl (.seq (.region (.assign rfl rfl (.nil (kthen_n (.ret (kthen_r ?_)))))))
    refine KF2.r1 rfl (RV.t rfl) ⟨rfl, rfl⟩ (ImpS.sb ?_)
    exact .c .h .r
  rw [if_neg h2]
  refine .strLen rfl rfl (.gti rfl rfl rfl (.nil (kthen_n ?_)))
  rw [show decide ((2048 : Int) < ((textT t).length : Int)) = false from decide_eq_false (by omega)]
  refine .condF rfl rfl (.skip (kthen_n (.seq (.region (.assign rfl rfl (.nil (kthen_n (.ret ?_))))))))
  refine KF2.r1 rfl (RV.t rfl) ⟨rfl, rfl⟩ (ImpS.sb ?_)
  exact .c .h .r
set_option maxHeartbeats 8000000 in
set_option maxRecDepth 40000 in
theorem check_spec (q : HP) (v : Value) (l : List NodeD) (hq : NodesR q v l) (hl : ¬ 1048576 < l.length) : Fn Tryz.prog 26 #[v] [q] (fun r Q => r = i64 (checkF l : Nat) ∧ Q = [q]) := by
  obtain ⟨a, cap, rfl⟩ := nodes_sl hq
  refine Fn.mk2 Tryz.func26 rfl rfl fun w0 F => ?_
  unfold checkF
  refine .seq (.region (.assign rfl rfl (.nil (kthen_n (.seq (.seq (.region (.move rfl rfl (.lenS rfl rfl (.gti rfl rfl rfl (.nil (kthen_n ?_))))))))))))
  by_cases h : 2048 < l.length
  · rw [show decide ((2048 : Int) < (l.length : Int)) = true from decide_eq_true (by omega), if_pos h]
    refine .condT rfl rfl (.seq (.region (.assign rfl rfl (.nil (kthen_n (.ret (kthen_r ?_)))))))
    refine KF2.r1 rfl (RV.t rfl) ⟨rfl, rfl⟩ (ImpS.sb ?_)
    exact .c .h .r
  rw [show decide ((2048 : Int) < (l.length : Int)) = false from decide_eq_false (by omega), if_neg h]
  refine .condF rfl rfl (.skip (kthen_n (.seq (.seq (.region (.move rfl rfl ?_))))))
  refine GO.call1 rfl rfl (whole_spec q (.slice a l.length cap) l hq hl) (Tks.c Tk.h Tks.n) ?_
  rintro _ _ ⟨rfl, rfl⟩
  cases hw : wholeF l
  · rw [if_neg (by decide)]
    refine .not rfl rfl (.nil (kthen_n (.condT rfl rfl (.seq (.region (.assign rfl rfl (.nil (kthen_n (.ret (kthen_r ?_))))))))))
    refine KF2.r1 rfl (RV.t rfl) ⟨rfl, rfl⟩ (ImpS.sb ?_)
    exact .c .h .r
  obtain ⟨t, rfl, hok⟩ := whole_tree hw
  rw [if_pos rfl, treeL_flat]
  refine .not rfl rfl (.nil (kthen_n (.condF rfl rfl (.skip (kthen_n (.seq (.region (.move rfl rfl ?_))))))))
  refine GO.call1 rfl rfl (bounded_spec q (.slice a (flat t).length cap) t hq hok (by omega)) (Tks.c Tk.h Tks.n) ?_
  rintro _ _ ⟨rfl, rfl⟩
  refine .assign rfl rfl (.nil (kthen_n (.ret ?_)))
  refine KF2.r1 rfl (RV.t rfl) ⟨rfl, rfl⟩ (ImpS.sb ?_)
  exact .c .h .r
theorem checkF_ok {l : List NodeD} (h : checkF l = 0) : ¬ 2048 < l.length ∧ ∃ t, flat t = l ∧ okT t = true ∧ boundF t = 0 := by
  unfold checkF at h
  split at h
  · cases h
  split at h
  · obtain ⟨t, rfl, hok⟩ := whole_tree (by assumption)
    rw [treeL_flat] at h
    exact ⟨by assumption, t, rfl, hok, h⟩
  · cases h
set_option maxHeartbeats 8000000 in
theorem print_spec (q : HP) (v : Value) (l : List NodeD) (hq : NodesR q v l) (hl : ¬ 1048576 < l.length) : Fn Tryz.prog 108 #[v] [q] (fun r Q => r = .tuple #[str (printF l), i64 (checkF l : Nat)] ∧ Q = [q]) := by
  refine Fn.mk2 Tryz.func108 rfl rfl fun w0 F => ?_
  unfold printF
  refine .seq (.region (.assign rfl rfl (.assign rfl rfl (.nil (kthen_n (.seq (.seq (.region (.move rfl rfl ?_)))))))))
  refine GO.call1 rfl rfl (check_spec q v l hq hl) (Tks.c Tk.h Tks.n) ?_
  rintro _ _ ⟨rfl, rfl⟩
  by_cases h : checkF l = 0
  · have d1 : decide ((checkF l : Int) ≠ 0) = false := decide_eq_false (by omega)
    obtain ⟨hl2, t, rfl, hok, _⟩ := checkF_ok h
    rw [if_pos h, treeL_flat]
    refine .assign rfl rfl (.nil (kthen_n (.seq (.region (.move rfl rfl (.nei rfl rfl rfl (.nil (kthen_n (.condF rfl (by assumption) (.skip (kthen_n (.seq (.region (.move rfl rfl ?_))))))))))))))
    refine GO.call1 rfl rfl (text_spec _ q v t hq hok (Nat.le_refl _) (by omega)) (Tks.c Tk.h Tks.n) ?_
    rintro _ _ ⟨rfl, rfl⟩
    rw [h]
    refine .assign rfl rfl (.assign rfl rfl (.nil (kthen_n (.ret ?_))))
    refine KF2.r2 rfl (RV.t rfl) (RV.t rfl) ⟨rfl, rfl⟩ (ImpS.sb ?_)
    exact .c .h .r
  · have d1 : decide ((checkF l : Int) ≠ 0) = true := decide_eq_true (by omega)
    rw [if_neg h]
    (refine .assign rfl rfl (.nil (kthen_n (.seq (.region (.move rfl rfl (.nei rfl rfl rfl (.nil (kthen_n (.condT rfl (by assumption) (.seq (.region (.move rfl rfl (.assign rfl rfl (.assign rfl rfl (.nil ?_))))))))))))))); refine kthen_n (.ret (kthen_r ?_)))
    refine KF2.r2 rfl (RV.t rfl) (RV.t rfl) ⟨rfl, rfl⟩ (ImpS.sb ?_)
    exact .c .h .r
set_option maxHeartbeats 8000000 in
theorem Height_spec (q : HP) (v : Value) (l : List NodeD) (hq : NodesR q v l) (hl : ¬ 4096 < l.length) : Fn Tryz.prog 77 #[v] [q] (fun r Q => r = i64 (HeightF l : Nat) ∧ Q = [q]) := by
  refine Fn.mk2 Tryz.func77 rfl rfl fun w0 F => ?_
  unfold HeightF
  refine .seq (.region (.assign rfl rfl (.nil (kthen_n (.seq (.seq (.region (.move rfl rfl ?_))))))))
  refine GO.call1 rfl rfl (whole_spec q v l hq (by omega)) (Tks.c Tk.h Tks.n) ?_
  rintro _ _ ⟨rfl, rfl⟩
  cases hw : wholeF l
  · rw [if_neg (by decide)]
    refine .not rfl rfl (.nil (kthen_n (.condT rfl rfl (.seq (.region (.assign rfl rfl (.nil (kthen_n (.ret (kthen_r ?_))))))))))
    refine KF2.r1 rfl (RV.t rfl) ⟨rfl, rfl⟩ (ImpS.sb ?_)
    exact .c .h .r
  obtain ⟨t, rfl, hok⟩ := whole_tree hw
  have hk := flat_kids t
  rw [if_pos rfl]
  refine .not rfl rfl (.nil (kthen_n (.condF rfl rfl (.skip (kthen_n (.seq (.region (.move rfl rfl ?_))))))))
  refine GO.call1 rfl rfl (height_spec q v (flat t) hq hl (fun m hm => by have := hk m hm; omega)) (Tks.c Tk.h Tks.n) ?_
  rintro _ _ ⟨rfl, rfl⟩
  refine .assign rfl rfl (.nil (kthen_n (.ret ?_)))
  refine KF2.r1 rfl (RV.t rfl) ⟨rfl, rfl⟩ (ImpS.sb ?_)
  exact .c .h .r
end Go.Proofs.YtbconcohpfkncaaGreat
namespace Go.Proofs.YtbconcohpfkncaaGreat
open Go
section
variable {α : Type}
/-- So many in a row. -/
inductive Many (P : List α → Prop) : List α → Prop where
  | nil : Many P []
  | cons {u v : List α} (h : P u) (r : Many P v) : Many P (u ++ v)
def Plus (P : List α → Prop) (w : List α) : Prop := ∃ u v, w = u ++ v ∧ P u ∧ Many P v
variable (leaf : Nat → List UInt8 → α)
mutual
/-- The words of a tree; a leaf is a symbol. -/
def Lg : Tree → List α → Prop
  | .node k n ts, w => if k = 1 then w = [] else if k = 2 ∨ k = 3 then w = [leaf k n] else if k = 4 then LgS ts w else if k = 5 then LgA ts w else if k = 6 then Many (LgA ts) w else if k = 7 then Plus (LgA ts) w else w = [] ∨ LgA ts w
def LgS : List Tree → List α → Prop
  | [], w => w = []
  | t :: ts, w => ∃ u v, w = u ++ v ∧ Lg t u ∧ LgS ts v
def LgA : List Tree → List α → Prop
  | [], _ => False
  | t :: ts, w => Lg t w ∨ LgA ts w
end
end
section
variable {α : Type}
theorem many_app {P : List α → Prop} {u v : List α} (h : Many P u) (k : Many P v) : Many P (u ++ v) := by
  induction h with
  | nil => exact k
  | cons h _ ih => rw [List.append_assoc]; exact .cons h ih
theorem many_one {P : List α → Prop} {u : List α} (h : P u) : Many P u := by have := Many.cons h .nil; rwa [List.append_nil] at this
theorem many_iff {P : List α → Prop} {w : List α} : Many P w ↔ w = [] ∨ Plus P w := by
  constructor
  · intro h
    cases h with
    | nil => exact .inl rfl
    | cons h r => exact .inr ⟨_, _, rfl, h, r⟩
  · rintro (rfl | ⟨u, v, rfl, h, r⟩)
    · exact .nil
    · exact .cons h r
theorem plus_snoc {P : List α → Prop} {u v : List α} (h : Plus P u) (k : P v) : Plus P (u ++ v) := by
  obtain ⟨a, b, rfl, h1, h2⟩ := h
  exact ⟨a, b ++ v, by rw [List.append_assoc], h1, many_app h2 (many_one k)⟩
theorem plus_one {P : List α → Prop} {u : List α} (h : P u) : Plus P u := ⟨u, [], by rw [List.append_nil], h, .nil⟩
/-- The piece of a word between two places. -/
def seg (w : List α) (i j : Nat) : List α := (w.drop i).take (j - i)
theorem seg_self (w : List α) (i : Nat) : seg w i i = [] := by unfold seg; rw [Nat.sub_self]; rfl
theorem seg_app (w : List α) {i m j : Nat} (h1 : i ≤ m) (h2 : m ≤ j) : seg w i j = seg w i m ++ seg w m j := by
  unfold seg
  have e : j - i = (m - i) + (j - m) := by omega
  rw [e, List.take_add, List.drop_drop, show i + (m - i) = m by omega]
theorem seg_len (w : List α) {i j : Nat} (h : j ≤ w.length) : (seg w i j).length = j - i := by
  unfold seg
  rw [List.length_take, List.length_drop]
  omega
theorem seg_split {w u v : List α} {i j : Nat} (hij : i ≤ j) (hj : j ≤ w.length) (h : seg w i j = u ++ v) : ∃ m, i ≤ m ∧ m ≤ j ∧ seg w i m = u ∧ seg w m j = v := by
  have hl := seg_len w (i := i) hj
  rw [h, List.length_append] at hl
  refine ⟨i + u.length, by omega, by omega, ?_⟩
  have := seg_app w (i := i) (m := i + u.length) (j := j) (by omega) (by omega)
  rw [h] at this
  have e : (seg w i (i + u.length)).length = u.length := by rw [seg_len w (by omega)]; omega
  exact (List.append_inj this e.symm).elim fun a b => ⟨a.symm, b.symm⟩
theorem seg_one {w : List α} {i : Nat} {x : α} (h : w[i]? = some x) : seg w i (i + 1) = [x] := by
  obtain ⟨hlt, rfl⟩ := List.getElem?_eq_some_iff.1 h
  unfold seg
  rw [List.drop_eq_getElem_cons hlt, show i + 1 - i = 1 by omega]
  rfl
theorem seg_nil {w : List α} {i j : Nat} (hij : i ≤ j) (hj : j ≤ w.length) (h : seg w i j = []) : i = j := by
  have := seg_len w (i := i) hj
  rw [h, List.length_nil] at this
  omega
/-- From the places of one set the words of P lead to those of the other. -/
def Ends (P : List α → Prop) (w : List α) (a b : Nat → Bool) : Prop := ∀ j, j ≤ w.length → (b j = true ↔ ∃ i, i ≤ j ∧ a i = true ∧ P (seg w i j))
variable {P Q : List α → Prop} {w : List α} {a b c : Nat → Bool}
theorem Ends.nil : Ends (fun u => u = []) w a a := fun j hj => ⟨fun h => ⟨j, Nat.le_refl _, h, seg_self w j⟩, fun ⟨i, h1, h2, h3⟩ => by rw [← seg_nil h1 hj h3]; exact h2⟩
theorem Ends.seq (h : Ends P w a b) (k : Ends Q w b c) : Ends (fun x => ∃ u v, x = u ++ v ∧ P u ∧ Q v) w a c := fun j hj => by
  rw [k j hj]
  constructor
  · rintro ⟨m, h1, h2, h3⟩
    obtain ⟨i, g1, g2, g3⟩ := (h m (by omega)).1 h2
    exact ⟨i, by omega, g2, _, _, seg_app w g1 h1, g3, h3⟩
  · rintro ⟨i, h1, h2, u, v, h3, h4, h5⟩
    obtain ⟨m, m1, m2, m3, m4⟩ := seg_split h1 hj h3
    exact ⟨m, m2, (h m (by omega)).2 ⟨i, m1, h2, by rw [m3]; exact h4⟩, by rw [m4]; exact h5⟩
theorem Ends.congr (h : Ends P w a b) (e : ∀ u, P u ↔ Q u) : Ends Q w a b := fun j hj => by rw [h j hj]; simp only [e]
/-- Put together, place by place. -/
def orF (b c : Nat → Bool) : Nat → Bool := fun i => b i || c i
theorem Ends.or (h : Ends P w a b) (k : Ends Q w a c) : Ends (fun u => P u ∨ Q u) w a (orF b c) := fun j hj => by
  unfold orF
  rw [Bool.or_eq_true, h j hj, k j hj]
  constructor
  · rintro (⟨i, h1, h2, h3⟩ | ⟨i, h1, h2, h3⟩)
    · exact ⟨i, h1, h2, .inl h3⟩
    · exact ⟨i, h1, h2, .inr h3⟩
  · rintro ⟨i, h1, h2, h3 | h3⟩
    · exact .inl ⟨i, h1, h2, h3⟩
    · exact .inr ⟨i, h1, h2, h3⟩
theorem Ends.none : Ends (fun _ => False) w a (fun _ => false) := fun j hj => ⟨fun h => (by cases h), fun ⟨_, _, _, h⟩ => h.elim⟩
/-- One symbol: what a pass over the word makes of it. -/
def oneF [DecidableEq α] (x : α) (w : List α) (a : Nat → Bool) : Nat → Bool
  | 0 => false
  | j + 1 => a j && decide (w[j]? = some x)
theorem Ends.one [DecidableEq α] {x : α} : Ends (fun u => u = [x]) w a (oneF x w a) := fun j hj => by
  cases j with
  | zero =>
    constructor
    · intro h; cases h
    · rintro ⟨i, h1, h2, h3⟩
      obtain rfl : i = 0 := by omega
      rw [seg_self] at h3; cases h3
  | succ j =>
    show (a j && decide (w[j]? = some x)) = true ↔ _
    rw [Bool.and_eq_true, decide_eq_true_eq]
    constructor
    · rintro ⟨h1, h2⟩
      exact ⟨j, by omega, h1, seg_one h2⟩
    · rintro ⟨i, h1, h2, h3⟩
      have hl := seg_len w (i := i) hj
      rw [h3] at hl
      have hij : i = j := by rw [List.length_cons, List.length_nil] at hl; omega
      subst hij
      obtain ⟨y, hy⟩ : ∃ y, w[i]? = some y := ⟨_, List.getElem?_eq_getElem (by omega)⟩
      rw [seg_one hy] at h3
      cases h3
      exact ⟨h2, hy⟩
/-- The loop for one or more. -/
theorem Ends.plus (h : ∀ j, j ≤ w.length → (∃ i, i ≤ j ∧ a i = true ∧ P (seg w i j)) → b j = true) (hs : ∀ j, j ≤ w.length → b j = true → ∃ i, i ≤ j ∧ a i = true ∧ Plus P (seg w i j)) (hc : ∀ j, j ≤ w.length → (∃ i, i ≤ j ∧ b i = true ∧ P (seg w i j)) → b j = true) : Ends (Plus P) w a b := fun j hj => by
  refine ⟨hs j hj, ?_⟩
  rintro ⟨i, h1, h2, u, v, h3, h4, h5⟩
  obtain ⟨m, m1, m2, m3, m4⟩ := seg_split h1 hj h3
  have hm : b m = true := h m (by omega) ⟨i, m1, h2, by rw [m3]; exact h4⟩
  rw [← m4] at h5
  clear h3 h4 m3 m4
  generalize hv : seg w m j = x at h5
  induction h5 generalizing m with
  | nil => rw [seg_nil m2 hj hv] at hm; exact hm
  | cons p r ih =>
    obtain ⟨n, n1, n2, n3, n4⟩ := seg_split m2 hj hv
    exact ih n (by omega) n2 (hc n (by omega) ⟨m, n1, hm, by rw [n3]; exact p⟩) n4
/-- How many are in a set. -/
def cntF (b : Nat → Bool) (n : Nat) : Nat := ((List.range n).filter b).length
theorem cntF_le (b : Nat → Bool) (n : Nat) : cntF b n ≤ n := by unfold cntF; have := List.length_filter_le b (List.range n); rw [List.length_range] at this; exact this
theorem filter_le {β : Type} {l : List β} {b c : β → Bool} (h : ∀ i ∈ l, b i = true → c i = true) : (l.filter b).length ≤ (l.filter c).length := by
  induction l with
  | nil => exact Nat.le_refl _
  | cons x l ih =>
    have h1 := ih fun i hi => h i (by simp [hi])
    have h2 := h x (by simp)
    rw [List.filter_cons, List.filter_cons]
    cases hb : b x with
    | true => rw [if_pos rfl, if_pos (h2 hb), List.length_cons, List.length_cons]; omega
    | false => rw [if_neg (by decide)]; split <;> (try rw [List.length_cons]) <;> omega
theorem filter_lt {β : Type} {l : List β} {b c : β → Bool} (h : ∀ i ∈ l, b i = true → c i = true) {j : β} (hj : j ∈ l) (h1 : b j = false) (h2 : c j = true) : (l.filter b).length < (l.filter c).length := by
  induction l with
  | nil => cases hj
  | cons x l ih =>
    have hl := filter_le fun i (hi : i ∈ l) => h i (by simp [hi])
    rw [List.filter_cons, List.filter_cons]
    rcases List.mem_cons.1 hj with rfl | hj
    · rw [h1, if_neg (by decide), if_pos h2, List.length_cons]; omega
    · have := ih (fun i hi => h i (by simp [hi])) hj
      have h3 := h x (by simp)
      cases hb : b x with
      | true => rw [if_pos rfl, if_pos (h3 hb), List.length_cons, List.length_cons]; omega
      | false => rw [if_neg (by decide)]; split <;> (try rw [List.length_cons]) <;> omega
/-- What is new in another set. -/
def newF (b c : Nat → Bool) (n : Nat) : Bool := (List.range n).any fun i => c i && !b i
theorem new_none {b c : Nat → Bool} {n : Nat} (h : newF b c n = false) {i : Nat} (hi : i < n) (hc : c i = true) : b i = true := by
  unfold newF at h
  cases hb : b i with
  | true => rfl
  | false =>
    refine absurd ?_ (by rw [h]; decide : ¬ ((List.range n).any fun i => c i && !b i) = true)
    exact List.any_eq_true.2 ⟨i, List.mem_range.2 hi, by rw [hc, hb]; rfl⟩
theorem new_some {b c : Nat → Bool} {n : Nat} (h : newF b c n = true) : cntF b n < cntF (orF b c) n := by
  unfold newF at h
  obtain ⟨i, hi, h⟩ := List.any_eq_true.1 h
  rw [Bool.and_eq_true] at h
  refine filter_lt (fun j _ hj => by unfold orF; rw [hj]; rfl) hi (by simpa using h.2) (by unfold orF; rw [h.1, Bool.or_true])
end
end Go.Proofs.YtbconcohpfkncaaGreat
namespace Go.Proofs.YtbconcohpfkncaaGreat
open Go
/-- A symbol: is it a label; its number. -/
structure SyD where
  lab : Bool
  num : Nat
  deriving DecidableEq
structure ArD where
  src : Nat
  sym : SyD
  dst : Nat
  deriving DecidableEq
structure PtD where
  emp : Bool
  first : List Nat
  last : List Nat
def symAt (S : List SyD) (q : Nat) : SyD := (S[q - 1]?).getD ⟨false, 0⟩
def joinA (S : List SyD) (last first : List Nat) : List ArD := last.flatMap fun p => first.map fun q => ⟨p, symAt S q, q⟩
abbrev GSt := List SyD × List ArD
def seqP (a b : PtD) : PtD := ⟨a.emp && b.emp, a.first ++ (if a.emp = true then b.first else []), b.last ++ (if b.emp = true then a.last else [])⟩
def altP (a b : PtD) : PtD := ⟨a.emp || b.emp, a.first ++ b.first, a.last ++ b.last⟩
section
variable (leaf : Nat → List UInt8 → SyD)
mutual
def gluT : Tree → GSt → PtD × GSt
  | .node k n ts, st => if k = 2 ∨ k = 3 then (⟨false, [st.1.length + 1], [st.1.length + 1]⟩, (st.1 ++ [leaf k n], st.2)) else
      (⟨(gluK k ts ⟨decide (k = 1) || decide (k = 4), [], []⟩ st).1.emp || (decide (k = 6) || decide (k = 8)), (gluK k ts ⟨decide (k = 1) || decide (k = 4), [], []⟩ st).1.first, (gluK k ts ⟨decide (k = 1) || decide (k = 4), [], []⟩ st).1.last⟩,
        if k = 6 ∨ k = 7 then ((gluK k ts ⟨decide (k = 1) || decide (k = 4), [], []⟩ st).2.1, (gluK k ts ⟨decide (k = 1) || decide (k = 4), [], []⟩ st).2.2 ++ joinA (gluK k ts ⟨decide (k = 1) || decide (k = 4), [], []⟩ st).2.1 (gluK k ts ⟨decide (k = 1) || decide (k = 4), [], []⟩ st).1.last (gluK k ts ⟨decide (k = 1) || decide (k = 4), [], []⟩ st).1.first) else (gluK k ts ⟨decide (k = 1) || decide (k = 4), [], []⟩ st).2)
def gluK (k : Nat) : List Tree → PtD → GSt → PtD × GSt
  | [], out, st => (out, st)
  | t :: ts, out, st => if k = 4 then gluK k ts (seqP out (gluT t st).1) ((gluT t st).2.1, (gluT t st).2.2 ++ joinA (gluT t st).2.1 out.last (gluT t st).1.first) else gluK k ts (altP out (gluT t st).1) (gluT t st).2
end
end
/-! ## Ways -/
def Pth (A : List ArD) : Nat → List SyD → Nat → Prop
  | p, [], q => p = q
  | p, s :: u, q => ∃ x ∈ A, x.src = p ∧ x.sym = s ∧ Pth A x.dst u q
theorem pth_app {A : List ArD} : ∀ {u v : List SyD} {p q : Nat}, Pth A p (u ++ v) q ↔ ∃ m, Pth A p u m ∧ Pth A m v q
  | [], v, p, q => ⟨fun h => ⟨p, rfl, h⟩, fun ⟨_, rfl, h⟩ => h⟩
  | s :: u, v, p, q => by
    constructor
    · rintro ⟨x, h1, h2, h3, h4⟩
      obtain ⟨m, h5, h6⟩ := pth_app.1 h4
      exact ⟨m, ⟨x, h1, h2, h3, h5⟩, h6⟩
    · rintro ⟨m, ⟨x, h1, h2, h3, h5⟩, h6⟩
      exact ⟨x, h1, h2, h3, pth_app.2 ⟨m, h5, h6⟩⟩
theorem pth_sub {A B : List ArD} (h : ∀ x ∈ A, x ∈ B) : ∀ {u : List SyD} {p q : Nat}, Pth A p u q → Pth B p u q
  | [], _, _, k => k
  | _ :: _, _, _, ⟨x, h1, h2, h3, h4⟩ => ⟨x, h x h1, h2, h3, pth_sub h h4⟩
/-- Taken by the part: the empty word; or a way from a beginning to an end. -/
def Acc (S : List SyD) (A : List ArD) (pt : PtD) (u : List SyD) : Prop := (u = [] ∧ pt.emp = true) ∨ ∃ f ∈ pt.first, ∃ l ∈ pt.last, ∃ v, u = symAt S f :: v ∧ Pth A f v l
structure GOK (S : List SyD) (lo hi : Nat) (A : List ArD) (pt : PtD) : Prop where
  le : lo ≤ hi
  fst : ∀ q ∈ pt.first, lo < q ∧ q ≤ hi
  lst : ∀ q ∈ pt.last, lo < q ∧ q ≤ hi
  nf : pt.first.Nodup
  nl : pt.last.Nodup
  arc : ∀ x ∈ A, (lo < x.src ∧ x.src ≤ hi) ∧ (lo < x.dst ∧ x.dst ≤ hi) ∧ x.sym = symAt S x.dst
theorem mem_join {S : List SyD} {l f : List Nat} {x : ArD} : x ∈ joinA S l f ↔ x.src ∈ l ∧ x.dst ∈ f ∧ x.sym = symAt S x.dst := by
  unfold joinA
  rw [List.mem_flatMap]
  constructor
  · rintro ⟨p, hp, h⟩
    obtain ⟨q, hq, rfl⟩ := List.mem_map.1 h
    exact ⟨hp, hq, rfl⟩
  · rintro ⟨h1, h2, h3⟩
    refine ⟨x.src, h1, List.mem_map.2 ⟨x.dst, h2, ?_⟩⟩
    cases x
    dsimp only at h3 ⊢
    rw [h3]
section
variable {S : List SyD} {lo mid hi : Nat} {A B X : List ArD} {a b : PtD}
theorem pth_in (h : GOK S lo hi A a) : ∀ {u : List SyD} {p q : Nat}, lo < p ∧ p ≤ hi → Pth A p u q → lo < q ∧ q ≤ hi
  | [], _, _, hp, k => by rw [← k]; exact hp
  | _ :: _, _, _, _, ⟨x, h1, _, _, h4⟩ => pth_in h (h.arc x h1).2.1 h4
/-- Behind the cut one stays behind it. -/
theorem pth_behind (ha : GOK S lo mid A a) (hb : GOK S mid hi B b) (hX : ∀ x ∈ X, x.src ≤ mid) : ∀ {u : List SyD} {p q : Nat}, mid < p → Pth (A ++ B ++ X) p u q → Pth B p u q
  | [], _, _, _, k => k
  | _ :: _, p, _, hp, ⟨x, h1, h2, h3, h4⟩ => by
    rcases List.mem_append.1 h1 with h1 | h1
    · rcases List.mem_append.1 h1 with h1 | h1
      · have := (ha.arc x h1).1; omega
      · exact ⟨x, h1, h2, h3, pth_behind ha hb hX (hb.arc x h1).2.1.1 h4⟩
    · have := hX x h1; omega
/-- Ahead of the cut: one stays ahead, or crosses once. -/
theorem pth_ahead (ha : GOK S lo mid A a) (hb : GOK S mid hi B b) (hX : ∀ x ∈ X, x.src ≤ mid ∧ mid < x.dst) : ∀ {u : List SyD} {p q : Nat}, p ≤ mid → Pth (A ++ B ++ X) p u q →
    Pth A p u q ∨ ∃ u1 x u2, u = u1 ++ x.sym :: u2 ∧ x ∈ X ∧ Pth A p u1 x.src ∧ Pth B x.dst u2 q
  | [], _, _, _, k => .inl k
  | s :: u, p, q, hp, ⟨x, h1, h2, h3, h4⟩ => by
    rcases List.mem_append.1 h1 with h1 | h1
    · rcases List.mem_append.1 h1 with h1 | h1
      · rcases pth_ahead ha hb hX (ha.arc x h1).2.1.2 h4 with k | ⟨u1, y, u2, e, k1, k2, k3⟩
        · exact .inl ⟨x, h1, h2, h3, k⟩
        · exact .inr ⟨s :: u1, y, u2, by rw [e]; rfl, k1, ⟨x, h1, h2, h3, k2⟩, k3⟩
      · have := (hb.arc x h1).1; omega
    · have := hX x h1
      exact .inr ⟨[], x, u, by rw [h3]; rfl, h1, h2.symm, pth_behind ha hb (fun y hy => (hX y hy).1) this.2 h4⟩
theorem nodup_app {l k : List Nat} (h1 : l.Nodup) (h2 : k.Nodup) (h : ∀ x ∈ l, ∀ y ∈ k, x ≠ y) : (l ++ k).Nodup := List.nodup_append.2 ⟨h1, h2, h⟩
theorem seq_ok (ha : GOK S lo mid A a) (hb : GOK S mid hi B b) : GOK S lo hi (A ++ B ++ joinA S a.last b.first) (seqP a b) := by
  have l1 := ha.le; have l2 := hb.le
  refine ⟨by omega, fun q hq => ?_, fun q hq => ?_, ?_, ?_, fun x hx => ?_⟩
  · rcases List.mem_append.1 hq with hq | hq
    · have := ha.fst q hq; omega
    · split at hq
      · have := hb.fst q hq; omega
      · cases hq
  · rcases List.mem_append.1 hq with hq | hq
    · have := hb.lst q hq; omega
    · split at hq
      · have := ha.lst q hq; omega
      · cases hq
  · show (a.first ++ _).Nodup
    split
    · exact nodup_app ha.nf hb.nf fun x hx y hy e => by have := ha.fst x hx; have := hb.fst y hy; omega
    · rw [List.append_nil]; exact ha.nf
  · show (b.last ++ _).Nodup
    split
    · exact nodup_app hb.nl ha.nl fun x hx y hy e => by have := hb.lst x hx; have := ha.lst y hy; omega
    · rw [List.append_nil]; exact hb.nl
  · rcases List.mem_append.1 hx with hx | hx
    · rcases List.mem_append.1 hx with hx | hx
      · have := ha.arc x hx; refine ⟨by omega, by omega, this.2.2⟩
      · have := hb.arc x hx; refine ⟨by omega, by omega, this.2.2⟩
    · obtain ⟨h1, h2, h3⟩ := mem_join.1 hx
      have := ha.lst _ h1; have := hb.fst _ h2
      exact ⟨by omega, by omega, h3⟩
theorem seq_acc (ha : GOK S lo mid A a) (hb : GOK S mid hi B b) (w : List SyD) : Acc S (A ++ B ++ joinA S a.last b.first) (seqP a b) w ↔ ∃ u v, w = u ++ v ∧ Acc S A a u ∧ Acc S B b v := by
  have hX : ∀ x ∈ joinA S a.last b.first, x.src ≤ mid ∧ mid < x.dst := fun x hx => by
    obtain ⟨h1, h2, _⟩ := mem_join.1 hx
    exact ⟨(ha.lst _ h1).2, (hb.fst _ h2).1⟩
  have sA : ∀ x ∈ A, x ∈ A ++ B ++ joinA S a.last b.first := fun x hx => by simp [hx]
  have sB : ∀ x ∈ B, x ∈ A ++ B ++ joinA S a.last b.first := fun x hx => by simp [hx]
  constructor
  · rintro (⟨rfl, h⟩ | ⟨f, hf, l, hl, v, rfl, hp⟩)
    · have h : (a.emp && b.emp) = true := h
      rw [Bool.and_eq_true] at h
      exact ⟨[], [], rfl, .inl ⟨rfl, h.1⟩, .inl ⟨rfl, h.2⟩⟩
    · have hf : f ∈ a.first ++ (if a.emp = true then b.first else []) := hf
      have hl : l ∈ b.last ++ (if b.emp = true then a.last else []) := hl
      rcases List.mem_append.1 hf with hf | hf
      · have hfr := ha.fst f hf
        rcases pth_ahead ha hb hX hfr.2 hp with k | ⟨u1, x, u2, rfl, k1, k2, k3⟩
        · have hin := pth_in ha hfr k
          rcases List.mem_append.1 hl with hl | hl
          · have := hb.lst l hl; omega
          · split at hl
            · rename_i he
              exact ⟨symAt S f :: v, [], by rw [List.append_nil], .inr ⟨f, hf, l, hl, v, rfl, k⟩, .inl ⟨rfl, he⟩⟩
            · cases hl
        · obtain ⟨j1, j2, j3⟩ := mem_join.1 k1
          have hin := pth_in hb (hb.fst _ j2) k3
          rcases List.mem_append.1 hl with hl | hl
          · exact ⟨symAt S f :: u1, x.sym :: u2, rfl, .inr ⟨f, hf, _, j1, u1, rfl, k2⟩, .inr ⟨_, j2, l, hl, u2, by rw [j3], k3⟩⟩
          · split at hl
            · have := ha.lst l hl; omega
            · cases hl
      · split at hf
        · rename_i he
          have hfr := hb.fst f hf
          have k := pth_behind ha hb (fun y hy => (hX y hy).1) hfr.1 hp
          have hin := pth_in hb hfr k
          rcases List.mem_append.1 hl with hl | hl
          · exact ⟨[], symAt S f :: v, rfl, .inl ⟨rfl, he⟩, .inr ⟨f, hf, l, hl, v, rfl, k⟩⟩
          · split at hl
            · have := ha.lst l hl; omega
            · cases hl
        · cases hf
  · rintro ⟨u, v, rfl, h1 | ⟨f, hf, l, hl, u', rfl, hp⟩, h2 | ⟨f2, hf2, l2, hl2, v', rfl, hp2⟩⟩
    · obtain ⟨rfl, h1⟩ := h1
      obtain ⟨rfl, h2⟩ := h2
      exact .inl ⟨rfl, by show (a.emp && b.emp) = true; rw [h1, h2]; rfl⟩
    · obtain ⟨rfl, h1⟩ := h1
      refine .inr ⟨f2, ?_, l2, ?_, v', rfl, pth_sub sB hp2⟩
      · show f2 ∈ a.first ++ _
        rw [if_pos h1]; simp [hf2]
      · show l2 ∈ b.last ++ _
        simp [hl2]
    · obtain ⟨rfl, h2⟩ := h2
      refine .inr ⟨f, ?_, l, ?_, u', by rw [List.append_nil], pth_sub sA hp⟩
      · show f ∈ a.first ++ _
        simp [hf]
      · show l ∈ b.last ++ _
        rw [if_pos h2]; simp [hl]
    · refine .inr ⟨f, ?_, l2, ?_, u' ++ symAt S f2 :: v', rfl, pth_app.2 ⟨l, pth_sub sA hp, ⟨l, symAt S f2, f2⟩, ?_, rfl, rfl, pth_sub sB hp2⟩⟩
      · show f ∈ a.first ++ _
        simp [hf]
      · show l2 ∈ b.last ++ _
        simp [hl2]
      · exact List.mem_append_right _ (mem_join.2 ⟨hl, hf2, rfl⟩)
theorem alt_ok (ha : GOK S lo mid A a) (hb : GOK S mid hi B b) : GOK S lo hi (A ++ B) (altP a b) := by
  have l1 := ha.le; have l2 := hb.le
  refine ⟨by omega, fun q hq => ?_, fun q hq => ?_, ?_, ?_, fun x hx => ?_⟩
  · rcases List.mem_append.1 hq with hq | hq
    · have := ha.fst q hq; omega
    · have := hb.fst q hq; omega
  · rcases List.mem_append.1 hq with hq | hq
    · have := ha.lst q hq; omega
    · have := hb.lst q hq; omega
  · exact nodup_app ha.nf hb.nf fun x hx y hy e => by have := ha.fst x hx; have := hb.fst y hy; omega
  · exact nodup_app ha.nl hb.nl fun x hx y hy e => by have := ha.lst x hx; have := hb.lst y hy; omega
  · rcases List.mem_append.1 hx with hx | hx
    · have := ha.arc x hx; refine ⟨by omega, by omega, this.2.2⟩
    · have := hb.arc x hx; refine ⟨by omega, by omega, this.2.2⟩
theorem alt_acc (ha : GOK S lo mid A a) (hb : GOK S mid hi B b) (w : List SyD) : Acc S (A ++ B) (altP a b) w ↔ Acc S A a w ∨ Acc S B b w := by
  have hX : ∀ x ∈ ([] : List ArD), x.src ≤ mid ∧ mid < x.dst := fun x hx => by cases hx
  have sA : ∀ x ∈ A, x ∈ A ++ B := fun x hx => by simp [hx]
  have sB : ∀ x ∈ B, x ∈ A ++ B := fun x hx => by simp [hx]
  constructor
  · rintro (⟨rfl, h⟩ | ⟨f, hf, l, hl, v, rfl, hp⟩)
    · have h : (a.emp || b.emp) = true := h
      rw [Bool.or_eq_true] at h
      exact h.elim (fun h => .inl (.inl ⟨rfl, h⟩)) (fun h => .inr (.inl ⟨rfl, h⟩))
    · rw [← List.append_nil (A ++ B)] at hp
      rcases List.mem_append.1 hf with hf | hf
      · have hfr := ha.fst f hf
        rcases pth_ahead ha hb hX hfr.2 hp with k | ⟨_, x, _, _, k1, _⟩
        · have hin := pth_in ha hfr k
          rcases List.mem_append.1 hl with hl | hl
          · exact .inl (.inr ⟨f, hf, l, hl, v, rfl, k⟩)
          · have := hb.lst l hl; omega
        · cases k1
      · have hfr := hb.fst f hf
        have k := pth_behind ha hb (fun y hy => (hX y hy).1) hfr.1 hp
        have hin := pth_in hb hfr k
        rcases List.mem_append.1 hl with hl | hl
        · have := ha.lst l hl; omega
        · exact .inr (.inr ⟨f, hf, l, hl, v, rfl, k⟩)
  · rintro ((⟨rfl, h⟩ | ⟨f, hf, l, hl, v, rfl, hp⟩) | (⟨rfl, h⟩ | ⟨f, hf, l, hl, v, rfl, hp⟩))
    · exact .inl ⟨rfl, by show (a.emp || b.emp) = true; rw [h]; rfl⟩
    · exact .inr ⟨f, List.mem_append_left _ hf, l, List.mem_append_left _ hl, v, rfl, pth_sub sA hp⟩
    · exact .inl ⟨rfl, by show (a.emp || b.emp) = true; rw [h, Bool.or_true]⟩
    · exact .inr ⟨f, List.mem_append_right _ hf, l, List.mem_append_right _ hl, v, rfl, pth_sub sB hp⟩
/-- Back from the ends to the beginnings. -/
theorem loop_ok (ha : GOK S lo hi A a) : GOK S lo hi (A ++ joinA S a.last a.first) a := by
  refine ⟨ha.le, ha.fst, ha.lst, ha.nf, ha.nl, fun x hx => ?_⟩
  rcases List.mem_append.1 hx with hx | hx
  · exact ha.arc x hx
  · obtain ⟨h1, h2, h3⟩ := mem_join.1 hx
    exact ⟨ha.lst _ h1, ha.fst _ h2, h3⟩
theorem pth_loop : ∀ {u : List SyD} {p q : Nat}, Pth (A ++ joinA S a.last a.first) p u q → Pth A p u q ∨ ∃ u1 x u2, u = u1 ++ x.sym :: u2 ∧ x ∈ joinA S a.last a.first ∧ Pth A p u1 x.src ∧ Pth (A ++ joinA S a.last a.first) x.dst u2 q
  | [], _, _, k => .inl k
  | s :: u, p, q, ⟨x, h1, h2, h3, h4⟩ => by
    rcases List.mem_append.1 h1 with h1 | h1
    · rcases pth_loop h4 with k | ⟨u1, y, u2, e, k1, k2, k3⟩
      · exact .inl ⟨x, h1, h2, h3, k⟩
      · exact .inr ⟨s :: u1, y, u2, by rw [e]; rfl, k1, ⟨x, h1, h2, h3, k2⟩, k3⟩
    · exact .inr ⟨[], x, u, by rw [h3]; rfl, h1, h2.symm, h4⟩
theorem loop_some : ∀ (n : Nat) (f l : Nat) (v : List SyD), v.length ≤ n → f ∈ a.first → l ∈ a.last → Pth (A ++ joinA S a.last a.first) f v l → Plus (Acc S A a) (symAt S f :: v)
  | n, f, l, v, hn, hf, hl, hp => by
    rcases pth_loop hp with k | ⟨u1, x, u2, rfl, k1, k2, k3⟩
    · exact plus_one (.inr ⟨f, hf, l, hl, v, rfl, k⟩)
    · obtain ⟨j1, j2, j3⟩ := mem_join.1 k1
      rw [List.length_append, List.length_cons] at hn
      cases n with
      | zero => omega
      | succ n =>
        have ih := loop_some n x.dst l u2 (by omega) j2 hl k3
        rw [← j3] at ih
        refine ⟨symAt S f :: u1, x.sym :: u2, rfl, .inr ⟨f, hf, _, j1, u1, rfl, k2⟩, many_iff.2 (.inr ih)⟩
theorem loop_back {w : List SyD} (h : Many (Acc S A a) w) : w = [] ∨ ∃ f ∈ a.first, ∃ l ∈ a.last, ∃ v, w = symAt S f :: v ∧ Pth (A ++ joinA S a.last a.first) f v l := by
  have sA : ∀ x ∈ A, x ∈ A ++ joinA S a.last a.first := fun x hx => by simp [hx]
  induction h with
  | nil => exact .inl rfl
  | cons h _ ih =>
    rcases h with ⟨rfl, _⟩ | ⟨f, hf, l, hl, v, rfl, hp⟩
    · exact ih
    · rcases ih with rfl | ⟨f2, hf2, l2, hl2, v2, rfl, hp2⟩
      · exact .inr ⟨f, hf, l, hl, v, by rw [List.append_nil], pth_sub sA hp⟩
      · exact .inr ⟨f, hf, l2, hl2, v ++ symAt S f2 :: v2, rfl, pth_app.2 ⟨l, pth_sub sA hp, ⟨l, symAt S f2, f2⟩, List.mem_append_right _ (mem_join.2 ⟨hl, hf2, rfl⟩), rfl, rfl, hp2⟩⟩
theorem plus_acc (w : List SyD) : Acc S (A ++ joinA S a.last a.first) a w ↔ Plus (Acc S A a) w := by
  constructor
  · rintro (⟨rfl, h⟩ | ⟨f, hf, l, hl, v, rfl, hp⟩)
    · exact plus_one (.inl ⟨rfl, h⟩)
    · exact loop_some _ f l v (Nat.le_refl _) hf hl hp
  · rintro ⟨u, v, rfl, h, r⟩
    rcases loop_back (.cons h r) with e | ⟨f, hf, l, hl, x, e, hp⟩
    · rw [e]
      rcases h with ⟨rfl, he⟩ | ⟨_, _, _, _, _, rfl, _⟩
      · exact .inl ⟨rfl, he⟩
      · cases e
    · rw [e]; exact .inr ⟨f, hf, l, hl, x, rfl, hp⟩
theorem star_acc (w : List SyD) : Acc S (A ++ joinA S a.last a.first) ⟨true, a.first, a.last⟩ w ↔ Many (Acc S A a) w := by
  constructor
  · rintro (⟨rfl, h⟩ | ⟨f, hf, l, hl, v, rfl, hp⟩)
    · exact .nil
    · exact many_iff.2 (.inr (loop_some _ f l v (Nat.le_refl _) hf hl hp))
  · intro h
    rcases loop_back h with e | ⟨f, hf, l, hl, x, e, hp⟩
    · exact .inl ⟨e, rfl⟩
    · exact .inr ⟨f, hf, l, hl, x, e, hp⟩
theorem opt_acc (w : List SyD) : Acc S A ⟨true, a.first, a.last⟩ w ↔ w = [] ∨ Acc S A a w := by
  constructor
  · rintro (⟨rfl, h⟩ | h)
    · exact .inl rfl
    · exact .inr (.inr h)
  · rintro (rfl | ⟨rfl, h⟩ | h)
    · exact .inl ⟨rfl, rfl⟩
    · exact .inl ⟨rfl, rfl⟩
    · exact .inr h
end
end Go.Proofs.YtbconcohpfkncaaGreat
namespace Go.Proofs.YtbconcohpfkncaaGreat
open Go
theorem symAt_app {S r : List SyD} {q : Nat} (h : 0 < q ∧ q ≤ S.length) : symAt (S ++ r) q = symAt S q := by
  unfold symAt
  rw [List.getElem?_append_left (by omega)]
theorem joinA_app {S r : List SyD} {l f : List Nat} (h : ∀ q ∈ f, 0 < q ∧ q ≤ S.length) : joinA (S ++ r) l f = joinA S l f := by
  unfold joinA
  have : (fun p : Nat => f.map fun q => (⟨p, symAt (S ++ r) q, q⟩ : ArD)) = fun p => f.map fun q => ⟨p, symAt S q, q⟩ := by
    funext p
    exact List.map_congr_left fun q hq => by rw [symAt_app (h q hq)]
  rw [this]
/-- A step from a state: what is appended, and that it takes these words. -/
def GluOK (P : List SyD → Prop) (n : Nat) (st : GSt) (pt : PtD) (st' : GSt) : Prop := ∃ ext new, st' = (st.1 ++ ext, st.2 ++ new) ∧ ext.length = n ∧ ∀ S r, S = (st.1 ++ ext) ++ r → GOK S st.1.length (st.1.length + n) new pt ∧ ∀ w, P w ↔ Acc S new pt w
mutual
def leavesT : Tree → Nat
  | .node k _ ts => if k = 2 ∨ k = 3 then 1 else leavesTs ts
def leavesTs : List Tree → Nat
  | [] => 0
  | t :: ts => leavesT t + leavesTs ts
end
section
variable {leaf : Nat → List UInt8 → SyD}
theorem gluK_seq : ∀ (ts : List Tree), (∀ t ∈ ts, ∀ st, GluOK (Lg leaf t) (leavesT t) st (gluT leaf t st).1 (gluT leaf t st).2) → ∀ (out : PtD) (P : List SyD → Prop) (base A : List ArD) (st : GSt) (lo : Nat), st.2 = base ++ A →
    (∀ S r, S = st.1 ++ r → GOK S lo st.1.length A out ∧ ∀ w, P w ↔ Acc S A out w) →
    ∃ ext new, (gluK leaf 4 ts out st).2 = (st.1 ++ ext, st.2 ++ new) ∧ ext.length = leavesTs ts ∧ ∀ S r, S = (st.1 ++ ext) ++ r → GOK S lo (st.1.length + leavesTs ts) (A ++ new) (gluK leaf 4 ts out st).1 ∧ ∀ w, (∃ u v, w = u ++ v ∧ P u ∧ LgS leaf ts v) ↔ Acc S (A ++ new) (gluK leaf 4 ts out st).1 w
  | [], _, out, P, base, A, st, lo, hb, hA => by
    refine ⟨[], [], ?_, ?_, fun S r hS => ?_⟩
    · rw [gluK, List.append_nil, List.append_nil]
    · rw [leavesTs]; rfl
    · rw [gluK, leavesTs, List.append_nil]
      rw [List.append_nil] at hS
      obtain ⟨h1, h2⟩ := hA S r hS
      refine ⟨h1, fun w => ?_⟩
      rw [← h2 w]
      constructor
      · rintro ⟨u, v, rfl, hu, hv⟩
        rw [LgS] at hv
        rw [hv, List.append_nil]; exact hu
      · intro hw
        exact ⟨w, [], by rw [List.append_nil], hw, by rw [LgS]⟩
  | t :: ts, ht, out, P, base, A, st, lo, hb, hA => by
    obtain ⟨e1, n1, h1, h2, h3⟩ := ht t (by simp) st
    rw [gluK, if_pos rfl, leavesTs, h1]
    have hA' : ∀ S r, S = (st.1 ++ e1) ++ r → GOK S lo (st.1 ++ e1).length (A ++ n1 ++ joinA (st.1 ++ e1) out.last (gluT leaf t st).1.first) (seqP out (gluT leaf t st).1) ∧ ∀ w, (∃ u v, w = u ++ v ∧ P u ∧ Lg leaf t v) ↔ Acc S (A ++ n1 ++ joinA (st.1 ++ e1) out.last (gluT leaf t st).1.first) (seqP out (gluT leaf t st).1) w := fun S r hS => by
      obtain ⟨a1, a2⟩ := hA S (e1 ++ r) (by rw [hS, List.append_assoc])
      obtain ⟨b1, b2⟩ := h3 S r hS
      have hlen : (st.1 ++ e1).length = st.1.length + leavesT t := by rw [List.length_append, h2]
      have hj : joinA (st.1 ++ e1) out.last (gluT leaf t st).1.first = joinA S out.last (gluT leaf t st).1.first := by
        rw [hS]
        exact (joinA_app fun q hq => by have := b1.fst q hq; omega).symm
      rw [hj, hlen]
      refine ⟨seq_ok a1 b1, fun w => ?_⟩
      rw [seq_acc a1 b1]
      simp only [a2, b2]
    obtain ⟨e2, n2, k1, k2, k3⟩ := gluK_seq ts (fun x hx => ht x (by simp [hx])) (seqP out (gluT leaf t st).1) (fun w => ∃ u v, w = u ++ v ∧ P u ∧ Lg leaf t v) base (A ++ n1 ++ joinA (st.1 ++ e1) out.last (gluT leaf t st).1.first) (st.1 ++ e1, (st.2 ++ n1) ++ joinA (st.1 ++ e1) out.last (gluT leaf t st).1.first) lo (by dsimp only; rw [hb]; simp only [List.append_assoc]) hA'
    refine ⟨e1 ++ e2, n1 ++ joinA (st.1 ++ e1) out.last (gluT leaf t st).1.first ++ n2, ?_, ?_, fun S r hS => ?_⟩
    · rw [k1]; simp only [List.append_assoc]
    · rw [List.length_append, h2, k2]
    · obtain ⟨c1, c2⟩ := k3 S r (by rw [hS]; simp only [List.append_assoc])
      have hl : (st.1 ++ e1).length + leavesTs ts = st.1.length + (leavesT t + leavesTs ts) := by rw [List.length_append, h2]; omega
      dsimp only at c1 c2
      rw [hl] at c1
      have hap : A ++ (n1 ++ joinA (st.1 ++ e1) out.last (gluT leaf t st).1.first ++ n2) = A ++ n1 ++ joinA (st.1 ++ e1) out.last (gluT leaf t st).1.first ++ n2 := by simp only [List.append_assoc]
      rw [hap]
      refine ⟨c1, fun w => ?_⟩
      rw [← c2 w]
      constructor
      · rintro ⟨u, v, rfl, hu, hv⟩
        rw [LgS] at hv
        obtain ⟨x, y, rfl, hx, hy⟩ := hv
        exact ⟨u ++ x, y, by rw [List.append_assoc], ⟨u, x, rfl, hu, hx⟩, hy⟩
      · rintro ⟨u, v, rfl, ⟨x, y, rfl, hx, hy⟩, hv⟩
        exact ⟨x, y ++ v, by rw [List.append_assoc], hx, by rw [LgS]; exact ⟨y, v, rfl, hy, hv⟩⟩
theorem gluK_alt {k : Nat} (hk : k ≠ 4) : ∀ (ts : List Tree), (∀ t ∈ ts, ∀ st, GluOK (Lg leaf t) (leavesT t) st (gluT leaf t st).1 (gluT leaf t st).2) → ∀ (out : PtD) (P : List SyD → Prop) (base A : List ArD) (st : GSt) (lo : Nat), st.2 = base ++ A →
    (∀ S r, S = st.1 ++ r → GOK S lo st.1.length A out ∧ ∀ w, P w ↔ Acc S A out w) →
    ∃ ext new, (gluK leaf k ts out st).2 = (st.1 ++ ext, st.2 ++ new) ∧ ext.length = leavesTs ts ∧ ∀ S r, S = (st.1 ++ ext) ++ r → GOK S lo (st.1.length + leavesTs ts) (A ++ new) (gluK leaf k ts out st).1 ∧ ∀ w, (P w ∨ LgA leaf ts w) ↔ Acc S (A ++ new) (gluK leaf k ts out st).1 w
  | [], _, out, P, base, A, st, lo, hb, hA => by
    refine ⟨[], [], ?_, ?_, fun S r hS => ?_⟩
    · rw [gluK, List.append_nil, List.append_nil]
    · rw [leavesTs]; rfl
    · rw [gluK, leavesTs, List.append_nil]
      rw [List.append_nil] at hS
      obtain ⟨h1, h2⟩ := hA S r hS
      refine ⟨h1, fun w => ?_⟩
      rw [← h2 w, LgA, or_false]
  | t :: ts, ht, out, P, base, A, st, lo, hb, hA => by
    obtain ⟨e1, n1, h1, h2, h3⟩ := ht t (by simp) st
    rw [gluK, if_neg hk, leavesTs, h1]
    have hA' : ∀ S r, S = (st.1 ++ e1) ++ r → GOK S lo (st.1 ++ e1).length (A ++ n1) (altP out (gluT leaf t st).1) ∧ ∀ w, (P w ∨ Lg leaf t w) ↔ Acc S (A ++ n1) (altP out (gluT leaf t st).1) w := fun S r hS => by
      obtain ⟨a1, a2⟩ := hA S (e1 ++ r) (by rw [hS, List.append_assoc])
      obtain ⟨b1, b2⟩ := h3 S r hS
      have hlen : (st.1 ++ e1).length = st.1.length + leavesT t := by rw [List.length_append, h2]
      rw [hlen]
      refine ⟨alt_ok a1 b1, fun w => ?_⟩
      rw [alt_acc a1 b1, a2, b2]
    obtain ⟨e2, n2, k1, k2, k3⟩ := gluK_alt hk ts (fun x hx => ht x (by simp [hx])) (altP out (gluT leaf t st).1) (fun w => P w ∨ Lg leaf t w) base (A ++ n1) (st.1 ++ e1, st.2 ++ n1) lo (by dsimp only; rw [hb]; simp only [List.append_assoc]) hA'
    refine ⟨e1 ++ e2, n1 ++ n2, ?_, ?_, fun S r hS => ?_⟩
    · rw [k1]; simp only [List.append_assoc]
    · rw [List.length_append, h2, k2]
    · obtain ⟨c1, c2⟩ := k3 S r (by rw [hS]; simp only [List.append_assoc])
      have hl : (st.1 ++ e1).length + leavesTs ts = st.1.length + (leavesT t + leavesTs ts) := by rw [List.length_append, h2]; omega
      dsimp only at c1 c2
      rw [hl] at c1
      rw [← List.append_assoc]
      refine ⟨c1, fun w => ?_⟩
      rw [← c2 w, LgA, or_assoc]
theorem one_ok {S : List SyD} {n : Nat} : GOK S n n [] ⟨true, [], []⟩ ∧ ∀ w, w = [] ↔ Acc S [] ⟨true, [], []⟩ w := by
  refine ⟨⟨Nat.le_refl _, fun q h => (by cases h), fun q h => (by cases h), .nil, .nil, fun x h => (by cases h)⟩, fun w => ⟨fun h => .inl ⟨h, rfl⟩, ?_⟩⟩
  rintro (⟨h, _⟩ | ⟨f, hf, _⟩)
  · exact h
  · cases hf
theorem none_ok {S : List SyD} {n : Nat} : GOK S n n [] ⟨false, [], []⟩ ∧ ∀ w, False ↔ Acc S [] ⟨false, [], []⟩ w := by
  refine ⟨⟨Nat.le_refl _, fun q h => (by cases h), fun q h => (by cases h), .nil, .nil, fun x h => (by cases h)⟩, fun w => ⟨False.elim, ?_⟩⟩
  rintro (⟨_, h⟩ | ⟨f, hf, _⟩)
  · cases h
  · cases hf
theorem GluOK.congr {P Q : List SyD → Prop} {n : Nat} {st st' : GSt} {pt : PtD} (h : GluOK P n st pt st') (e : ∀ w, Q w ↔ P w) : GluOK Q n st pt st' := by
  obtain ⟨x, y, h1, h2, h3⟩ := h
  exact ⟨x, y, h1, h2, fun S r hS => ⟨(h3 S r hS).1, fun w => (e w).trans ((h3 S r hS).2 w)⟩⟩
theorem many_congr {P Q : List SyD → Prop} (h : ∀ w, P w ↔ Q w) {w : List SyD} (m : Many P w) : Many Q w := by
  induction m with
  | nil => exact .nil
  | cons p _ ih => exact .cons ((h _).1 p) ih
theorem many_congr2 {P Q : List SyD → Prop} (h : ∀ w, P w ↔ Q w) (w : List SyD) : Many P w ↔ Many Q w := ⟨many_congr h, many_congr fun w => (h w).symm⟩
theorem plus_congr {P Q : List SyD → Prop} (h : ∀ w, P w ↔ Q w) (w : List SyD) : Plus P w ↔ Plus Q w :=
  ⟨fun ⟨u, v, e, p, m⟩ => ⟨u, v, e, (h _).1 p, many_congr h m⟩, fun ⟨u, v, e, p, m⟩ => ⟨u, v, e, (h _).2 p, many_congr (fun w => (h w).symm) m⟩⟩
theorem glu_tree (t : Tree) : okT t = true → ∀ st, GluOK (Lg leaf t) (leavesT t) st (gluT leaf t st).1 (gluT leaf t st).2 := by
  refine Tree.ind (p := fun t => okT t = true → ∀ st, GluOK (Lg leaf t) (leavesT t) st (gluT leaf t st).1 (gluT leaf t st).2) (fun t ih => ?_) t
  intro h st
  rw [okT_eq, Bool.and_eq_true] at h
  have hk : ∀ u ∈ t.kids, ∀ st, GluOK (Lg leaf u) (leavesT u) st (gluT leaf u st).1 (gluT leaf u st).2 := fun u hu => ih u hu (okTs_mem h.2 hu)
  have hm := mayN_cases h.1
  clear ih h
  obtain ⟨k, n, ts⟩ := t
  change ∀ u ∈ ts, _ at hk
  have alt := fun (h4 : k ≠ 4) => gluK_alt h4 ts hk ⟨false, [], []⟩ (fun _ => False) st.2 [] st st.1.length (by rw [List.append_nil]) (fun S r hS => none_ok)
  rw [gluT, leavesT]
  rcases hm with ⟨h1, _, h3⟩ | ⟨h1, _, _⟩ | ⟨h1, _, _⟩ | ⟨h1, _, _⟩ | ⟨h1, _, _⟩
  · have h1 : k = 1 := h1
    obtain rfl : ts = [] := List.length_eq_zero_iff.1 h3
    subst h1
    rw [if_neg (by omega), if_neg (by omega), gluK, leavesTs]
    refine ⟨[], [], by rw [if_neg (by omega), List.append_nil, List.append_nil], rfl, fun S r hS => ?_⟩
    obtain ⟨a, b⟩ := one_ok (S := S) (n := st.1.length)
    exact ⟨a, fun w => by rw [Lg, if_pos rfl]; exact b w⟩
  · have h1 : k = 2 := h1
    subst h1
    rw [if_pos (.inl rfl), if_pos (.inl rfl)]
    refine ⟨[leaf 2 n], [], by rw [List.append_nil], rfl, fun S r hS => ?_⟩
    have hs : symAt S (st.1.length + 1) = leaf 2 n := by unfold symAt; rw [hS, List.append_assoc, List.getElem?_append_right (by omega), show st.1.length + 1 - 1 - st.1.length = 0 by omega]; rfl
    refine ⟨⟨by omega, fun q hq => ?_, fun q hq => ?_, by simp, by simp, fun x hx => (by cases hx)⟩, fun w => ?_⟩
    · rw [List.mem_singleton.1 hq]; omega
    · rw [List.mem_singleton.1 hq]; omega
    · rw [Lg, if_neg (by omega), if_pos (.inl rfl)]
      constructor
      · rintro rfl
        exact .inr ⟨_, List.mem_singleton.2 rfl, _, List.mem_singleton.2 rfl, [], by rw [hs], rfl⟩
      · rintro (⟨_, h⟩ | ⟨f, hf, l, hl, v, rfl, hp⟩)
        · cases h
        · rw [List.mem_singleton.1 hf, hs]
          cases v with
          | nil => rfl
          | cons s v => obtain ⟨x, hx, _⟩ := hp; cases hx
  · have h1 : k = 3 := h1
    subst h1
    rw [if_pos (.inr rfl), if_pos (.inr rfl)]
    refine ⟨[leaf 3 n], [], by rw [List.append_nil], rfl, fun S r hS => ?_⟩
    have hs : symAt S (st.1.length + 1) = leaf 3 n := by unfold symAt; rw [hS, List.append_assoc, List.getElem?_append_right (by omega), show st.1.length + 1 - 1 - st.1.length = 0 by omega]; rfl
    refine ⟨⟨by omega, fun q hq => ?_, fun q hq => ?_, by simp, by simp, fun x hx => (by cases hx)⟩, fun w => ?_⟩
    · rw [List.mem_singleton.1 hq]; omega
    · rw [List.mem_singleton.1 hq]; omega
    · rw [Lg, if_neg (by omega), if_pos (.inr rfl)]
      constructor
      · rintro rfl
        exact .inr ⟨_, List.mem_singleton.2 rfl, _, List.mem_singleton.2 rfl, [], by rw [hs], rfl⟩
      · rintro (⟨_, h⟩ | ⟨f, hf, l, hl, v, rfl, hp⟩)
        · cases h
        · rw [List.mem_singleton.1 hf, hs]
          cases v with
          | nil => rfl
          | cons s v => obtain ⟨x, hx, _⟩ := hp; cases hx
  · have h1 : k = 4 ∨ k = 5 := h1
    rw [if_neg (by omega), if_neg (by omega)]
    rcases h1 with rfl | rfl
    · obtain ⟨ext, new, g1, g2, g3⟩ := gluK_seq ts hk ⟨true, [], []⟩ (fun w => w = []) st.2 [] st st.1.length (by rw [List.append_nil]) (fun S r hS => one_ok)
      refine ⟨ext, new, by rw [if_neg (by omega)]; exact g1, g2, fun S r hS => ?_⟩
      obtain ⟨c1, c2⟩ := g3 S r hS
      rw [List.nil_append] at c1 c2
      have e : (⟨(gluK leaf 4 ts ⟨decide (4 = 1) || decide (4 = 4), [], []⟩ st).1.emp || (decide (4 = 6) || decide (4 = 8)), (gluK leaf 4 ts ⟨decide (4 = 1) || decide (4 = 4), [], []⟩ st).1.first, (gluK leaf 4 ts ⟨decide (4 = 1) || decide (4 = 4), [], []⟩ st).1.last⟩ : PtD) = (gluK leaf 4 ts ⟨true, [], []⟩ st).1 := by
        show (⟨(gluK leaf 4 ts ⟨true, [], []⟩ st).1.emp || false, _, _⟩ : PtD) = _
        rw [Bool.or_false]
        rfl
      rw [e]
      refine ⟨c1, fun w => ?_⟩
      rw [← c2 w, Lg, if_neg (by omega), if_neg (by omega), if_pos rfl]
      constructor
      · intro h; exact ⟨[], w, rfl, rfl, h⟩
      · rintro ⟨u, v, rfl, rfl, h⟩; exact h
    · obtain ⟨ext, new, g1, g2, g3⟩ := alt (by omega)
      refine ⟨ext, new, by rw [if_neg (by omega)]; exact g1, g2, fun S r hS => ?_⟩
      obtain ⟨c1, c2⟩ := g3 S r hS
      rw [List.nil_append] at c1 c2
      have e : (⟨(gluK leaf 5 ts ⟨decide (5 = 1) || decide (5 = 4), [], []⟩ st).1.emp || (decide (5 = 6) || decide (5 = 8)), (gluK leaf 5 ts ⟨decide (5 = 1) || decide (5 = 4), [], []⟩ st).1.first, (gluK leaf 5 ts ⟨decide (5 = 1) || decide (5 = 4), [], []⟩ st).1.last⟩ : PtD) = (gluK leaf 5 ts ⟨false, [], []⟩ st).1 := by
        show (⟨(gluK leaf 5 ts ⟨false, [], []⟩ st).1.emp || false, _, _⟩ : PtD) = _
        rw [Bool.or_false]
        rfl
      rw [e]
      refine ⟨c1, fun w => ?_⟩
      rw [← c2 w, Lg, if_neg (by omega), if_neg (by omega), if_neg (by omega), if_pos rfl, false_or]
  · have h1 : k = 6 ∨ k = 7 ∨ k = 8 := h1
    rw [if_neg (by omega), if_neg (by omega)]
    obtain ⟨ext, new, g1, g2, g3⟩ := alt (by omega)
    have ed : (decide (k = 1) || decide (k = 4)) = false := by rw [decide_eq_false (by omega), decide_eq_false (by omega)]; rfl
    rw [ed]
    have hfst : ∀ q ∈ (gluK leaf k ts ⟨false, [], []⟩ st).1.first, 0 < q ∧ q ≤ (st.1 ++ ext).length := fun q hq => by
      have := (g3 _ [] rfl).1.fst q hq
      rw [List.length_append, g2]
      omega
    generalize (gluK leaf k ts ⟨false, [], []⟩ st).1 = pt at *
    rw [g1]
    have hj : ∀ S r, S = (st.1 ++ ext) ++ r → joinA (st.1 ++ ext) pt.last pt.first = joinA S pt.last pt.first := fun S r hS => by rw [hS, joinA_app hfst]
    simp only [List.nil_append, false_or] at g3
    rcases h1 with rfl | rfl | rfl
    · refine ⟨ext, new ++ joinA (st.1 ++ ext) pt.last pt.first, by rw [if_pos (.inl rfl)]; simp only [List.append_assoc], g2, fun S r hS => ?_⟩
      obtain ⟨c1, c2⟩ := g3 S r hS
      rw [hj S r hS]
      have e : (⟨pt.emp || (decide (6 = 6) || decide (6 = 8)), pt.first, pt.last⟩ : PtD) = ⟨true, pt.first, pt.last⟩ := by show (⟨pt.emp || true, _, _⟩ : PtD) = _; rw [Bool.or_true]
      rw [e]
      have lo := loop_ok c1
      refine ⟨⟨lo.le, lo.fst, lo.lst, lo.nf, lo.nl, lo.arc⟩, fun w => ?_⟩
      rw [star_acc, Lg, if_neg (by omega), if_neg (by omega), if_neg (by omega), if_neg (by omega), if_pos rfl]
      exact many_congr2 c2 w
    · refine ⟨ext, new ++ joinA (st.1 ++ ext) pt.last pt.first, by rw [if_pos (.inr rfl)]; simp only [List.append_assoc], g2, fun S r hS => ?_⟩
      obtain ⟨c1, c2⟩ := g3 S r hS
      rw [hj S r hS]
      have e : (⟨pt.emp || (decide (7 = 6) || decide (7 = 8)), pt.first, pt.last⟩ : PtD) = pt := by show (⟨pt.emp || false, _, _⟩ : PtD) = _; rw [Bool.or_false]
      rw [e]
      refine ⟨loop_ok c1, fun w => ?_⟩
      rw [plus_acc, Lg, if_neg (by omega), if_neg (by omega), if_neg (by omega), if_neg (by omega), if_neg (by omega), if_pos rfl]
      exact plus_congr c2 w
    · refine ⟨ext, new, by rw [if_neg (by omega)], g2, fun S r hS => ?_⟩
      obtain ⟨c1, c2⟩ := g3 S r hS
      have e : (⟨pt.emp || (decide (8 = 6) || decide (8 = 8)), pt.first, pt.last⟩ : PtD) = ⟨true, pt.first, pt.last⟩ := by show (⟨pt.emp || true, _, _⟩ : PtD) = _; rw [Bool.or_true]
      rw [e]
      refine ⟨⟨c1.le, c1.fst, c1.lst, c1.nf, c1.nl, c1.arc⟩, fun w => ?_⟩
      rw [opt_acc, Lg, if_neg (by omega), if_neg (by omega), if_neg (by omega), if_neg (by omega), if_neg (by omega), if_neg (by omega), c2 w]
end
end Go.Proofs.YtbconcohpfkncaaGreat
namespace Go.Proofs.YtbconcohpfkncaaGreat
open Go
/-- The occurrences, each with its place. -/
def namesL : Nat → List NodeD → List (Nat × List UInt8)
  | _, [] => []
  | i, m :: r => if m.kind = 2 ∨ m.kind = 3 then (i, m.name) :: namesL (i + 1) r else namesL (i + 1) r
def occF (l : List NodeD) : Nat := (namesL 0 l).length
def occA (p : Nat × List UInt8) : List Value := [i64 (p.1 : Nat), str p.2]
theorem namesL_le : ∀ (i : Nat) (l : List NodeD), (namesL i l).length ≤ l.length
  | _, [] => by simp [namesL]
  | i, m :: r => by
    have := namesL_le (i + 1) r
    unfold namesL
    split
    · rw [List.length_cons, List.length_cons]; omega
    · rw [List.length_cons]; omega
attribute [local irreducible] G GO GR GT Fn FnX FnV FnXV Dfr pt init exs pur sat own ImpS mayN
set_option maxHeartbeats 8000000 in
theorem cloneN_spec (q : HP) (v : Value) (l : List NodeD) (hq : NodesR q v l) (hl : ¬ 1048576 < l.length) : Fn Tryz.prog 25 #[v] [q] (fun r Q => Q = [own 78 3 l.length r (nodesV l), q]) := by
  have hsl := hq.sl
  obtain ⟨a, cap, rfl⟩ := nodes_sl hq
  refine Fn.mk2 Tryz.func25 rfl rfl fun w0 F => ?_
  refine G.ownNil (T := 78) (sz := 3) ?_
  refine .seq (.region (.assign rfl rfl (.nil (kthen_n (.seq (.seq (.region (.move rfl rfl (.eqNilS rfl rfl (.nil (kthen_n ?_)))))))))))
  cases a with
  | none =>
    have hss : l = [] := by
      obtain ⟨a', cap', e, _, _, hr⟩ := hq
      injection e with e1 _ _
      subst e1
      cases l with
      | nil => rfl
      | cons s ss => obtain ⟨b, o, h, _⟩ := hr (by simp); cases h
    subst hss
    refine .condT rfl rfl (.seq (.region (.assign rfl rfl (.nil (kthen_n (.ret (kthen_r ?_)))))))
    refine KF2.r1 rfl (RV.t rfl) rfl (ImpS.sb ?_)
    exact .c .h (.c .h .r)
  | some a =>
    refine .condF rfl rfl (.skip (kthen_n (.seq (.region ?_))))
    refine GO.buildSlice0 rfl fun v5 => ?_
    refine .move rfl rfl ?_
    refine GO.appendFrom (m := l.length) (q := q) rfl rfl rfl Tk.h (Tk.t Tk.h) hsl (nodesV_one _) ⟨by decide, rfl⟩ (by unfold maxLen; omega) (by omega) fun v7 => ?_
    rw [List.nil_append, Nat.zero_add l.length]
    refine .assign rfl rfl (.nil (kthen_n (.ret ?_)))
    refine KF2.r1 rfl (RV.t rfl) rfl (ImpS.sb ?_)
    exact .c .h (.c (.t .h) (.s .r))
set_option maxHeartbeats 8000000 in
theorem Names_spec (q : HP) (v : Value) (l : List NodeD) (hq : NodesR q v l) (hl : ¬ 1048576 < l.length) : Fn Tryz.prog 93 #[v] [q] (fun r Q => ∃ bx z w, NodesR z w l ∧ r = .func (.func 117) #[] #[ptrV bx] ∧ Q = [pt bx (row [w] 39), z, q]) := by
  obtain ⟨a, cap, rfl⟩ := nodes_sl hq
  refine Fn.mk2 Tryz.func93 rfl rfl fun w0 F => ?_
  refine .seq (.region (.box rfl rfl rfl fun b1 => .assign rfl rfl (.nil (kthen_n (.seq (.region (.load1 rfl rfl rfl .h rfl ?_)))))))
  refine GO.call1 rfl rfl (cloneN_spec q (.slice a l.length cap) l hq hl) (Tks.c (Tk.t Tk.h) Tks.n) ?_
  rintro r _ rfl
  refine GO.ownRdK Tk.h fun z hz => ?_
  obtain ⟨a2, cap2, rfl⟩ := nodes_sl hz
  refine .store1 rfl rfl rfl (.t (.t .h)) (by simp) (.nil (kthen_n (.seq (.region (.makeFunc1 rfl rfl (.assign rfl rfl (.nil (kthen_n (.ret ?_)))))))))
  refine KF2.r1 rfl (RV.t rfl) ⟨_, z, _, hz, rfl, rfl⟩ (ImpS.sb ?_)
  exact .c .h (.c .h (.c .h .r))
end Go.Proofs.YtbconcohpfkncaaGreat
namespace Go.Proofs.YtbconcohpfkncaaGreat
open Go
theorem namesL_cons (i : Nat) (m : NodeD) (r : List NodeD) : namesL i (m :: r) = if m.kind = 2 ∨ m.kind = 3 then (i, m.name) :: namesL (i + 1) r else namesL (i + 1) r := rfl
theorem namesL_drop {l : List NodeD} {j i : Nat} {p : Nat × List UInt8} {t : List (Nat × List UInt8)} (h : (namesL 0 l).drop j = p :: t) : (namesL 0 l)[j]? = some p ∧ (namesL 0 l).drop (j + 1) = t := by
  have h1 : (namesL 0 l)[j]? = some p := by
    have := congrArg (·[0]?) h
    simpa [List.getElem?_drop] using this
  refine ⟨h1, ?_⟩
  rw [drop_at h1] at h
  exact (List.cons.injEq _ _ _ _ ▸ h).2
attribute [local irreducible] G GO GR GT Fn FnX FnV FnXV Dfr pt init exs pur sat own ImpS mayN
set_option maxHeartbeats 16000000 in
theorem names1_spec (z : HP) (v : Value) (l : List NodeD) (hz : NodesR z v l) (hl : ¬ 1048576 < l.length) (bx : Nat) (y : Value) (J S : Nat → HP)
    (hy : ∀ i u, ((namesL 0 l).map occA)[i]? = some u → FnV Tryz.prog y u [J i] (fun v Q => (v = .bool true ∧ Q = [J (i + 1)]) ∨ (v = .bool false ∧ Q = [S i]))) :
    Fn Tryz.prog 117 #[y, ptrV bx] [J 0, pt bx (row [v] 39), z] (fun _ Q => Q = [J (namesL 0 l).length, pt bx (row [v] 39), z] ∨ ∃ i, i < (namesL 0 l).length ∧ Q = [S i, pt bx (row [v] 39), z]) := by
  have hrd : ∀ i m, l[i]? = some m → _ := fun i m h => nodes_rd hz h
  obtain ⟨a, cap, rfl⟩ := nodes_sl hz
  refine Fn.mk2 Tryz.func117 rfl rfl fun w0 F => ?_
  refine .seq (.region (.load1 rfl rfl rfl (.t .h) rfl (.lenS rfl rfl (.move rfl rfl (.nil (kthen_n (.block ?_)))))))
  refine G.loopI (σ := Nat × Nat) (fun s => [(0, y), (1, ptrV bx), (5, .slice a l.length cap), (6, i64 (l.length : Nat)), (7, i64 (s.1 : Nat))]) (fun s => J s.2 :: pt bx (row [.slice a l.length cap] 39) :: z :: F) (fun s => s.1 ≤ l.length ∧ s.2 ≤ (namesL 0 l).length ∧ (namesL 0 l).drop s.2 = namesL s.1 (l.drop s.1)) (fun s => l.length - s.1) (0, 0) ⟨Nat.zero_le _, Nat.zero_le _, rfl⟩ ?_ ?_ ?_
  · exact .c rfl rfl (.c rfl rfl (.c rfl rfl (.c rfl rfl (.c rfl rfl .n))))
  · refine ImpS.sb ?_
    exact .c .h (.c .h (.c .h .r))
  rintro ⟨i, j⟩ ⟨hi, hj, hd⟩
  dsimp only at hi hj hd ⊢
  (refine G.seq ?_; refine G.region ?_; refine GO.lti rfl rfl rfl ?_; refine GO.nil ?_; refine kthen_n ?_; refine G.seq ?_)
  by_cases hlt : i < l.length
  · have d1 : decide ((i : Int) < (l.length : Int)) = true := decide_eq_true (by omega)
    obtain ⟨m, hm⟩ : ∃ m, l[i]? = some m := ⟨_, List.getElem?_eq_getElem hlt⟩
    obtain ⟨b, o, cap2, e, _, rm⟩ := hrd i m hm
    injection e with e _ e2
    subst e e2
    rw [drop_at hm, namesL_cons] at hd
    (refine G.condT rfl (by assumption) ?_; refine G.skip ?_; refine kthen_n ?_; refine G.seq ?_; refine G.block ?_; refine G.seq ?_; refine G.region ?_; refine GO.move rfl rfl ?_; refine GO.idxS rfl rfl rfl ⟨rfl, by omega⟩ ?_)
    refine GO.loadM (vs := [i64 (m.kind : Nat), str m.name, i64 (m.kids : Nat)]) rfl rfl rfl (Tk.t (Tk.t Tk.h)) rfl rm ?_
    (refine GO.alloc rfl fun b4 => ?_; refine GO.assign rfl rfl ?_; refine GO.storeW rfl rfl Tk.h ⟨rfl, rfl⟩ (by simp [Value.oneCell']) ?_; refine GO.nil ?_; refine kthen_n ?_; refine G.seq ?_; refine G.region ?_; refine GO.fieldAddr rfl rfl ?_; refine GO.load1 rfl rfl rfl Tk.h rfl ?_; refine GO.eqi rfl rfl rfl ?_; refine GO.move rfl rfl ?_)
    by_cases hk : m.kind = 2 ∨ m.kind = 3
    · rw [if_pos hk] at hd
      obtain ⟨h1, h2⟩ := namesL_drop (i := i) hd
      have hyi := hy j _ (by rw [List.getElem?_map, h1]; rfl)
      have hjl := (List.getElem?_eq_some_iff.1 h1).1
      rcases Decidable.em (m.kind = 2) with hk2 | hk2
      · have d2 : decide ((m.kind : Int) = 2) = true := decide_eq_true (by omega)
        refine .gF rfl rfl rfl (by assumption) (.gF rfl rfl rfl (by assumption) (.gF rfl rfl rfl (by assumption) (.pickTa rfl rfl (by assumption) rfl (.move rfl rfl (.gT rfl rfl rfl (.move rfl rfl (.gT rfl rfl rfl (.move rfl rfl (.gT rfl rfl rfl (.fieldAddr rfl rfl (.gT rfl rfl rfl (.load1 rfl rfl rfl .h rfl (.gT rfl rfl rfl ?_)))))))))))))
        refine GO.callV2 rfl rfl rfl rfl (hyi) (Tks.c (Tk.t Tk.h) Tks.n) ?_
        rintro _ _ (⟨rfl, rfl⟩ | ⟨rfl, rfl⟩)
        · refine .gT rfl rfl rfl (.not rfl rfl (.pickT rfl rfl rfl (.nil (kthen_n (.condF rfl rfl (.skip (kblock_n (kthen_n (.region (.addi rfl rfl rfl (by omega) (.move rfl rfl (.nil (kthen_n ?_)))))))))))))
          refine ⟨(i + 1, j + 1), ⟨hlt, hjl, h2⟩, by dsimp only; omega, ?_, ImpS.sb ?_⟩
          · exact .c rfl rfl (.c rfl rfl (.c rfl rfl (.c rfl rfl (.c rfl rfl .n))))
          · exact .c .h (.c (.t .h) (.c (.t .h) (.s .r)))
        · refine .gT rfl rfl rfl (.not rfl rfl (.pickT rfl rfl rfl (.nil (kthen_n (.condT rfl rfl (.ret (kblock_r (kthen_r (kthen_r (kblock_r ?_))))))))))
          refine KF2.r0 rfl (.inr ⟨j, hjl, rfl⟩) (ImpS.sb ?_)
          exact .c .h (.c (.t .h) (.c (.t .h) (.s .r)))
      · have d2 : decide ((m.kind : Int) = 2) = false := decide_eq_false (by omega)
        have d3 : decide ((m.kind : Int) = 3) = true := decide_eq_true (by omega)
        (refine .gT rfl rfl (by assumption) (.fieldAddr rfl rfl (.gT rfl rfl (by assumption) (.load1 rfl rfl rfl .h rfl (.gT rfl rfl (by assumption) (.eqi rfl rfl rfl (.pickFa rfl rfl (by assumption) rfl (.move rfl rfl (.gT rfl rfl (by assumption) (.move rfl rfl (.gT rfl rfl (by assumption) (.move rfl rfl (.gT rfl rfl (by assumption) (.fieldAddr rfl rfl (.gT rfl rfl (by assumption) (.load1 rfl rfl rfl .h rfl ?_))))))))))))))); refine .gT rfl rfl (by assumption) ?_)
        refine GO.callV2 rfl rfl rfl rfl (hyi) (Tks.c (Tk.t Tk.h) Tks.n) ?_
        rintro _ _ (⟨rfl, rfl⟩ | ⟨rfl, rfl⟩)
        · refine .gT rfl rfl (by assumption) (.not rfl rfl (.pickTa rfl rfl (by assumption) rfl (.nil (kthen_n (.condF rfl rfl (.skip (kblock_n (kthen_n (.region (.addi rfl rfl rfl (by omega) (.move rfl rfl (.nil (kthen_n ?_)))))))))))))
          refine ⟨(i + 1, j + 1), ⟨hlt, hjl, h2⟩, by dsimp only; omega, ?_, ImpS.sb ?_⟩
          · exact .c rfl rfl (.c rfl rfl (.c rfl rfl (.c rfl rfl (.c rfl rfl .n))))
          · exact .c .h (.c (.t .h) (.c (.t .h) (.s .r)))
        · refine .gT rfl rfl (by assumption) (.not rfl rfl (.pickTa rfl rfl (by assumption) rfl (.nil (kthen_n (.condT rfl rfl (.ret (kblock_r (kthen_r (kthen_r (kblock_r ?_))))))))))
          refine KF2.r0 rfl (.inr ⟨j, hjl, rfl⟩) (ImpS.sb ?_)
          exact .c .h (.c (.t .h) (.c (.t .h) (.s .r)))
    · rw [if_neg hk] at hd
      have d2 : decide ((m.kind : Int) = 2) = false := decide_eq_false (by omega)
      have d3 : decide ((m.kind : Int) = 3) = false := decide_eq_false (by omega)
      (refine .gT rfl rfl (by assumption) (.fieldAddr rfl rfl (.gT rfl rfl (by assumption) (.load1 rfl rfl rfl .h rfl (.gT rfl rfl (by assumption) (.eqi rfl rfl rfl (.pickFa rfl rfl (by assumption) rfl (.move rfl rfl (.gF rfl rfl rfl (by assumption) (.gF rfl rfl rfl (by assumption) (.gF rfl rfl rfl (by assumption) (.gF rfl rfl rfl (by assumption) (.gF rfl rfl rfl (by assumption) (.gF rfl rfl rfl (by assumption) (.pickFa rfl rfl (by assumption) rfl (.nil ?_))))))))))))))); refine kthen_n (.condF rfl rfl (.skip (kblock_n (kthen_n (.region (.addi rfl rfl rfl (by omega) (.move rfl rfl (.nil (kthen_n ?_))))))))))
      refine ⟨(i + 1, j), ⟨hlt, hj, hd⟩, by dsimp only; omega, ?_, ImpS.sb ?_⟩
      · exact .c rfl rfl (.c rfl rfl (.c rfl rfl (.c rfl rfl (.c rfl rfl .n))))
      · exact .c (.t .h) (.c (.t .h) (.c (.t .h) (.s .r)))
  · have d1 : decide ((i : Int) < (l.length : Int)) = false := decide_eq_false (by omega)
    rw [List.drop_eq_nil_of_le (show l.length ≤ i by omega)] at hd
    have hjl : j = (namesL 0 l).length := by
      have := congrArg List.length hd
      rw [List.length_drop] at this
      simp only [namesL, List.length_nil] at this
      omega
    subst hjl
    refine .condF rfl (by assumption) (.exit (kthen_x (kthen_x (kblock_x ?_))))
    refine KF2.n0 rfl (.inl rfl) (ImpS.sb ?_)
    exact .c .h (.c .h (.c .h .r))
theorem names_seq (z : HP) (v : Value) (l : List NodeD) (hz : NodesR z v l) (hl : ¬ 1048576 < l.length) (bx : Nat) : SeqOK Tryz.prog (.func (.func 117) #[] #[ptrV bx]) ((namesL 0 l).map occA) [] [pt bx (row [v] 39), z] :=
  SeqOK.of1 (caps := #[ptrV bx]) fun y J S hy => by rw [List.length_map]; exact names1_spec z v l hz hl bx y J S hy
set_option maxHeartbeats 16000000 in
theorem Occ_spec (q : HP) (v : Value) (l : List NodeD) (hq : NodesR q v l) (hl : ¬ 1048576 < l.length) : Fn Tryz.prog 48 #[v] [q] (fun r Q => r = i64 (occF l : Nat) ∧ Q = [q]) := by
  have hn := namesL_le 0 l
  unfold occF
  refine Fn.mk2 Tryz.func48 rfl rfl fun w0 F => ?_
  refine .seq (.region (.assign rfl rfl (.nil (kthen_n (.seq (.region (.alloc rfl fun b3 => .store1 rfl rfl rfl .h (by decide) (.nil (kthen_n (.seq (.seq (.region (.move rfl rfl ?_)))))))))))))
  refine GO.call1 rfl rfl (Names_spec q v l hq hl) (Tks.c (Tk.t Tk.h) Tks.n) ?_
  rintro _ _ ⟨bx, z, w, hz, rfl, rfl⟩
  refine .nil (kthen_n (.block ?_))
  refine G.rangeF (F := q :: F) (psl := [6, 7]) (v := .func (.func 117) #[] #[ptrV bx]) (xs := (namesL 0 l).map occA) (Sh := []) (Gm := [pt bx (row [w] 39), z])
    (fun i => [pt b3 (row [i64 (i : Nat)] 3)])
    (fun _ _ => [pur False]) (fun _ h => by cases h) rfl (fun u hu => by obtain ⟨p, _, rfl⟩ := List.mem_map.1 hu; rfl) rfl (names_seq z w l hz hl bx) ?_ (fun lp Lr Lb w1 F1 i u hu => ?_) ?_ ?_
  · exact .c (.t (.t (.t .h))) .n
  · obtain ⟨m, hm, rfl⟩ : ∃ m, (namesL 0 l)[i]? = some m ∧ u = occA m := by
      rw [List.getElem?_map] at hu
      cases hc : (namesL 0 l)[i]? with
      | none => simp [hc] at hu
      | some p => simp [hc] at hu; exact ⟨p, rfl, hu.symm⟩
    have hil := (List.getElem?_eq_some_iff.1 hm).1
    change G _ _ _ _ ((7, str m.2) :: (6, i64 (m.1 : Nat)) :: _) (pt b3 (row [i64 (i : Nat)] 3) :: F1)
    refine .skip ?_
    refine kA_n ?_
    refine .block (.region (.load1 rfl rfl rfl .h rfl (.addi rfl rfl rfl (by omega) (.store1 rfl rfl rfl .h (by simp) (.nil (kblock_n ?_))))))
    refine kB_n (ImpS.sb ?_)
    exact .c .h .r
  · rw [List.length_map]
    refine kblock_n (kthen_n (.seq (.region (.load1 rfl rfl rfl .h rfl (.assign rfl rfl (.nil (kthen_n (.ret ?_))))))))
    refine KF2.r1 rfl (RV.t rfl) ⟨rfl, rfl⟩ (ImpS.sb ?_)
    exact .c (.t (.t (.t .h))) (.s (.s (.s .r)))
  · intro i jc hi
    exact G.pur fun h => h.elim
end Go.Proofs.YtbconcohpfkncaaGreat
namespace Go.Proofs.YtbconcohpfkncaaGreat
open Go
/-- A rule: its head, its body. -/
structure RuleD where
  head : List UInt8
  body : List NodeD
  deriving DecidableEq
def stopB (m : MarkD) : Bool := decide ((m.kind : Int) ≠ 5) && decide ((m.kind : Int) ≠ 4)
/-- The first mark from the k-th on that is a stop. -/
def stopN (ms : List MarkD) (k : Nat) : Nat := k + ((ms.drop k).takeWhile stopB).length
def takeF (ms : List MarkD) (e kd k : Nat) : Except Nat (List UInt8 × Nat) := match ms[k]? with
  | some m => if m.kind = kd then .ok (m.text, k + 1) else .error m.place
  | none => .error e
def bodyF (s : List UInt8) (ms : List MarkD) (e k : Nat) : Except Nat (List NodeD × Nat) :=
  match readF ((s.drop (placeAt ms e k)).take (placeAt ms e (stopN ms k) - placeAt ms e k)) with
  | (l, at', er) => if er = 0 then .ok (l, stopN ms k) else if at' = placeAt ms e (stopN ms k) - placeAt ms e k then .error (placeAt ms e (stopN ms k)) else .error (placeAt ms e k + at')
def ruleF (s : List UInt8) (ms : List MarkD) (e k : Nat) : Except Nat (RuleD × Nat) := match takeF ms e 1 k with
  | .error p => .error p
  | .ok (h, k1) => match takeF ms e 4 k1 with
    | .error p => .error p
    | .ok (_, k2) => match bodyF s ms e k2 with
      | .error p => .error p
      | .ok (b, k3) => match takeF ms e 5 k3 with
        | .error p => .error p
        | .ok (_, k4) => .ok (⟨h, b⟩, k4)
def rulesF (s : List UInt8) (ms : List MarkD) (e : Nat) : Nat → List RuleD → Nat → Except Nat (List RuleD)
  | 0, out, _ => .ok out
  | f + 1, out, k => if out = [] ∨ k < ms.length then match ruleF s ms e k with
    | .error p => .error p
    | .ok (r, k') => rulesF s ms e f (out ++ [r]) k'
    else .ok out
/-- Places of marks: rising, within the text. -/
def PlacesOK (s : List UInt8) (ms : List MarkD) (e : Nat) : Prop := ∀ k k', k ≤ k' → placeAt ms e k ≤ placeAt ms e k' ∧ placeAt ms e k' ≤ s.length
theorem placesOK (s : List UInt8) : PlacesOK s (marksF s) (badF s) := fun k k' h => by
  refine ⟨?_, placeAt_le s k'⟩
  by_cases hk : k < (marksF s).length
  · have hpl := placeAt_le s k
    obtain ⟨h1, h2⟩ := scan_from s (s.length + 1) 0 k (s.length + 1) (Nat.zero_le _) (by omega) hk (by omega)
    have h3 := scan_ge s (s.length + 1) (placeAt (marksF s) (badF s) k) (k' - k) hpl (by omega)
    change scanL s (s.length + 1) (placeAt (marksF s) (badF s) k) = (marksF s).drop k at h1
    change scanE s (s.length + 1) (placeAt (marksF s) (badF s) k) = badF s at h2
    rw [h1, h2] at h3
    have : placeAt ((marksF s).drop k) (badF s) (k' - k) = placeAt (marksF s) (badF s) k' := by
      unfold placeAt
      rw [List.getElem?_drop, show k + (k' - k) = k' by omega]
    rw [this] at h3
    exact h3.1
  · rw [placeAt_none (by omega), placeAt_none (by omega)]
    exact Nat.le_refl _
theorem stopN_le (ms : List MarkD) {k : Nat} (hk : k ≤ ms.length) : k ≤ stopN ms k ∧ stopN ms k ≤ ms.length := by
  unfold stopN
  have := List.IsPrefix.length_le (List.takeWhile_prefix stopB (l := ms.drop k))
  rw [List.length_drop] at this
  omega
theorem stopN_end {ms : List MarkD} {k : Nat} (hk : ms.length ≤ k) : stopN ms k = k := by
  unfold stopN
  rw [List.drop_eq_nil_of_le hk]; rfl
theorem stopN_go {ms : List MarkD} {k : Nat} {m : MarkD} (h : ms[k]? = some m) : stopN ms k = if stopB m = true then stopN ms (k + 1) else k := by
  unfold stopN
  rw [drop_at h, List.takeWhile_cons]
  split
  · rw [List.length_cons]; omega
  · rfl
theorem takeF_ok {ms : List MarkD} {e kd k : Nat} {t : List UInt8} {k' : Nat} (h : takeF ms e kd k = .ok (t, k')) : ∃ m, ms[k]? = some m ∧ m.kind = kd ∧ t = m.text ∧ k' = k + 1 ∧ k' ≤ ms.length := by
  unfold takeF at h
  split at h
  · rename_i m hm
    split at h
    · cases h
      have := (List.getElem?_eq_some_iff.1 hm).1
      exact ⟨m, hm, by assumption, rfl, rfl, by omega⟩
    · cases h
  · cases h
theorem bodyF_ok {s : List UInt8} {ms : List MarkD} {e k : Nat} {l : List NodeD} {k' : Nat} (h : bodyF s ms e k = .ok (l, k')) : k' = stopN ms k ∧ ∃ a, readF ((s.drop (placeAt ms e k)).take (placeAt ms e (stopN ms k) - placeAt ms e k)) = (l, a, 0) := by
  unfold bodyF at h
  split at h
  rename_i l' a er hr
  split at h
  · rename_i h0
    cases h
    subst h0
    exact ⟨rfl, a, hr⟩
  · split at h <;> cases h
theorem ruleF_ok {s : List UInt8} {ms : List MarkD} {e k : Nat} {r : RuleD} {k' : Nat} (h : ruleF s ms e k = .ok (r, k')) :
    ∃ k3, takeF ms e 1 k = .ok (r.head, k + 1) ∧ (∃ t, takeF ms e 4 (k + 1) = .ok (t, k + 2)) ∧ bodyF s ms e (k + 2) = .ok (r.body, k3) ∧ (∃ t, takeF ms e 5 k3 = .ok (t, k')) ∧ k3 = stopN ms (k + 2) ∧ k' = k3 + 1 ∧ k + 2 ≤ k3 ∧ k' ≤ ms.length := by
  unfold ruleF at h
  split at h
  · cases h
  rename_i h0 k1 e1
  split at h
  · cases h
  rename_i t2 k2 e2
  split at h
  · cases h
  rename_i b k3 e3
  split at h
  · cases h
  rename_i t4 k4 e4
  cases h
  obtain ⟨m1, g1, _, _, rfl, _⟩ := takeF_ok e1
  obtain ⟨m2, g2, _, _, rfl, h2⟩ := takeF_ok e2
  obtain ⟨rfl, _⟩ := bodyF_ok e3
  obtain ⟨m4, g4, _, _, rfl, h4⟩ := takeF_ok e4
  exact ⟨_, e1, ⟨_, e2⟩, e3, ⟨_, e4⟩, rfl, rfl, (stopN_le ms h2).1, h4⟩
end Go.Proofs.YtbconcohpfkncaaGreat
namespace Go.Proofs.YtbconcohpfkncaaGreat
open Go
/-- The reader of grammars: at the k-th mark; e: the place behind all. -/
abbrev rbP (br : Nat) (s : List UInt8) (v : Value) (e k : Nat) : HP := pt br (row [str s, v, i64 (k : Nat), i64 (e : Nat)] 56)
/-- Given up at a place. -/
abbrev wrongB (i : Nat) : Value := .iface 49 (.agg [i64 (i : Nat)].toArray)
attribute [local irreducible] G GO GR GT Fn FnX FnV FnXV Dfr pt init exs pur sat own ImpS kAt placeAt stopN
set_option maxHeartbeats 8000000 in
theorem place_spec (q : HP) (v : Value) (ms : List MarkD) (hq : MarksR q v ms) (br e k : Nat) (s : List UInt8) (hk : k ≤ ms.length) : Fn Tryz.prog 68 #[ptrV br] [rbP br s v e k, q] (fun r Q => r = i64 (placeAt ms e k : Nat) ∧ Q = [rbP br s v e k, q]) := by
  by_cases hlt : k < ms.length
  · obtain ⟨m, hm⟩ : ∃ m, ms[k]? = some m := ⟨_, List.getElem?_eq_getElem hlt⟩
    obtain ⟨b, o, cap, rfl, _, r1, _⟩ := marks_rd hq hm
    rw [placeAt_some hm]
    have e1 : decide ((ms.length : Int) ≤ (k : Int)) = false := decide_eq_false (by omega)
    clear hq
    refine Fn.mk2 Tryz.func68 rfl rfl fun w0 F => ?_
    refine .seq (.region (.assign rfl rfl (.nil (kthen_n (.seq (.seq ?_))))))
    refine G.draw 10 (by kernel_rfl) ?_
    refine .step (fun _ => .move rfl rfl KQ.z) (.step (fun _ => .nilCheck rfl rfl KQ.z) (.step (fun _ => .fieldAddr rfl rfl KQ.z) (.step (fun _ => .load1 rfl rfl rfl .h rfl KQ.z) (.step (fun _ => .move rfl rfl KQ.z) (.step (fun _ => .nilCheck rfl rfl KQ.z) (.step (fun _ => .fieldAddr rfl rfl KQ.z) (.step (fun _ => .load1 rfl rfl rfl .h rfl KQ.z) (.step (fun _ => .lenS rfl rfl KQ.z) (.step (fun _ => .gei rfl rfl rfl KQ.z) (.nil ?_))))))))))
    refine .nil (kthen_n (.condF rfl (by assumption) (.skip (kthen_n (.seq ?_)))))
    refine G.draw 11 (by kernel_rfl) ?_
    refine .step (fun _ => .move rfl rfl KQ.z) (.step (fun _ => .nilCheck rfl rfl KQ.z) (.step (fun _ => .fieldAddr rfl rfl KQ.z) (.step (fun _ => .load1 rfl rfl rfl .h rfl KQ.z) (.step (fun _ => .move rfl rfl KQ.z) (.step (fun _ => .nilCheck rfl rfl KQ.z) (.step (fun _ => .fieldAddr rfl rfl KQ.z) (.step (fun _ => .load1 rfl rfl rfl .h rfl KQ.z) (.step (fun _ => .idxS rfl rfl rfl ⟨rfl, by omega⟩ KQ.z) (.step (fun _ => .fieldAddr rfl rfl KQ.z) (.step (fun _ => .loadQ rfl rfl rfl (.t .h) (by assumption) KQ.z) (.nil ?_)))))))))))
    refine .assign rfl rfl (.nil (kthen_n (.ret ?_)))
    refine KF2.r1 rfl (RV.t rfl) ⟨rfl, rfl⟩ (ImpS.sb ?_)
    exact .c .h (.c .h .r)
  · obtain rfl : k = ms.length := by omega
    obtain ⟨a, cap, rfl⟩ := marks_sl hq
    rw [placeAt_none (Nat.le_refl _)]
    have e1 : decide ((ms.length : Int) ≤ (ms.length : Int)) = true := decide_eq_true (Int.le_refl _)
    clear hq
    refine Fn.mk2 Tryz.func68 rfl rfl fun w0 F => ?_
    refine .seq (.region (.assign rfl rfl (.nil (kthen_n (.seq (.seq ?_))))))
    refine G.draw 10 (by kernel_rfl) ?_
    refine .step (fun _ => .move rfl rfl KQ.z) (.step (fun _ => .nilCheck rfl rfl KQ.z) (.step (fun _ => .fieldAddr rfl rfl KQ.z) (.step (fun _ => .load1 rfl rfl rfl .h rfl KQ.z) (.step (fun _ => .move rfl rfl KQ.z) (.step (fun _ => .nilCheck rfl rfl KQ.z) (.step (fun _ => .fieldAddr rfl rfl KQ.z) (.step (fun _ => .load1 rfl rfl rfl .h rfl KQ.z) (.step (fun _ => .lenS rfl rfl KQ.z) (.step (fun _ => .gei rfl rfl rfl KQ.z) (.nil ?_))))))))))
    refine .nil (kthen_n (.condT rfl (by assumption) (.seq (.region (.move rfl rfl (.nilCheck rfl rfl (.fieldAddr rfl rfl (.load1 rfl rfl rfl .h rfl (.assign rfl rfl (.nil (kthen_n (.ret (kthen_r ?_)))))))))))))
    refine KF2.r1 rfl (RV.t rfl) ⟨rfl, rfl⟩ (ImpS.sb ?_)
    exact .c .h (.c .h .r)
set_option maxHeartbeats 8000000 in
theorem take_spec (q : HP) (v : Value) (ms : List MarkD) (hq : MarksR q v ms) (br e kd k : Nat) (s : List UInt8) (hk : k ≤ ms.length) (hl : ¬ 1048576 < ms.length) : FnX Tryz.prog 36 #[ptrV br, i64 (kd : Nat)] [rbP br s v e k, q]
    (fun r Q => ∃ t k', takeF ms e kd k = .ok (t, k') ∧ r = str t ∧ Q = [rbP br s v e k', q]) (fun x Q => ∃ p, takeF ms e kd k = .error p ∧ x = wrongB p ∧ Q = []) := by
  have hpl := place_spec q v ms hq br e k s hk
  by_cases hlt : k < ms.length
  · obtain ⟨m, hm⟩ : ∃ m, ms[k]? = some m := ⟨_, List.getElem?_eq_getElem hlt⟩
    obtain ⟨b, o, cap, rfl, r0, _, r2⟩ := marks_rd hq hm
    rw [placeAt_some hm] at hpl
    have e1 : decide ((ms.length : Int) ≤ (k : Int)) = false := decide_eq_false (by omega)
    unfold takeF
    rw [hm]
    dsimp only
    clear hq
    refine FnX.mk Tryz.func36 rfl rfl fun w0 F => ?_
    refine .seq (.region (.assign rfl rfl (.nil (kthen_n (.seq (.seq ?_))))))
    refine G.draw 25 (by kernel_rfl) ?_
    (refine .step (fun _ => .move rfl rfl KQ.z) (.step (fun _ => .nilCheck rfl rfl KQ.z) (.step (fun _ => .fieldAddr rfl rfl KQ.z) (.step (fun _ => .load1 rfl rfl rfl .h rfl KQ.z) (.step (fun _ => .move rfl rfl KQ.z) (.step (fun _ => .nilCheck rfl rfl KQ.z) (.step (fun _ => .fieldAddr rfl rfl KQ.z) (.step (fun _ => .load1 rfl rfl rfl .h rfl KQ.z) (.step (fun _ => .lenS rfl rfl KQ.z) (.step (fun _ => .gei rfl rfl rfl KQ.z) (.step (fun _ => .move rfl rfl KQ.z) (.step (fun _ => .gT rfl rfl (by assumption) (.move rfl rfl KQ.z)) (.step (fun _ => .gT rfl rfl (by assumption) (.nilCheck rfl rfl KQ.z)) (.step (fun _ => .gT rfl rfl (by assumption) (.fieldAddr rfl rfl KQ.z)) (.step (fun _ => .gT rfl rfl (by assumption) (.load1 rfl rfl rfl .h rfl KQ.z)) (.step (fun _ => .gT rfl rfl (by assumption) (.move rfl rfl KQ.z)) ?_))))))))))))))); refine .step (fun _ => .gT rfl rfl (by assumption) (.nilCheck rfl rfl KQ.z)) (.step (fun _ => .gT rfl rfl (by assumption) (.fieldAddr rfl rfl KQ.z)) (.step (fun _ => .gT rfl rfl (by assumption) (.load1 rfl rfl rfl .h rfl KQ.z)) (.step (fun _ => .gT rfl rfl (by assumption) (.idxS rfl rfl rfl ⟨rfl, by omega⟩ KQ.z)) (.step (fun _ => .gT rfl rfl (by assumption) (.fieldAddr rfl rfl KQ.z)) (.step (fun _ => .gT rfl rfl (by assumption) (.loadQ rfl rfl rfl (.t .h) (by assumption) KQ.z)) (.step (fun _ => .gT rfl rfl (by assumption) (.move rfl rfl KQ.z)) (.step (fun _ => .gT rfl rfl (by assumption) (.nei rfl rfl rfl KQ.z)) (.step (fun _ => .pickFa rfl rfl (by assumption) rfl KQ.z) (.nil ?_))))))))))
    by_cases hkd : m.kind = kd
    · rw [if_pos hkd]
      have e2 : decide ((m.kind : Int) ≠ (kd : Int)) = false := decide_eq_false (by omega)
      skip
      (refine .nil (kthen_n (.condF rfl (by assumption) (.skip (kthen_n (.seq (.region (.move rfl rfl (.nilCheck rfl rfl (.fieldAddr rfl rfl (.load1 rfl rfl rfl .h rfl (.addi rfl rfl rfl (by omega) (.nilCheck rfl rfl (.fieldAddr rfl rfl (.store1 rfl rfl rfl .h (by simp) (.nil ?_))))))))))))))); refine kthen_n (.seq ?_))
      refine G.draw 13 (by kernel_rfl) ?_
      refine .step (fun _ => .move rfl rfl KQ.z) (.step (fun _ => .nilCheck rfl rfl KQ.z) (.step (fun _ => .fieldAddr rfl rfl KQ.z) (.step (fun _ => .load1 rfl rfl rfl .h rfl KQ.z) (.step (fun _ => .move rfl rfl KQ.z) (.step (fun _ => .nilCheck rfl rfl KQ.z) (.step (fun _ => .fieldAddr rfl rfl KQ.z) (.step (fun _ => .load1 rfl rfl rfl .h rfl KQ.z) (.step (fun _ => .subi rfl rfl rfl (by omega) KQ.z) ?_))))))))
      apply GQ.step; focus (intro Z; refine GO.idxS (j := k) rfl rfl rfl ⟨by omega, by omega⟩ ?_; exact KQ.z)
      refine .step (fun _ => .fieldAddr rfl rfl KQ.z) (.step (fun _ => .loadQ rfl rfl rfl (.t .h) (by assumption) KQ.z) (.step (fun _ => .assign rfl rfl KQ.z) (.nil ?_)))
      refine .nil (kthen_n (.ret ?_))
      refine KFX.r1 rfl (RV.t rfl) ⟨_, _, rfl, rfl, rfl⟩ (ImpS.sb ?_)
      exact .c .h (.c .h .r)
    · rw [if_neg hkd]
      have e2 : decide ((m.kind : Int) ≠ (kd : Int)) = true := decide_eq_true (by omega)
      skip
      refine .nil (kthen_n (.condT rfl (by assumption) (.region (.move rfl rfl ?_))))
      refine GO.call1 rfl rfl (hpl) (Tks.c Tk.h (Tks.c Tk.h Tks.n)) ?_
      rintro _ _ ⟨rfl, rfl⟩
      refine .build1 rfl rfl rfl (.mkIface rfl rfl rfl ?_)
      refine GO.panic rfl ?_
      repeat (first | refine kthen_p ?_ | refine kblock_p ?_ | refine kscope_p ?_)
      refine KFX.p (v := wrongB m.place) ⟨m.place, rfl, rfl, rfl⟩ (ImpS.sb ?_)
      exact .s (.s .r)
  · obtain rfl : k = ms.length := by omega
    obtain ⟨a, cap, rfl⟩ := marks_sl hq
    rw [placeAt_none (Nat.le_refl _)] at hpl
    have hte : takeF ms e kd ms.length = .error e := by unfold takeF; rw [List.getElem?_eq_none (Nat.le_refl _)]
    rw [hte]
    have e1 : decide ((ms.length : Int) ≤ (ms.length : Int)) = true := decide_eq_true (Int.le_refl _)
    clear hq
    refine FnX.mk Tryz.func36 rfl rfl fun w0 F => ?_
    refine .seq (.region (.assign rfl rfl (.nil (kthen_n (.seq (.seq ?_))))))
    refine G.draw 25 (by kernel_rfl) ?_
    (refine .step (fun _ => .move rfl rfl KQ.z) (.step (fun _ => .nilCheck rfl rfl KQ.z) (.step (fun _ => .fieldAddr rfl rfl KQ.z) (.step (fun _ => .load1 rfl rfl rfl .h rfl KQ.z) (.step (fun _ => .move rfl rfl KQ.z) (.step (fun _ => .nilCheck rfl rfl KQ.z) (.step (fun _ => .fieldAddr rfl rfl KQ.z) (.step (fun _ => .load1 rfl rfl rfl .h rfl KQ.z) (.step (fun _ => .lenS rfl rfl KQ.z) (.step (fun _ => .gei rfl rfl rfl KQ.z) (.step (fun _ => .move rfl rfl KQ.z) (.step (fun _ => .gF rfl rfl rfl (by assumption) KQ.z) (.step (fun _ => .gF rfl rfl rfl (by assumption) KQ.z) (.step (fun _ => .gF rfl rfl rfl (by assumption) KQ.z) (.step (fun _ => .gF rfl rfl rfl (by assumption) KQ.z) (.step (fun _ => .gF rfl rfl rfl (by assumption) KQ.z) ?_))))))))))))))); refine .step (fun _ => .gF rfl rfl rfl (by assumption) KQ.z) (.step (fun _ => .gF rfl rfl rfl (by assumption) KQ.z) (.step (fun _ => .gF rfl rfl rfl (by assumption) KQ.z) (.step (fun _ => .gF rfl rfl rfl (by assumption) KQ.z) (.step (fun _ => .gF rfl rfl rfl (by assumption) KQ.z) (.step (fun _ => .gF rfl rfl rfl (by assumption) KQ.z) (.step (fun _ => .gF rfl rfl rfl (by assumption) KQ.z) (.step (fun _ => .gF rfl rfl rfl (by assumption) KQ.z) (.step (fun _ => .pickTa rfl rfl (by assumption) rfl KQ.z) (.nil ?_))))))))))
    refine .nil (kthen_n (.condT rfl rfl (.region (.move rfl rfl ?_))))
    refine GO.call1 rfl rfl (hpl) (Tks.c Tk.h (Tks.c Tk.h Tks.n)) ?_
    rintro _ _ ⟨rfl, rfl⟩
    refine .build1 rfl rfl rfl (.mkIface rfl rfl rfl ?_)
    refine GO.panic rfl ?_
    repeat (first | refine kthen_p ?_ | refine kblock_p ?_ | refine kscope_p ?_)
    refine KFX.p (v := wrongB e) ⟨e, rfl, rfl, rfl⟩ (ImpS.sb ?_)
    exact .s (.s .r)
end Go.Proofs.YtbconcohpfkncaaGreat
