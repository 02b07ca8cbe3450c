/-
  The law TopBoxes, part 3.
-/
import Derived.Test.YtbconcohpfkncaaGreatM2
import Derived.MapKept
import Derived.Maps.RangeRun
import Derived.Test.YtbconcohpfkncaaGreatLaS
import Derived.Shelf.Sort.Plain
import Derived.Test.YtbconcohpfkncaaGreatT
namespace Go.Proofs.YtbconcohpfkncaaGreat
open Go
theorem readF_at (s : List UInt8) : (readF s).2.1 ≤ s.length := by
  unfold readF
  split
  · exact Nat.zero_le _
  · split
    · exact placeAt_le s _
    · split
      · exact placeAt_le s _
      · exact Nat.zero_le _
attribute [local irreducible] G GO GR GT Fn FnX FnV FnXV Dfr pt init exs pur sat own ImpS kAt placeAt stopN readF
set_option maxHeartbeats 16000000 in
theorem body_spec (q : HP) (v : Value) (ms : List MarkD) (hq : MarksR q v ms) (br e k : Nat) (s : List UInt8) (hk : k ≤ ms.length) (hl : ¬ 1048576 < ms.length) (hs : ¬ 1048576 < s.length) (hpo : PlacesOK s ms e) : FnX Tryz.prog 37 #[ptrV br] [rbP br s v e k, q]
    (fun r Q => ∃ l k', bodyF s ms e k = .ok (l, k') ∧ r.oneCell' = true ∧ Q = [own 78 3 l.length r (nodesV l), rbP br s v e k' , q]) (fun x Q => ∃ p, bodyF s ms e k = .error p ∧ x = wrongB p ∧ Q = []) := by
  have hpl := fun k (hk : k ≤ ms.length) => place_spec q v ms hq br e k s hk
  have hmr : ∀ i m, ms[i]? = some m → _ := fun i m h => marks_rd hq h
  obtain ⟨am, cm, rfl⟩ := marks_sl hq
  have hsl := stopN_le ms hk
  have hp1 := hpo k (stopN ms k) hsl.1
  unfold bodyF
  clear hq hpo
  refine FnX.mk Tryz.func37 rfl rfl fun w0 F => ?_
  refine .seq (.region (.assign rfl rfl (.nil (kthen_n (.seq (.region (.move rfl rfl ?_)))))))
  refine GO.call1 rfl rfl (hpl k hk) (Tks.c Tk.h (Tks.c Tk.h Tks.n)) ?_
  rintro _ _ ⟨rfl, rfl⟩
  refine .assign rfl rfl (.nil (kthen_n (.seq (.block ?_))))
  refine G.loopI (σ := Nat) (fun i => [(0, ptrV br), (3, i64 (placeAt ms e k : Nat))]) (fun i => rbP br s (.slice am ms.length cm) e i :: q :: F) (fun i => i ≤ ms.length ∧ stopN ms i = stopN ms k) (fun i => ms.length - i) k ⟨hk, rfl⟩ ?_ ?_ ?_
  · exact .c rfl rfl (.c rfl rfl .n)
  · refine ImpS.sb ?_
    exact .c .h (.c .h .r)
  rintro i ⟨hi, hst⟩
  dsimp only at hi hst ⊢
  by_cases hlt : i < ms.length
  · obtain ⟨m, hm⟩ : ∃ m, ms[i]? = some m := ⟨_, List.getElem?_eq_getElem hlt⟩
    have e1 : decide ((i : Int) < (ms.length : Int)) = true := decide_eq_true (by omega)
    have hgo := stopN_go hm
    obtain ⟨b, o, cap, e0, r0, _, _⟩ := hmr i m hm
    injection e0 with e0 _ e2
    subst e0 e2
    unfold stopB at hgo
    refine .seq (.seq ?_)
    refine G.draw 38 (by kernel_rfl) ?_
    (refine .step (fun _ => .move rfl rfl KQ.z) (.step (fun _ => .nilCheck rfl rfl KQ.z) (.step (fun _ => .fieldAddr rfl rfl KQ.z) (.step (fun _ => .load1 rfl rfl rfl .h rfl KQ.z) (.step (fun _ => .move rfl rfl KQ.z) (.step (fun _ => .nilCheck rfl rfl KQ.z) (.step (fun _ => .fieldAddr rfl rfl KQ.z) (.step (fun _ => .load1 rfl rfl rfl .h rfl KQ.z) (.step (fun _ => .lenS rfl rfl KQ.z) (.step (fun _ => .lti rfl rfl rfl KQ.z) (.step (fun _ => .move rfl rfl KQ.z) (.step (fun _ => .gT rfl rfl (by assumption) (.move rfl rfl KQ.z)) (.step (fun _ => .gT rfl rfl (by assumption) (.nilCheck rfl rfl KQ.z)) (.step (fun _ => .gT rfl rfl (by assumption) (.fieldAddr rfl rfl KQ.z)) (.step (fun _ => .gT rfl rfl (by assumption) (.load1 rfl rfl rfl .h rfl KQ.z)) (.step (fun _ => .gT rfl rfl (by assumption) (.move rfl rfl KQ.z)) ?_))))))))))))))); refine .step (fun _ => .gT rfl rfl (by assumption) (.nilCheck rfl rfl KQ.z)) (.step (fun _ => .gT rfl rfl (by assumption) (.fieldAddr rfl rfl KQ.z)) (.step (fun _ => .gT rfl rfl (by assumption) (.load1 rfl rfl rfl .h rfl KQ.z)) (.step (fun _ => .gT rfl rfl (by assumption) (.idxS rfl rfl rfl ⟨rfl, by omega⟩ KQ.z)) (.step (fun _ => .gT rfl rfl (by assumption) (.fieldAddr rfl rfl KQ.z)) (.step (fun _ => .gT rfl rfl (by assumption) (.loadQ rfl rfl rfl (.t .h) (by assumption) KQ.z)) (.step (fun _ => .gT rfl rfl (by assumption) (.nei rfl rfl rfl KQ.z)) (.step (fun _ => .pickTa rfl rfl (by assumption) rfl KQ.z) (.step (fun _ => .move rfl rfl KQ.z) ?_)))))))))
    cases e5 : decide ((m.kind : Int) ≠ 5)
    · rw [e5, Bool.false_and, if_neg (by decide)] at hgo
      refine .step (fun _ => .gF rfl rfl rfl rfl KQ.z) (.step (fun _ => .gF rfl rfl rfl rfl KQ.z) (.step (fun _ => .gF rfl rfl rfl rfl KQ.z) (.step (fun _ => .gF rfl rfl rfl rfl KQ.z) (.step (fun _ => .gF rfl rfl rfl rfl KQ.z) (.step (fun _ => .gF rfl rfl rfl rfl KQ.z) (.step (fun _ => .gF rfl rfl rfl rfl KQ.z) (.step (fun _ => .gF rfl rfl rfl rfl KQ.z) (.step (fun _ => .gF rfl rfl rfl rfl KQ.z) (.step (fun _ => .gF rfl rfl rfl rfl KQ.z) (.step (fun _ => .gF rfl rfl rfl rfl KQ.z) (.step (fun _ => .gF rfl rfl rfl rfl KQ.z) (.step (fun _ => .pickF rfl rfl rfl KQ.z) (.nil ?_)))))))))))))
      refine .nil (kthen_n (.condF rfl rfl (.exit (kthen_x (kthen_x (kblock_x (kthen_n (.seq ?_))))))))
      have hik : stopN ms k = i := by rw [← hst, hgo]
      rw [hik] at hp1 ⊢
      have hpli := hpl i hi
      clear hpl hst
      generalize hpk : placeAt ms e k = pk at *
      generalize hpi : placeAt ms e i = pi at *
      refine G.draw 8 (by kernel_rfl) ?_
      refine .step (fun _ => .move rfl rfl KQ.z) (.step (fun _ => .nilCheck rfl rfl KQ.z) (.step (fun _ => .fieldAddr rfl rfl KQ.z) (.step (fun _ => .load1 rfl rfl rfl .h rfl KQ.z) (.step (fun _ => .move rfl rfl KQ.z) (.step (fun _ => .move rfl rfl KQ.z) ?_)))))
      apply GQ.step; focus (intro Z; refine GO.call1 rfl rfl (hpli) (Tks.c Tk.h (Tks.c Tk.h Tks.n)) ?_; rintro _ _ ⟨rfl, rfl⟩; refine GO.nil (KQ.s ?_); ((refine Sb.c Tk.h ?_; refine Sb.c Tk.h ?_); (exact Sb.r)))
      skip
      apply GQ.step; focus (intro Z; refine GO.strLH (a := pk) (b := pi) rfl rfl rfl rfl ⟨rfl, rfl, hp1.1, hp1.2⟩ ?_; exact KQ.z)
      refine .nil ?_
      refine .assign rfl rfl (.nil (kthen_n (.seq (.region (.move rfl rfl ?_)))))
      have hpcl : ((s.drop pk).take (pi - pk)).length = pi - pk := by rw [List.length_take, List.length_drop]; omega
      generalize (s.drop pk).take (pi - pk) = piece at *
      have hra := readF_at piece
      refine GO.call1 rfl rfl (read_spec piece) Tks.n ?_
      rintro _ _ ⟨w, rfl, hw1, rfl⟩
      generalize readF piece = z at *
      obtain ⟨l, a, er⟩ := z
      dsimp only at hra ⊢
      refine .move rfl rfl (.extract rfl rfl rfl (.extract rfl rfl rfl (.extract rfl rfl rfl (.assign rfl rfl (.assign rfl rfl (.assign rfl rfl (.nil (kthen_n (.seq (.seq (.region (.move rfl rfl (.nei rfl rfl rfl (.nil (kthen_n ?_)))))))))))))))
      by_cases her : er = 0
      · have d1 : decide ((er : Int) ≠ 0) = false := decide_eq_false (by omega)
        rw [if_pos her]
        refine .condF rfl (by assumption) (.skip (kthen_n (.seq (.region (.move rfl rfl (.assign rfl rfl (.nil (kthen_n (.ret ?_)))))))))
        refine KFX.r1 rfl (RV.t rfl) ⟨l, i, rfl, hw1, rfl⟩ (ImpS.sb ?_)
        exact .c .h (.c .h (.c .h .r))
      have d1 : decide ((er : Int) ≠ 0) = true := decide_eq_true (by omega)
      rw [if_neg her]
      by_cases hat : a = pi - pk
      · have d2 : decide ((a : Int) = (piece.length : Int)) = true := decide_eq_true (by omega)
        rw [if_pos hat]
        refine .condT rfl (by assumption) (.seq (.seq (.region (.move rfl rfl (.move rfl rfl (.strLen rfl rfl (.eqi rfl rfl rfl (.nil (kthen_n (.condT rfl (by assumption) (.region (.move rfl rfl ?_))))))))))))
        refine GO.call1 rfl rfl (hpli) (Tks.c (Tk.t Tk.h) (Tks.c (Tk.t Tk.h) Tks.n)) ?_
        rintro _ _ ⟨rfl, rfl⟩
        refine .build1 rfl rfl rfl (.mkIface rfl rfl rfl ?_)
        refine GO.panic rfl ?_
        repeat (first | refine kthen_p ?_ | refine kblock_p ?_ | refine kscope_p ?_)
        refine KFX.p (v := wrongB pi) ⟨pi, rfl, rfl, rfl⟩ (ImpS.sb ?_)
        exact .s (.s (.s .r))
      · have d2 : decide ((a : Int) = (piece.length : Int)) = false := decide_eq_false (by omega)
        rw [if_neg hat]
        (refine .condT rfl (by assumption) (.seq (.seq (.region (.move rfl rfl (.move rfl rfl (.strLen rfl rfl (.eqi rfl rfl rfl (.nil (kthen_n (.condF rfl (by assumption) (.skip (kthen_n (.region (.move rfl rfl (.move rfl rfl ?_))))))))))))))); refine .addi rfl rfl rfl (by omega) (.build1 rfl rfl rfl (.mkIface rfl rfl rfl ?_)))
        refine GO.panic rfl ?_
        repeat (first | refine kthen_p ?_ | refine kblock_p ?_ | refine kscope_p ?_)
        refine KFX.p (v := wrongB (pk + a)) ⟨pk + a, rfl, rfl, rfl⟩ (ImpS.sb ?_)
        exact .s (.s (.s .r))
    · cases e4 : decide ((m.kind : Int) ≠ 4)
      · rw [e5, e4, Bool.true_and, if_neg (by decide)] at hgo
        refine .step (fun _ => .gT rfl rfl rfl (.move rfl rfl KQ.z)) (.step (fun _ => .gT rfl rfl rfl (.nilCheck rfl rfl KQ.z)) (.step (fun _ => .gT rfl rfl rfl (.fieldAddr rfl rfl KQ.z)) (.step (fun _ => .gT rfl rfl rfl (.load1 rfl rfl rfl .h rfl KQ.z)) (.step (fun _ => .gT rfl rfl rfl (.move rfl rfl KQ.z)) (.step (fun _ => .gT rfl rfl rfl (.nilCheck rfl rfl KQ.z)) (.step (fun _ => .gT rfl rfl rfl (.fieldAddr rfl rfl KQ.z)) (.step (fun _ => .gT rfl rfl rfl (.load1 rfl rfl rfl .h rfl KQ.z)) (.step (fun _ => .gT rfl rfl rfl (.idxS rfl rfl rfl ⟨rfl, by omega⟩ KQ.z)) (.step (fun _ => .gT rfl rfl rfl (.fieldAddr rfl rfl KQ.z)) (.step (fun _ => .gT rfl rfl rfl (.loadQ rfl rfl rfl (.t .h) (by assumption) KQ.z)) (.step (fun _ => .gT rfl rfl rfl (.nei rfl rfl rfl KQ.z)) (.step (fun _ => .pickT rfl rfl rfl KQ.z) (.nil ?_)))))))))))))
        refine .nil (kthen_n (.condF rfl (by assumption) (.exit (kthen_x (kthen_x (kblock_x (kthen_n (.seq ?_))))))))
        have hik : stopN ms k = i := by rw [← hst, hgo]
        rw [hik] at hp1 ⊢
        have hpli := hpl i hi
        clear hpl hst
        generalize hpk : placeAt ms e k = pk at *
        generalize hpi : placeAt ms e i = pi at *
        refine G.draw 8 (by kernel_rfl) ?_
        refine .step (fun _ => .move rfl rfl KQ.z) (.step (fun _ => .nilCheck rfl rfl KQ.z) (.step (fun _ => .fieldAddr rfl rfl KQ.z) (.step (fun _ => .load1 rfl rfl rfl .h rfl KQ.z) (.step (fun _ => .move rfl rfl KQ.z) (.step (fun _ => .move rfl rfl KQ.z) ?_)))))
        apply GQ.step; focus (intro Z; refine GO.call1 rfl rfl (hpli) (Tks.c Tk.h (Tks.c Tk.h Tks.n)) ?_; rintro _ _ ⟨rfl, rfl⟩; refine GO.nil (KQ.s ?_); ((refine Sb.c Tk.h ?_; refine Sb.c Tk.h ?_); (exact Sb.r)))
        skip
        apply GQ.step; focus (intro Z; refine GO.strLH (a := pk) (b := pi) rfl rfl rfl rfl ⟨rfl, rfl, hp1.1, hp1.2⟩ ?_; exact KQ.z)
        refine .nil ?_
        refine .assign rfl rfl (.nil (kthen_n (.seq (.region (.move rfl rfl ?_)))))
        have hpcl : ((s.drop pk).take (pi - pk)).length = pi - pk := by rw [List.length_take, List.length_drop]; omega
        generalize (s.drop pk).take (pi - pk) = piece at *
        have hra := readF_at piece
        refine GO.call1 rfl rfl (read_spec piece) Tks.n ?_
        rintro _ _ ⟨w, rfl, hw1, rfl⟩
        generalize readF piece = z at *
        obtain ⟨l, a, er⟩ := z
        dsimp only at hra ⊢
        refine .move rfl rfl (.extract rfl rfl rfl (.extract rfl rfl rfl (.extract rfl rfl rfl (.assign rfl rfl (.assign rfl rfl (.assign rfl rfl (.nil (kthen_n (.seq (.seq (.region (.move rfl rfl (.nei rfl rfl rfl (.nil (kthen_n ?_)))))))))))))))
        by_cases her : er = 0
        · have d1 : decide ((er : Int) ≠ 0) = false := decide_eq_false (by omega)
          rw [if_pos her]
          refine .condF rfl (by assumption) (.skip (kthen_n (.seq (.region (.move rfl rfl (.assign rfl rfl (.nil (kthen_n (.ret ?_)))))))))
          refine KFX.r1 rfl (RV.t rfl) ⟨l, i, rfl, hw1, rfl⟩ (ImpS.sb ?_)
          exact .c .h (.c .h (.c .h .r))
        have d1 : decide ((er : Int) ≠ 0) = true := decide_eq_true (by omega)
        rw [if_neg her]
        by_cases hat : a = pi - pk
        · have d2 : decide ((a : Int) = (piece.length : Int)) = true := decide_eq_true (by omega)
          rw [if_pos hat]
          refine .condT rfl (by assumption) (.seq (.seq (.region (.move rfl rfl (.move rfl rfl (.strLen rfl rfl (.eqi rfl rfl rfl (.nil (kthen_n (.condT rfl (by assumption) (.region (.move rfl rfl ?_))))))))))))
          refine GO.call1 rfl rfl (hpli) (Tks.c (Tk.t Tk.h) (Tks.c (Tk.t Tk.h) Tks.n)) ?_
          rintro _ _ ⟨rfl, rfl⟩
          refine .build1 rfl rfl rfl (.mkIface rfl rfl rfl ?_)
          refine GO.panic rfl ?_
          repeat (first | refine kthen_p ?_ | refine kblock_p ?_ | refine kscope_p ?_)
          refine KFX.p (v := wrongB pi) ⟨pi, rfl, rfl, rfl⟩ (ImpS.sb ?_)
          exact .s (.s (.s .r))
        · have d2 : decide ((a : Int) = (piece.length : Int)) = false := decide_eq_false (by omega)
          rw [if_neg hat]
          (refine .condT rfl (by assumption) (.seq (.seq (.region (.move rfl rfl (.move rfl rfl (.strLen rfl rfl (.eqi rfl rfl rfl (.nil (kthen_n (.condF rfl (by assumption) (.skip (kthen_n (.region (.move rfl rfl (.move rfl rfl ?_))))))))))))))); refine .addi rfl rfl rfl (by omega) (.build1 rfl rfl rfl (.mkIface rfl rfl rfl ?_)))
          refine GO.panic rfl ?_
          repeat (first | refine kthen_p ?_ | refine kblock_p ?_ | refine kscope_p ?_)
          refine KFX.p (v := wrongB (pk + a)) ⟨pk + a, rfl, rfl, rfl⟩ (ImpS.sb ?_)
          exact .s (.s (.s .r))
      · rw [e5, e4, Bool.true_and, if_pos rfl] at hgo
        refine .step (fun _ => .gT rfl rfl rfl (.move rfl rfl KQ.z)) (.step (fun _ => .gT rfl rfl rfl (.nilCheck rfl rfl KQ.z)) (.step (fun _ => .gT rfl rfl rfl (.fieldAddr rfl rfl KQ.z)) (.step (fun _ => .gT rfl rfl rfl (.load1 rfl rfl rfl .h rfl KQ.z)) (.step (fun _ => .gT rfl rfl rfl (.move rfl rfl KQ.z)) (.step (fun _ => .gT rfl rfl rfl (.nilCheck rfl rfl KQ.z)) (.step (fun _ => .gT rfl rfl rfl (.fieldAddr rfl rfl KQ.z)) (.step (fun _ => .gT rfl rfl rfl (.load1 rfl rfl rfl .h rfl KQ.z)) (.step (fun _ => .gT rfl rfl rfl (.idxS rfl rfl rfl ⟨rfl, by omega⟩ KQ.z)) (.step (fun _ => .gT rfl rfl rfl (.fieldAddr rfl rfl KQ.z)) (.step (fun _ => .gT rfl rfl rfl (.loadQ rfl rfl rfl (.t .h) (by assumption) KQ.z)) (.step (fun _ => .gT rfl rfl rfl (.nei rfl rfl rfl KQ.z)) (.step (fun _ => .pickT rfl rfl rfl KQ.z) (.nil ?_)))))))))))))
        (refine .nil (kthen_n (.condT rfl (by assumption) (.skip (kthen_n (.block (.region (.move rfl rfl (.nilCheck rfl rfl (.fieldAddr rfl rfl (.load1 rfl rfl rfl .h rfl (.addi rfl rfl rfl (by omega) (.nilCheck rfl rfl (.fieldAddr rfl rfl (.store1 rfl rfl rfl .h (by simp) (.nil ?_))))))))))))))); refine kblock_n (kthen_n ?_))
        refine ⟨i + 1, ⟨hlt, by rw [← hgo]; exact hst⟩, by omega, ?_, ImpS.sb ?_⟩
        · exact .c rfl rfl (.c rfl rfl .n)
        · exact .c .h (.c .h .r)
  · have e1 : decide ((i : Int) < (ms.length : Int)) = false := decide_eq_false (by omega)
    have hie := stopN_end (ms := ms) (k := i) (by omega)
    refine .seq (.seq ?_)
    refine G.draw 38 (by kernel_rfl) ?_
    (refine .step (fun _ => .move rfl rfl KQ.z) (.step (fun _ => .nilCheck rfl rfl KQ.z) (.step (fun _ => .fieldAddr rfl rfl KQ.z) (.step (fun _ => .load1 rfl rfl rfl .h rfl KQ.z) (.step (fun _ => .move rfl rfl KQ.z) (.step (fun _ => .nilCheck rfl rfl KQ.z) (.step (fun _ => .fieldAddr rfl rfl KQ.z) (.step (fun _ => .load1 rfl rfl rfl .h rfl KQ.z) (.step (fun _ => .lenS rfl rfl KQ.z) (.step (fun _ => .lti rfl rfl rfl KQ.z) (.step (fun _ => .move rfl rfl KQ.z) (.step (fun _ => .gF rfl rfl rfl (by assumption) KQ.z) (.step (fun _ => .gF rfl rfl rfl (by assumption) KQ.z) (.step (fun _ => .gF rfl rfl rfl (by assumption) KQ.z) (.step (fun _ => .gF rfl rfl rfl (by assumption) KQ.z) (.step (fun _ => .gF rfl rfl rfl (by assumption) KQ.z) ?_))))))))))))))); refine .step (fun _ => .gF rfl rfl rfl (by assumption) KQ.z) (.step (fun _ => .gF rfl rfl rfl (by assumption) KQ.z) (.step (fun _ => .gF rfl rfl rfl (by assumption) KQ.z) (.step (fun _ => .gF rfl rfl rfl (by assumption) KQ.z) (.step (fun _ => .gF rfl rfl rfl (by assumption) KQ.z) (.step (fun _ => .gF rfl rfl rfl (by assumption) KQ.z) (.step (fun _ => .gF rfl rfl rfl (by assumption) KQ.z) (.step (fun _ => .pickFa rfl rfl (by assumption) rfl KQ.z) (.step (fun _ => .move rfl rfl KQ.z) (.step (fun _ => .gF rfl rfl rfl rfl KQ.z) (.step (fun _ => .gF rfl rfl rfl rfl KQ.z) (.step (fun _ => .gF rfl rfl rfl rfl KQ.z) (.step (fun _ => .gF rfl rfl rfl rfl KQ.z) (.step (fun _ => .gF rfl rfl rfl rfl KQ.z) (.step (fun _ => .gF rfl rfl rfl rfl KQ.z) (.step (fun _ => .gF rfl rfl rfl rfl KQ.z) ?_))))))))))))))); refine .step (fun _ => .gF rfl rfl rfl rfl KQ.z) (.step (fun _ => .gF rfl rfl rfl rfl KQ.z) (.step (fun _ => .gF rfl rfl rfl rfl KQ.z) (.step (fun _ => .gF rfl rfl rfl rfl KQ.z) (.step (fun _ => .gF rfl rfl rfl rfl KQ.z) (.step (fun _ => .pickF rfl rfl rfl KQ.z) (.nil ?_)))))))
    refine .nil (kthen_n (.condF rfl rfl (.exit (kthen_x (kthen_x (kblock_x (kthen_n (.seq ?_))))))))
    have hik : stopN ms k = i := by rw [← hst, hie]
    rw [hik] at hp1 ⊢
    have hpli := hpl i hi
    clear hpl hst
    generalize hpk : placeAt ms e k = pk at *
    generalize hpi : placeAt ms e i = pi at *
    refine G.draw 8 (by kernel_rfl) ?_
    refine .step (fun _ => .move rfl rfl KQ.z) (.step (fun _ => .nilCheck rfl rfl KQ.z) (.step (fun _ => .fieldAddr rfl rfl KQ.z) (.step (fun _ => .load1 rfl rfl rfl .h rfl KQ.z) (.step (fun _ => .move rfl rfl KQ.z) (.step (fun _ => .move rfl rfl KQ.z) ?_)))))
    apply GQ.step; focus (intro Z; refine GO.call1 rfl rfl (hpli) (Tks.c Tk.h (Tks.c Tk.h Tks.n)) ?_; rintro _ _ ⟨rfl, rfl⟩; refine GO.nil (KQ.s ?_); ((refine Sb.c Tk.h ?_; refine Sb.c Tk.h ?_); (exact Sb.r)))
    skip
    apply GQ.step; focus (intro Z; refine GO.strLH (a := pk) (b := pi) rfl rfl rfl rfl ⟨rfl, rfl, hp1.1, hp1.2⟩ ?_; exact KQ.z)
    refine .nil ?_
    refine .assign rfl rfl (.nil (kthen_n (.seq (.region (.move rfl rfl ?_)))))
    have hpcl : ((s.drop pk).take (pi - pk)).length = pi - pk := by rw [List.length_take, List.length_drop]; omega
    generalize (s.drop pk).take (pi - pk) = piece at *
    have hra := readF_at piece
    refine GO.call1 rfl rfl (read_spec piece) Tks.n ?_
    rintro _ _ ⟨w, rfl, hw1, rfl⟩
    generalize readF piece = z at *
    obtain ⟨l, a, er⟩ := z
    dsimp only at hra ⊢
    refine .move rfl rfl (.extract rfl rfl rfl (.extract rfl rfl rfl (.extract rfl rfl rfl (.assign rfl rfl (.assign rfl rfl (.assign rfl rfl (.nil (kthen_n (.seq (.seq (.region (.move rfl rfl (.nei rfl rfl rfl (.nil (kthen_n ?_)))))))))))))))
    by_cases her : er = 0
    · have d1 : decide ((er : Int) ≠ 0) = false := decide_eq_false (by omega)
      rw [if_pos her]
      refine .condF rfl (by assumption) (.skip (kthen_n (.seq (.region (.move rfl rfl (.assign rfl rfl (.nil (kthen_n (.ret ?_)))))))))
      refine KFX.r1 rfl (RV.t rfl) ⟨l, i, rfl, hw1, rfl⟩ (ImpS.sb ?_)
      exact .c .h (.c .h (.c .h .r))
    have d1 : decide ((er : Int) ≠ 0) = true := decide_eq_true (by omega)
    rw [if_neg her]
    by_cases hat : a = pi - pk
    · have d2 : decide ((a : Int) = (piece.length : Int)) = true := decide_eq_true (by omega)
      rw [if_pos hat]
      refine .condT rfl (by assumption) (.seq (.seq (.region (.move rfl rfl (.move rfl rfl (.strLen rfl rfl (.eqi rfl rfl rfl (.nil (kthen_n (.condT rfl (by assumption) (.region (.move rfl rfl ?_))))))))))))
      refine GO.call1 rfl rfl (hpli) (Tks.c (Tk.t Tk.h) (Tks.c (Tk.t Tk.h) Tks.n)) ?_
      rintro _ _ ⟨rfl, rfl⟩
      refine .build1 rfl rfl rfl (.mkIface rfl rfl rfl ?_)
      refine GO.panic rfl ?_
      repeat (first | refine kthen_p ?_ | refine kblock_p ?_ | refine kscope_p ?_)
      refine KFX.p (v := wrongB pi) ⟨pi, rfl, rfl, rfl⟩ (ImpS.sb ?_)
      exact .s (.s (.s .r))
    · have d2 : decide ((a : Int) = (piece.length : Int)) = false := decide_eq_false (by omega)
      rw [if_neg hat]
      (refine .condT rfl (by assumption) (.seq (.seq (.region (.move rfl rfl (.move rfl rfl (.strLen rfl rfl (.eqi rfl rfl rfl (.nil (kthen_n (.condF rfl (by assumption) (.skip (kthen_n (.region (.move rfl rfl (.move rfl rfl ?_))))))))))))))); refine .addi rfl rfl rfl (by omega) (.build1 rfl rfl rfl (.mkIface rfl rfl rfl ?_)))
      refine GO.panic rfl ?_
      repeat (first | refine kthen_p ?_ | refine kblock_p ?_ | refine kscope_p ?_)
      refine KFX.p (v := wrongB (pk + a)) ⟨pk + a, rfl, rfl, rfl⟩ (ImpS.sb ?_)
      exact .s (.s (.s .r))
end Go.Proofs.YtbconcohpfkncaaGreat
namespace Go.Proofs.YtbconcohpfkncaaGreat
open Go
theorem SlK.sup {q q' : HP} (hs : Sup q q') {v : Value} {n sz : Nat} {l : List Value} (h : SlK q v n sz l) : SlK q' v n sz l := by
  obtain ⟨a, cap, rfl, hc, hl, hr⟩ := h
  exact ⟨a, cap, rfl, hc, hl, fun hn => let ⟨b, o, e, hr⟩ := hr hn; ⟨b, o, e, fun j u hj => hs _ _ (hr j u hj)⟩⟩
/-- Rules as they lie in memory, their bodies readable in z. -/
def BodiesR (z : HP) (g : List RuleD) (vs : List Value) : Prop := vs.length = g.length * 2 ∧ ∀ i r, g[i]? = some r → vs[i * 2]? = some (str r.head) ∧ ∃ w, vs[i * 2 + 1]? = some w ∧ w.oneCell' = true ∧ NodesR z w r.body
theorem BodiesR.nil (z : HP) : BodiesR z [] [] := ⟨rfl, fun i r h => by simp at h⟩
theorem BodiesR.sup {z z' : HP} (hs : Sup z z') {g : List RuleD} {vs : List Value} (h : BodiesR z g vs) : BodiesR z' g vs :=
  ⟨h.1, fun i r hi => let ⟨h1, w, h2, h3, h4⟩ := h.2 i r hi; ⟨h1, w, h2, h3, h4.sup hs⟩⟩
theorem BodiesR.snoc {z : HP} {g : List RuleD} {vs : List Value} {r : RuleD} {w : Value} (h : BodiesR z g vs) (h1 : w.oneCell' = true) (hw : NodesR z w r.body) : BodiesR z (g ++ [r]) (vs ++ [str r.head, w]) := by
  refine ⟨by rw [List.length_append, List.length_append, h.1]; simp only [List.length_cons, List.length_nil]; omega, fun i x hi => ?_⟩
  by_cases hlt : i < g.length
  · rw [List.getElem?_append_left hlt] at hi
    obtain ⟨e1, w', e2, e3, e4⟩ := h.2 i x hi
    exact ⟨by rw [List.getElem?_append_left (by rw [h.1]; omega)]; exact e1, w', by rw [List.getElem?_append_left (by rw [h.1]; omega)]; exact e2, e3, e4⟩
  · rw [List.getElem?_append_right (by omega)] at hi
    have hi0 : i = g.length := by
      have := (List.getElem?_eq_some_iff.1 hi).1
      simp only [List.length_cons, List.length_nil] at this
      omega
    subst hi0
    rw [Nat.sub_self] at hi
    cases hi
    exact ⟨by rw [List.getElem?_append_right (by rw [h.1]; omega), h.1, Nat.sub_self]; rfl, w, by rw [List.getElem?_append_right (by rw [h.1]; omega), h.1, Nat.add_sub_cancel_left]; rfl, h1, hw⟩
/-- A grammar, readable in q. -/
def RulesR (q : HP) (v : Value) (g : List RuleD) : Prop := ∃ vs, BodiesR q g vs ∧ SlK q v g.length 2 vs
theorem rulesF_step {s : List UInt8} {ms : List MarkD} {e f k : Nat} {out : List RuleD} (h : out = [] ∨ k < ms.length) : rulesF s ms e (f + 1) out k = match ruleF s ms e k with
    | .error p => .error p
    | .ok (r, k') => rulesF s ms e f (out ++ [r]) k' := by
  rw [rulesF, if_pos h]
  try rfl
attribute [local irreducible] G GO GR GT Fn FnX FnV FnXV Dfr pt init exs pur sat own ImpS kAt placeAt stopN readF
set_option maxHeartbeats 32000000 in
theorem rules_spec (q : HP) (v : Value) (ms : List MarkD) (hq : MarksR q v ms) (br e : Nat) (s : List UInt8) (hl : ¬ 1048576 < ms.length) (hs : ¬ 1048576 < s.length) (hpo : PlacesOK s ms e) : FnX Tryz.prog 15 #[ptrV br] [rbP br s v e 0, q]
    (fun r Q => ∃ g z, rulesF s ms e (ms.length + 1) [] 0 = .ok g ∧ RulesR z r g ∧ Q = [z]) (fun x Q => ∃ p, rulesF s ms e (ms.length + 1) [] 0 = .error p ∧ x = wrongB p ∧ Q = []) := by
  have htk := fun kd k (hk : k ≤ ms.length) => take_spec q v ms hq br e kd k s hk hl
  have hbd := fun k (hk : k ≤ ms.length) => body_spec q v ms hq br e k s hk hl hs hpo
  obtain ⟨am, cm, rfl⟩ := marks_sl hq
  clear hq hpo
  generalize hres : rulesF s ms e (ms.length + 1) [] 0 = res
  refine FnX.mk Tryz.func15 rfl rfl fun w0 F => ?_
  refine G.ownNil (T := 74) (sz := 2) ?_
  refine G.imp (H' := pur True :: _) (fun _ _ s => sat_pur.2 ⟨trivial, s⟩) ?_
  refine .seq (.region (.assign rfl rfl (.nil (kthen_n (.seq (.region (.assign rfl rfl (.nil (kthen_n (.seq (.block ?_)))))))))))
  refine G.loopI (σ := Nat × List RuleD × List Value × Value × HP) (fun x => [(0, ptrV br), (3, x.2.2.2.1)]) (fun x => own 74 2 x.2.1.length x.2.2.2.1 x.2.2.1 :: x.2.2.2.2 :: rbP br s (.slice am ms.length cm) e x.1 :: q :: F)
    (fun x => x.1 ≤ ms.length ∧ x.2.1.length ≤ x.1 ∧ BodiesR x.2.2.2.2 x.2.1 x.2.2.1 ∧ ∃ f, ms.length - x.1 < f ∧ rulesF s ms e f x.2.1 x.1 = res) (fun x => ms.length - x.1) (0, [], [], .slice none 0 0, pur True) ⟨Nat.zero_le _, Nat.zero_le _, BodiesR.nil _, _, by dsimp only; omega, hres⟩ ?_ ?_ ?_
  · exact .c rfl rfl (.c rfl rfl .n)
  · refine ImpS.sb ?_
    exact .c (.t .h) (.c .h (.c .h (.c .h .r)))
  clear hres
  rintro ⟨k, out, vs, v3, z⟩ ⟨hk, ho, hB, f, hf, hres⟩
  dsimp only at hk ho hB hf hres ⊢
  obtain ⟨f, rfl⟩ : ∃ g, f = g + 1 := ⟨f - 1, by omega⟩
  refine .seq (.seq ?_)
  refine G.draw 15 (by kernel_rfl) ?_
  refine .step (fun _ => .move rfl rfl KQ.z) (.step (fun _ => .lenOwn rfl rfl .h KQ.z) (.step (fun _ => .eqi rfl rfl rfl KQ.z) (.step (fun _ => .move rfl rfl KQ.z) ?_)))
  cases c1 : decide ((out.length : Int) = 0)
  · cases c2 : decide ((k : Int) < (ms.length : Int))
    · have hc1 := of_decide_eq_false c1
      have hc2 := of_decide_eq_false c2
      rw [rulesF, if_neg (by rintro (h | h); rw [h] at hc1; exact hc1 rfl; omega)] at hres
      refine .step (fun _ => .gT rfl rfl rfl (.move rfl rfl KQ.z)) (.step (fun _ => .gT rfl rfl rfl (.nilCheck rfl rfl KQ.z)) (.step (fun _ => .gT rfl rfl rfl (.fieldAddr rfl rfl KQ.z)) (.step (fun _ => .gT rfl rfl rfl (.load1 rfl rfl rfl (.t (.t .h)) rfl KQ.z)) (.step (fun _ => .gT rfl rfl rfl (.move rfl rfl KQ.z)) (.step (fun _ => .gT rfl rfl rfl (.nilCheck rfl rfl KQ.z)) (.step (fun _ => .gT rfl rfl rfl (.fieldAddr rfl rfl KQ.z)) (.step (fun _ => .gT rfl rfl rfl (.load1 rfl rfl rfl (.t (.t .h)) rfl KQ.z)) (.step (fun _ => .gT rfl rfl rfl (.lenS rfl rfl KQ.z)) (.step (fun _ => .gT rfl rfl rfl (.lti rfl rfl rfl KQ.z)) (.step (fun _ => .pickF rfl rfl rfl KQ.z) (.nil ?_)))))))))))
      refine GO.ownRdK Tk.h fun q2 hq2 => ?_
      refine GO.merge (x := q2) (y := z) (Tks.c Tk.h (Tks.c Tk.h Tks.n)) ?_
      refine .nil (kthen_n (.condF rfl (by assumption) (.exit (kthen_x (kthen_x (kblock_x (kthen_n (.seq (.region (.move rfl rfl (.assign rfl rfl (.nil (kthen_n (.ret ?_))))))))))))))
      refine KFX.r1 rfl (RV.t rfl) ⟨out, _, hres.symm, ⟨vs, hB.sup (Sup.right _ _), hq2.sup (Sup.left _ _)⟩, rfl⟩ (ImpS.sb ?_)
      exact .c .h (.s (.s .r))
    · have hc2 := of_decide_eq_true c2
      rw [rulesF_step (.inr (by omega))] at hres
      refine .step (fun _ => .gT rfl rfl rfl (.move rfl rfl KQ.z)) (.step (fun _ => .gT rfl rfl rfl (.nilCheck rfl rfl KQ.z)) (.step (fun _ => .gT rfl rfl rfl (.fieldAddr rfl rfl KQ.z)) (.step (fun _ => .gT rfl rfl rfl (.load1 rfl rfl rfl (.t (.t .h)) rfl KQ.z)) (.step (fun _ => .gT rfl rfl rfl (.move rfl rfl KQ.z)) (.step (fun _ => .gT rfl rfl rfl (.nilCheck rfl rfl KQ.z)) (.step (fun _ => .gT rfl rfl rfl (.fieldAddr rfl rfl KQ.z)) (.step (fun _ => .gT rfl rfl rfl (.load1 rfl rfl rfl (.t (.t .h)) rfl KQ.z)) (.step (fun _ => .gT rfl rfl rfl (.lenS rfl rfl KQ.z)) (.step (fun _ => .gT rfl rfl rfl (.lti rfl rfl rfl KQ.z)) (.step (fun _ => .pickF rfl rfl rfl KQ.z) (.nil ?_)))))))))))
      refine .nil (kthen_n (.condT rfl (by assumption) (.skip (kthen_n (.block (.seq (.region (.move rfl rfl ?_))))))))
      refine GO.callX2 rfl rfl rfl (htk 1 k hk) (Tks.c (Tk.t (Tk.t Tk.h)) (Tks.c (Tk.t (Tk.t Tk.h)) Tks.n)) ?_ ?_
      · rintro _ _ ⟨p, hp, rfl, rfl⟩
        repeat (first | refine kthen_p ?_ | refine kblock_p ?_ | refine kscope_p ?_)
        refine KFX.p (v := wrongB p) ⟨p, by rw [← hres]; unfold ruleF; rw [hp], rfl, rfl⟩ (ImpS.sb ?_)
        exact .s (.s .r)
      rintro _ _ ⟨t1, k1, h1, rfl, rfl⟩
      obtain ⟨m1, _, _, _, rfl, hk1⟩ := takeF_ok h1
      refine .assign rfl rfl (.nil (kthen_n (.seq (.region (.move rfl rfl ?_)))))
      refine GO.callX2 rfl rfl rfl (htk 4 (k + 1) hk1) (Tks.c Tk.h (Tks.c Tk.h Tks.n)) ?_ ?_
      · rintro _ _ ⟨p, hp, rfl, rfl⟩
        repeat (first | refine kthen_p ?_ | refine kblock_p ?_ | refine kscope_p ?_)
        refine KFX.p (v := wrongB p) ⟨p, by rw [← hres]; unfold ruleF; rw [h1]; dsimp only; rw [hp], rfl, rfl⟩ (ImpS.sb ?_)
        exact .s (.s .r)
      rintro _ _ ⟨t2, k2, h2, rfl, rfl⟩
      obtain ⟨m2, _, _, _, rfl, hk2⟩ := takeF_ok h2
      refine .nil (kthen_n (.seq (.region (.move rfl rfl ?_))))
      refine GO.callX1 rfl rfl (hbd (k + 1 + 1) hk2) (Tks.c Tk.h (Tks.c Tk.h Tks.n)) ?_ ?_
      · rintro _ _ ⟨p, hp, rfl, rfl⟩
        repeat (first | refine kthen_p ?_ | refine kblock_p ?_ | refine kscope_p ?_)
        refine KFX.p (v := wrongB p) ⟨p, by rw [← hres]; unfold ruleF; rw [h1]; dsimp only; rw [h2]; dsimp only; rw [hp], rfl, rfl⟩ (ImpS.sb ?_)
        exact .s (.s .r)
      rintro r _ ⟨l, k3, h3, hr1, rfl⟩
      have hk3 : k3 ≤ ms.length := by obtain ⟨rfl, _⟩ := bodyF_ok h3; exact (stopN_le ms hk2).2
      refine GO.ownRdK Tk.h fun q2 hq2 => ?_
      obtain ⟨ar, cr, rfl⟩ := nodes_sl hq2
      refine GO.merge (x := q2) (y := z) (Tks.c Tk.h (Tks.c (Tk.t (Tk.t (Tk.t Tk.h))) Tks.n)) ?_
      refine .assign rfl rfl (.nil (kthen_n (.seq (.region (.move rfl rfl ?_)))))
      refine GO.callX2 rfl rfl rfl (htk 5 k3 hk3) (Tks.c (Tk.t Tk.h) (Tks.c (Tk.t Tk.h) Tks.n)) ?_ ?_
      · rintro _ _ ⟨p, hp, rfl, rfl⟩
        repeat (first | refine kthen_p ?_ | refine kblock_p ?_ | refine kscope_p ?_)
        refine KFX.p (v := wrongB p) ⟨p, by rw [← hres]; unfold ruleF; rw [h1]; dsimp only; rw [h2]; dsimp only; rw [h3]; dsimp only; rw [hp], rfl, rfl⟩ (ImpS.sb ?_)
        exact .s (.s .r)
      rintro _ _ ⟨t4, k4, h4, rfl, rfl⟩
      obtain ⟨m4, _, _, _, rfl, hk4⟩ := takeF_ok h4
      have hru : ruleF s ms e k = .ok (⟨t1, l⟩, k3 + 1) := by unfold ruleF; rw [h1]; dsimp only; rw [h2]; dsimp only; rw [h3]; dsimp only; rw [h4]
      have hkk : k + 2 ≤ k3 := by obtain ⟨rfl, _⟩ := bodyF_ok h3; exact (stopN_le ms hk2).1
      rw [hru] at hres
      dsimp only at hres
      refine .nil (kthen_n (.region (.move rfl rfl (.move rfl rfl (.move rfl rfl (.build2 rfl rfl rfl rfl ?_))))))
      refine GO.buildSlice1 (n := 2) rfl rfl (fun v hv => by rw [List.mem_singleton.1 hv]; rfl) rfl ⟨by decide, by decide⟩ fun bs => ?_
      refine GO.appendOwn (m := 1) (news := [str t1, .slice ar l.length cr]) rfl rfl rfl (Tk.t (Tk.t (Tk.t (Tk.t Tk.h)))) Tk.h rfl (by simp [str, Value.oneCell']) ⟨by decide, rfl⟩ Nat.one_pos (by unfold maxLen; omega) (by omega) fun v5 => ?_
      refine .assign rfl rfl (.nil (kblock_n (kthen_n ?_)))
      refine ⟨(k3 + 1, out ++ [⟨t1, l⟩], vs ++ [str t1, .slice ar l.length cr], v5, star [q2, z]), ⟨hk4, by dsimp only; rw [List.length_append, List.length_cons, List.length_nil]; omega, (hB.sup (Sup.right _ _)).snoc hr1 (hq2.sup (Sup.left _ _)), f, by dsimp only; omega, hres⟩, by dsimp only; omega, ?_, ?_⟩
      · exact .c rfl rfl (.c rfl rfl .n)
      · dsimp only
        rw [List.length_append, List.length_cons, List.length_nil]
        refine ImpS.sb ?_
        exact .c .h (.c (.t (.t (.t .h))) (.c (.t .h) (.c (.t .h) (.s .r))))
  · have hc1 := of_decide_eq_true c1
    rw [rulesF_step (.inl (List.length_eq_zero_iff.1 (by omega)))] at hres
    refine .step (fun _ => .gF rfl rfl rfl rfl KQ.z) (.step (fun _ => .gF rfl rfl rfl rfl KQ.z) (.step (fun _ => .gF rfl rfl rfl rfl KQ.z) (.step (fun _ => .gF rfl rfl rfl rfl KQ.z) (.step (fun _ => .gF rfl rfl rfl rfl KQ.z) (.step (fun _ => .gF rfl rfl rfl rfl KQ.z) (.step (fun _ => .gF rfl rfl rfl rfl KQ.z) (.step (fun _ => .gF rfl rfl rfl rfl KQ.z) (.step (fun _ => .gF rfl rfl rfl rfl KQ.z) (.step (fun _ => .gF rfl rfl rfl rfl KQ.z) (.step (fun _ => .pickT rfl rfl rfl KQ.z) (.nil ?_)))))))))))
    refine .nil (kthen_n (.condT rfl rfl (.skip (kthen_n (.block (.seq (.region (.move rfl rfl ?_))))))))
    refine GO.callX2 rfl rfl rfl (htk 1 k hk) (Tks.c (Tk.t (Tk.t Tk.h)) (Tks.c (Tk.t (Tk.t Tk.h)) Tks.n)) ?_ ?_
    · rintro _ _ ⟨p, hp, rfl, rfl⟩
      repeat (first | refine kthen_p ?_ | refine kblock_p ?_ | refine kscope_p ?_)
      refine KFX.p (v := wrongB p) ⟨p, by rw [← hres]; unfold ruleF; rw [hp], rfl, rfl⟩ (ImpS.sb ?_)
      exact .s (.s .r)
    rintro _ _ ⟨t1, k1, h1, rfl, rfl⟩
    obtain ⟨m1, _, _, _, rfl, hk1⟩ := takeF_ok h1
    refine .assign rfl rfl (.nil (kthen_n (.seq (.region (.move rfl rfl ?_)))))
    refine GO.callX2 rfl rfl rfl (htk 4 (k + 1) hk1) (Tks.c Tk.h (Tks.c Tk.h Tks.n)) ?_ ?_
    · rintro _ _ ⟨p, hp, rfl, rfl⟩
      repeat (first | refine kthen_p ?_ | refine kblock_p ?_ | refine kscope_p ?_)
      refine KFX.p (v := wrongB p) ⟨p, by rw [← hres]; unfold ruleF; rw [h1]; dsimp only; rw [hp], rfl, rfl⟩ (ImpS.sb ?_)
      exact .s (.s .r)
    rintro _ _ ⟨t2, k2, h2, rfl, rfl⟩
    obtain ⟨m2, _, _, _, rfl, hk2⟩ := takeF_ok h2
    refine .nil (kthen_n (.seq (.region (.move rfl rfl ?_))))
    refine GO.callX1 rfl rfl (hbd (k + 1 + 1) hk2) (Tks.c Tk.h (Tks.c Tk.h Tks.n)) ?_ ?_
    · rintro _ _ ⟨p, hp, rfl, rfl⟩
      repeat (first | refine kthen_p ?_ | refine kblock_p ?_ | refine kscope_p ?_)
      refine KFX.p (v := wrongB p) ⟨p, by rw [← hres]; unfold ruleF; rw [h1]; dsimp only; rw [h2]; dsimp only; rw [hp], rfl, rfl⟩ (ImpS.sb ?_)
      exact .s (.s .r)
    rintro r _ ⟨l, k3, h3, hr1, rfl⟩
    have hk3 : k3 ≤ ms.length := by obtain ⟨rfl, _⟩ := bodyF_ok h3; exact (stopN_le ms hk2).2
    refine GO.ownRdK Tk.h fun q2 hq2 => ?_
    obtain ⟨ar, cr, rfl⟩ := nodes_sl hq2
    refine GO.merge (x := q2) (y := z) (Tks.c Tk.h (Tks.c (Tk.t (Tk.t (Tk.t Tk.h))) Tks.n)) ?_
    refine .assign rfl rfl (.nil (kthen_n (.seq (.region (.move rfl rfl ?_)))))
    refine GO.callX2 rfl rfl rfl (htk 5 k3 hk3) (Tks.c (Tk.t Tk.h) (Tks.c (Tk.t Tk.h) Tks.n)) ?_ ?_
    · rintro _ _ ⟨p, hp, rfl, rfl⟩
      repeat (first | refine kthen_p ?_ | refine kblock_p ?_ | refine kscope_p ?_)
      refine KFX.p (v := wrongB p) ⟨p, by rw [← hres]; unfold ruleF; rw [h1]; dsimp only; rw [h2]; dsimp only; rw [h3]; dsimp only; rw [hp], rfl, rfl⟩ (ImpS.sb ?_)
      exact .s (.s .r)
    rintro _ _ ⟨t4, k4, h4, rfl, rfl⟩
    obtain ⟨m4, _, _, _, rfl, hk4⟩ := takeF_ok h4
    have hru : ruleF s ms e k = .ok (⟨t1, l⟩, k3 + 1) := by unfold ruleF; rw [h1]; dsimp only; rw [h2]; dsimp only; rw [h3]; dsimp only; rw [h4]
    have hkk : k + 2 ≤ k3 := by obtain ⟨rfl, _⟩ := bodyF_ok h3; exact (stopN_le ms hk2).1
    rw [hru] at hres
    dsimp only at hres
    refine .nil (kthen_n (.region (.move rfl rfl (.move rfl rfl (.move rfl rfl (.build2 rfl rfl rfl rfl ?_))))))
    refine GO.buildSlice1 (n := 2) rfl rfl (fun v hv => by rw [List.mem_singleton.1 hv]; rfl) rfl ⟨by decide, by decide⟩ fun bs => ?_
    refine GO.appendOwn (m := 1) (news := [str t1, .slice ar l.length cr]) rfl rfl rfl (Tk.t (Tk.t (Tk.t (Tk.t Tk.h)))) Tk.h rfl (by simp [str, Value.oneCell']) ⟨by decide, rfl⟩ Nat.one_pos (by unfold maxLen; omega) (by omega) fun v5 => ?_
    refine .assign rfl rfl (.nil (kblock_n (kthen_n ?_)))
    refine ⟨(k3 + 1, out ++ [⟨t1, l⟩], vs ++ [str t1, .slice ar l.length cr], v5, star [q2, z]), ⟨hk4, by dsimp only; rw [List.length_append, List.length_cons, List.length_nil]; omega, (hB.sup (Sup.right _ _)).snoc hr1 (hq2.sup (Sup.left _ _)), f, by dsimp only; omega, hres⟩, by dsimp only; omega, ?_, ?_⟩
    · exact .c rfl rfl (.c rfl rfl .n)
    · dsimp only
      rw [List.length_append, List.length_cons, List.length_nil]
      refine ImpS.sb ?_
      exact .c .h (.c (.t (.t (.t .h))) (.c (.t .h) (.c (.t .h) (.s .r))))
end Go.Proofs.YtbconcohpfkncaaGreat
namespace Go.Proofs.YtbconcohpfkncaaGreat
open Go
theorem rules_sl {q : HP} {v : Value} {g : List RuleD} (hq : RulesR q v g) : ∃ a cap, v = .slice a g.length cap := let ⟨_, _, a, cap, h, _⟩ := hq; ⟨a, cap, h⟩
theorem rules_rd {q : HP} {v : Value} {g : List RuleD} {i : Nat} {r : RuleD} (hq : RulesR q v g) (h : g[i]? = some r) : ∃ b o cap w, v = .slice (some ⟨b, o, none⟩) g.length cap ∧ g.length ≤ cap ∧ NodesR q w r.body ∧
    (∀ j u, [str r.head, w][j]? = some u → Rd q ⟨b, o + i * 2 + j, none⟩ u) := by
  obtain ⟨vs, hB, a, cap, rfl, hcap, _, hr⟩ := hq
  have hi := (List.getElem?_eq_some_iff.1 h).1
  obtain ⟨b, o, rfl, hr2⟩ := hr (by omega)
  obtain ⟨h1, w, h2, h3, h4⟩ := hB.2 i r h
  refine ⟨b, o, cap, w, rfl, hcap, h4, fun j u hu => ?_⟩
  rw [Nat.add_assoc]
  refine hr2 _ _ ?_
  match j, hu with
  | 0, hu => cases hu; exact h1
  | 1, hu => cases hu; exact h2
theorem any_drop {α : Type} {l : List α} {p : α → Bool} {i : Nat} {x : α} (h : l[i]? = some x) : (l.drop i).any p = (p x || (l.drop (i + 1)).any p) := by rw [drop_at h, List.any_cons]
abbrev nodeA (m : NodeD) : Value := .agg (nodeVs m).toArray
abbrev ruleA (r : RuleD) (w : Value) : Value := .agg [str r.head, w].toArray
attribute [local irreducible] G GO GR GT Fn FnX FnV FnXV Dfr pt init exs pur sat own ImpS
set_option maxHeartbeats 8000000 in
theorem idxN_spec (q : HP) (v : Value) (l : List NodeD) (y : Value) (p : NodeD → Bool) (hq : NodesR q v l) (hl : ¬ 1048576 < l.length) (hy : ∀ m, FnV Tryz.prog y [nodeA m] [] (fun r Q => r = .bool (p m) ∧ Q = [])) :
    Fn Tryz.prog 71 #[v, y] [q] (fun r Q => ∃ n : Int, r = .int .i64 n ∧ decide (0 ≤ n) = l.any p ∧ Q = [q]) := by
  have hrd : ∀ i m, l[i]? = some m → _ := fun i m h => nodes_rd hq h
  obtain ⟨a, cap, rfl⟩ := nodes_sl hq
  generalize hres : l.any p = res
  refine Fn.mk2 Tryz.func71 rfl rfl fun w0 F => ?_
  refine .seq (.region (.assign rfl rfl (.nil (kthen_n (.seq (.seq (.region (.move rfl rfl (.lenS rfl rfl (.move rfl rfl (.nil (kthen_n (.block ?_)))))))))))))
  refine G.loopI (σ := Nat) (fun i => [(0, .slice a l.length cap), (1, y), (6, .slice a l.length cap), (7, i64 (l.length : Nat)), (8, i64 (i : Nat))]) (fun _ => q :: F) (fun i => i ≤ l.length ∧ (l.drop i).any p = res) (fun i => l.length - i) 0 ⟨Nat.zero_le _, hres⟩ ?_ ?_ ?_
  · exact .c rfl rfl (.c rfl rfl (.c rfl rfl (.c rfl rfl (.c rfl rfl .n))))
  · refine ImpS.sb ?_
    exact .c .h .r
  clear hres
  rintro i ⟨hi, hp⟩
  refine .seq (.region (.lti rfl rfl rfl (.nil (kthen_n (.seq ?_)))))
  by_cases hlt : i < l.length
  · have d1 : decide ((i : Int) < (l.length : Int)) = true := decide_eq_true (by omega)
    obtain ⟨m, hm⟩ : ∃ m, l[i]? = some m := ⟨_, List.getElem?_eq_getElem hlt⟩
    obtain ⟨b, o, cap2, e, _, rm⟩ := hrd i m hm
    injection e with e _ e2
    subst e e2
    rw [any_drop hm] at hp
    have hym := hy m
    (refine .condT rfl (by assumption) (.skip (kthen_n (.seq (.block (.seq (.region (.move rfl rfl (.assign rfl rfl (.nil (kthen_n (.seq (.region (.move rfl rfl (.move rfl rfl (.move rfl rfl ?_))))))))))))))); refine .idxS rfl rfl rfl ⟨rfl, by omega⟩ ?_)
    refine GO.loadM (vs := nodeVs m) rfl rfl rfl Tk.h rfl rm ?_
    skip
    refine GO.callV1 rfl rfl rfl (hym) Tks.n ?_
    rintro _ _ ⟨rfl, rfl⟩
    cases hpm : p m
    · rw [hpm, Bool.false_or] at hp
      refine .nil (kthen_n (.condF rfl rfl (.skip (kblock_n (kthen_n (.region (.addi rfl rfl rfl (by omega) (.move rfl rfl (.nil (kthen_n ?_))))))))))
      refine ⟨i + 1, ⟨hlt, hp⟩, by omega, ?_, ImpS.sb ?_⟩
      · exact .c rfl rfl (.c rfl rfl (.c rfl rfl (.c rfl rfl (.c rfl rfl .n))))
      · exact .c .h .r
    · rw [hpm, Bool.true_or] at hp
      refine .nil (kthen_n (.condT rfl rfl (.seq (.region (.move rfl rfl (.assign rfl rfl (.nil (kthen_n (.ret (kblock_r (kthen_r (kthen_r (kblock_r (kthen_r ?_))))))))))))))
      refine KF2.r1 rfl (RV.t rfl) ⟨_, rfl, by rw [← hp]; exact decide_eq_true (by omega), rfl⟩ (ImpS.sb ?_)
      exact .c .h .r
  · have d1 : decide ((i : Int) < (l.length : Int)) = false := decide_eq_false (by omega)
    rw [List.drop_eq_nil_of_le (by omega)] at hp
    refine .condF rfl (by assumption) (.exit (kthen_x (kthen_x (kblock_x (kthen_n (.seq (.region (.assign rfl rfl (.nil (kthen_n (.ret ?_)))))))))))
    refine KF2.r1 rfl (RV.t rfl) ⟨_, rfl, by rw [← hp]; rfl, rfl⟩ (ImpS.sb ?_)
    exact .c .h .r
set_option maxHeartbeats 8000000 in
theorem hasN_spec (q : HP) (v : Value) (l : List NodeD) (y : Value) (p : NodeD → Bool) (hq : NodesR q v l) (hl : ¬ 1048576 < l.length) (hy : ∀ m, FnV Tryz.prog y [nodeA m] [] (fun r Q => r = .bool (p m) ∧ Q = [])) :
    Fn Tryz.prog 40 #[v, y] [q] (fun r Q => r = .bool (l.any p) ∧ Q = [q]) := by
  refine Fn.mk2 Tryz.func40 rfl rfl fun w0 F => ?_
  refine .seq (.region (.assign rfl rfl (.nil (kthen_n (.seq (.region (.move rfl rfl (.move rfl rfl ?_))))))))
  refine GO.call2 rfl rfl rfl (idxN_spec q v l y p hq hl hy) (Tks.c Tk.h Tks.n) ?_
  rintro _ _ ⟨n, rfl, hn, rfl⟩
  rw [← hn]
  refine .gei rfl rfl rfl (.assign rfl rfl (.nil (kthen_n (.ret ?_))))
  refine KF2.r1 rfl (RV.t rfl) ⟨rfl, rfl⟩ (ImpS.sb ?_)
  exact .c .h .r
set_option maxHeartbeats 8000000 in
theorem idxR_spec (q : HP) (v : Value) (g : List RuleD) (y : Value) (p : RuleD → Bool) (hq : RulesR q v g) (hl : ¬ 1048576 < g.length) (hy : ∀ r ∈ g, ∀ w, NodesR q w r.body → FnV Tryz.prog y [ruleA r w] [q] (fun x Q => x = .bool (p r) ∧ Q = [q])) :
    Fn Tryz.prog 70 #[v, y] [q] (fun r Q => ∃ n : Int, r = .int .i64 n ∧ decide (0 ≤ n) = g.any p ∧ Q = [q]) := by
  have hrd : ∀ i r, g[i]? = some r → _ := fun i r h => rules_rd hq h
  obtain ⟨a, cap, rfl⟩ := rules_sl hq
  generalize hres : g.any p = res
  refine Fn.mk2 Tryz.func70 rfl rfl fun w0 F => ?_
  refine .seq (.region (.assign rfl rfl (.nil (kthen_n (.seq (.seq (.region (.move rfl rfl (.lenS rfl rfl (.move rfl rfl (.nil (kthen_n (.block ?_)))))))))))))
  refine G.loopI (σ := Nat) (fun i => [(0, .slice a g.length cap), (1, y), (6, .slice a g.length cap), (7, i64 (g.length : Nat)), (8, i64 (i : Nat))]) (fun _ => q :: F) (fun i => i ≤ g.length ∧ (g.drop i).any p = res) (fun i => g.length - i) 0 ⟨Nat.zero_le _, hres⟩ ?_ ?_ ?_
  · exact .c rfl rfl (.c rfl rfl (.c rfl rfl (.c rfl rfl (.c rfl rfl .n))))
  · refine ImpS.sb ?_
    exact .c .h .r
  clear hres
  rintro i ⟨hi, hp⟩
  refine .seq (.region (.lti rfl rfl rfl (.nil (kthen_n (.seq ?_)))))
  by_cases hlt : i < g.length
  · have d1 : decide ((i : Int) < (g.length : Int)) = true := decide_eq_true (by omega)
    obtain ⟨m, hm⟩ : ∃ m, g[i]? = some m := ⟨_, List.getElem?_eq_getElem hlt⟩
    obtain ⟨b, o, cap2, w, e, _, hw, rm⟩ := hrd i m hm
    injection e with e _ e2
    subst e e2
    rw [any_drop hm] at hp
    have hym := hy m (List.mem_of_getElem? hm) w hw
    obtain ⟨aw, cw, rfl⟩ := nodes_sl hw
    (refine .condT rfl (by assumption) (.skip (kthen_n (.seq (.block (.seq (.region (.move rfl rfl (.assign rfl rfl (.nil (kthen_n (.seq (.region (.move rfl rfl (.move rfl rfl (.move rfl rfl ?_))))))))))))))); refine .idxS rfl rfl rfl ⟨rfl, by omega⟩ ?_)
    refine GO.loadM (vs := [str m.head, .slice aw m.body.length cw]) rfl rfl rfl Tk.h rfl rm ?_
    skip
    refine GO.callV1 rfl rfl rfl (hym) (Tks.c Tk.h Tks.n) ?_
    rintro _ _ ⟨rfl, rfl⟩
    cases hpm : p m
    · rw [hpm, Bool.false_or] at hp
      refine .nil (kthen_n (.condF rfl rfl (.skip (kblock_n (kthen_n (.region (.addi rfl rfl rfl (by omega) (.move rfl rfl (.nil (kthen_n ?_))))))))))
      refine ⟨i + 1, ⟨hlt, hp⟩, by omega, ?_, ImpS.sb ?_⟩
      · exact .c rfl rfl (.c rfl rfl (.c rfl rfl (.c rfl rfl (.c rfl rfl .n))))
      · exact .c .h .r
    · rw [hpm, Bool.true_or] at hp
      refine .nil (kthen_n (.condT rfl rfl (.seq (.region (.move rfl rfl (.assign rfl rfl (.nil (kthen_n (.ret (kblock_r (kthen_r (kthen_r (kblock_r (kthen_r ?_))))))))))))))
      refine KF2.r1 rfl (RV.t rfl) ⟨_, rfl, by rw [← hp]; exact decide_eq_true (by omega), rfl⟩ (ImpS.sb ?_)
      exact .c .h .r
  · have d1 : decide ((i : Int) < (g.length : Int)) = false := decide_eq_false (by omega)
    rw [List.drop_eq_nil_of_le (by omega)] at hp
    refine .condF rfl (by assumption) (.exit (kthen_x (kthen_x (kblock_x (kthen_n (.seq (.region (.assign rfl rfl (.nil (kthen_n (.ret ?_)))))))))))
    refine KF2.r1 rfl (RV.t rfl) ⟨_, rfl, by rw [← hp]; rfl, rfl⟩ (ImpS.sb ?_)
    exact .c .h .r
set_option maxHeartbeats 8000000 in
theorem hasR_spec (q : HP) (v : Value) (g : List RuleD) (y : Value) (p : RuleD → Bool) (hq : RulesR q v g) (hl : ¬ 1048576 < g.length) (hy : ∀ r ∈ g, ∀ w, NodesR q w r.body → FnV Tryz.prog y [ruleA r w] [q] (fun x Q => x = .bool (p r) ∧ Q = [q])) :
    Fn Tryz.prog 38 #[v, y] [q] (fun r Q => r = .bool (g.any p) ∧ Q = [q]) := by
  refine Fn.mk2 Tryz.func38 rfl rfl fun w0 F => ?_
  refine .seq (.region (.assign rfl rfl (.nil (kthen_n (.seq (.region (.move rfl rfl (.move rfl rfl ?_))))))))
  refine GO.call2 rfl rfl rfl (idxR_spec q v g y p hq hl hy) (Tks.c Tk.h Tks.n) ?_
  rintro _ _ ⟨n, rfl, hn, rfl⟩
  rw [← hn]
  refine .gei rfl rfl rfl (.assign rfl rfl (.nil (kthen_n (.ret ?_))))
  refine KF2.r1 rfl (RV.t rfl) ⟨rfl, rfl⟩ (ImpS.sb ?_)
  exact .c .h .r
def longN (m : NodeD) : Bool := decide ((16 : Int) < (m.name.length : Int))
def longR (r : RuleD) : Bool := decide ((16 : Int) < (r.head.length : Int)) || r.body.any longN
set_option maxHeartbeats 4000000 in
theorem long11_spec (m : NodeD) : FnV Tryz.prog (.func (.func 41) #[] #[]) [nodeA m] [] (fun r Q => r = .bool (longN m) ∧ Q = []) := by
  refine FnV.of (caps := []) ?_
  refine Fn.mk2 Tryz.func41 rfl rfl fun w0 F => ?_
  unfold longN
  refine .seq (.region (.box rfl rfl rfl fun b1 => .assign rfl rfl (.nil (kthen_n (.seq (.region (.fieldAddr rfl rfl (.load1 rfl rfl rfl .h rfl (.strLen rfl rfl (.gti rfl rfl rfl (.assign rfl rfl (.nil (kthen_n (.ret ?_))))))))))))))
  refine KF2.r1 rfl (RV.t rfl) ⟨rfl, rfl⟩ (ImpS.sb ?_)
  exact .s .r
set_option maxHeartbeats 4000000 in
theorem long1_spec (q : HP) (r : RuleD) (w : Value) (hw : NodesR q w r.body) (hl : ¬ 1048576 < r.body.length) : FnV Tryz.prog (.func (.func 39) #[] #[]) [ruleA r w] [q] (fun x Q => x = .bool (longR r) ∧ Q = [q]) := by
  obtain ⟨aw, cw, rfl⟩ := nodes_sl hw
  refine FnV.of (caps := []) ?_
  refine Fn.mk2 Tryz.func39 rfl rfl fun w0 F => ?_
  unfold longR
  refine .seq (.region (.box rfl rfl rfl fun b1 => .assign rfl rfl (.nil (kthen_n (.seq (.region (.fieldAddr rfl rfl (.load1 rfl rfl rfl .h rfl (.strLen rfl rfl (.gti rfl rfl rfl (.move rfl rfl ?_)))))))))))
  cases d : decide ((16 : Int) < (r.head.length : Int))
  · refine .gT rfl rfl rfl (.fieldAddr rfl rfl (.gT rfl rfl rfl (.load1 rfl rfl rfl .h rfl (.gT rfl rfl rfl ?_))))
    refine GO.call2 rfl rfl rfl (hasN_spec q _ r.body _ longN hw hl long11_spec) (Tks.c (Tk.t Tk.h) Tks.n) ?_
    rintro _ _ ⟨rfl, rfl⟩
    refine .pickF rfl rfl rfl (.assign rfl rfl (.nil (kthen_n (.ret ?_))))
    refine KF2.r1 rfl (RV.t rfl) ⟨rfl, rfl⟩ (ImpS.sb ?_)
    exact .c .h (.s .r)
  · refine .gF rfl rfl rfl rfl (.gF rfl rfl rfl rfl (.gF rfl rfl rfl rfl (.pickT rfl rfl rfl (.assign rfl rfl (.nil (kthen_n (.ret ?_)))))))
    refine KF2.r1 rfl (RV.t rfl) ⟨rfl, rfl⟩ (ImpS.sb ?_)
    exact .c (.t .h) (.s .r)
set_option maxHeartbeats 4000000 in
theorem long_spec (q : HP) (v : Value) (g : List RuleD) (hq : RulesR q v g) (hl : ¬ 1048576 < g.length) (hb : ∀ r ∈ g, ¬ 1048576 < r.body.length) : Fn Tryz.prog 16 #[v] [q] (fun r Q => r = .bool (g.any longR) ∧ Q = [q]) := by
  refine Fn.mk2 Tryz.func16 rfl rfl fun w0 F => ?_
  refine .seq (.region (.assign rfl rfl (.nil (kthen_n (.seq (.region (.move rfl rfl ?_)))))))
  refine GO.call2 rfl rfl rfl (hasR_spec q v g _ longR hq hl (fun r hr w hw => long1_spec q r w hw (hb r hr))) (Tks.c Tk.h Tks.n) ?_
  rintro _ _ ⟨rfl, rfl⟩
  refine .assign rfl rfl (.nil (kthen_n (.ret ?_)))
  refine KF2.r1 rfl (RV.t rfl) ⟨rfl, rfl⟩ (ImpS.sb ?_)
  exact .c .h .r
end Go.Proofs.YtbconcohpfkncaaGreat
namespace Go.Proofs.YtbconcohpfkncaaGreat
open Go
abbrev SN := List UInt8 × Nat
def entS : List SN → List Nat → List MapEntry
  | (k, v) :: l, b :: bs => { key := str k, val := i64 (v : Nat), born := b } :: entS l bs
  | _, _ => []
def mapO (l : List SN) (bs : List Nat) (n : Nat) : Obj := .map (entS l bs).toArray n
/-- A map with these keys and numbers, in the order in which they came. -/
def mapP (b : Nat) (l : List SN) : HP := exs fun x : List Nat × Nat => star [pur (x.1.length = l.length ∧ (∀ c ∈ x.1, c < x.2) ∧ x.1.Nodup), pt b (mapO l x.1 x.2)]
def findS (k : List UInt8) : List SN → Nat → Option (Nat × Value)
  | [], _ => none
  | (a, v) :: l, i => if k = a then some (i, i64 (v : Nat)) else findS k l (i + 1)
def getN (k : List UInt8) : List SN → Nat
  | [] => 0
  | (a, v) :: l => if k = a then v else getN k l
def putN (k : List UInt8) (v : Nat) : List SN → List SN
  | [] => [(k, v)]
  | (a, u) :: l => if k = a then (k, v) :: l else (a, u) :: putN k v l
def delN (k : List UInt8) : List SN → List SN
  | [] => []
  | (a, u) :: l => if k = a then l else (a, u) :: delN k l
theorem entS_len : ∀ (l : List SN) (bs : List Nat), bs.length = l.length → (entS l bs).length = l.length
  | [], [], _ => rfl
  | (k, v) :: l, b :: bs, h => by simp only [entS, List.length_cons] at h ⊢; rw [entS_len l bs (by omega)]
theorem entS_born : ∀ (l : List SN) (bs : List Nat), bs.length = l.length → (entS l bs).map (·.born) = bs
  | [], [], _ => rfl
  | (k, v) :: l, b :: bs, h => by simp only [entS, List.length_cons, List.map_cons] at h ⊢; rw [entS_born l bs (by omega)]
theorem entS_push (k : List UInt8) (v c : Nat) : ∀ (l : List SN) (bs : List Nat), bs.length = l.length → entS (l ++ [(k, v)]) (bs ++ [c]) = entS l bs ++ [{ key := str k, val := i64 (v : Nat), born := c }]
  | [], [], _ => rfl
  | (a, u) :: l, b :: bs, h => by
    simp only [List.length_cons] at h
    simp only [List.cons_append, entS]
    rw [entS_push k v c l bs (by omega)]
theorem findNow_str (k : List UInt8) : ∀ (l : List SN) (bs : List Nat) (i : Nat), bs.length = l.length → Instr.findNow .string (str k) (entS l bs) i = some (findS k l i)
  | [], [], _, _ => rfl
  | (a, v) :: l, b :: bs, i, h => by
    simp only [List.length_cons] at h
    have ih := findNow_str k l bs (i + 1) (by omega)
    simp only [entS, Instr.findNow, findS]
    by_cases hk : k = a
    · subst hk
      have : Instr.sameNow .string (str k) (str k) = some true := by
        show some (_ == _) = _
        rw [(MapKept.bytes_beq _ _).2 rfl]
      rw [this, if_pos rfl]
    · have : Instr.sameNow .string (str k) (str a) = some false := by
        show some (_ == _) = _
        congr 1
        cases hb : ((⟨k.toArray⟩ : ByteArray) == ⟨a.toArray⟩) with
        | false => rfl
        | true =>
          have := (MapKept.bytes_beq _ _).1 hb
          injection this with this
          exact absurd (List.toArray_inj this) hk
      rw [this, if_neg hk]
      exact ih
theorem findS_none {k : List UInt8} : ∀ {l : List SN} {i : Nat}, findS k l i = none → getN k l = 0 ∧ (∀ v, putN k v l = l ++ [(k, v)]) ∧ delN k l = l
  | [], _, _ => ⟨rfl, fun _ => rfl, rfl⟩
  | (a, u) :: l, i, h => by
    simp only [findS] at h
    split at h
    · cases h
    · rename_i hk
      obtain ⟨h1, h2, h3⟩ := findS_none h
      simp only [getN, putN, delN, if_neg hk, h1, h2, h3, List.cons_append]
      exact ⟨trivial, fun _ => trivial, trivial⟩
theorem findS_some {k : List UInt8} : ∀ {l : List SN} {bs : List Nat} {i j : Nat} {u : Value}, bs.length = l.length → findS k l i = some (j, u) → ∃ d, j = i + d ∧ d < l.length ∧ u = i64 (getN k l : Nat) ∧ (∃ e, (entS l bs)[d]? = some e ∧ e.key = str k) ∧
    (∀ v, entS (putN k v l) bs = (entS l bs).modify d fun e => { e with key := str k, val := i64 (v : Nat) }) ∧ (∀ v, (putN k v l).length = l.length) ∧ entS (delN k l) (bs.eraseIdx d) = (entS l bs).eraseIdx d ∧ (delN k l).length + 1 = l.length
  | [], _, _, _, _, _, h => by cases h
  | (a, v) :: l, b :: bs, i, j, u, hl, h => by
    simp only [List.length_cons] at hl
    simp only [findS] at h
    split at h
    · rename_i hk
      subst hk
      cases h
      refine ⟨0, rfl, by simp, by simp [getN], ⟨_, rfl, rfl⟩, fun v => by simp [putN, entS], fun v => by simp [putN], by simp [delN, entS], by simp [delN]⟩
    · rename_i hk
      obtain ⟨d, rfl, h1, h2, ⟨e, h3, h4⟩, h5, h6, h7, h8⟩ := findS_some (bs := bs) (by omega) h
      refine ⟨d + 1, by omega, by simp; omega, by simp [getN, hk, h2], ⟨e, by simpa [entS] using h3, h4⟩, fun v => by simp [putN, hk, entS, h5], fun v => by simp [putN, hk, h6], by simp [delN, hk, entS, h7], by simp [delN, hk, h8]⟩
/-- A type's zero value. -/
class ZV (P : Program) (t : TypeId) (z : outParam Value) : Prop where out : (P.info? t).bind (·.zero) = some z
theorem run_zero_ZV {P : Program} {t : TypeId} {z : Value} [h : ZV P t z] (w : World) : (zeroValue t).run P w = .ok z w := by
  have h1 := h.out
  cases hq : P.info? t with
  | none => simp [hq] at h1
  | some i =>
    simp [hq] at h1
    simp [zeroValue, typeInfo, hq, h1]
section rules
variable {P : Program} {c : Cx} {A : Array Oper} {rest os : List Oper} {K : Kont} {L : Env} {H F : List HP} {t : TypeId} {p : String} {e : Array Edge}
variable {d b : Nat} {x y u : Operand} {mt kt et : TypeId} {k : List UInt8} {l : List SN} {v : Nat}
theorem GO.mapOpen (tk : Tk (mapP b l) H F) (k : ∀ bs n, bs.length = l.length → (∀ c ∈ bs, c < n) → bs.Nodup → GO P c A os K L (pt b (mapO l bs n) :: F)) : GO P c A os K L H :=
  GO.take tk (GO.exs fun x => GO.flat (GO.pur fun h => k x.1 x.2 h.1 h.2.1 h.2.2))
theorem map_in {bs : List Nat} {n : Nat} (h1 : bs.length = l.length) (h2 : ∀ c ∈ bs, c < n) (h3 : bs.Nodup) {H : List HP} {w : World} (s : sat (pt b (mapO l bs n) :: H) w) : sat (mapP b l :: H) w := by
  unfold mapP
  exact sat_exs.2 ⟨(bs, n), sat_flat.2 (sat_pur.2 ⟨⟨h1, h2, h3⟩, s⟩)⟩
theorem GO.mapNew (hN : Nat.blt d c.N = true) (k : ∀ b, GO P c A rest K ((d, .map (some b)) :: L) (mapP b [] :: H)) : GO P c A (⟨some d, .makeMap mt none, t, p, e, none⟩ :: rest) K L H :=
  GO.gen hN rfl (fun v H' => ∃ b, v = .map (some b) ∧ H' = mapP b [] :: H)
    (fun a w Y h s => ⟨.map (some w.heap.size), w.alloc (mapO [] [] 0), _, by
      simp only [execOp, Instr.makeMap, Option.map_none]
      simp [Result.andThen, mapO, entS], Same.alloc w _, ⟨w.heap.size, rfl, rfl⟩, map_in rfl (fun _ h => by cases h) List.nodup_nil (sat_alloc s _)⟩) (by rintro _ _ ⟨b, rfl, rfl⟩; exact k b)
theorem GO.mapGet [hm : UL P mt (.map kt et)] [hk : UL P kt .string] [hz : ZV P et (i64 0)] (hN : Nat.blt d c.N = true) (hx : evl L x = some (.map (some b))) (hy : evl L y = some (str k)) (tk : Tk (mapP b l) H F)
    (g : GO P c A rest K ((d, i64 (getN k l : Nat)) :: L) (mapP b l :: F)) : GO P c A (⟨some d, .lookup mt x y false, t, p, e, none⟩ :: rest) K L H :=
  GO.mapOpen tk fun bs n h1 h2 h3 => GO.val hN rfl (fun a w Y h s => by
    have hb := sat_pt s
    simp only [execOp, h.eval hx, h.eval hy, Instr.lookup]
    simp only [Sem.run_bind, run_underlying hm.out, Result.andThen_ok, MapKept.run_getObj_map hb, Sem.run_pure]
    simp only [MapKept.run_checkKey (P := P) (w := w) hk.out (k := str k) trivial, MapKept.run_findKey hk.out (findNow_str k l bs 0 h1), Result.andThen_ok]
    cases hf : findS k l 0 with
    | none => simp [run_zero_ZV, Result.andThen, (findS_none hf).1]
    | some q => obtain ⟨i, v⟩ := q; obtain ⟨_, _, _, rfl, _⟩ := findS_some h1 hf; simp [Result.andThen]) (GO.imp (fun _ _ s => map_in h1 h2 h3 s) g)
theorem GO.mapPut [hm : UL P mt (.map kt et)] [hk : UL P kt .string] (hx : evl L x = some (.map (some b))) (hy : evl L y = some (str k)) (hu : evl L u = some (i64 (v : Nat))) (tk : Tk (mapP b l) H F)
    (g : GO P c A rest K L (mapP b (putN k v l) :: F)) : GO P c A (⟨none, .mapUpdate mt x y u, t, p, e, none⟩ :: rest) K L H :=
  GO.mapOpen tk fun bs n h1 h2 h3 => GO.genS rfl (fun a w Y h s => by
    have hb := sat_pt s
    have hlt := (Array.getElem?_eq_some_iff.1 hb).1
    cases hf : findS k l 0 with
    | none =>
      obtain ⟨_, e2, _⟩ := findS_none hf
      refine ⟨{ w with heap := w.heap.setIfInBounds b (mapO (putN k v l) (bs ++ [n]) (n + 1)) }, ?_, ⟨rfl, rfl, rfl, by simp, Nat.le_refl _⟩, map_in (bs := bs ++ [n]) (n := n + 1) (by rw [e2]; simp [h1]) (fun c hc => by
        rcases List.mem_append.1 hc with hc | hc
        · have := h2 c hc; omega
        · simp at hc; omega) (List.nodup_append.2 ⟨h3, by simp, fun x hx y hy => by simp at hy; subst hy; have := h2 x hx; omega⟩) (sat_upd s ?_ ?_)⟩
      · simp only [execOp, h.eval hx, h.eval hy, h.eval hu, Instr.mapUpdate]
        simp only [Sem.run_bind, run_underlying hm.out, Result.andThen_ok, MapKept.run_getObj_map hb, MapKept.run_checkKey (P := P) (w := w) hk.out (k := str k) trivial, MapKept.run_findKey hk.out (findNow_str k l bs 0 h1), hf]
        rw [MapKept.run_setObj_map _ hb]
        simp [Result.andThen, mapO, e2, entS_push k v n l bs h1]
      · simp [hlt]
      · intro j hj
        rw [Array.getElem?_setIfInBounds_ne (Ne.symm hj)]
    | some q =>
      obtain ⟨i, q⟩ := q
      obtain ⟨d, e0, _, _, ⟨en, e3, e4⟩, e5, e6, _⟩ := findS_some h1 hf
      rw [Nat.zero_add] at e0
      subst e0
      refine ⟨{ w with heap := w.heap.setIfInBounds b (mapO (putN k v l) bs n) }, ?_, ⟨rfl, rfl, rfl, by simp, Nat.le_refl _⟩, map_in (by rw [e6, h1]) h2 h3 (sat_upd s ?_ ?_)⟩
      · simp only [execOp, h.eval hx, h.eval hy, h.eval hu, Instr.mapUpdate]
        simp only [Sem.run_bind, run_underlying hm.out, Result.andThen_ok, MapKept.run_getObj_map hb, MapKept.run_checkKey (P := P) (w := w) hk.out (k := str k) trivial, MapKept.run_findKey hk.out (findNow_str k l bs 0 h1), hf, List.getElem?_toArray, e3, Option.map_some, Option.getD_some, e4, MapKept.run_keyThatStays (d := .string) (k := str k) trivial]
        rw [MapKept.run_setObj_map _ hb]
        simp [Result.andThen, mapO, e5]
      · simp [hlt]
      · intro j hj
        rw [Array.getElem?_setIfInBounds_ne (Ne.symm hj)]) g
theorem GO.mapLen {at1 : TypeId} [hm : UL P at1 (.map kt et)] (hN : Nat.blt d c.N = true) (hx : evl L x = some (.map (some b))) (tk : Tk (mapP b l) H F)
    (g : GO P c A rest K ((d, i64 (l.length : Nat)) :: L) (mapP b l :: F)) : GO P c A (⟨some d, .call ⟨.builtin .len, #[x], #[at1]⟩, t, p, e, none⟩ :: rest) K L H :=
  GO.mapOpen tk fun bs n h1 h2 h3 => GO.val hN rfl (fun a w Y h s => by
    have hb := sat_pt s
    simp only [execOp, resolve, invoke, builtin]
    simp [Sem.run_bind, Result.andThen, h.eval hx, Builtin.len_, MapKept.run_getObj_map hb, run_underlying hm.out, entS_len l bs h1, goInt]) (GO.imp (fun _ _ s => map_in h1 h2 h3 s) g)
theorem GO.mapDel {at1 at2 : TypeId} [hm : UL P at1 (.map kt et)] [hk : UL P kt .string] (hx : evl L x = some (.map (some b))) (hy : evl L y = some (str k)) (tk : Tk (mapP b l) H F)
    (g : GO P c A rest K L (mapP b (delN k l) :: F)) : GO P c A (⟨none, .call ⟨.builtin .delete, #[x, y], #[at1, at2]⟩, t, p, e, none⟩ :: rest) K L H := by
  refine GO.mapOpen tk fun bs n h1 h2 h3 => ?_
  exact GO.gen0 rfl (fun _ H' => H' = mapP b (delN k l) :: F)
    (fun a w Y h s => by
      have hb := sat_pt s
      have hlt := (Array.getElem?_eq_some_iff.1 hb).1
      cases hf : findS k l 0 with
      | none =>
        obtain ⟨_, _, e3⟩ := findS_none hf
        refine ⟨.tuple #[], { w with heap := w.heap.setIfInBounds b (mapO (delN k l) bs n) }, _, ?_, ⟨rfl, rfl, rfl, by simp, Nat.le_refl _⟩, rfl, map_in (bs := bs) (n := n) (by rw [e3, h1]) h2 h3 (sat_upd s ?_ ?_)⟩
        · simp only [execOp, resolve, invoke, builtin]
          simp only [List.map_toArray, List.map_cons, List.map_nil, Sem.run_bind, Result.andThen, Sem.run_pure, h.eval hx, h.eval hy]
          simp [Builtin.delete_, run_underlying hm.out, MapKept.run_getObj_map hb, MapKept.run_checkKey (P := P) (w := w) hk.out (k := str k) trivial, MapKept.run_findKey hk.out (findNow_str k l bs 0 h1), hf, MapKept.run_setObj_map _ hb, Result.andThen, mapO, e3]
        · simp [hlt]
        · intro j hj
          rw [Array.getElem?_setIfInBounds_ne (Ne.symm hj)]
      | some q =>
        obtain ⟨i, q⟩ := q
        obtain ⟨d, e0, e1, _, _, _, _, e7, e8⟩ := findS_some h1 hf
        rw [Nat.zero_add] at e0
        subst e0
        have hel : i < (entS l bs).length := by rw [entS_len l bs h1]; exact e1
        refine ⟨.tuple #[], { w with heap := w.heap.setIfInBounds b (mapO (delN k l) (bs.eraseIdx i) n) }, _, ?_, ⟨rfl, rfl, rfl, by simp, Nat.le_refl _⟩, rfl, map_in (bs := bs.eraseIdx i) (n := n) (by rw [List.length_eraseIdx_of_lt (by omega)]; omega) (fun c hc => h2 c ((List.eraseIdx_sublist _ _).subset hc)) (List.Nodup.sublist (List.eraseIdx_sublist _ _) h3) (sat_upd s ?_ ?_)⟩
        · simp only [execOp, resolve, invoke, builtin]
          simp only [List.map_toArray, List.map_cons, List.map_nil, Sem.run_bind, Result.andThen, Sem.run_pure, h.eval hx, h.eval hy]
          simp [Builtin.delete_, run_underlying hm.out, MapKept.run_getObj_map hb, MapKept.run_checkKey (P := P) (w := w) hk.out (k := str k) trivial, MapKept.run_findKey hk.out (findNow_str k l bs 0 h1), hf, MapKept.run_setObj_map _ hb, Result.andThen, mapO, e7, Array.eraseIdxIfInBounds, hel]
        · simp [hlt]
        · intro j hj
          rw [Array.getElem?_setIfInBounds_ne (Ne.symm hj)])
    (by rintro _ _ rfl; exact g)
end rules
end Go.Proofs.YtbconcohpfkncaaGreat
namespace Go.Proofs.YtbconcohpfkncaaGreat
open Go
theorem filter_born {x : MapEntry} : ∀ {L : List MapEntry}, (L.map (·.born)).Nodup → x ∈ L → (L.filter fun y => !(y.born == x.born)).length + 1 = L.length
  | [], _, h => by cases h
  | a :: L, hn, h => by
    rw [List.map_cons, List.nodup_cons] at hn
    rcases List.mem_cons.1 h with rfl | h
    · have : L.filter (fun y => !(y.born == x.born)) = L := List.filter_eq_self.2 fun y hy => by
        have : y.born ≠ x.born := fun e => hn.1 (by rw [← e]; exact List.mem_map_of_mem hy)
        simp [this]
      rw [List.filter_cons_of_neg (by simp), this, List.length_cons]
    · have hne : a.born ≠ x.born := fun e => hn.1 (by rw [e]; exact List.mem_map_of_mem h)
      rw [List.filter_cons_of_pos (by simp [hne]), List.length_cons, List.length_cons, filter_born hn.2 h]
theorem left_push {L : List MapEntry} {seen : Array Nat} {x : MapEntry} (hn : (L.map (·.born)).Nodup) (hx : x ∈ (leftOf L.toArray seen).toList) : (leftOf L.toArray (seen.push x.born)).size + 1 = (leftOf L.toArray seen).size := by
  have e1 : ∀ s : Array Nat, (leftOf L.toArray s).toList = L.filter fun y => !s.contains y.born := fun s => by unfold leftOf; simp
  have e2 : ∀ s : Array Nat, (leftOf L.toArray s).size = (L.filter fun y => !s.contains y.born).length := fun s => by rw [← Array.length_toList, e1]
  rw [e1] at hx
  rw [e2, e2]
  have : (L.filter fun y => !(seen.push x.born).contains y.born) = (L.filter fun y => !seen.contains y.born).filter fun y => !(y.born == x.born) := by
    rw [List.filter_filter]
    congr 1
    funext y
    rw [Array.contains_push]
    cases seen.contains y.born <;> cases h : (x.born == y.born) <;> cases h2 : (y.born == x.born) <;> simp_all
  rw [this]
  exact filter_born (List.Nodup.sublist ((List.filter_sublist (p := fun y : MapEntry => !seen.contains y.born)).map _) hn) hx
theorem entS_mem {l : List SN} : ∀ {bs : List Nat} {x : MapEntry}, x ∈ entS l bs → ∃ kv ∈ l, x.key = str kv.1 ∧ x.val = i64 (kv.2 : Nat) := by
  induction l with
  | nil => intro bs x h; simp [entS] at h
  | cons a l ih =>
    intro bs x h
    cases bs with
    | nil => simp [entS] at h
    | cons b bs =>
      simp only [entS] at h
      rcases List.mem_cons.1 h with rfl | h
      · exact ⟨a, by simp, rfl, rfl⟩
      · obtain ⟨kv, h1, h2⟩ := ih h
        exact ⟨kv, by simp [h1], h2⟩
/-- A map that is ranged over: k entries are left; last: what came last. -/
structure ItD where
  bs : List Nat
  n : Nat
  since : Nat
  seen : Array Nat
  c0 : Nat
def ItOK (l : List SN) (k : Nat) (last : Option SN) (x : ItD) : Prop :=
  x.bs.length = l.length ∧ (∀ c ∈ x.bs, c < x.since) ∧ x.bs.Nodup ∧ x.since ≤ x.c0 ∧ x.since ≤ x.n ∧ (leftOf (entS l x.bs).toArray x.seen).size = k ∧
    ∀ kv, last = some kv → x.c0 = x.n ∧ ∃ e s, e ∈ entS l x.bs ∧ e.key = str kv.1 ∧ e.val = i64 (kv.2 : Nat) ∧ x.seen = Array.push s e.born
def mapIt (b r : Nat) (l : List SN) (k : Nat) (last : Option SN) : HP := exs fun x : ItD => star [pur (ItOK l k last x), pt b (mapO l x.bs x.n), pt r (.mapIter (some b) x.since x.seen x.c0)]
section rules
variable {P : Program} {c : Cx} {A : Array Oper} {rest os : List Oper} {K : Kont} {L : Env} {H F : List HP} {t : TypeId} {p : String} {e : Array Edge}
variable {d b r k : Nat} {x y u : Operand} {mt kt et : TypeId} {l : List SN} {last : Option SN}
theorem it_in {x : ItD} (h : ItOK l k last x) {H : List HP} {w : World} (s : sat (pt r (.mapIter (some b) x.since x.seen x.c0) :: pt b (mapO l x.bs x.n) :: H) w) : sat (mapIt b r l k last :: H) w := by
  unfold mapIt
  exact sat_exs.2 ⟨x, sat_flat.2 (sat_pur.2 ⟨h, sat_perm (List.Perm.swap _ _ _) s⟩)⟩
theorem GO.itOpen (tk : Tk (mapIt b r l k last) H F) (g : ∀ x : ItD, ItOK l k last x → GO P c A os K L (pt r (.mapIter (some b) x.since x.seen x.c0) :: pt b (mapO l x.bs x.n) :: F)) : GO P c A os K L H :=
  GO.take tk (GO.exs fun x => GO.flat (GO.pur fun h => GO.imp (fun _ _ s => sat_perm (List.Perm.swap _ _ _) s) (g x h)))
theorem GO.mapRange [hm : UL P mt (.map kt et)] (hN : Nat.blt d c.N = true) (hx : evl L x = some (.map (some b))) (tk : Tk (mapP b l) H F)
    (g : ∀ r, GO P c A rest K ((d, ptrV r) :: L) (mapIt b r l l.length none :: F)) : GO P c A (⟨some d, .range mt x, t, p, e, none⟩ :: rest) K L H :=
  GO.mapOpen tk fun bs n h1 h2 h3 => GO.gen hN rfl (fun v H' => ∃ r, v = ptrV r ∧ H' = mapIt b r l l.length none :: F)
    (fun a w Y h s => by
      have hb := sat_pt s
      refine ⟨ptrV w.heap.size, w.alloc (.mapIter (some b) n #[] n), _, ?_, Same.alloc w _, ⟨w.heap.size, rfl, rfl⟩, it_in (x := ⟨bs, n, n, #[], n⟩) ⟨h1, h2, h3, Nat.le_refl _, Nat.le_refl _, ?_, fun kv h => by cases h⟩ (sat_alloc s _)⟩
      · simp only [execOp, h.eval hx, Sem.run_bind]
        have := run_range_map (P := P) w mt kt et b _ n hm.out hb
        simp [this, Result.andThen]
      · simp [leftOf]
        rw [List.filter_eq_self.2 (fun _ _ => rfl), entS_len l bs h1]) (by rintro _ _ ⟨r, rfl, rfl⟩; exact g r)
theorem GO.mapNext (hN : Nat.blt d c.N = true) (hx : evl L x = some (ptrV r)) (tk : Tk (mapIt b r l k last) H F)
    (g0 : k = 0 → GO P c A rest K ((d, .tuple #[.bool false]) :: L) (mapIt b r l k last :: F))
    (g1 : ∀ kv m, k = m + 1 → kv ∈ l → GO P c A rest K ((d, .tuple #[.bool true, str kv.1, i64 (kv.2 : Nat)]) :: L) (mapIt b r l m (some kv) :: F)) : GO P c A (⟨some d, .next x false, t, p, e, none⟩ :: rest) K L H :=
  GO.itOpen tk fun z hz => GO.gen hN rfl (fun v H' => (k = 0 ∧ v = .tuple #[.bool false] ∧ H' = mapIt b r l k last :: F) ∨ ∃ kv m, k = m + 1 ∧ kv ∈ l ∧ v = .tuple #[.bool true, str kv.1, i64 (kv.2 : Nat)] ∧ H' = mapIt b r l m (some kv) :: F)
    (fun a w Y h s => by
      have hr := sat_pt s
      have hb := sat_pt (sat_perm (List.Perm.swap _ _ _) s)
      obtain ⟨h1, h2, h3, h4, h5, h6, h7⟩ := hz
      have hborn := entS_born l z.bs h1
      rcases run_next_at (P := P) w t r b z.since z.c0 z.seen _ z.n hr hb (fun x hx => h2 _ (by rw [← hborn]; exact List.mem_map_of_mem (by simpa using hx))) h4 with ⟨g0, hrun⟩ | ⟨en, he, w1, hal, hrun⟩
      · refine ⟨_, w, _, ?_, Same.refl w, .inl ⟨by omega, rfl, rfl⟩, it_in (x := z) ⟨h1, h2, h3, h4, h5, h6, h7⟩ s⟩
        simp only [execOp, h.eval hx, Sem.run_bind]
        simp [hrun, Result.andThen]
      · obtain ⟨hem, _⟩ := mem_left he
        have hem' : en ∈ entS l z.bs := by simpa using hem
        obtain ⟨kv, hkv, hk1, hk2⟩ := entS_mem hem'
        have hp := left_push (by rw [hborn]; exact h3) he
        have hw1 : Same w w1 ∧ w1.heap = w.heap := by
          rcases hal with rfl | rfl
          · exact ⟨Same.refl _, rfl⟩
          · exact ⟨Same.drawn _ (by omega), rfl⟩
        have hlt := (Array.getElem?_eq_some_iff.1 hr).1
        refine ⟨.tuple #[.bool true, en.key, en.val], ChangeMaps.setBlock w1 r (.mapIter (some b) z.since (z.seen.push en.born) z.n), _, ?_, hw1.1.trans ⟨rfl, rfl, rfl, by simp [ChangeMaps.setBlock], Nat.le_refl _⟩, .inr ⟨kv, (leftOf (entS l z.bs).toArray (z.seen.push en.born)).size, by omega, hkv, by rw [hk1, hk2], rfl⟩,
          it_in (x := ⟨z.bs, z.n, z.since, z.seen.push en.born, z.n⟩) ⟨h1, h2, h3, h5, h5, rfl, fun kv' hkv' => by cases hkv'; exact ⟨rfl, en, z.seen, hem', hk1, hk2, rfl⟩⟩ (sat_upd s ?_ ?_)⟩
        · simp only [execOp, h.eval hx, Sem.run_bind]
          simp [hrun, Result.andThen]
        · simp [ChangeMaps.setBlock, hw1.2, hlt]
        · intro j hj
          simp only [ChangeMaps.setBlock, hw1.2]
          rw [Array.getElem?_setIfInBounds_ne (Ne.symm hj)])
    (by rintro _ _ (⟨h, rfl, rfl⟩ | ⟨kv, m, h, hkv, rfl, rfl⟩); exact g0 h; exact g1 kv m h hkv)
theorem GO.mapEntry {kv : SN} (hN : Nat.blt d c.N = true) (hx : evl L x = some (ptrV r)) (tk : Tk (mapIt b r l k (some kv)) H F)
    (g : GO P c A rest K ((d, .tuple #[str kv.1, i64 (kv.2 : Nat)]) :: L) (mapIt b r l k (some kv) :: F)) : GO P c A (⟨some d, .entry x, t, p, e, none⟩ :: rest) K L H :=
  GO.itOpen tk fun z hz => GO.val hN rfl (fun a w Y h s => by
    have hr := sat_pt s
    have hb := sat_pt (sat_perm (List.Perm.swap _ _ _) s)
    obtain ⟨h1, h2, h3, h4, h5, h6, h7⟩ := hz
    obtain ⟨h8, en, sn, h9, h10, h11, h12⟩ := h7 kv rfl
    rw [h12, h8] at hr
    have := run_entry_at (P := P) w r b z.since sn _ z.n en hr hb (by simpa using h9) (by simpa [entS_born l z.bs h1] using h3)
    simp only [execOp, h.eval hx, Sem.run_bind]
    simp [this, h10, h11, Result.andThen]) (GO.imp (fun _ _ s => it_in hz s) g)
end rules
end Go.Proofs.YtbconcohpfkncaaGreat
namespace Go.Proofs.YtbconcohpfkncaaGreat
open Go
instance : ZV Tryz.prog 3 (i64 0) := ⟨by kernel_rfl⟩
def nameStep (kind : Nat) (acc : List SN) (m : NodeD) : List SN := if m.kind = kind then putN m.name (getN m.name acc + 1) acc else acc
def ruleStep (kind : Nat) (acc : List SN) (r : RuleD) : List SN := r.body.foldl (nameStep kind) acc
def namesF (g : List RuleD) (kind : Nat) : List SN := g.foldl (ruleStep kind) []
theorem getN_put (k k' : List UInt8) (v : Nat) : ∀ l : List SN, getN k' (putN k v l) = if k' = k then v else getN k' l
  | [] => by simp [putN, getN]
  | (a, u) :: l => by
    have ih := getN_put k k' v l
    simp only [putN]
    by_cases h : k = a
    · subst h
      rw [if_pos rfl]
      simp only [getN]
      split <;> simp_all
    · rw [if_neg h]
      simp only [getN, ih]
      by_cases h2 : k' = a
      · subst h2
        rw [if_pos rfl, if_neg (fun e => h e.symm), if_pos rfl]
      · rw [if_neg h2, if_neg h2]
theorem nameStep_le {kind N : Nat} {acc : List SN} (m : NodeD) (h : ∀ k, getN k acc ≤ N) : ∀ k, getN k (nameStep kind acc m) ≤ N + 1 := fun k => by
  unfold nameStep
  have h1 := h k
  have h2 := h m.name
  split
  · rw [getN_put]; split <;> omega
  · omega
theorem foldl_drop {α β : Type} {f : β → α → β} {l : List α} {i : Nat} {x : α} (h : l[i]? = some x) (acc : β) : (l.drop i).foldl f acc = (l.drop (i + 1)).foldl f (f acc x) := by rw [drop_at h, List.foldl_cons]
def capN (i : Nat) : Nat := i * 4096
theorem capN_succ (i : Nat) : capN (i + 1) = capN i + 4096 := by unfold capN; omega
theorem capN_le {i : Nat} (h : ¬ 4096 < i) : ¬ 16777216 < capN i := by unfold capN; omega
attribute [local irreducible] capN G GO GR GT Fn FnX FnV FnXV Dfr pt init exs pur sat own ImpS mapP
set_option maxHeartbeats 16000000 in
theorem names_spec (q : HP) (v : Value) (g : List RuleD) (kind : Nat) (hq : RulesR q v g) (hl : ¬ 4096 < g.length) (hb : ∀ r ∈ g, ¬ 4096 < r.body.length) : Fn Tryz.prog 90 #[v, i64 (kind : Nat)] [q] (fun r Q => ∃ b, r = .map (some b) ∧ Q = [mapP b (namesF g kind), q]) := by
  have hrd : ∀ i r, g[i]? = some r → _ := fun i r h => rules_rd hq h
  obtain ⟨a, cap, rfl⟩ := rules_sl hq
  clear hq
  unfold namesF
  generalize hres : g.foldl (ruleStep kind) [] = res
  refine Fn.mk2 Tryz.func90 rfl rfl fun w0 F => ?_
  refine .seq (.region (.assign rfl rfl (.nil (kthen_n (.seq (.region ?_))))))
  refine GO.mapNew rfl fun mb => ?_
  refine .assign rfl rfl (.nil (kthen_n (.seq (.seq (.region (.move rfl rfl (.lenS rfl rfl (.move rfl rfl (.nil (kthen_n (.block ?_)))))))))))
  refine G.loopI (σ := Nat × List SN) (fun z => [(0, .slice a g.length cap), (1, i64 (kind : Nat)), (5, .map (some mb)), (11, .slice a g.length cap), (12, i64 (g.length : Nat)), (13, i64 (z.1 : Nat))]) (fun z => mapP mb z.2 :: q :: F) (fun z => z.1 ≤ g.length ∧ (g.drop z.1).foldl (ruleStep kind) z.2 = res ∧ ∀ k, getN k z.2 ≤ capN z.1) (fun z => g.length - z.1) (0, []) ⟨Nat.zero_le _, hres, fun k => Nat.zero_le _⟩ ?_ ?_ ?_
  · exact .c rfl rfl (.c rfl rfl (.c rfl rfl (.c rfl rfl (.c rfl rfl (.c rfl rfl .n)))))
  · refine ImpS.sb ?_
    exact .c .h (.c .h .r)
  clear hres
  rintro ⟨i, acc⟩ ⟨hi, hp, hle⟩
  dsimp only at hi hp hle ⊢
  have hcs := capN_succ i
  have hcl := capN_le (i := i) (by omega)
  (refine G.seq ?_; refine G.region ?_; refine GO.lti rfl rfl rfl ?_; refine GO.nil ?_; refine kthen_n ?_; refine G.seq ?_)
  by_cases hlt : i < g.length
  · have d1 : decide ((i : Int) < (g.length : Int)) = true := decide_eq_true (by omega)
    obtain ⟨m, hm⟩ : ∃ m, g[i]? = some m := ⟨_, List.getElem?_eq_getElem hlt⟩
    have hbl := hb m (List.mem_of_getElem? hm)
    obtain ⟨b, o, cap2, w, e, _, hw, rm⟩ := hrd i m hm
    injection e with e _ e2
    subst e e2
    rw [foldl_drop hm] at hp
    have hrdw : ∀ i r, m.body[i]? = some r → _ := fun i r h => nodes_rd hw h
    obtain ⟨aw, cw, rfl⟩ := nodes_sl hw
    clear hrd hb
    (refine G.condT rfl (by assumption) ?_; refine G.skip ?_; refine kthen_n ?_; refine G.seq ?_; refine G.block ?_; refine G.seq ?_; refine G.region ?_; refine GO.idxS rfl rfl rfl ⟨rfl, by omega⟩ ?_)
    refine GO.loadM (vs := [str m.head, .slice aw m.body.length cw]) rfl rfl rfl (Tk.t Tk.h) rfl rm ?_
    (refine GO.alloc rfl fun b7 => ?_; refine GO.storeW rfl rfl Tk.h ⟨rfl, rfl⟩ (by simp [Value.oneCell']) ?_; refine GO.nil ?_; refine kthen_n ?_; refine G.seq ?_; refine G.region ?_; refine GO.fieldAddr rfl rfl ?_; refine GO.load1 rfl rfl rfl Tk.h rfl ?_; refine GO.lenS rfl rfl ?_; refine GO.move rfl rfl ?_; refine GO.nil ?_; refine kthen_n ?_; refine G.block ?_)
    unfold ruleStep at hp
    generalize hrb : m.body.foldl (nameStep kind) acc = rb at hp
    refine G.loopI (σ := Nat × List SN) (fun z => [(0, .slice (some ⟨b, o, none⟩) g.length cap), (1, i64 (kind : Nat)), (5, .map (some mb)), (11, .slice (some ⟨b, o, none⟩) g.length cap), (12, i64 (g.length : Nat)), (13, i64 (i : Nat)), (18, .slice aw m.body.length cw), (19, i64 (m.body.length : Nat)), (20, i64 (z.1 : Nat))]) (fun z => mapP mb z.2 :: q :: F) (fun z => z.1 ≤ m.body.length ∧ (m.body.drop z.1).foldl (nameStep kind) z.2 = rb ∧ ∀ k, getN k z.2 ≤ capN i + z.1) (fun z => m.body.length - z.1) (0, acc) ⟨Nat.zero_le _, hrb, fun k => by have := hle k; dsimp only; omega⟩ ?_ ?_ ?_
    · (refine SubE.c rfl rfl ?_; refine SubE.c rfl rfl ?_; refine SubE.c rfl rfl ?_; refine SubE.c rfl rfl ?_; refine SubE.c rfl rfl ?_; refine SubE.c rfl rfl ?_; refine SubE.c rfl rfl ?_; refine SubE.c rfl rfl ?_; refine SubE.c rfl rfl ?_; exact SubE.n)
    · refine ImpS.sb ?_
      ((refine Sb.c (Tk.t Tk.h) ?_; refine Sb.c (Tk.t Tk.h) ?_); (refine Sb.s ?_; exact Sb.r))
    clear hrb hle
    rintro ⟨j, ac⟩ ⟨hj, hpj, hlj⟩
    dsimp only at hj hpj hlj ⊢
    (refine G.seq ?_; refine G.region ?_; refine GO.lti rfl rfl rfl ?_; refine GO.nil ?_; refine kthen_n ?_; refine G.seq ?_)
    by_cases hjt : j < m.body.length
    · have d2 : decide ((j : Int) < (m.body.length : Int)) = true := decide_eq_true (by omega)
      obtain ⟨x, hx⟩ : ∃ x, m.body[j]? = some x := ⟨_, List.getElem?_eq_getElem hjt⟩
      obtain ⟨bx, ox, capx, e, _, rx⟩ := hrdw j x hx
      injection e with e _ e2
      subst e e2
      rw [foldl_drop hx] at hpj
      have hnx := nameStep_le (kind := kind) x hlj
      have hgx := hlj x.name
      (refine G.condT rfl (by assumption) ?_; refine G.skip ?_; refine kthen_n ?_; refine G.seq ?_; refine G.block ?_; refine G.seq ?_; refine G.region ?_; refine GO.idxS rfl rfl rfl ⟨rfl, by omega⟩ ?_)
      refine GO.loadM (vs := [i64 (x.kind : Nat), str x.name, i64 (x.kids : Nat)]) rfl rfl rfl (Tk.t Tk.h) rfl rx ?_
      (refine GO.alloc rfl fun b9 => ?_; refine GO.storeW rfl rfl Tk.h ⟨rfl, rfl⟩ (by simp [Value.oneCell']) ?_; refine GO.nil ?_; refine kthen_n ?_; refine G.seq ?_; refine G.region ?_; refine GO.fieldAddr rfl rfl ?_; refine GO.load1 rfl rfl rfl Tk.h rfl ?_; refine GO.move rfl rfl ?_; refine GO.eqi rfl rfl rfl ?_; refine GO.nil ?_; refine kthen_n ?_)
      by_cases hk : x.kind = kind
      · have d3 : decide ((x.kind : Int) = (kind : Int)) = true := decide_eq_true (by omega)
        unfold nameStep at hpj hnx
        rw [if_pos hk] at hpj
        refine .condT rfl (by assumption) (.region (.move rfl rfl (.fieldAddr rfl rfl (.load1 rfl rfl rfl .h rfl ?_))))
        refine GO.mapGet (k := x.name) (l := ac) rfl rfl rfl (Tk.t Tk.h) ?_
        refine .addi rfl rfl rfl (by omega) ?_
        refine GO.mapPut (k := x.name) (v := getN x.name ac + 1) (l := ac) rfl rfl rfl Tk.h ?_
        refine .nil (kblock_n (kthen_n (.region (.addi rfl rfl rfl (by omega) (.move rfl rfl (.nil (kthen_n ?_)))))))
        refine ⟨(j + 1, putN x.name (getN x.name ac + 1) ac), ⟨hjt, hpj, fun k => by have := hnx k; rw [if_pos hk] at this; exact this⟩, by dsimp only; omega, ?_, ImpS.sb ?_⟩
        · (refine SubE.c rfl rfl ?_; refine SubE.c rfl rfl ?_; refine SubE.c rfl rfl ?_; refine SubE.c rfl rfl ?_; refine SubE.c rfl rfl ?_; refine SubE.c rfl rfl ?_; refine SubE.c rfl rfl ?_; refine SubE.c rfl rfl ?_; refine SubE.c rfl rfl ?_; exact SubE.n)
        · exact .c .h (.c (.t .h) (.s .r))
      · have d3 : decide ((x.kind : Int) = (kind : Int)) = false := decide_eq_false (by omega)
        unfold nameStep at hpj
        rw [if_neg hk] at hpj
        refine .condF rfl (by assumption) (.skip (kblock_n (kthen_n (.region (.addi rfl rfl rfl (by omega) (.move rfl rfl (.nil (kthen_n ?_))))))))
        refine ⟨(j + 1, ac), ⟨hjt, hpj, fun k => by have := hlj k; dsimp only; omega⟩, by dsimp only; omega, ?_, ImpS.sb ?_⟩
        · (refine SubE.c rfl rfl ?_; refine SubE.c rfl rfl ?_; refine SubE.c rfl rfl ?_; refine SubE.c rfl rfl ?_; refine SubE.c rfl rfl ?_; refine SubE.c rfl rfl ?_; refine SubE.c rfl rfl ?_; refine SubE.c rfl rfl ?_; refine SubE.c rfl rfl ?_; exact SubE.n)
        · exact .c (.t .h) (.c (.t .h) (.s .r))
    · have d2 : decide ((j : Int) < (m.body.length : Int)) = false := decide_eq_false (by omega)
      rw [List.drop_eq_nil_of_le (show m.body.length ≤ j by omega)] at hpj
      refine .condF rfl (by assumption) (.exit (kthen_x (kthen_x (kblock_x (kblock_n (kthen_n (.region (.addi rfl rfl rfl (by omega) (.move rfl rfl (.nil (kthen_n ?_)))))))))))
      refine ⟨(i + 1, ac), ⟨hlt, by rw [List.foldl_nil] at hpj; rw [hpj]; exact hp, fun k => by have := hlj k; dsimp only; omega⟩, by dsimp only; omega, ?_, ImpS.sb ?_⟩
      · exact .c rfl rfl (.c rfl rfl (.c rfl rfl (.c rfl rfl (.c rfl rfl (.c rfl rfl .n)))))
      · exact .c .h (.c .h .r)
  · have d1 : decide ((i : Int) < (g.length : Int)) = false := decide_eq_false (by omega)
    rw [List.drop_eq_nil_of_le (by omega), List.foldl_nil] at hp
    subst hp
    refine .condF rfl (by assumption) (.exit (kthen_x (kthen_x (kblock_x (kthen_n (.seq (.region (.move rfl rfl (.assign rfl rfl (.nil (kthen_n (.ret ?_))))))))))))
    refine KF2.r1 rfl (RV.t rfl) ⟨mb, rfl, rfl⟩ (ImpS.sb ?_)
    exact .c .h (.c .h .r)
end Go.Proofs.YtbconcohpfkncaaGreat
namespace Go.Proofs.YtbconcohpfkncaaGreat
open Go
def missF (g : List RuleD) : Nat := (g.foldl (fun (acc : List SN) r => delN r.head acc) (namesF g 2)).length
def hasS (l : List (List UInt8)) (s : List UInt8) : Bool := l.any fun x => decide (s = x)
def headStep (acc : List (List UInt8)) (r : RuleD) : List (List UInt8) := if hasS acc r.head = true then acc else acc ++ [r.head]
def headsF (g : List RuleD) : List (List UInt8) := g.foldl headStep []
def occG (g : List RuleD) : Nat := g.foldl (fun n r => n + occF r.body) 0
attribute [local irreducible] capN G GO GR GT Fn FnX FnV FnXV Dfr pt init exs pur sat own ImpS mapP namesF occF
set_option maxHeartbeats 8000000 in
theorem missing_spec (q : HP) (v : Value) (g : List RuleD) (hq : RulesR q v g) (hl : ¬ 4096 < g.length) (hb : ∀ r ∈ g, ¬ 4096 < r.body.length) : Fn Tryz.prog 79 #[v] [q] (fun r Q => r = i64 (missF g : Nat) ∧ Q = [q]) := by
  have hrd : ∀ i r, g[i]? = some r → _ := fun i r h => rules_rd hq h
  have hnm := names_spec q v g 2 hq hl hb
  obtain ⟨a, cap, rfl⟩ := rules_sl hq
  clear hq
  unfold missF
  generalize namesF g 2 = ns at *
  generalize hres : g.foldl (fun (acc : List SN) r => delN r.head acc) ns = res
  refine Fn.mk2 Tryz.func79 rfl rfl fun w0 F => ?_
  refine .seq (.region (.assign rfl rfl (.nil (kthen_n (.seq (.region (.move rfl rfl ?_)))))))
  refine GO.call2 rfl rfl rfl (hnm) (Tks.c Tk.h Tks.n) ?_
  rintro _ _ ⟨mb, rfl, rfl⟩
  refine .assign rfl rfl (.nil (kthen_n (.seq (.seq (.region (.move rfl rfl (.lenS rfl rfl (.move rfl rfl (.nil (kthen_n (.block ?_)))))))))))
  refine G.loopI (σ := Nat × List SN) (fun z => [(0, .slice a g.length cap), (3, .map (some mb)), (8, .slice a g.length cap), (9, i64 (g.length : Nat)), (10, i64 (z.1 : Nat))]) (fun z => mapP mb z.2 :: q :: F) (fun z => z.1 ≤ g.length ∧ (g.drop z.1).foldl (fun (acc : List SN) r => delN r.head acc) z.2 = res) (fun z => g.length - z.1) (0, ns) ⟨Nat.zero_le _, hres⟩ ?_ ?_ ?_
  · exact .c rfl rfl (.c rfl rfl (.c rfl rfl (.c rfl rfl (.c rfl rfl .n))))
  · refine ImpS.sb ?_
    exact .c .h (.c .h .r)
  clear hres
  rintro ⟨i, acc⟩ ⟨hi, hp⟩
  dsimp only at hi hp ⊢
  (refine G.seq ?_; refine G.region ?_; refine GO.lti rfl rfl rfl ?_; refine GO.nil ?_; refine kthen_n ?_; refine G.seq ?_)
  by_cases hlt : i < g.length
  · have d1 : decide ((i : Int) < (g.length : Int)) = true := decide_eq_true (by omega)
    obtain ⟨m, hm⟩ : ∃ m, g[i]? = some m := ⟨_, List.getElem?_eq_getElem hlt⟩
    obtain ⟨b, o, cap2, w, e, _, hw, rm⟩ := hrd i m hm
    injection e with e _ e2
    subst e e2
    rw [foldl_drop hm] at hp
    obtain ⟨aw, cw, rfl⟩ := nodes_sl hw
    (refine G.condT rfl (by assumption) ?_; refine G.skip ?_; refine kthen_n ?_; refine G.seq ?_; refine G.block ?_; refine G.seq ?_; refine G.region ?_; refine GO.idxS rfl rfl rfl ⟨rfl, by omega⟩ ?_)
    refine GO.loadM (vs := [str m.head, .slice aw m.body.length cw]) rfl rfl rfl (Tk.t Tk.h) rfl rm ?_
    (refine GO.alloc rfl fun b5 => ?_; refine GO.storeW rfl rfl Tk.h ⟨rfl, rfl⟩ (by simp [Value.oneCell']) ?_; refine GO.nil ?_; refine kthen_n ?_; refine G.region ?_; refine GO.move rfl rfl ?_; refine GO.fieldAddr rfl rfl ?_; refine GO.load1 rfl rfl rfl Tk.h rfl ?_)
    refine GO.mapDel (k := m.head) (l := acc) rfl rfl (Tk.t Tk.h) ?_
    refine .nil (kblock_n (kthen_n (.region (.addi rfl rfl rfl (by omega) (.move rfl rfl (.nil (kthen_n ?_)))))))
    refine ⟨(i + 1, delN m.head acc), ⟨hlt, hp⟩, by dsimp only; omega, ?_, ImpS.sb ?_⟩
    · exact .c rfl rfl (.c rfl rfl (.c rfl rfl (.c rfl rfl (.c rfl rfl .n))))
    · exact .c .h (.c (.t .h) (.s .r))
  · have d1 : decide ((i : Int) < (g.length : Int)) = false := decide_eq_false (by omega)
    rw [List.drop_eq_nil_of_le (by omega), List.foldl_nil] at hp
    subst hp
    refine .condF rfl (by assumption) (.exit (kthen_x (kthen_x (kblock_x (kthen_n (.seq (.region (.move rfl rfl ?_))))))))
    refine GO.mapLen (l := acc) rfl rfl Tk.h ?_
    refine .assign rfl rfl (.nil (kthen_n (.ret ?_)))
    refine KF2.r1 rfl (RV.t rfl) ⟨rfl, rfl⟩ (ImpS.sb ?_)
    exact .c (.t .h) (.s .r)
theorem str_rd {q : HP} {v : Value} {l : List (List UInt8)} {i : Nat} {x : List UInt8} (hq : Sl q v l.length 1 (strsV l)) (h : l[i]? = some x) : ∃ b o cap, v = .slice (some ⟨b, o, none⟩) l.length cap ∧ Rd q ⟨b, o + i * 1, none⟩ (str x) := by
  obtain ⟨a, cap, rfl, _, hr⟩ := hq
  have hi := (List.getElem?_eq_some_iff.1 h).1
  obtain ⟨b, o, rfl, hr2⟩ := hr (by omega)
  exact ⟨b, o, cap, rfl, by rw [Nat.mul_one]; exact hr2 _ _ (strsV_get h)⟩
theorem str_sl {q : HP} {v : Value} {l : List (List UInt8)} (hq : Sl q v l.length 1 (strsV l)) : ∃ a cap, v = .slice a l.length cap := let ⟨a, cap, h, _⟩ := hq; ⟨a, cap, h⟩
set_option maxHeartbeats 8000000 in
theorem idxS_spec (q : HP) (v : Value) (l : List (List UInt8)) (s : List UInt8) (hq : Sl q v l.length 1 (strsV l)) (hl : ¬ 1048576 < l.length) :
    Fn Tryz.prog 112 #[v, str s] [q] (fun r Q => ∃ n : Int, r = .int .i64 n ∧ decide (0 ≤ n) = hasS l s ∧ Q = [q]) := by
  have hrd : ∀ i m, l[i]? = some m → _ := fun i m h => str_rd hq h
  obtain ⟨a, cap, rfl⟩ := str_sl hq
  unfold hasS
  generalize hres : l.any (fun x => decide (s = x)) = res
  refine Fn.mk2 Tryz.func112 rfl rfl fun w0 F => ?_
  refine .seq (.region (.assign rfl rfl (.nil (kthen_n (.seq (.seq (.region (.move rfl rfl (.lenS rfl rfl (.move rfl rfl (.nil (kthen_n (.block ?_)))))))))))))
  refine G.loopI (σ := Nat) (fun i => [(0, .slice a l.length cap), (1, str s), (6, .slice a l.length cap), (7, i64 (l.length : Nat)), (8, i64 (i : Nat))]) (fun _ => q :: F) (fun i => i ≤ l.length ∧ (l.drop i).any (fun x => decide (s = x)) = res) (fun i => l.length - i) 0 ⟨Nat.zero_le _, hres⟩ ?_ ?_ ?_
  · exact .c rfl rfl (.c rfl rfl (.c rfl rfl (.c rfl rfl (.c rfl rfl .n))))
  · refine ImpS.sb ?_
    exact .c .h .r
  clear hres
  rintro i ⟨hi, hp⟩
  (refine G.seq ?_; refine G.region ?_; refine GO.lti rfl rfl rfl ?_; refine GO.nil ?_; refine kthen_n ?_; refine G.seq ?_)
  by_cases hlt : i < l.length
  · have d1 : decide ((i : Int) < (l.length : Int)) = true := decide_eq_true (by omega)
    obtain ⟨m, hm⟩ : ∃ m, l[i]? = some m := ⟨_, List.getElem?_eq_getElem hlt⟩
    obtain ⟨b, o, cap2, e, rm⟩ := hrd i m hm
    injection e with e _ e2
    subst e e2
    rw [any_drop hm] at hp
    (refine .condT rfl (by assumption) (.skip (kthen_n (.seq (.block (.seq (.region (.move rfl rfl (.assign rfl rfl (.nil (kthen_n (.seq (.region (.move rfl rfl (.move rfl rfl (.move rfl rfl ?_))))))))))))))); refine .idxS rfl rfl rfl ⟨rfl, by omega⟩ (.loadQ rfl rfl rfl .h (by assumption) (.binS rfl rfl rfl rfl (.nil (kthen_n ?_)))))
    by_cases hpm : s = m
    · have d2 : decide (s = m) = true := decide_eq_true hpm
      rw [d2, Bool.true_or] at hp
      refine .condT rfl (by assumption) (.seq (.region (.move rfl rfl (.assign rfl rfl (.nil (kthen_n (.ret (kblock_r (kthen_r (kthen_r (kblock_r (kthen_r ?_))))))))))))
      refine KF2.r1 rfl (RV.t rfl) ⟨_, rfl, by rw [← hp]; exact decide_eq_true (by omega), rfl⟩ (ImpS.sb ?_)
      exact .c .h .r
    · have d2 : decide (s = m) = false := decide_eq_false hpm
      rw [d2, Bool.false_or] at hp
      refine .condF rfl (by assumption) (.skip (kblock_n (kthen_n (.region (.addi rfl rfl rfl (by omega) (.move rfl rfl (.nil (kthen_n ?_))))))))
      refine ⟨i + 1, ⟨hlt, hp⟩, by omega, ?_, ImpS.sb ?_⟩
      · exact .c rfl rfl (.c rfl rfl (.c rfl rfl (.c rfl rfl (.c rfl rfl .n))))
      · exact .c .h .r
  · have d1 : decide ((i : Int) < (l.length : Int)) = false := decide_eq_false (by omega)
    rw [List.drop_eq_nil_of_le (by omega)] at hp
    refine .condF rfl (by assumption) (.exit (kthen_x (kthen_x (kblock_x (kthen_n (.seq (.region (.assign rfl rfl (.nil (kthen_n (.ret ?_)))))))))))
    refine KF2.r1 rfl (RV.t rfl) ⟨_, rfl, by rw [← hp]; rfl, rfl⟩ (ImpS.sb ?_)
    exact .c .h .r
set_option maxHeartbeats 8000000 in
theorem hasS_spec (q : HP) (v : Value) (l : List (List UInt8)) (s : List UInt8) (hq : Sl q v l.length 1 (strsV l)) (hl : ¬ 1048576 < l.length) :
    Fn Tryz.prog 87 #[v, str s] [q] (fun r Q => r = .bool (hasS l s) ∧ Q = [q]) := by
  refine Fn.mk2 Tryz.func87 rfl rfl fun w0 F => ?_
  refine .seq (.region (.assign rfl rfl (.nil (kthen_n (.seq (.region (.move rfl rfl (.move rfl rfl ?_))))))))
  refine GO.call2 rfl rfl rfl (idxS_spec q v l s hq hl) (Tks.c Tk.h Tks.n) ?_
  rintro _ _ ⟨n, rfl, hn, rfl⟩
  rw [← hn]
  refine .gei rfl rfl rfl (.assign rfl rfl (.nil (kthen_n (.ret ?_))))
  refine KF2.r1 rfl (RV.t rfl) ⟨rfl, rfl⟩ (ImpS.sb ?_)
  exact .c .h .r
set_option maxHeartbeats 8000000 in
theorem Heads_spec (q : HP) (v : Value) (g : List RuleD) (hq : RulesR q v g) (hl : ¬ 4096 < g.length) : Fn Tryz.prog 43 #[v] [q] (fun r Q => Q = [own 9 1 (headsF g).length r (strsV (headsF g)), q]) := by
  have hrd : ∀ i r, g[i]? = some r → _ := fun i r h => rules_rd hq h
  obtain ⟨a, cap, rfl⟩ := rules_sl hq
  clear hq
  unfold headsF
  generalize hres : g.foldl headStep [] = res
  refine Fn.mk2 Tryz.func43 rfl rfl fun w0 F => ?_
  refine G.ownNil (T := 9) (sz := 1) ?_
  (refine .seq (.region (.assign rfl rfl (.nil (kthen_n (.seq (.region (.assign rfl rfl (.nil (kthen_n (.seq (.seq (.region (.move rfl rfl (.lenS rfl rfl (.move rfl rfl ?_))))))))))))))); refine .nil (kthen_n (.block ?_)))
  refine G.loopI (σ := Nat × List (List UInt8) × Value) (fun z => [(0, .slice a g.length cap), (3, z.2.2), (6, .slice a g.length cap), (7, i64 (g.length : Nat)), (8, i64 (z.1 : Nat))]) (fun z => own 9 1 z.2.1.length z.2.2 (strsV z.2.1) :: q :: F) (fun z => z.1 ≤ g.length ∧ z.2.1.length ≤ z.1 ∧ (g.drop z.1).foldl headStep z.2.1 = res) (fun z => g.length - z.1) (0, [], .slice none 0 0) ⟨Nat.zero_le _, Nat.zero_le _, hres⟩ ?_ ?_ ?_
  · exact .c rfl rfl (.c rfl rfl (.c rfl rfl (.c rfl rfl (.c rfl rfl .n))))
  · refine ImpS.sb ?_
    exact .c .h (.c .h .r)
  clear hres
  rintro ⟨i, acc, v3⟩ ⟨hi, hla, hp⟩
  dsimp only at hi hla hp ⊢
  (refine G.seq ?_; refine G.region ?_; refine GO.lti rfl rfl rfl ?_; refine GO.nil ?_; refine kthen_n ?_; refine G.seq ?_)
  by_cases hlt : i < g.length
  · have d1 : decide ((i : Int) < (g.length : Int)) = true := decide_eq_true (by omega)
    obtain ⟨m, hm⟩ : ∃ m, g[i]? = some m := ⟨_, List.getElem?_eq_getElem hlt⟩
    obtain ⟨b, o, cap2, w, e, _, hw, rm⟩ := hrd i m hm
    injection e with e _ e2
    subst e e2
    rw [foldl_drop hm] at hp
    obtain ⟨aw, cw, rfl⟩ := nodes_sl hw
    (refine G.condT rfl (by assumption) ?_; refine G.skip ?_; refine kthen_n ?_; refine G.seq ?_; refine G.block ?_; refine G.seq ?_; refine G.region ?_; refine GO.idxS rfl rfl rfl ⟨rfl, by omega⟩ ?_)
    refine GO.loadM (vs := [str m.head, .slice aw m.body.length cw]) rfl rfl rfl (Tk.t Tk.h) rfl rm ?_
    (refine GO.alloc rfl fun b5 => ?_; refine GO.storeW rfl rfl Tk.h ⟨rfl, rfl⟩ (by simp [Value.oneCell']) ?_; refine GO.nil ?_; refine kthen_n ?_; refine G.seq ?_; refine G.region ?_; refine GO.move rfl rfl ?_; refine GO.fieldAddr rfl rfl ?_; refine GO.load1 rfl rfl rfl Tk.h rfl ?_)
    refine GO.ownSl (n := acc.length) (v := v3) (xs := strsV acc) (Tk.t Tk.h) fun hsl => ?_
    refine GO.call2 rfl rfl rfl (hasS_spec _ v3 acc m.head hsl (by omega)) (Tks.c (Tk.t Tk.h) Tks.n) ?_
    rintro _ _ ⟨rfl, rfl⟩
    unfold headStep at hp
    cases hh : hasS acc m.head
    · rw [hh, if_neg (by decide)] at hp
      refine .not rfl rfl (.nil (kthen_n (.condT rfl rfl (.region (.move rfl rfl (.fieldAddr rfl rfl (.load1 rfl rfl rfl (.t .h) rfl ?_)))))))
      refine GO.buildSlice1 (n := 1) rfl rfl (fun v hv => by rw [List.mem_singleton.1 hv]; rfl) rfl ⟨by decide, by decide⟩ fun bs => ?_
      refine GO.appendOwn (m := 1) (news := [str m.head]) rfl rfl rfl (Tk.t Tk.h) Tk.h rfl (by simp [Value.oneCell', str]) ⟨by decide, rfl⟩ Nat.one_pos (by unfold maxLen; omega) (by omega) fun v6 => ?_
      refine .assign rfl rfl (.nil (kblock_n (kthen_n (.region (.addi rfl rfl rfl (by omega) (.move rfl rfl (.nil (kthen_n ?_))))))))
      refine ⟨(i + 1, acc ++ [m.head], v6), ⟨hlt, by dsimp only; rw [List.length_append, List.length_cons, List.length_nil]; omega, hp⟩, by dsimp only; omega, ?_, ?_⟩
      · exact .c rfl rfl (.c rfl rfl (.c rfl rfl (.c rfl rfl (.c rfl rfl .n))))
      · dsimp only
        rw [List.length_append, List.length_cons, List.length_nil, show strsV (acc ++ [m.head]) = strsV acc ++ [str m.head] by simp [strsV]]
        refine ImpS.sb ?_
        exact .c .h (.c (.t (.t .h)) (.s (.s .r)))
    · rw [hh, if_pos rfl] at hp
      refine .not rfl rfl (.nil (kthen_n (.condF rfl rfl (.skip (kblock_n (kthen_n (.region (.addi rfl rfl rfl (by omega) (.move rfl rfl (.nil (kthen_n ?_)))))))))))
      refine ⟨(i + 1, acc, v3), ⟨hlt, by dsimp only; omega, hp⟩, by dsimp only; omega, ?_, ImpS.sb ?_⟩
      · exact .c rfl rfl (.c rfl rfl (.c rfl rfl (.c rfl rfl (.c rfl rfl .n))))
      · exact .c .h (.c (.t .h) (.s .r))
  · have d1 : decide ((i : Int) < (g.length : Int)) = false := decide_eq_false (by omega)
    rw [List.drop_eq_nil_of_le (by omega), List.foldl_nil] at hp
    subst hp
    refine .condF rfl (by assumption) (.exit (kthen_x (kthen_x (kblock_x (kthen_n (.seq (.region (.move rfl rfl (.assign rfl rfl (.nil (kthen_n (.ret ?_))))))))))))
    refine KF2.r1 rfl (RV.t rfl) rfl (ImpS.sb ?_)
    exact .c .h (.c .h .r)
theorem occF_le (l : List NodeD) : occF l ≤ l.length := by unfold occF; exact namesL_le 0 l
set_option maxHeartbeats 8000000 in
theorem OccG_spec (q : HP) (v : Value) (g : List RuleD) (hq : RulesR q v g) (hl : ¬ 4096 < g.length) (hb : ∀ r ∈ g, ¬ 4096 < r.body.length) : Fn Tryz.prog 82 #[v] [q] (fun r Q => r = i64 (occG g : Nat) ∧ Q = [q]) := by
  have hrd : ∀ i r, g[i]? = some r → _ := fun i r h => rules_rd hq h
  obtain ⟨a, cap, rfl⟩ := rules_sl hq
  clear hq
  unfold occG
  generalize hres : g.foldl (fun n r => n + occF r.body) 0 = res
  refine Fn.mk2 Tryz.func82 rfl rfl fun w0 F => ?_
  (refine .seq (.region (.assign rfl rfl (.nil (kthen_n (.seq (.region (.assign rfl rfl (.nil (kthen_n (.seq (.seq (.region (.move rfl rfl (.lenS rfl rfl (.move rfl rfl ?_))))))))))))))); refine .nil (kthen_n (.block ?_)))
  refine G.loopI (σ := Nat × Nat) (fun z => [(0, .slice a g.length cap), (3, i64 (z.2 : Nat)), (6, .slice a g.length cap), (7, i64 (g.length : Nat)), (8, i64 (z.1 : Nat))]) (fun z => q :: F) (fun z => z.1 ≤ g.length ∧ z.2 ≤ capN z.1 ∧ (g.drop z.1).foldl (fun n r => n + occF r.body) z.2 = res) (fun z => g.length - z.1) (0, 0) ⟨Nat.zero_le _, Nat.zero_le _, hres⟩ ?_ ?_ ?_
  · exact .c rfl rfl (.c rfl rfl (.c rfl rfl (.c rfl rfl (.c rfl rfl .n))))
  · refine ImpS.sb ?_
    exact .c .h .r
  clear hres
  rintro ⟨i, acc⟩ ⟨hi, hla, hp⟩
  dsimp only at hi hla hp ⊢
  have hcs := capN_succ i
  have hcl := capN_le (i := i) (by omega)
  (refine G.seq ?_; refine G.region ?_; refine GO.lti rfl rfl rfl ?_; refine GO.nil ?_; refine kthen_n ?_; refine G.seq ?_)
  by_cases hlt : i < g.length
  · have d1 : decide ((i : Int) < (g.length : Int)) = true := decide_eq_true (by omega)
    obtain ⟨m, hm⟩ : ∃ m, g[i]? = some m := ⟨_, List.getElem?_eq_getElem hlt⟩
    have hbl := hb m (List.mem_of_getElem? hm)
    have hol := occF_le m.body
    obtain ⟨b, o, cap2, w, e, _, hw, rm⟩ := hrd i m hm
    injection e with e _ e2
    subst e e2
    rw [foldl_drop hm] at hp
    have hoc := Occ_spec q w m.body hw (by omega)
    obtain ⟨aw, cw, rfl⟩ := nodes_sl hw
    (refine G.condT rfl (by assumption) ?_; refine G.skip ?_; refine kthen_n ?_; refine G.seq ?_; refine G.block ?_; refine G.seq ?_; refine G.region ?_; refine GO.idxS rfl rfl rfl ⟨rfl, by omega⟩ ?_)
    refine GO.loadM (vs := [str m.head, .slice aw m.body.length cw]) rfl rfl rfl Tk.h rfl rm ?_
    (refine GO.alloc rfl fun b5 => ?_; refine GO.storeW rfl rfl Tk.h ⟨rfl, rfl⟩ (by simp [Value.oneCell']) ?_; refine GO.nil ?_; refine kthen_n ?_; refine G.region ?_; refine GO.move rfl rfl ?_; refine GO.fieldAddr rfl rfl ?_; refine GO.load1 rfl rfl rfl Tk.h rfl ?_)
    refine GO.call1 rfl rfl (hoc) (Tks.c (Tk.t Tk.h) Tks.n) ?_
    rintro _ _ ⟨rfl, rfl⟩
    refine .addi rfl rfl rfl (by omega) (.assign rfl rfl (.nil (kblock_n (kthen_n (.region (.addi rfl rfl rfl (by omega) (.move rfl rfl (.nil (kthen_n ?_)))))))))
    refine ⟨(i + 1, acc + occF m.body), ⟨hlt, by dsimp only; omega, hp⟩, by dsimp only; omega, ?_, ImpS.sb ?_⟩
    · exact .c rfl rfl (.c rfl rfl (.c rfl rfl (.c rfl rfl (.c rfl rfl .n))))
    · exact .c .h (.s .r)
  · have d1 : decide ((i : Int) < (g.length : Int)) = false := decide_eq_false (by omega)
    rw [List.drop_eq_nil_of_le (by omega), List.foldl_nil] at hp
    subst hp
    refine .condF rfl (by assumption) (.exit (kthen_x (kthen_x (kblock_x (kthen_n (.seq (.region (.move rfl rfl (.assign rfl rfl (.nil (kthen_n (.ret ?_))))))))))))
    refine KF2.r1 rfl (RV.t rfl) ⟨rfl, rfl⟩ (ImpS.sb ?_)
    exact .c .h .r
end Go.Proofs.YtbconcohpfkncaaGreat
namespace Go.Proofs.YtbconcohpfkncaaGreat
open Go Go.Sort Go.Shelf Go.RowKit
theorem sat_grow {l : List HP} {w : World} (h : sat l w) (os : Array Obj) : sat l (grow w os) := sat_keep h fun b o e => by
  show (w.heap ++ os)[b]? = some o
  rw [Array.getElem?_append_left (Array.getElem?_eq_some_iff.1 e).1]; exact e
theorem putCells_str (ys : List (List UInt8)) (l rest : List Value) (h : ys.length = l.length) : putCells encStr 0 ys.toArray (l ++ rest).toArray = (strsV ys ++ rest).toArray := by
  apply Array.ext_getElem?
  intro k
  simp only [putCells, Array.getElem?_mapIdx, List.getElem?_toArray, List.size_toArray]
  by_cases hk : k < ys.length
  · rw [List.getElem?_append_left (by omega), List.getElem?_append_left (by simpa [strsV] using hk), List.getElem?_eq_getElem (by omega), Option.map_some, if_pos ⟨by omega, by omega⟩, Nat.sub_zero, getElem!_pos ys.toArray k (by simpa using hk)]
    simp [strsV, hk]
  · have e1 : (l ++ rest)[k]? = rest[k - ys.length]? := by rw [List.getElem?_append_right (by omega), h]
    have e2 : (strsV ys ++ rest)[k]? = rest[k - ys.length]? := by rw [List.getElem?_append_right (by simp [strsV]; omega)]; simp [strsV]
    rw [e1, e2]
    cases rest[k - ys.length]? with
    | none => rfl
    | some y => rw [Option.map_some, if_neg (by omega)]
abbrev sortL (l : List (List UInt8)) : List (List UInt8) := l.mergeSort fun x y => decide (x ≤ y)
theorem sort_str {P : Program} {ρ : Ren} (L : Go.Proofs.Lays.n190 P ρ) (el : TypeId) (v : Value) (l : List (List UInt8)) (hsz : l.length < 4611686018427387904) :
    Fn P (ρ.f 190) #[v] [own el 1 l.length v (strsV l)] (fun r Q => r = .tuple #[] ∧ Q = [own el 1 l.length v (strsV (sortL l))]) := by
  intro F w s
  rcases own_shape s with ⟨rfl, h0, _, s2⟩ | ⟨b, cap, rest, rfl, g1, g2, g3, g4, s2⟩
  · have hl : l = [] := List.length_eq_zero_iff.1 h0
    subst hl
    refine callsIn_wide.2 ((Go.Proofs.Any.slices_Sort_string_none L none 0 w).mono ?_)
    rintro e w' ⟨rfl, rfl⟩
    exact ⟨_, _, rfl, Same.refl _, ⟨rfl, rfl⟩, by rw [show sortL [] = [] from List.mergeSort_nil]; exact s⟩
  · have hb := sat_pt s2
    have hlt := (Array.getElem?_eq_some_iff.1 hb).1
    have hH : Holds encStr w b 0 l.toArray := by
      intro j hj
      have hj' : j < l.length := by simpa using hj
      constructor
      · simp only [World.cell?, hb, row, Nat.zero_add, List.getElem?_toArray]
        rw [List.getElem?_append_left (by simpa [strsV] using hj'), getElem!_pos l.toArray j hj]
        simp [strsV, hj']
      · simp [World.frozen?, hb, row]
    refine callsIn_wide.2 ((Go.Proofs.Any.slices_Sort_string L b 0 cap l w hH hlt hsz).mono ?_)
    rintro e w' ⟨rfl, m, os, rfl⟩
    have hyl : (sortL l).length = l.length := List.length_mergeSort l
    refine ⟨_, _, rfl, ?_, ⟨rfl, rfl⟩, ?_⟩
    · refine ⟨rfl, rfl, rfl, ?_, ?_⟩
      · show w.heap.size ≤ (Array.append _ _).size
        simp [putRow, mapBlock]
      · show w.drawn ≤ w.drawn + m
        omega
    · refine sat_grow (own_in (rest := rest) rfl (by rw [strsV_len, hyl]) g2 g3 (by rw [List.length_append, strsV_len] at g4 ⊢; rw [hyl]; exact g4) (sat_upd (w := w) s2 ?_ ?_)) os
      · show ((w.heap.modify b (onCells (putCells encStr 0 (sortL l).toArray))))[b]? = _
        rw [Array.getElem?_modify, if_pos rfl, hb]
        simp only [Option.map_some, row, onCells]
        rw [putCells_str _ _ _ (by rw [hyl]; simp [strsV])]
      · intro j hj
        show ((w.heap.modify b (onCells (putCells encStr 0 (sortL l).toArray))))[j]? = _
        rw [Array.getElem?_modify, if_neg (Ne.symm hj)]
theorem sortS_spec (v : Value) (l : List (List UInt8)) (hsz : ¬ 16777216 < l.length) :
    Fn Tryz.prog 114 #[v] [own 9 1 l.length v (strsV l)] (fun r Q => r = .tuple #[] ∧ Q = [own 9 1 l.length v (strsV (sortL l))]) :=
  sort_str sortS 9 v l (by omega)
end Go.Proofs.YtbconcohpfkncaaGreat
namespace Go.Proofs.YtbconcohpfkncaaGreat
open Go
/-- g hands to yield n times what Val tells (values, and pieces that go with them), till that says no more. J i: what memory has when i are over; X i: when yield has said no more at the i-th. -/
def SeqV (P : Program) (g : Value) (n : Nat) (Val : Nat → List Value → List HP → Prop) (Sh Gm : List HP) : Prop :=
  ∃ gf caps, g = .func (.func gf) #[] caps ∧ Cal P gf ∧ ∀ (y : Value) (J X : Nat → HP),
    (∀ i u Y, i < n → Val i u Y → FnV P y u (J i :: (Y ++ Sh)) (fun v Q => (v = .bool true ∧ Q = J (i + 1) :: Sh) ∨ (v = .bool false ∧ Q = X i :: Sh))) →
    Fn P gf (#[y] ++ caps) (J 0 :: (Sh ++ Gm)) (fun _ Q => Q = J n :: (Sh ++ Gm) ∨ ∃ i, i < n ∧ Q = X i :: (Sh ++ Gm))
theorem FnV.starY {P : Program} {y : Value} {u : List Value} {p s : HP} {J J' Y Sh : List HP} (h : FnV P y u ((p :: (J ++ Y)) ++ Sh) (fun v Q => (v = .bool true ∧ Q = (p :: J') ++ Sh) ∨ (v = .bool false ∧ Q = [s] ++ Sh))) :
    FnV P y u (star (p :: J) :: (Y ++ Sh)) (fun v Q => (v = .bool true ∧ Q = star (p :: J') :: Sh) ∨ (v = .bool false ∧ Q = s :: Sh)) := by
  obtain ⟨fn, caps, hv, h⟩ := h
  refine ⟨fn, caps, hv, fun F w s0 => ?_⟩
  have s1 : sat (((p :: (J ++ Y)) ++ Sh) ++ F) w := by
    rw [List.cons_append] at s0
    have := sat_flat.1 s0
    simpa only [List.cons_append, List.append_assoc] using this
  obtain ⟨nx, h1, h2⟩ := h F w s1
  refine ⟨nx, h1, h2.mono fun e w' => ?_⟩
  rintro ⟨v, Q, a, b, x | x, d⟩
  · obtain ⟨rfl, rfl⟩ := x
    refine ⟨_, star (p :: J') :: Sh, a, b, .inl ⟨rfl, rfl⟩, by rw [List.cons_append]; exact sat_flat.2 (by simpa only [List.cons_append, List.append_assoc] using d)⟩
  · obtain ⟨rfl, rfl⟩ := x
    exact ⟨_, s :: Sh, a, b, .inr ⟨rfl, rfl⟩, d⟩
/-- The statement 'for .. := range g { .. }'. -/
theorem G.rangeV {P : Program} {c : Cx} {K : Kont} {L : Env} {H F : List HP} {g : Operand} {psl : List Nat} {x y : Code} {v : Value} {n : Nat} {Val : Nat → List Value → List HP → Prop} {Sh Gm : List HP} (J : Nat → List HP) (X : Nat → Code → List HP)
    (hX : ∀ l0, c.r = some l0 → ∃ r0 X', c.X = pt l0 (.loop r0) :: X') (hN : (psl.all fun p => Nat.blt p c.N) = true) (hlen : ∀ i u Y, i < n → Val i u Y → u.length = psl.length)
    (hg : evl L g = some v) (seq : SeqV P v n Val Sh Gm) (tk : Tks (J 0 ++ (Sh ++ Gm)) H F)
    (round : ∀ l Lr Lb w0 F i u Y, i < n → Val i u Y → G P ⟨some l, c.N, w0, [pt l (.loop Lr)], [], false⟩ x (KA P ⟨some l, c.N, w0, [pt l (.loop Lb)], [], false⟩ y (KB (J (i + 1)) (X i) Sh F)) (envP psl u L) ((J i ++ Y) ++ Sh ++ F))
    (done : K .normal L (J n ++ (Sh ++ Gm) ++ F))
    (stop : ∀ i jc, i < n → G P c jc K L (X i jc ++ (Sh ++ Gm) ++ F)) (hnd : c.nd = false := by rfl) : G P c (.rangeFunc g psl.toArray x y) K L H := by
  rintro a w ⟨h1, h2, ds, h3, h4, h5⟩
  obtain ⟨gf, caps, rfl, hcal, seq⟩ := seq
  have tk : H.Perm (J 0 ++ (Sh ++ Gm) ++ F) := tk
  refine wpIn_rangeFunc fun fn _ => ?_
  have hge := h1.eval hg
  have main : ∀ (l D : Nat) (ms : List Nat) (w1 : World), (Instr.enterLoop fn a.tmps psl.toArray x y (fen c.r).round).run P w = .ok (l, ms.map mark) w1 → Same w w1 → ((c.r.isSome || c.nd) = true → ms = []) →
      sat (pt l (.loop (lrec fn a.tmps psl.toArray x y D .ready none)) :: (H ++ (c.X ++ (ms ++ ds).map dblk))) w1 →
      ∃ (l : Nat) (mark : List Deferred) (w₁ : World) (d : Deferred) (w₁' : World) (f : FuncId) (args : Array Value) (w₂ : World),
      (Instr.enterLoop fn a.tmps psl.toArray x y (fen c.r).round).run P w = .ok (l, mark) w₁ ∧
      (resolve a.eval (rangeCall g l) 0).run P w₁ = .ok d w₁' ∧
      (∀ f', Target.leads P w₁' d.target d.args = some f' → (fen c.r).fn f') ∧
      (invoke d.target d.args).run P w₁' = .ok (.enter f args) w₂ ∧
      ((fen c.r).depth.isSome = true → 1 ≤ 0) ∧
      CallsIn (fen c.r) (0 - 1) P f args w₂ (rangePost (fen c.r) 0 P l (Post c K) { a with defers := mark ++ a.defers }) := by
    intro l D ms w1 hent hsame hms hsat
    refine ⟨l, ms.map mark, w1, { target := .fn (.func gf) caps, args := #[.func (.yield l) #[] #[]] }, w1, gf, #[.func (.yield l) #[] #[]] ++ caps, w1, hent, ?_, fun _ _ => trivial, ?_, fun h => by simp [fen, Fence.wide] at h, ?_⟩
    · have hcv : a.eval (.const (.func (.yield l) #[] #[])) = .func (.yield l) #[] #[] := rfl
      simp [resolve, hge, Deferred.ofValue, hcv]
    · simp [invoke, hcal.out]
    · have hd2 : ms.map mark ++ a.defers = (ms ++ ds).map mark ++ c.D := by rw [h3, List.map_append, List.append_assoc]
      have hr2 : (c.r.isSome || c.nd) = true → ms ++ ds = [] := fun h => by rw [hms h, h4 h]; rfl
      have s0 : sat (star (pt l (.loop (lrec fn a.tmps psl.toArray x y D .ready none)) :: J 0) :: (Sh ++ Gm) ++ (F ++ (c.X ++ (ms ++ ds).map dblk))) w1 := by
        rw [List.cons_append]
        refine sat_flat.2 (sat_perm ?_ hsat)
        simp only [List.cons_append]
        refine List.Perm.cons _ ?_
        have := List.Perm.append_right (c.X ++ (ms ++ ds).map dblk) tk
        simpa only [List.append_assoc] using this
      have hc := seq (.func (.yield l) #[] #[]) (fun i => star (pt l (.loop (lrec fn a.tmps psl.toArray x y D .ready none)) :: J i)) (fun i => Go.Proofs.YtbconcohpfkncaaGreat.exs fun jc => star (pt l (.loop (lrec fn a.tmps psl.toArray x y D .done (some jc))) :: X i jc))
        (fun i u Y hi hu => FnV.starY (FnV.yield (J := J i ++ Y) (J' := J (i + 1)) (X := X i) hN (hlen i u Y hi hu) (fun ds => h1.defs (ds := ds)) (fun w0 F => round l _ _ w0 F i u Y hi hu)))
      refine calls_round ((hc _ w1 s0).mono ?_)
      rintro en w2 ⟨r, Q, rfl, hsm, hQ, hq⟩
      rcases hQ with rfl | ⟨i, hi, rfl⟩
      · rw [List.cons_append] at hq
        have hq := sat_flat.1 hq
        have hl2 := sat_pt hq
        refine ⟨none, _, run_endLoop hl2 (by simp [lrec]), L, J n ++ (Sh ++ Gm) ++ F, ⟨h1.defs, (h2.trans hsame).trans (hsm.trans (Same.putObj _ _ _)), ms ++ ds, hd2, hr2, ?_⟩, done⟩
        have s5 := sat_upd hq (World.putObj_heap_same (o := .loop { (lrec fn a.tmps psl.toArray x y D .ready none) with state := .exhausted }) (Array.getElem?_eq_some_iff.1 hl2).1) (fun k hk => World.putObj_heap_other hk)
        have := sat_right (l := [pt l _]) s5
        simpa using this
      · obtain ⟨jc, hq⟩ := sat_exs.1 (by simpa using hq)
        have hq := sat_flat.1 hq
        have hl2 := sat_pt hq
        refine ⟨some jc, _, run_endLoop hl2 (by simp [lrec]), ?_⟩
        refine stop i jc hi _ _ ⟨h1.defs, (h2.trans hsame).trans (hsm.trans (Same.putObj _ _ _)), ms ++ ds, hd2, hr2, ?_⟩
        have s5 := sat_upd hq (World.putObj_heap_same (o := .loop { (lrec fn a.tmps psl.toArray x y D .done (some jc)) with state := .exhausted }) (Array.getElem?_eq_some_iff.1 hl2).1) (fun k hk => World.putObj_heap_other hk)
        have := sat_right (l := [pt l _]) s5
        simpa using this
  cases hr : c.r with
  | none =>
    rw [hr] at main
    refine main (w.heap.size + 1) w.heap.size [w.heap.size] _ (run_enterLoop_outer _ _ _ _ _) ((Same.alloc _ _).trans (Same.alloc _ _)) (fun h => by simp [hnd] at h) ?_
    have s1 := sat_alloc h5 (.deferred (some []))
    have s2 := sat_alloc s1 (.loop (lrec fn a.tmps psl.toArray x y w.heap.size .ready none))
    rw [World.size_alloc] at s2
    refine sat_perm (List.Perm.cons _ ?_) s2
    simp only [List.cons_append, List.nil_append, List.map_cons]
    have e1 : (dblk w.heap.size :: (H ++ (c.X ++ ds.map dblk))).Perm (H ++ (dblk w.heap.size :: (c.X ++ ds.map dblk))) := List.perm_middle.symm
    exact e1.trans (List.Perm.append_left H List.perm_middle.symm)
  | some l0 =>
    obtain ⟨r0, X', hX'⟩ := hX l0 hr
    rw [hr] at main
    have hl0 : w.heap[l0]? = some (.loop r0) := by
      rw [hX'] at h5
      have : sat (pt l0 (.loop r0) :: (H ++ (X' ++ ds.map dblk))) w := sat_perm (by simp only [List.cons_append]; exact List.perm_middle) h5
      exact sat_pt this
    refine main w.heap.size r0.defers [] _ (run_enterLoop_inner hl0 _ _ _ _ _) (Same.alloc _ _) (fun _ => rfl) ?_
    exact sat_alloc h5 _
end Go.Proofs.YtbconcohpfkncaaGreat
namespace Go.Proofs.YtbconcohpfkncaaGreat
open Go
theorem ImpS.itOut {b r k : Nat} {l : List SN} {last : Option SN} {H M : List HP} (h : ImpS H (mapIt b r l k last :: M)) : ImpS H (mapP b l :: M) := fun l' w s => by
  have s1 := h l' w s
  unfold mapIt at s1
  obtain ⟨x, s1⟩ := sat_exs.1 s1
  obtain ⟨⟨h1, h2, h3, h4, h5, _⟩, s1⟩ := sat_pur.1 (sat_flat.1 s1)
  exact map_in h1 (fun c hc => by have := h2 c hc; omega) h3 (sat_right (l := [pt r _]) (sat_perm (List.Perm.swap _ _ _) s1))
attribute [local irreducible] capN G GO GR GT Fn FnX FnV FnXV Dfr pt init exs pur sat own ImpS mapP mapIt namesF occF
set_option maxHeartbeats 8000000 in
theorem keys1_spec (l : List SN) (mb bx : Nat) (y : Value) (J X : Nat → HP)
    (hy : ∀ i u Y, i < l.length → (Y = [] ∧ ∃ k, u = [str k]) → FnV Tryz.prog y u (J i :: (Y ++ [])) (fun v Q => (v = .bool true ∧ Q = [J (i + 1)]) ∨ (v = .bool false ∧ Q = [X i]))) :
    Fn Tryz.prog 115 #[y, ptrV bx] [J 0, pt bx (row [.map (some mb)] 151), mapP mb l] (fun _ Q => Q = [J l.length, pt bx (row [.map (some mb)] 151), mapP mb l] ∨ ∃ i, i < l.length ∧ Q = [X i, pt bx (row [.map (some mb)] 151), mapP mb l]) := by
  refine Fn.mk2 Tryz.func115 rfl rfl fun w0 F => ?_
  refine .seq (.region (.load1 rfl rfl rfl (.t .h) rfl ?_))
  refine GO.mapRange (l := l) rfl rfl (Tk.t (Tk.t Tk.h)) fun r => ?_
  refine .nil (kthen_n (.block ?_))
  refine G.loopI (σ := Nat × Option SN) (fun z => [(0, y), (1, ptrV bx), (5, ptrV r)]) (fun z => mapIt mb r l (l.length - z.1) z.2 :: J z.1 :: pt bx (row [.map (some mb)] 151) :: F) (fun z => z.1 ≤ l.length) (fun z => l.length - z.1) (0, none) (Nat.zero_le _) ?_ ?_ ?_
  · exact .c rfl rfl (.c rfl rfl (.c rfl rfl .n))
  · refine ImpS.sb ?_
    exact .c .h (.c .h (.c .h .r))
  rintro ⟨i, last⟩ hi
  dsimp only at hi ⊢
  refine .seq (.region ?_)
  refine GO.mapNext (l := l) rfl rfl Tk.h (fun h0 => ?_) (fun kv m hm hkv => ?_)
  · obtain rfl : i = l.length := by omega
    refine .extract rfl rfl rfl (.nil (kthen_n (.seq (.condF rfl rfl (.exit (kthen_x (kthen_x (kblock_x ?_))))))))
    refine KF2.n0 rfl (.inl rfl) (ImpS.trans (ImpS.itOut (b := mb) (r := r) (l := l) (k := l.length - l.length) (last := last) (M := J l.length :: pt bx (row [.map (some mb)] 151) :: F) (ImpS.sb ?_)) (ImpS.sb ?_))
    · exact .c .h (.c .h (.c .h .r))
    · exact .c (.t .h) (.c (.t .h) (.c .h .r))
  · refine .extract rfl rfl rfl (.nil (kthen_n (.seq (.condT rfl rfl (.skip (kthen_n (.block (.seq (.region ?_)))))))))
    refine GO.mapEntry (l := l) rfl rfl Tk.h ?_
    refine .extract rfl rfl rfl (.assign rfl rfl (.nil (kthen_n (.seq (.region (.move rfl rfl (.move rfl rfl ?_)))))))
    refine GO.callV1 rfl rfl rfl (hy i _ [] (by omega) ⟨rfl, kv.1, rfl⟩) (Tks.c (Tk.t Tk.h) Tks.n) ?_
    rintro _ _ (⟨rfl, rfl⟩ | ⟨rfl, rfl⟩)
    · refine .not rfl rfl (.nil (kthen_n (.condF rfl rfl (.skip (kblock_n (kthen_n ?_))))))
      refine ⟨(i + 1, some kv), by dsimp only; omega, by dsimp only; omega, ?_, ?_⟩
      · exact .c rfl rfl (.c rfl rfl (.c rfl rfl .n))
      · dsimp only
        rw [show l.length - (i + 1) = m by omega]
        refine ImpS.sb ?_
        exact .c (.t .h) (.c .h (.c .h .r))
    · refine .not rfl rfl (.nil (kthen_n (.condT rfl rfl (.ret (kblock_r (kthen_r (kblock_r ?_)))))))
      refine KF2.r0 rfl (.inr ⟨i, by omega, rfl⟩) (ImpS.trans (ImpS.itOut (b := mb) (r := r) (l := l) (k := m) (last := some kv) (M := X i :: pt bx (row [.map (some mb)] 151) :: F) (ImpS.sb ?_)) (ImpS.sb ?_))
      · exact .c (.t .h) (.c .h (.c .h .r))
      · exact .c (.t .h) (.c (.t .h) (.c .h .r))
theorem keys_seq (l : List SN) (mb bx : Nat) : SeqV Tryz.prog (.func (.func 115) #[] #[ptrV bx]) l.length (fun _ u Y => Y = [] ∧ ∃ k, u = [str k]) [] [pt bx (row [.map (some mb)] 151), mapP mb l] :=
  ⟨_, #[ptrV bx], rfl, inferInstance, fun y J X hy => keys1_spec l mb bx y J X hy⟩
set_option maxHeartbeats 4000000 in
theorem keys_spec (l : List SN) (mb : Nat) : Fn Tryz.prog 89 #[.map (some mb)] [mapP mb l] (fun r Q => ∃ bx, r = .func (.func 115) #[] #[ptrV bx] ∧ Q = [pt bx (row [.map (some mb)] 151), mapP mb l]) := by
  refine Fn.mk2 Tryz.func89 rfl rfl fun w0 F => ?_
  refine .seq (.region (.box rfl rfl rfl fun b1 => .assign rfl rfl (.nil (kthen_n (.seq (.region (.makeFunc1 rfl rfl (.assign rfl rfl (.nil (kthen_n (.ret ?_)))))))))))
  refine KF2.r1 rfl (RV.t rfl) ⟨_, rfl, rfl⟩ (ImpS.sb ?_)
  exact .c .h (.c .h .r)
/-- So many strings, gathered. -/
def accS (b i : Nat) : HP := exs fun ss : List (List UInt8) => star [pur (ss.length = i), accO b 22 9 1 i (strsV ss)]
theorem accS_in {b i : Nat} {ss : List (List UInt8)} {v : Value} {H M : List HP} (h : ss.length = i) (k : ImpS H (pt b (row [v] 22) :: own 9 1 i v (strsV ss) :: M)) : ImpS H (accS b i :: M) :=
  ImpS.exs ss (ImpS.flat (ImpS.pur h (accO_in v k)))
theorem G.accSOut {c : Cx} {K : Kont} {L : Env} {H : List HP} {x : Code} {b i : Nat} (k : ∀ ss v, ss.length = i → v.oneCell' = true → G Tryz.prog c x K L (pt b (row [v] 22) :: own 9 1 i v (strsV ss) :: H)) : G Tryz.prog c x K L (accS b i :: H) :=
  G.exs fun ss => G.flat (G.pur fun h => G.accOut fun v hv => k ss v h hv)
theorem GO.accSOut {c : Cx} {A : Array Oper} {os : List Oper} {K : Kont} {L : Env} {H : List HP} {b i : Nat} (k : ∀ ss v, ss.length = i → v.oneCell' = true → GO Tryz.prog c A os K L (pt b (row [v] 22) :: own 9 1 i v (strsV ss) :: H)) : GO Tryz.prog c A os K L (accS b i :: H) :=
  GO.exs fun ss => GO.flat (GO.pur fun h => GO.accOut fun v hv => k ss v h hv)
attribute [local irreducible] accO accS
set_option maxHeartbeats 8000000 in
theorem appendSeq_spec (g : Value) (n : Nat) (z1 z2 : HP) (hn : ¬ 16777216 < n) (hg : SeqV Tryz.prog g n (fun _ u Y => Y = [] ∧ ∃ k, u = [str k]) [] [z1, z2]) :
    Fn Tryz.prog 149 #[.slice none 0 0, g] [z1, z2] (fun r Q => ∃ ss : List (List UInt8), ss.length = n ∧ Q = [own 9 1 n r (strsV ss), z1, z2]) := by
  refine Fn.mk2 Tryz.func149 rfl rfl fun w0 F => ?_
  refine .seq (.region (.box rfl rfl rfl fun b2 => .assign rfl rfl (.nil (kthen_n (.seq (.seq (.region (.move rfl rfl (.nil (kthen_n (.block ?_)))))))))))
  refine G.ownNil (T := 9) (sz := 1) ?_
  refine G.keep (H' := accS b2 0 :: z1 :: z2 :: F) (accS_in (ss := []) (v := .slice none 0 0) rfl (ImpS.sb (.c (.t .h) (.c .h (.c .h (.c .h .r)))))) ?_
  refine G.rangeV (F := F) (psl := [7]) (v := g) (n := n) (Val := fun _ u Y => Y = [] ∧ ∃ k, u = [str k]) (Sh := []) (Gm := [z1, z2]) (fun i => [accS b2 i]) (fun _ _ => [pur False]) (fun _ h => by cases h) rfl (fun i u Y _ h => by obtain ⟨_, k, rfl⟩ := h; rfl) rfl hg ?_ (fun lp Lr Lb w1 F1 i u Y hi hv => ?_) ?_ ?_
  · exact .n
  · obtain ⟨rfl, k, rfl⟩ := hv
    change G _ _ _ _ ((7, str k) :: _) (accS b2 i :: F1)
    refine G.accSOut fun ss v hss hv => ?_
    refine .region (.assign rfl rfl (.nil ?_))
    refine kA_n ?_
    refine .block (.region (.load1 rfl rfl rfl .h rfl (.move rfl rfl ?_)))
    refine GO.buildSlice1 (n := 1) rfl rfl (fun v hv => by rw [List.mem_singleton.1 hv]; rfl) rfl ⟨by decide, by decide⟩ fun bs => ?_
    refine GO.appendOwn (m := 1) (news := [str k]) rfl rfl rfl (Tk.t (Tk.t Tk.h)) Tk.h rfl (by simp [Value.oneCell', str]) ⟨by decide, rfl⟩ Nat.one_pos (by unfold maxLen; omega) (by omega) fun v4 => ?_
    refine GO.ownOne Tk.h fun hone4 => ?_
    refine .store1 rfl rfl (by assumption) (.t (.t .h)) (by simp) (.nil (kblock_n ?_))
    refine kB_n (accS_in (ss := ss ++ [k]) (v := v4) (by rw [List.length_append, hss]; rfl) ?_)
    rw [show strsV (ss ++ [k]) = strsV ss ++ [str k] by simp [strsV]]
    refine ImpS.sb ?_
    exact .c .h (.c .h (.s .r))
  · change kblock _ _ _ _ (accS b2 n :: z1 :: z2 :: F)
    refine kblock_n (kthen_n (.seq (.region ?_)))
    refine GO.accSOut fun ss v hss hv => ?_
    refine .load1 rfl rfl rfl .h rfl (.assign rfl rfl (.nil (kthen_n (.ret ?_))))
    refine KF2.r1 rfl (RV.t rfl) ⟨ss, hss, rfl⟩ (ImpS.sb ?_)
    exact .c (.t .h) (.c (.t .h) (.c (.t .h) (.s .r)))
  · intro i jc hi
    exact G.pur fun h => h.elim
end Go.Proofs.YtbconcohpfkncaaGreat
namespace Go.Proofs.YtbconcohpfkncaaGreat
open Go
theorem putN_len (k : List UInt8) (v : Nat) : ∀ l : List SN, (putN k v l).length ≤ l.length + 1
  | [] => by simp [putN]
  | (a, u) :: l => by
    simp only [putN]
    split
    · simp
    · have := putN_len k v l; simp only [List.length_cons]; omega
theorem foldl_grow {α β : Type} {f : List β → α → List β} (c : Nat) : ∀ (l : List α) (acc : List β), (∀ acc, ∀ x ∈ l, (f acc x).length ≤ acc.length + c) → (l.foldl f acc).length ≤ acc.length + l.length * c
  | [], acc, _ => by simp
  | x :: l, acc, h => by
    have h1 := foldl_grow c l (f acc x) fun acc y hy => h acc y (by simp [hy])
    have h2 := h acc x (by simp)
    rw [List.foldl_cons, List.length_cons, Nat.add_mul, Nat.one_mul]
    omega
theorem namesF_len {g : List RuleD} {kind : Nat} (hb : ∀ r ∈ g, ¬ 4096 < r.body.length) : (namesF g kind).length ≤ capN g.length := by
  have := foldl_grow 4096 (f := ruleStep kind) g [] fun acc r hr => by
    have h1 := foldl_grow 1 (f := nameStep kind) r.body acc fun acc m _ => by unfold nameStep; split; exact putN_len _ _ _; omega
    have h2 := hb r hr
    unfold ruleStep
    omega
  rw [List.length_nil, Nat.zero_add] at this
  exact this
attribute [local irreducible] capN G GO GR GT Fn FnX FnV FnXV Dfr pt init exs pur sat own ImpS mapP mapIt namesF occF
set_option maxHeartbeats 4000000 in
theorem collect_spec (g : Value) (n : Nat) (z1 z2 : HP) (hn : ¬ 16777216 < n) (hg : SeqV Tryz.prog g n (fun _ u Y => Y = [] ∧ ∃ k, u = [str k]) [] [z1, z2]) :
    Fn Tryz.prog 113 #[g] [z1, z2] (fun r Q => ∃ ss : List (List UInt8), ss.length = n ∧ Q = [own 9 1 n r (strsV ss), z1, z2]) := by
  refine Fn.mk2 Tryz.func113 rfl rfl fun w0 F => ?_
  refine .seq (.region (.assign rfl rfl (.nil (kthen_n (.seq (.region (.move rfl rfl ?_)))))))
  refine GO.call2 rfl rfl rfl (appendSeq_spec g n z1 z2 hn hg) (Tks.c Tk.h (Tks.c Tk.h Tks.n)) ?_
  rintro r _ ⟨ss, hss, rfl⟩
  refine .assign rfl rfl (.nil (kthen_n (.ret ?_)))
  refine KF2.r1 rfl (RV.t rfl) ⟨ss, hss, rfl⟩ (ImpS.sb ?_)
  exact .c .h (.c .h (.c .h .r))
set_option maxHeartbeats 4000000 in
theorem sorted_spec (g : Value) (n : Nat) (z1 z2 : HP) (hn : ¬ 16777216 < n) (hg : SeqV Tryz.prog g n (fun _ u Y => Y = [] ∧ ∃ k, u = [str k]) [] [z1, z2]) :
    Fn Tryz.prog 88 #[g] [z1, z2] (fun r Q => ∃ ss : List (List UInt8), ss.length = n ∧ Q = [own 9 1 n r (strsV ss), z1, z2]) := by
  refine Fn.mk2 Tryz.func88 rfl rfl fun w0 F => ?_
  refine .seq (.region (.assign rfl rfl (.nil (kthen_n (.seq (.region (.move rfl rfl ?_)))))))
  refine GO.call1 rfl rfl (collect_spec g n z1 z2 hn hg) (Tks.c Tk.h (Tks.c Tk.h Tks.n)) ?_
  rintro r _ ⟨ss, rfl, rfl⟩
  refine .assign rfl rfl (.nil (kthen_n (.seq (.region (.move rfl rfl ?_)))))
  refine GO.call1 rfl rfl (sortS_spec r ss hn) (Tks.c Tk.h Tks.n) ?_
  rintro _ _ ⟨rfl, rfl⟩
  refine .nil (kthen_n (.seq (.region (.move rfl rfl (.assign rfl rfl (.nil (kthen_n (.ret ?_))))))))
  refine KF2.r1 rfl (RV.t rfl) ⟨sortL ss, List.length_mergeSort ss, rfl⟩ (ImpS.sb ?_)
  exact .c .h (.c .h (.c .h .r))
set_option maxHeartbeats 4000000 in
theorem Labels_spec (q : HP) (v : Value) (g : List RuleD) (hq : RulesR q v g) (hl : ¬ 4096 < g.length) (hb : ∀ r ∈ g, ¬ 4096 < r.body.length) :
    Fn Tryz.prog 44 #[v] [q] (fun r Q => ∃ ss : List (List UInt8), ss.length = (namesF g 3).length ∧ Q = [own 9 1 (namesF g 3).length r (strsV ss), q]) := by
  have hnm := names_spec q v g 3 hq hl hb
  have hnl : ¬ 16777216 < (namesF g 3).length := by have := namesF_len (kind := 3) hb; have := capN_le hl; omega
  generalize namesF g 3 = ns at *
  refine Fn.mk2 Tryz.func44 rfl rfl fun w0 F => ?_
  refine .seq (.region (.assign rfl rfl (.nil (kthen_n (.seq (.region (.move rfl rfl ?_)))))))
  refine GO.call2 rfl rfl rfl (hnm) (Tks.c Tk.h Tks.n) ?_
  rintro _ _ ⟨mb, rfl, rfl⟩
  skip
  refine GO.call1 rfl rfl (keys_spec ns mb) (Tks.c Tk.h Tks.n) ?_
  rintro _ _ ⟨bx, rfl, rfl⟩
  skip
  refine GO.call1 rfl rfl (sorted_spec _ ns.length _ _ hnl (keys_seq ns mb bx)) (Tks.c Tk.h (Tks.c Tk.h Tks.n)) ?_
  rintro r _ ⟨ss, hss, rfl⟩
  refine .assign rfl rfl (.nil (kthen_n (.ret ?_)))
  refine KF2.r1 rfl (RV.t rfl) ⟨ss, hss, rfl⟩ (ImpS.sb ?_)
  exact .c .h (.c (.t (.t .h)) (.s (.s .r)))
end Go.Proofs.YtbconcohpfkncaaGreat
namespace Go.Proofs.YtbconcohpfkncaaGreat
open Go
def lineF (r : RuleD) : List UInt8 := r.head ++ [32, 61, 32] ++ printF r.body ++ [32, 59, 10]
def textG (g : List RuleD) : List UInt8 := g.flatMap lineF
def okG (g : List RuleD) : Bool := g.all fun r => decide (checkF r.body = 0)
/-- The text, and whether it may be. -/
def textGF (g : List RuleD) : List UInt8 × Bool := if okG g = true then (textG g, decide ((textG g).length ≤ 2048)) else ([], false)
theorem printF_len (l : List NodeD) : (printF l).length ≤ 2048 := by
  unfold printF
  split
  · rename_i h
    obtain ⟨_, t, rfl, _, hb⟩ := checkF_ok h
    rw [treeL_flat]
    unfold boundF at hb
    split at hb
    · cases hb
    split at hb
    · cases hb
    · omega
  · simp
def capM (i : Nat) : Nat := i * 8192
theorem capM_succ (i : Nat) : capM (i + 1) = capM i + 8192 := by unfold capM; omega
theorem capM_le {i : Nat} (h : ¬ 4096 < i) : ¬ 33554432 < capM i := by unfold capM; omega
theorem all_drop {α : Type} {l : List α} {p : α → Bool} {i : Nat} {x : α} (h : l[i]? = some x) : (l.drop i).all p = (p x && (l.drop (i + 1)).all p) := by rw [drop_at h, List.all_cons]
attribute [local irreducible] capN capM G GO GR GT Fn FnX FnV FnXV Dfr pt init exs pur sat own ImpS mapP mapIt namesF occF checkF printF
set_option maxHeartbeats 4000000 in
theorem blen2_spec (b n cap : Nat) (a : Option Addr) (p : Value) : Fn Tryz.prog 111 #[ptrV b] [bldP b p (.slice a n cap)] (fun r Q => r = i64 (n : Nat) ∧ Q = [bldP b p (.slice a n cap)]) := by
  refine Fn.mk2 Tryz.func111 rfl rfl fun w0 F => ?_
  refine .seq (.region (.assign rfl rfl (.nil (kthen_n (.seq (.region (.move rfl rfl (.nilCheck rfl rfl (.fieldAddr rfl rfl (.load1 rfl rfl rfl .h rfl (.lenS rfl rfl (.assign rfl rfl (.nil (kthen_n (.ret ?_)))))))))))))))
  refine KF2.r1 rfl (RV.t rfl) ⟨rfl, rfl⟩ (ImpS.sb ?_)
  exact .c .h .r
set_option maxHeartbeats 16000000 in
set_option maxRecDepth 40000 in
theorem textG_spec (q : HP) (v : Value) (g : List RuleD) (hq : RulesR q v g) (hg : 1 ≤ g.length) (hl : ¬ 4096 < g.length) (hb : ∀ r ∈ g, ¬ 4096 < r.body.length) (hh : ∀ r ∈ g, ¬ 4096 < r.head.length) :
    Fn Tryz.prog 86 #[v] [q] (fun r Q => r = .tuple #[str (textGF g).1, .bool (textGF g).2] ∧ Q = [q]) := by
  have hrd : ∀ i r, g[i]? = some r → _ := fun i r h => rules_rd hq h
  obtain ⟨a, cap, rfl⟩ := rules_sl hq
  clear hq
  unfold textGF
  generalize hres : okG g = res
  refine Fn.mk2 Tryz.func86 rfl rfl fun w0 F => ?_
  refine G.ownNil (T := 5) (sz := 1) ?_
  (refine .seq (.region (.assign rfl rfl (.assign rfl rfl (.nil (kthen_n (.seq (.region (.alloc rfl fun b4 => .nil (kthen_n (.seq (.seq (.region (.move rfl rfl (.lenS rfl rfl ?_)))))))))))))); refine .move rfl rfl (.nil (kthen_n (.block ?_))))
  refine G.loopI (σ := Nat × Value × Value) (fun z => [(0, .slice a g.length cap), (4, ptrV b4), (9, .slice a g.length cap), (10, i64 (g.length : Nat)), (11, i64 (z.1 : Nat))]) (fun z => bldP b4 z.2.1 z.2.2 :: bufP z.2.2 (textG (g.take z.1)) :: q :: F)
    (fun z => z.1 ≤ g.length ∧ BldP b4 z.2.1 ∧ (textG (g.take z.1)).length ≤ capM z.1 ∧ z.1 ≤ (textG (g.take z.1)).length ∧ (g.drop z.1).all (fun r => decide (checkF r.body = 0)) = res) (fun z => g.length - z.1) (0, .pointer none, .slice none 0 0) ⟨Nat.zero_le _, .inl rfl, Nat.zero_le _, Nat.zero_le _, hres⟩ ?_ ?_ ?_
  · exact .c rfl rfl (.c rfl rfl (.c rfl rfl (.c rfl rfl (.c rfl rfl .n))))
  · refine ImpS.sb ?_
    exact .c .h (.c .h (.c .h .r))
  clear hres
  rintro ⟨i, p, v4⟩ ⟨hi, hp, hle, hge, hall⟩
  dsimp only at hi hp hle hge hall ⊢
  have hcs := capM_succ i
  have hcl := capM_le (i := i) (by omega)
  (refine G.seq ?_; refine G.region ?_; refine GO.lti rfl rfl rfl ?_; refine GO.nil ?_; refine kthen_n ?_; refine G.seq ?_)
  by_cases hlt : i < g.length
  · have d1 : decide ((i : Int) < (g.length : Int)) = true := decide_eq_true (by omega)
    obtain ⟨m, hm⟩ : ∃ m, g[i]? = some m := ⟨_, List.getElem?_eq_getElem hlt⟩
    have hbl := hb m (List.mem_of_getElem? hm)
    have hhl := hh m (List.mem_of_getElem? hm)
    obtain ⟨b, o, cap2, w, e, _, hw, rm⟩ := hrd i m hm
    injection e with e _ e2
    subst e e2
    rw [all_drop hm] at hall
    have hpr := print_spec q w m.body hw (by omega)
    have hpl := printF_len m.body
    have htk : textG (g.take (i + 1)) = textG (g.take i) ++ lineF m := by unfold textG; rw [take_snoc hm, List.flatMap_append, List.flatMap_cons, List.flatMap_nil, List.append_nil]
    obtain ⟨aw, cw, rfl⟩ := nodes_sl hw
    generalize textG (g.take i) = tx at *
    (refine G.condT rfl (by assumption) ?_; refine G.skip ?_; refine kthen_n ?_; refine G.seq ?_; refine G.block ?_; refine G.seq ?_; refine G.region ?_; refine GO.idxS rfl rfl rfl ⟨rfl, by omega⟩ ?_)
    refine GO.loadM (vs := [str m.head, .slice aw m.body.length cw]) rfl rfl rfl (Tk.t (Tk.t Tk.h)) rfl rm ?_
    (refine GO.alloc rfl fun b6 => ?_; refine GO.storeW rfl rfl Tk.h ⟨rfl, rfl⟩ (by simp [Value.oneCell']) ?_; refine GO.nil ?_; refine kthen_n ?_; refine G.seq ?_; refine G.region ?_; refine GO.fieldAddr rfl rfl ?_; refine GO.load1 rfl rfl rfl Tk.h rfl ?_)
    refine GO.call1 rfl rfl (hpr) (Tks.c (Tk.t (Tk.t (Tk.t Tk.h))) Tks.n) ?_
    rintro _ _ ⟨rfl, rfl⟩
    refine .move rfl rfl (.extract rfl rfl rfl (.extract rfl rfl rfl (.assign rfl rfl (.assign rfl rfl (.nil (kthen_n (.seq (.seq (.region (.move rfl rfl (.nei rfl rfl rfl (.nil (kthen_n ?_)))))))))))))
    by_cases hc : checkF m.body = 0
    · have d2 : decide ((checkF m.body : Int) ≠ 0) = false := decide_eq_false (by omega)
      rw [decide_eq_true hc, Bool.true_and] at hall
      generalize hps : printF m.body = ps at *
      have hll : (lineF m).length = m.head.length + 6 + ps.length := by unfold lineF; rw [hps]; simp only [List.length_append, List.length_cons, List.length_nil]; omega
      have hle2 : lineF m = m.head ++ [32, 61, 32] ++ ps ++ [32, 59, 10] := by unfold lineF; rw [hps]
      refine .condF rfl (by assumption) (.skip (kthen_n (.region (.fieldAddr rfl rfl (.load1 rfl rfl rfl (.t .h) rfl ?_)))))
      refine GO.strCat (b := [32, 61, 32]) rfl rfl rfl (by simp only [List.length_append, List.length_cons, List.length_nil]; omega) ?_
      refine .move rfl rfl ?_
      refine GO.strCat rfl rfl rfl (by simp only [List.length_append, List.length_cons, List.length_nil]; omega) ?_
      refine GO.strCat (b := [32, 59, 10]) rfl rfl rfl (by simp only [List.length_append, List.length_cons, List.length_nil]; omega) ?_
      rw [← hle2]
      generalize lineF m = ln at *
      refine GO.call2 rfl rfl rfl (bwrite_spec b4 p v4 hp tx ln (by omega) (by omega)) (Tks.c (Tk.t (Tk.t Tk.h)) (Tks.c (Tk.t (Tk.t Tk.h)) Tks.n)) ?_
      rintro _ _ ⟨rfl, v5, rfl⟩
      refine .nil (kblock_n (kthen_n (.region (.addi rfl rfl rfl (by omega) (.move rfl rfl (.nil (kthen_n ?_)))))))
      refine ⟨(i + 1, ptrV b4, v5), ⟨hlt, .inr rfl, by dsimp only; rw [htk, List.length_append]; omega, by dsimp only; rw [htk, List.length_append]; omega, hall⟩, by dsimp only; omega, ?_, ?_⟩
      · exact .c rfl rfl (.c rfl rfl (.c rfl rfl (.c rfl rfl (.c rfl rfl .n))))
      · dsimp only
        rw [htk]
        refine ImpS.sb ?_
        exact .c .h (.c .h (.c .h (.s .r)))
    · have d2 : decide ((checkF m.body : Int) ≠ 0) = true := decide_eq_true (by omega)
      rw [decide_eq_false hc, Bool.false_and] at hall
      subst hall
      rw [if_neg (by decide)]
      refine .condT rfl (by assumption) (.seq (.region (.assign rfl rfl (.assign rfl rfl (.nil (kthen_n (.ret (kthen_r (kblock_r (kthen_r (kthen_r (kblock_r (kthen_r ?_)))))))))))))
      refine KF2.r2 rfl (RV.t rfl) (RV.t rfl) ⟨rfl, rfl⟩ (ImpS.sb ?_)
      exact .c .h (.s (.s (.s .r)))
  · have d1 : decide ((i : Int) < (g.length : Int)) = false := decide_eq_false (by omega)
    obtain rfl : i = g.length := by omega
    rw [List.drop_length, List.all_nil] at hall
    subst hall
    rw [if_pos rfl, List.take_length]
    rw [List.take_length] at hle hge
    generalize textG g = tx at *
    have hne : tx ≠ [] := fun h => by rw [h, List.length_nil] at hge; omega
    refine G.ownForm (by omega) (Tk.t Tk.h) fun b5 cap5 e5 _ _ _ => ?_
    subst e5
    refine .condF rfl (by assumption) (.exit (kthen_x (kthen_x (kblock_x (kthen_n (.seq (.region ?_)))))))
    refine GO.call1 rfl rfl (bstr_spec b4 p (.slice (some ⟨b5, 0, none⟩) tx.length cap5) tx hne) (Tks.c Tk.h (Tks.c Tk.h Tks.n)) ?_
    rintro _ _ ⟨rfl, rfl⟩
    skip
    refine GO.call1 rfl rfl (blen2_spec b4 tx.length cap5 (some ⟨b5, 0, none⟩) p) (Tks.c Tk.h Tks.n) ?_
    rintro _ _ ⟨rfl, rfl⟩
    refine .lei rfl rfl rfl (.assign rfl rfl (.assign rfl rfl (.nil (kthen_n (.ret ?_)))))
    refine KF2.r2 rfl (RV.t rfl) (RV.t rfl) ⟨?_, rfl⟩ (ImpS.sb ?_)
    · rw [show decide ((tx.length : Int) ≤ 2048) = decide (tx.length ≤ 2048) from decide_eq_decide.2 (by omega)]
    · exact .c (.t .h) (.s .r)
end Go.Proofs.YtbconcohpfkncaaGreat
namespace Go.Proofs.YtbconcohpfkncaaGreat
open Go
def headedF (s : List UInt8) : Bool := decide (checkF [⟨2, s, 0⟩] = 0)
def badR (r : RuleD) : Bool := !headedF r.head || decide ((HeightF r.body : Int) = 0)
def deepR (r : RuleD) : Bool := decide ((16 : Int) < (HeightF r.body : Int))
def quesF (g : List RuleD) : List (Bool × Nat) := [(decide ((g.length : Int) < 1) || decide ((64 : Int) < (g.length : Int)), 180), (g.any badR, 170), (decide ((16 : Int) < ((headsF g).length : Int) + (missF g : Int)), 181), (decide ((16 : Int) < ((namesF g 3).length : Int)), 182), (decide ((64 : Int) < (occG g : Int)), 183), (g.any deepR, 171), (decide ((0 : Int) < (missF g : Int)), 184), (!(textGF g).2, 174)]
def firstE : List (Bool × Nat) → Nat
  | [] => 0
  | (b, e) :: r => if b = true then e else firstE r
/-- What Check answers. -/
def checkG (g : List RuleD) : Nat := firstE (quesF g)
/-- Grammars of such sizes. -/
structure FitG (g : List RuleD) : Prop where
  len : ¬ 4096 < g.length
  body : ∀ r ∈ g, ¬ 4096 < r.body.length
  head : ∀ r ∈ g, ¬ 4096 < r.head.length
theorem delN_len (k : List UInt8) : ∀ l : List SN, (delN k l).length ≤ l.length
  | [] => by simp [delN]
  | (a, u) :: l => by
    simp only [delN]
    split
    · simp
    · have := delN_len k l; simp only [List.length_cons]; omega
theorem foldl_shrink {α β : Type} {f : List β → α → List β} (h : ∀ acc x, (f acc x).length ≤ acc.length) : ∀ (l : List α) (acc : List β), (l.foldl f acc).length ≤ acc.length
  | [], acc => by simp
  | x :: l, acc => by
    have h1 := foldl_shrink h l (f acc x)
    have h2 := h acc x
    rw [List.foldl_cons]
    omega
theorem missF_le {g : List RuleD} (hf : FitG g) : missF g ≤ capN g.length := by
  have h1 := foldl_shrink (f := fun (acc : List SN) (r : RuleD) => delN r.head acc) (fun acc x => delN_len _ _) g (namesF g 2)
  have h2 := namesF_len (kind := 2) hf.body
  unfold missF
  omega
theorem headsF_le (g : List RuleD) : (headsF g).length ≤ g.length := by
  have := foldl_grow 1 (f := headStep) g [] fun acc r _ => by
    unfold headStep
    split
    · omega
    · rw [List.length_append]; simp
  rw [List.length_nil] at this
  unfold headsF
  omega
attribute [local irreducible] capN capM G GO GR GT Fn FnX FnV FnXV Dfr pt init exs pur sat own ImpS mapP mapIt namesF occF checkF printF HeightF headsF missF occG textGF
set_option maxHeartbeats 4000000 in
theorem headed_spec (s : List UInt8) : Fn Tryz.prog 76 #[str s] [] (fun r Q => r = .bool (headedF s) ∧ Q = []) := by
  refine Fn.mk2 Tryz.func76 rfl rfl fun w0 F => ?_
  unfold headedF
  refine .seq (.region (.assign rfl rfl (.nil (kthen_n (.seq (.region (.move rfl rfl ?_)))))))
  refine GO.buildP2 (built_nodeN 2 s) rfl rfl rfl ?_
  skip
  refine GO.buildSlice1 (n := 3) rfl rfl (fun v hv => by rw [List.mem_singleton.1 hv]; rfl) rfl ⟨by decide, by decide⟩ fun bs => ?_
  refine GO.ownIn (n := 1) (sz := 3) Tk.h rfl (by decide) ?_
  refine GO.ownRdK Tk.h fun q hq => ?_
  have hone : ¬ 1048576 < ([⟨2, s, 0⟩] : List NodeD).length := by show ¬ 1048576 < 1; decide
  have hq2 : NodesR q (.slice (some ⟨bs, 0, none⟩) 1 1) [⟨2, s, 0⟩] := hq
  refine GO.call1 rfl rfl (check_spec q _ [⟨2, s, 0⟩] hq2 hone) (Tks.c Tk.h Tks.n) ?_
  rintro _ _ ⟨rfl, rfl⟩
  rw [show decide (checkF [⟨2, s, 0⟩] = 0) = decide ((checkF [⟨2, s, 0⟩] : Int) = 0) from decide_eq_decide.2 (by omega)]
  refine .eqi rfl rfl rfl (.assign rfl rfl (.nil (kthen_n (.ret ?_))))
  refine KF2.r1 rfl (RV.t rfl) ⟨rfl, rfl⟩ (ImpS.sb ?_)
  exact .s .r
set_option maxHeartbeats 4000000 in
theorem order2_spec (a : Option Addr) (n cap : Nat) : FnV Tryz.prog (.func (.func 74) #[] #[]) [.slice a n cap] [] (fun r Q => r = .bool (decide ((n : Int) < 1) || decide ((64 : Int) < (n : Int))) ∧ Q = []) := by
  refine FnV.of (caps := []) ?_
  refine Fn.mk2 Tryz.func74 rfl rfl fun w0 F => ?_
  refine .seq (.region (.assign rfl rfl (.nil (kthen_n (.seq (.region (.move rfl rfl (.lenS rfl rfl (.lti rfl rfl rfl (.move rfl rfl ?_))))))))))
  cases d : decide ((n : Int) < 1)
  · refine .gT rfl rfl rfl (.move rfl rfl (.gT rfl rfl rfl (.lenS rfl rfl (.gT rfl rfl rfl (.gti rfl rfl rfl (.pickF rfl rfl rfl (.assign rfl rfl (.nil (kthen_n (.ret ?_))))))))))
    refine KF2.r1 rfl (RV.t rfl) ⟨rfl, rfl⟩ (ImpS.sb ?_)
    exact .r
  · refine .gF rfl rfl rfl rfl (.gF rfl rfl rfl rfl (.gF rfl rfl rfl rfl (.pickT rfl rfl rfl (.assign rfl rfl (.nil (kthen_n (.ret ?_)))))))
    refine KF2.r1 rfl (RV.t rfl) ⟨rfl, rfl⟩ (ImpS.sb ?_)
    exact .r
set_option maxHeartbeats 4000000 in
theorem order3_spec (q : HP) (r : RuleD) (w : Value) (hw : NodesR q w r.body) (hl : ¬ 4096 < r.body.length) : FnV Tryz.prog (.func (.func 75) #[] #[]) [ruleA r w] [q] (fun x Q => x = .bool (badR r) ∧ Q = [q]) := by
  have hh := Height_spec q w r.body hw hl
  obtain ⟨aw, cw, rfl⟩ := nodes_sl hw
  refine FnV.of (caps := []) ?_
  refine Fn.mk2 Tryz.func75 rfl rfl fun w0 F => ?_
  unfold badR
  refine .seq (.region (.box rfl rfl rfl fun b1 => .assign rfl rfl (.nil (kthen_n (.seq (.region (.fieldAddr rfl rfl (.load1 rfl rfl rfl .h rfl ?_))))))))
  refine GO.call1 rfl rfl (headed_spec r.head) Tks.n ?_
  rintro _ _ ⟨rfl, rfl⟩
  cases d : headedF r.head
  · refine .not rfl rfl (.move rfl rfl (.gF rfl rfl rfl rfl (.gF rfl rfl rfl rfl (.gF rfl rfl rfl rfl (.gF rfl rfl rfl rfl (.pickT rfl rfl rfl (.assign rfl rfl (.nil (kthen_n (.ret ?_))))))))))
    refine KF2.r1 rfl (RV.t rfl) ⟨rfl, rfl⟩ (ImpS.sb ?_)
    exact .c (.t .h) (.s .r)
  · refine .not rfl rfl (.move rfl rfl (.gT rfl rfl rfl (.fieldAddr rfl rfl (.gT rfl rfl rfl (.load1 rfl rfl rfl .h rfl (.gT rfl rfl rfl ?_))))))
    refine GO.call1 rfl rfl (hh) (Tks.c (Tk.t Tk.h) Tks.n) ?_
    rintro _ _ ⟨rfl, rfl⟩
    refine .gT rfl rfl rfl (.eqi rfl rfl rfl (.pickF rfl rfl rfl (.assign rfl rfl (.nil (kthen_n (.ret ?_))))))
    refine KF2.r1 rfl (RV.t rfl) ⟨rfl, rfl⟩ (ImpS.sb ?_)
    exact .c .h (.s .r)
set_option maxHeartbeats 4000000 in
theorem order7_spec (q : HP) (r : RuleD) (w : Value) (hw : NodesR q w r.body) (hl : ¬ 4096 < r.body.length) : FnV Tryz.prog (.func (.func 83) #[] #[]) [ruleA r w] [q] (fun x Q => x = .bool (deepR r) ∧ Q = [q]) := by
  have hh := Height_spec q w r.body hw hl
  obtain ⟨aw, cw, rfl⟩ := nodes_sl hw
  refine FnV.of (caps := []) ?_
  refine Fn.mk2 Tryz.func83 rfl rfl fun w0 F => ?_
  unfold deepR
  refine .seq (.region (.box rfl rfl rfl fun b1 => .assign rfl rfl (.nil (kthen_n (.seq (.region (.fieldAddr rfl rfl (.load1 rfl rfl rfl .h rfl ?_))))))))
  refine GO.call1 rfl rfl (hh) (Tks.c (Tk.t Tk.h) Tks.n) ?_
  rintro _ _ ⟨rfl, rfl⟩
  refine .gti rfl rfl rfl (.assign rfl rfl (.nil (kthen_n (.ret ?_))))
  refine KF2.r1 rfl (RV.t rfl) ⟨rfl, rfl⟩ (ImpS.sb ?_)
  exact .c .h (.s .r)
set_option maxHeartbeats 4000000 in
theorem order11_spec (q : HP) (v : Value) (g : List RuleD) (f : Nat) (bx : Nat) (p : RuleD → Bool) (hq : RulesR q v g) (hf : FitG g) (hy : ∀ r ∈ g, ∀ w, NodesR q w r.body → FnV Tryz.prog (.func (.func f) #[] #[]) [ruleA r w] [q] (fun x Q => x = .bool (p r) ∧ Q = [q])) :
    FnV Tryz.prog (.func (.func 73) #[] #[ptrV bx]) [v] [pt bx (row [.func (.func f) #[] #[]] 102), q] (fun r Q => r = .bool (g.any p) ∧ Q = [pt bx (row [.func (.func f) #[] #[]] 102), q]) := by
  have hl := hf.len
  refine FnV.of (caps := [ptrV bx]) ?_
  refine Fn.mk2 Tryz.func73 rfl rfl fun w0 F => ?_
  refine .seq (.region (.assign rfl rfl (.nil (kthen_n (.seq (.region (.move rfl rfl (.load1 rfl rfl rfl .h rfl ?_))))))))
  refine GO.call2 rfl rfl rfl (hasR_spec q v g _ p hq (by omega) hy) (Tks.c (Tk.t Tk.h) Tks.n) ?_
  rintro _ _ ⟨rfl, rfl⟩
  refine .assign rfl rfl (.nil (kthen_n (.ret ?_)))
  refine KF2.r1 rfl (RV.t rfl) ⟨rfl, rfl⟩ (ImpS.sb ?_)
  exact .c (.t .h) (.c .h .r)
set_option maxHeartbeats 4000000 in
theorem order4_spec (q : HP) (v : Value) (g : List RuleD) (hq : RulesR q v g) (hf : FitG g) : FnV Tryz.prog (.func (.func 78) #[] #[]) [v] [q] (fun r Q => r = .bool (decide ((16 : Int) < ((headsF g).length : Int) + (missF g : Int))) ∧ Q = [q]) := by
  have h1 := missF_le hf
  have h2 := headsF_le g
  have h3 := capN_le hf.len
  have hl := hf.len
  refine FnV.of (caps := []) ?_
  refine Fn.mk2 Tryz.func78 rfl rfl fun w0 F => ?_
  refine .seq (.region (.assign rfl rfl (.nil (kthen_n (.seq (.region (.move rfl rfl ?_)))))))
  refine GO.call1 rfl rfl (Heads_spec q v g hq hf.len) (Tks.c Tk.h Tks.n) ?_
  rintro r _ rfl
  refine .lenOwn rfl rfl .h (.move rfl rfl ?_)
  refine GO.call1 rfl rfl (missing_spec q v g hq hf.len hf.body) (Tks.c (Tk.t Tk.h) Tks.n) ?_
  rintro _ _ ⟨rfl, rfl⟩
  refine .addi rfl rfl rfl (by omega) (.gti rfl rfl rfl (.assign rfl rfl (.nil (kthen_n (.ret ?_)))))
  refine KF2.r1 rfl (RV.t rfl) ⟨rfl, rfl⟩ (ImpS.sb ?_)
  exact .c .h (.s .r)
set_option maxHeartbeats 4000000 in
theorem order5_spec (q : HP) (v : Value) (g : List RuleD) (hq : RulesR q v g) (hf : FitG g) : FnV Tryz.prog (.func (.func 80) #[] #[]) [v] [q] (fun r Q => r = .bool (decide ((16 : Int) < ((namesF g 3).length : Int))) ∧ Q = [q]) := by
  refine FnV.of (caps := []) ?_
  refine Fn.mk2 Tryz.func80 rfl rfl fun w0 F => ?_
  refine .seq (.region (.assign rfl rfl (.nil (kthen_n (.seq (.region (.move rfl rfl ?_)))))))
  refine GO.call1 rfl rfl (Labels_spec q v g hq hf.len hf.body) (Tks.c Tk.h Tks.n) ?_
  rintro r _ ⟨ss, hss, rfl⟩
  refine .lenOwn rfl rfl .h (.gti rfl rfl rfl (.assign rfl rfl (.nil (kthen_n (.ret ?_)))))
  refine KF2.r1 rfl (RV.t rfl) ⟨rfl, rfl⟩ (ImpS.sb ?_)
  exact .c (.t .h) (.s .r)
set_option maxHeartbeats 4000000 in
theorem order6_spec (q : HP) (v : Value) (g : List RuleD) (hq : RulesR q v g) (hf : FitG g) : FnV Tryz.prog (.func (.func 81) #[] #[]) [v] [q] (fun r Q => r = .bool (decide ((64 : Int) < (occG g : Int))) ∧ Q = [q]) := by
  refine FnV.of (caps := []) ?_
  refine Fn.mk2 Tryz.func81 rfl rfl fun w0 F => ?_
  refine .seq (.region (.assign rfl rfl (.nil (kthen_n (.seq (.region (.move rfl rfl ?_)))))))
  refine GO.call1 rfl rfl (OccG_spec q v g hq hf.len hf.body) (Tks.c Tk.h Tks.n) ?_
  rintro _ _ ⟨rfl, rfl⟩
  refine .gti rfl rfl rfl (.assign rfl rfl (.nil (kthen_n (.ret ?_))))
  refine KF2.r1 rfl (RV.t rfl) ⟨rfl, rfl⟩ (ImpS.sb ?_)
  exact .c .h .r
set_option maxHeartbeats 4000000 in
theorem order8_spec (q : HP) (v : Value) (g : List RuleD) (hq : RulesR q v g) (hf : FitG g) : FnV Tryz.prog (.func (.func 84) #[] #[]) [v] [q] (fun r Q => r = .bool (decide ((0 : Int) < (missF g : Int))) ∧ Q = [q]) := by
  refine FnV.of (caps := []) ?_
  refine Fn.mk2 Tryz.func84 rfl rfl fun w0 F => ?_
  refine .seq (.region (.assign rfl rfl (.nil (kthen_n (.seq (.region (.move rfl rfl ?_)))))))
  refine GO.call1 rfl rfl (missing_spec q v g hq hf.len hf.body) (Tks.c Tk.h Tks.n) ?_
  rintro _ _ ⟨rfl, rfl⟩
  refine .gti rfl rfl rfl (.assign rfl rfl (.nil (kthen_n (.ret ?_))))
  refine KF2.r1 rfl (RV.t rfl) ⟨rfl, rfl⟩ (ImpS.sb ?_)
  exact .c .h .r
set_option maxHeartbeats 4000000 in
theorem order9_spec (q : HP) (v : Value) (g : List RuleD) (hq : RulesR q v g) (hf : FitG g) (hg : 1 ≤ g.length) : FnV Tryz.prog (.func (.func 85) #[] #[]) [v] [q] (fun r Q => r = .bool (!(textGF g).2) ∧ Q = [q]) := by
  refine FnV.of (caps := []) ?_
  refine Fn.mk2 Tryz.func85 rfl rfl fun w0 F => ?_
  refine .seq (.region (.assign rfl rfl (.nil (kthen_n (.seq (.region (.move rfl rfl ?_)))))))
  refine GO.call1 rfl rfl (textG_spec q v g hq hg hf.len hf.body hf.head) (Tks.c Tk.h Tks.n) ?_
  rintro _ _ ⟨rfl, rfl⟩
  refine .move rfl rfl (.extract rfl rfl rfl (.extract rfl rfl rfl (.assign rfl rfl (.assign rfl rfl (.nil (kthen_n (.seq (.region (.move rfl rfl (.not rfl rfl (.assign rfl rfl (.nil (kthen_n (.ret ?_))))))))))))))
  refine KF2.r1 rfl (RV.t rfl) ⟨rfl, rfl⟩ (ImpS.sb ?_)
  exact .c .h .r
end Go.Proofs.YtbconcohpfkncaaGreat
namespace Go.Proofs.YtbconcohpfkncaaGreat
open Go
abbrev fnC (f : Nat) : Value := .func (.func f) #[] #[]
abbrev fnB (f b : Nat) : Value := .func (.func f) #[] #[ptrV b]
def askV (bA bB : Nat) : List Value := [fnC 74, i64 180, fnB 73 bA, i64 170, fnC 78, i64 181, fnC 80, i64 182, fnC 81, i64 183, fnB 73 bB, i64 171, fnC 84, i64 184, fnC 85, i64 174]
abbrev askP (bx f : Nat) : HP := pt bx (row [fnC f] 102)
abbrev askA (f : Value) (e : Nat) : Value := .agg (putParts [f, i64 (e : Nat)]).toArray
def askL (bA bB : Nat) : List Value := [askA (fnC 74) 180, askA (fnB 73 bA) 170, askA (fnC 78) 181, askA (fnC 80) 182, askA (fnC 81) 183, askA (fnB 73 bB) 171, askA (fnC 84) 184, askA (fnC 85) 174]
theorem askL_V (bA bB : Nat) : putParts (askL bA bB) = askV bA bB := rfl
theorem askL_2 (bA bB : Nat) : ∀ v ∈ askL bA bB, v.cells.size = 2 := by
  intro v hv
  simp only [askL, List.mem_cons, List.not_mem_nil, or_false] at hv
  rcases hv with rfl | rfl | rfl | rfl | rfl | rfl | rfl | rfl <;> rfl
attribute [local irreducible] capN capM G GO GR GT Fn FnX FnV FnXV Dfr pt init exs pur sat own ImpS mapP mapIt namesF occF checkF printF HeightF headsF missF occG textGF
set_option maxHeartbeats 4000000 in
theorem order1_spec (f : Nat) : FnV Tryz.prog (fnC 72) [fnC f] [] (fun r Q => ∃ bx, r = fnB 73 bx ∧ Q = [askP bx f]) := by
  refine FnV.of (caps := []) ?_
  refine Fn.mk2 Tryz.func72 rfl rfl fun w0 F => ?_
  refine .seq (.region (.box rfl rfl rfl fun b1 => .assign rfl rfl (.nil (kthen_n (.seq (.region (.makeFunc1 rfl rfl (.assign rfl rfl (.nil (kthen_n (.ret ?_)))))))))))
  refine KF2.r1 rfl (RV.t rfl) ⟨_, rfl, rfl⟩ (ImpS.sb ?_)
  exact .c .h .r
set_option maxHeartbeats 4000000 in
theorem order_spec : Fn Tryz.prog 42 #[] [] (fun r Q => ∃ bo bA bB, r = .slice (some ⟨bo, 0, none⟩) 8 8 ∧ Q = [pt bo (row (askV bA bB) 106), askP bA 75, askP bB 83]) := by
  refine Fn.mk2 Tryz.func42 rfl rfl fun w0 F => ?_
  refine .seq (.region (.assign rfl rfl (.nil (kthen_n (.seq (.region (.assign rfl rfl (.nil (kthen_n (.seq (.region (.build2 rfl rfl rfl rfl (.move rfl rfl ?_)))))))))))))
  refine GO.callV1 rfl rfl rfl (order1_spec 75) Tks.n ?_
  rintro _ _ ⟨bA, rfl, rfl⟩
  refine .build2 rfl rfl rfl rfl (.build2 rfl rfl rfl rfl (.build2 rfl rfl rfl rfl (.build2 rfl rfl rfl rfl (.move rfl rfl ?_))))
  refine GO.callV1 rfl rfl rfl (order1_spec 83) Tks.n ?_
  rintro _ _ ⟨bB, rfl, rfl⟩
  refine .build2 rfl rfl rfl rfl (.build2 rfl rfl rfl rfl (.build2 rfl rfl rfl rfl ?_))
  refine GO.buildSlice (n := 2) (xs := [.tmp 2, .tmp 5, .tmp 6, .tmp 7, .tmp 8, .tmp 11, .tmp 12, .tmp 13]) (vs := askL bA bB) rfl rfl ⟨rfl, rfl, rfl, rfl, rfl, rfl, rfl, rfl, trivial⟩ (askL_2 bA bB) rfl ⟨by decide, by decide, by decide⟩ fun bo => ?_
  rw [askL_V]
  refine .assign rfl rfl (.nil (kthen_n (.ret ?_)))
  refine KF2.r1 rfl (RV.t rfl) ⟨bo, bA, bB, rfl, rfl⟩ (ImpS.sb ?_)
  exact .c .h (.c (.t .h) (.c .h .r))
end Go.Proofs.YtbconcohpfkncaaGreat
namespace Go.Proofs.YtbconcohpfkncaaGreat
open Go
theorem firstE_cons (b : Bool) (e : Nat) (r : List (Bool × Nat)) : firstE ((b, e) :: r) = if b = true then e else firstE r := rfl
attribute [local irreducible] capN capM G GO GR GT Fn FnX FnV FnXV Dfr pt init exs pur sat own ImpS mapP mapIt namesF occF checkF printF HeightF headsF missF occG textGF firstE
set_option maxHeartbeats 32000000 in
set_option maxRecDepth 40000 in
theorem checkG_spec (q : HP) (v : Value) (g : List RuleD) (hq : RulesR q v g) (hf : FitG g) : Fn Tryz.prog 17 #[v] [q] (fun r Q => r = i64 (checkG g : Nat) ∧ Q = [q]) := by
  obtain ⟨a, cap, rfl⟩ := rules_sl hq
  unfold checkG
  generalize hres : firstE (quesF g) = res
  refine Fn.mk2 Tryz.func17 rfl rfl fun w0 F => ?_
  refine .seq (.region (.assign rfl rfl (.nil (kthen_n (.seq (.seq (.region ?_)))))))
  refine GO.call0 rfl (order_spec) Tks.n ?_
  rintro _ _ ⟨bo, bA, bB, rfl, rfl⟩
  refine .lenS rfl rfl (.move rfl rfl (.nil (kthen_n (.block ?_))))
  refine G.loopI (σ := Nat) (fun i => [(0, .slice a g.length cap), (5, .slice (some ⟨bo, 0, none⟩) 8 8), (6, i64 (8 : Nat)), (7, i64 (i : Nat))]) (fun i => pt bo (row (askV bA bB) 106) :: askP bA 75 :: askP bB 83 :: q :: F) (fun i => i ≤ 8 ∧ firstE ((quesF g).drop i) = res ∧ (1 ≤ i → 1 ≤ g.length)) (fun i => 8 - i) 0 ⟨by decide, hres, fun h => absurd h (by decide)⟩ ?_ ?_ ?_
  · exact .c rfl rfl (.c rfl rfl (.c rfl rfl (.c rfl rfl .n)))
  · refine ImpS.sb ?_
    exact .c .h (.c .h (.c .h (.c .h .r)))
  clear hres
  rintro i ⟨hi, hp, hg⟩
  have hcase : i = 0 ∨ i = 1 ∨ i = 2 ∨ i = 3 ∨ i = 4 ∨ i = 5 ∨ i = 6 ∨ i = 7 ∨ i = 8 := by omega
  rcases hcase with rfl | rfl | rfl | rfl | rfl | rfl | rfl | rfl | rfl
  · rw [show (quesF g).drop 0 = (decide ((g.length : Int) < 1) || decide ((64 : Int) < (g.length : Int)), 180) :: (quesF g).drop 1 from rfl, firstE_cons] at hp
    have d1 : decide (((0 : Nat) : Int) < ((8 : Nat) : Int)) = true := rfl
    have r0 : Rd (pt bo (row (askV bA bB) 106)) ⟨bo, 0 + 0 * 2 + 0, none⟩ (fnC 74) := Rd.row rfl
    have r1 : Rd (pt bo (row (askV bA bB) 106)) ⟨bo, 0 + 0 * 2 + 1, none⟩ (i64 (180 : Nat)) := Rd.row rfl
    (refine .seq (.region (.lti rfl rfl rfl (.nil (kthen_n (.seq (.condT rfl rfl (.skip (kthen_n (.seq (.block (.seq (.region (.idxS rfl rfl rfl ⟨rfl, by omega⟩ (.load2 rfl rfl rfl .h (by assumption) (by assumption) (.alloc rfl fun b4 => ?_))))))))))))))); refine .storeW rfl rfl .h ⟨rfl, rfl⟩ (by simp [Value.oneCell']) (.nil (kthen_n (.seq (.region (.fieldAddr rfl rfl (.load1 rfl rfl rfl .h rfl (.move rfl rfl ?_))))))))
    have hc := order2_spec a g.length cap
    have hgl : (decide ((g.length : Int) < 1) || decide ((64 : Int) < (g.length : Int))) = false → 1 ≤ g.length := fun h => by
      rw [Bool.or_eq_false_iff] at h
      have := of_decide_eq_false h.1
      omega
    generalize (decide ((g.length : Int) < 1) || decide ((64 : Int) < (g.length : Int))) = qu at *
    refine GO.callV1 rfl rfl rfl (hc) Tks.n ?_
    rintro _ _ ⟨rfl, rfl⟩
    cases qu
    · rw [if_neg (by decide)] at hp
      refine .nil (kthen_n (.condF rfl rfl (.skip (kblock_n (kthen_n (.region (.addi rfl rfl rfl (by omega) (.move rfl rfl (.nil (kthen_n ?_))))))))))
      refine ⟨1, ⟨by decide, hp, fun _ => hgl rfl⟩, by decide, ?_, ImpS.sb ?_⟩
      · exact .c rfl rfl (.c rfl rfl (.c rfl rfl (.c rfl rfl .n)))
      · exact .c (.t .h) (.c (.t .h) (.c (.t .h) (.c (.t .h) (.s .r))))
    · rw [if_pos rfl] at hp
      subst hp
      refine .nil (kthen_n (.condT rfl rfl (.seq (.region (.fieldAddr rfl rfl (.load1 rfl rfl rfl .h rfl (.assign rfl rfl (.nil (kthen_n (.ret (kblock_r (kthen_r (kthen_r (kblock_r (kthen_r ?_)))))))))))))))
      refine KF2.r1 rfl (RV.t rfl) ⟨rfl, rfl⟩ (ImpS.sb ?_)
      exact .c (.t (.t (.t (.t .h)))) (.s (.s (.s (.s .r))))
  · rw [show (quesF g).drop 1 = (g.any badR, 170) :: (quesF g).drop 2 from rfl, firstE_cons] at hp
    have d1 : decide (((1 : Nat) : Int) < ((8 : Nat) : Int)) = true := rfl
    have r0 : Rd (pt bo (row (askV bA bB) 106)) ⟨bo, 0 + 1 * 2 + 0, none⟩ (fnB 73 bA) := Rd.row rfl
    have r1 : Rd (pt bo (row (askV bA bB) 106)) ⟨bo, 0 + 1 * 2 + 1, none⟩ (i64 (170 : Nat)) := Rd.row rfl
    have hg1 := hg (by decide)
    (refine .seq (.region (.lti rfl rfl rfl (.nil (kthen_n (.seq (.condT rfl rfl (.skip (kthen_n (.seq (.block (.seq (.region (.idxS rfl rfl rfl ⟨rfl, by omega⟩ (.load2 rfl rfl rfl .h (by assumption) (by assumption) (.alloc rfl fun b4 => ?_))))))))))))))); refine .storeW rfl rfl .h ⟨rfl, rfl⟩ (by simp [Value.oneCell']) (.nil (kthen_n (.seq (.region (.fieldAddr rfl rfl (.load1 rfl rfl rfl .h rfl (.move rfl rfl ?_))))))))
    have hc := order11_spec q (.slice a g.length cap) g 75 bA badR hq hf (fun r hr w hw => order3_spec q r w hw (hf.body r hr))
    generalize (g.any badR) = qu at *
    refine GO.callV1 rfl rfl rfl (hc) (Tks.c (Tk.t (Tk.t Tk.h)) (Tks.c (Tk.t (Tk.t (Tk.t Tk.h))) Tks.n)) ?_
    rintro _ _ ⟨rfl, rfl⟩
    cases qu
    · rw [if_neg (by decide)] at hp
      refine .nil (kthen_n (.condF rfl rfl (.skip (kblock_n (kthen_n (.region (.addi rfl rfl rfl (by omega) (.move rfl rfl (.nil (kthen_n ?_))))))))))
      refine ⟨2, ⟨by decide, hp, fun _ => hg1⟩, by decide, ?_, ImpS.sb ?_⟩
      · exact .c rfl rfl (.c rfl rfl (.c rfl rfl (.c rfl rfl .n)))
      · exact .c (.t (.t (.t .h))) (.c .h (.c (.t (.t .h)) (.c .h (.s .r))))
    · rw [if_pos rfl] at hp
      subst hp
      refine .nil (kthen_n (.condT rfl rfl (.seq (.region (.fieldAddr rfl rfl (.load1 rfl rfl rfl (.t (.t .h)) rfl (.assign rfl rfl (.nil (kthen_n (.ret (kblock_r (kthen_r (kthen_r (kblock_r (kthen_r ?_)))))))))))))))
      refine KF2.r1 rfl (RV.t rfl) ⟨rfl, rfl⟩ (ImpS.sb ?_)
      exact .c (.t .h) (.s (.s (.s (.s .r))))
  · rw [show (quesF g).drop 2 = (decide ((16 : Int) < ((headsF g).length : Int) + (missF g : Int)), 181) :: (quesF g).drop 3 from rfl, firstE_cons] at hp
    have d1 : decide (((2 : Nat) : Int) < ((8 : Nat) : Int)) = true := rfl
    have r0 : Rd (pt bo (row (askV bA bB) 106)) ⟨bo, 0 + 2 * 2 + 0, none⟩ (fnC 78) := Rd.row rfl
    have r1 : Rd (pt bo (row (askV bA bB) 106)) ⟨bo, 0 + 2 * 2 + 1, none⟩ (i64 (181 : Nat)) := Rd.row rfl
    have hg1 := hg (by decide)
    (refine .seq (.region (.lti rfl rfl rfl (.nil (kthen_n (.seq (.condT rfl rfl (.skip (kthen_n (.seq (.block (.seq (.region (.idxS rfl rfl rfl ⟨rfl, by omega⟩ (.load2 rfl rfl rfl .h (by assumption) (by assumption) (.alloc rfl fun b4 => ?_))))))))))))))); refine .storeW rfl rfl .h ⟨rfl, rfl⟩ (by simp [Value.oneCell']) (.nil (kthen_n (.seq (.region (.fieldAddr rfl rfl (.load1 rfl rfl rfl .h rfl (.move rfl rfl ?_))))))))
    have hc := order4_spec q (.slice a g.length cap) g hq hf
    generalize (decide ((16 : Int) < ((headsF g).length : Int) + (missF g : Int))) = qu at *
    refine GO.callV1 rfl rfl rfl (hc) (Tks.c (Tk.t (Tk.t (Tk.t (Tk.t Tk.h)))) Tks.n) ?_
    rintro _ _ ⟨rfl, rfl⟩
    cases qu
    · rw [if_neg (by decide)] at hp
      refine .nil (kthen_n (.condF rfl rfl (.skip (kblock_n (kthen_n (.region (.addi rfl rfl rfl (by omega) (.move rfl rfl (.nil (kthen_n ?_))))))))))
      refine ⟨3, ⟨by decide, hp, fun _ => hg1⟩, by decide, ?_, ImpS.sb ?_⟩
      · exact .c rfl rfl (.c rfl rfl (.c rfl rfl (.c rfl rfl .n)))
      · exact .c (.t (.t .h)) (.c (.t (.t .h)) (.c (.t (.t .h)) (.c .h (.s .r))))
    · rw [if_pos rfl] at hp
      subst hp
      refine .nil (kthen_n (.condT rfl rfl (.seq (.region (.fieldAddr rfl rfl (.load1 rfl rfl rfl (.t .h) rfl (.assign rfl rfl (.nil (kthen_n (.ret (kblock_r (kthen_r (kthen_r (kblock_r (kthen_r ?_)))))))))))))))
      refine KF2.r1 rfl (RV.t rfl) ⟨rfl, rfl⟩ (ImpS.sb ?_)
      exact .c .h (.s (.s (.s (.s .r))))
  · rw [show (quesF g).drop 3 = (decide ((16 : Int) < ((namesF g 3).length : Int)), 182) :: (quesF g).drop 4 from rfl, firstE_cons] at hp
    have d1 : decide (((3 : Nat) : Int) < ((8 : Nat) : Int)) = true := rfl
    have r0 : Rd (pt bo (row (askV bA bB) 106)) ⟨bo, 0 + 3 * 2 + 0, none⟩ (fnC 80) := Rd.row rfl
    have r1 : Rd (pt bo (row (askV bA bB) 106)) ⟨bo, 0 + 3 * 2 + 1, none⟩ (i64 (182 : Nat)) := Rd.row rfl
    have hg1 := hg (by decide)
    (refine .seq (.region (.lti rfl rfl rfl (.nil (kthen_n (.seq (.condT rfl rfl (.skip (kthen_n (.seq (.block (.seq (.region (.idxS rfl rfl rfl ⟨rfl, by omega⟩ (.load2 rfl rfl rfl .h (by assumption) (by assumption) (.alloc rfl fun b4 => ?_))))))))))))))); refine .storeW rfl rfl .h ⟨rfl, rfl⟩ (by simp [Value.oneCell']) (.nil (kthen_n (.seq (.region (.fieldAddr rfl rfl (.load1 rfl rfl rfl .h rfl (.move rfl rfl ?_))))))))
    have hc := order5_spec q (.slice a g.length cap) g hq hf
    generalize (decide ((16 : Int) < ((namesF g 3).length : Int))) = qu at *
    refine GO.callV1 rfl rfl rfl (hc) (Tks.c (Tk.t (Tk.t (Tk.t (Tk.t Tk.h)))) Tks.n) ?_
    rintro _ _ ⟨rfl, rfl⟩
    cases qu
    · rw [if_neg (by decide)] at hp
      refine .nil (kthen_n (.condF rfl rfl (.skip (kblock_n (kthen_n (.region (.addi rfl rfl rfl (by omega) (.move rfl rfl (.nil (kthen_n ?_))))))))))
      refine ⟨4, ⟨by decide, hp, fun _ => hg1⟩, by decide, ?_, ImpS.sb ?_⟩
      · exact .c rfl rfl (.c rfl rfl (.c rfl rfl (.c rfl rfl .n)))
      · exact .c (.t (.t .h)) (.c (.t (.t .h)) (.c (.t (.t .h)) (.c .h (.s .r))))
    · rw [if_pos rfl] at hp
      subst hp
      refine .nil (kthen_n (.condT rfl rfl (.seq (.region (.fieldAddr rfl rfl (.load1 rfl rfl rfl (.t .h) rfl (.assign rfl rfl (.nil (kthen_n (.ret (kblock_r (kthen_r (kthen_r (kblock_r (kthen_r ?_)))))))))))))))
      refine KF2.r1 rfl (RV.t rfl) ⟨rfl, rfl⟩ (ImpS.sb ?_)
      exact .c .h (.s (.s (.s (.s .r))))
  · rw [show (quesF g).drop 4 = (decide ((64 : Int) < (occG g : Int)), 183) :: (quesF g).drop 5 from rfl, firstE_cons] at hp
    have d1 : decide (((4 : Nat) : Int) < ((8 : Nat) : Int)) = true := rfl
    have r0 : Rd (pt bo (row (askV bA bB) 106)) ⟨bo, 0 + 4 * 2 + 0, none⟩ (fnC 81) := Rd.row rfl
    have r1 : Rd (pt bo (row (askV bA bB) 106)) ⟨bo, 0 + 4 * 2 + 1, none⟩ (i64 (183 : Nat)) := Rd.row rfl
    have hg1 := hg (by decide)
    (refine .seq (.region (.lti rfl rfl rfl (.nil (kthen_n (.seq (.condT rfl rfl (.skip (kthen_n (.seq (.block (.seq (.region (.idxS rfl rfl rfl ⟨rfl, by omega⟩ (.load2 rfl rfl rfl .h (by assumption) (by assumption) (.alloc rfl fun b4 => ?_))))))))))))))); refine .storeW rfl rfl .h ⟨rfl, rfl⟩ (by simp [Value.oneCell']) (.nil (kthen_n (.seq (.region (.fieldAddr rfl rfl (.load1 rfl rfl rfl .h rfl (.move rfl rfl ?_))))))))
    have hc := order6_spec q (.slice a g.length cap) g hq hf
    generalize (decide ((64 : Int) < (occG g : Int))) = qu at *
    refine GO.callV1 rfl rfl rfl (hc) (Tks.c (Tk.t (Tk.t (Tk.t (Tk.t Tk.h)))) Tks.n) ?_
    rintro _ _ ⟨rfl, rfl⟩
    cases qu
    · rw [if_neg (by decide)] at hp
      refine .nil (kthen_n (.condF rfl rfl (.skip (kblock_n (kthen_n (.region (.addi rfl rfl rfl (by omega) (.move rfl rfl (.nil (kthen_n ?_))))))))))
      refine ⟨5, ⟨by decide, hp, fun _ => hg1⟩, by decide, ?_, ImpS.sb ?_⟩
      · exact .c rfl rfl (.c rfl rfl (.c rfl rfl (.c rfl rfl .n)))
      · exact .c (.t (.t .h)) (.c (.t (.t .h)) (.c (.t (.t .h)) (.c .h (.s .r))))
    · rw [if_pos rfl] at hp
      subst hp
      refine .nil (kthen_n (.condT rfl rfl (.seq (.region (.fieldAddr rfl rfl (.load1 rfl rfl rfl (.t .h) rfl (.assign rfl rfl (.nil (kthen_n (.ret (kblock_r (kthen_r (kthen_r (kblock_r (kthen_r ?_)))))))))))))))
      refine KF2.r1 rfl (RV.t rfl) ⟨rfl, rfl⟩ (ImpS.sb ?_)
      exact .c .h (.s (.s (.s (.s .r))))
  · rw [show (quesF g).drop 5 = (g.any deepR, 171) :: (quesF g).drop 6 from rfl, firstE_cons] at hp
    have d1 : decide (((5 : Nat) : Int) < ((8 : Nat) : Int)) = true := rfl
    have r0 : Rd (pt bo (row (askV bA bB) 106)) ⟨bo, 0 + 5 * 2 + 0, none⟩ (fnB 73 bB) := Rd.row rfl
    have r1 : Rd (pt bo (row (askV bA bB) 106)) ⟨bo, 0 + 5 * 2 + 1, none⟩ (i64 (171 : Nat)) := Rd.row rfl
    have hg1 := hg (by decide)
    (refine .seq (.region (.lti rfl rfl rfl (.nil (kthen_n (.seq (.condT rfl rfl (.skip (kthen_n (.seq (.block (.seq (.region (.idxS rfl rfl rfl ⟨rfl, by omega⟩ (.load2 rfl rfl rfl .h (by assumption) (by assumption) (.alloc rfl fun b4 => ?_))))))))))))))); refine .storeW rfl rfl .h ⟨rfl, rfl⟩ (by simp [Value.oneCell']) (.nil (kthen_n (.seq (.region (.fieldAddr rfl rfl (.load1 rfl rfl rfl .h rfl (.move rfl rfl ?_))))))))
    have hc := order11_spec q (.slice a g.length cap) g 83 bB deepR hq hf (fun r hr w hw => order7_spec q r w hw (hf.body r hr))
    generalize (g.any deepR) = qu at *
    refine GO.callV1 rfl rfl rfl (hc) (Tks.c (Tk.t (Tk.t (Tk.t Tk.h))) (Tks.c (Tk.t (Tk.t (Tk.t Tk.h))) Tks.n)) ?_
    rintro _ _ ⟨rfl, rfl⟩
    cases qu
    · rw [if_neg (by decide)] at hp
      refine .nil (kthen_n (.condF rfl rfl (.skip (kblock_n (kthen_n (.region (.addi rfl rfl rfl (by omega) (.move rfl rfl (.nil (kthen_n ?_))))))))))
      refine ⟨6, ⟨by decide, hp, fun _ => hg1⟩, by decide, ?_, ImpS.sb ?_⟩
      · exact .c rfl rfl (.c rfl rfl (.c rfl rfl (.c rfl rfl .n)))
      · exact .c (.t (.t (.t .h))) (.c (.t (.t (.t .h))) (.c .h (.c .h (.s .r))))
    · rw [if_pos rfl] at hp
      subst hp
      refine .nil (kthen_n (.condT rfl rfl (.seq (.region (.fieldAddr rfl rfl (.load1 rfl rfl rfl (.t (.t .h)) rfl (.assign rfl rfl (.nil (kthen_n (.ret (kblock_r (kthen_r (kthen_r (kblock_r (kthen_r ?_)))))))))))))))
      refine KF2.r1 rfl (RV.t rfl) ⟨rfl, rfl⟩ (ImpS.sb ?_)
      exact .c (.t .h) (.s (.s (.s (.s .r))))
  · rw [show (quesF g).drop 6 = (decide ((0 : Int) < (missF g : Int)), 184) :: (quesF g).drop 7 from rfl, firstE_cons] at hp
    have d1 : decide (((6 : Nat) : Int) < ((8 : Nat) : Int)) = true := rfl
    have r0 : Rd (pt bo (row (askV bA bB) 106)) ⟨bo, 0 + 6 * 2 + 0, none⟩ (fnC 84) := Rd.row rfl
    have r1 : Rd (pt bo (row (askV bA bB) 106)) ⟨bo, 0 + 6 * 2 + 1, none⟩ (i64 (184 : Nat)) := Rd.row rfl
    have hg1 := hg (by decide)
    (refine .seq (.region (.lti rfl rfl rfl (.nil (kthen_n (.seq (.condT rfl rfl (.skip (kthen_n (.seq (.block (.seq (.region (.idxS rfl rfl rfl ⟨rfl, by omega⟩ (.load2 rfl rfl rfl .h (by assumption) (by assumption) (.alloc rfl fun b4 => ?_))))))))))))))); refine .storeW rfl rfl .h ⟨rfl, rfl⟩ (by simp [Value.oneCell']) (.nil (kthen_n (.seq (.region (.fieldAddr rfl rfl (.load1 rfl rfl rfl .h rfl (.move rfl rfl ?_))))))))
    have hc := order8_spec q (.slice a g.length cap) g hq hf
    generalize (decide ((0 : Int) < (missF g : Int))) = qu at *
    refine GO.callV1 rfl rfl rfl (hc) (Tks.c (Tk.t (Tk.t (Tk.t (Tk.t Tk.h)))) Tks.n) ?_
    rintro _ _ ⟨rfl, rfl⟩
    cases qu
    · rw [if_neg (by decide)] at hp
      refine .nil (kthen_n (.condF rfl rfl (.skip (kblock_n (kthen_n (.region (.addi rfl rfl rfl (by omega) (.move rfl rfl (.nil (kthen_n ?_))))))))))
      refine ⟨7, ⟨by decide, hp, fun _ => hg1⟩, by decide, ?_, ImpS.sb ?_⟩
      · exact .c rfl rfl (.c rfl rfl (.c rfl rfl (.c rfl rfl .n)))
      · exact .c (.t (.t .h)) (.c (.t (.t .h)) (.c (.t (.t .h)) (.c .h (.s .r))))
    · rw [if_pos rfl] at hp
      subst hp
      refine .nil (kthen_n (.condT rfl rfl (.seq (.region (.fieldAddr rfl rfl (.load1 rfl rfl rfl (.t .h) rfl (.assign rfl rfl (.nil (kthen_n (.ret (kblock_r (kthen_r (kthen_r (kblock_r (kthen_r ?_)))))))))))))))
      refine KF2.r1 rfl (RV.t rfl) ⟨rfl, rfl⟩ (ImpS.sb ?_)
      exact .c .h (.s (.s (.s (.s .r))))
  · rw [show (quesF g).drop 7 = (!(textGF g).2, 174) :: (quesF g).drop 8 from rfl, firstE_cons] at hp
    have d1 : decide (((7 : Nat) : Int) < ((8 : Nat) : Int)) = true := rfl
    have r0 : Rd (pt bo (row (askV bA bB) 106)) ⟨bo, 0 + 7 * 2 + 0, none⟩ (fnC 85) := Rd.row rfl
    have r1 : Rd (pt bo (row (askV bA bB) 106)) ⟨bo, 0 + 7 * 2 + 1, none⟩ (i64 (174 : Nat)) := Rd.row rfl
    have hg1 := hg (by decide)
    (refine .seq (.region (.lti rfl rfl rfl (.nil (kthen_n (.seq (.condT rfl rfl (.skip (kthen_n (.seq (.block (.seq (.region (.idxS rfl rfl rfl ⟨rfl, by omega⟩ (.load2 rfl rfl rfl .h (by assumption) (by assumption) (.alloc rfl fun b4 => ?_))))))))))))))); refine .storeW rfl rfl .h ⟨rfl, rfl⟩ (by simp [Value.oneCell']) (.nil (kthen_n (.seq (.region (.fieldAddr rfl rfl (.load1 rfl rfl rfl .h rfl (.move rfl rfl ?_))))))))
    have hc := order9_spec q (.slice a g.length cap) g hq hf hg1
    generalize (!(textGF g).2) = qu at *
    refine GO.callV1 rfl rfl rfl (hc) (Tks.c (Tk.t (Tk.t (Tk.t (Tk.t Tk.h)))) Tks.n) ?_
    rintro _ _ ⟨rfl, rfl⟩
    cases qu
    · rw [if_neg (by decide)] at hp
      refine .nil (kthen_n (.condF rfl rfl (.skip (kblock_n (kthen_n (.region (.addi rfl rfl rfl (by omega) (.move rfl rfl (.nil (kthen_n ?_))))))))))
      refine ⟨8, ⟨by decide, hp, fun _ => hg1⟩, by decide, ?_, ImpS.sb ?_⟩
      · exact .c rfl rfl (.c rfl rfl (.c rfl rfl (.c rfl rfl .n)))
      · exact .c (.t (.t .h)) (.c (.t (.t .h)) (.c (.t (.t .h)) (.c .h (.s .r))))
    · rw [if_pos rfl] at hp
      subst hp
      refine .nil (kthen_n (.condT rfl rfl (.seq (.region (.fieldAddr rfl rfl (.load1 rfl rfl rfl (.t .h) rfl (.assign rfl rfl (.nil (kthen_n (.ret (kblock_r (kthen_r (kthen_r (kblock_r (kthen_r ?_)))))))))))))))
      refine KF2.r1 rfl (RV.t rfl) ⟨rfl, rfl⟩ (ImpS.sb ?_)
      exact .c .h (.s (.s (.s (.s .r))))
  · have d1 : decide (((8 : Nat) : Int) < ((8 : Nat) : Int)) = false := rfl
    rw [show (quesF g).drop 8 = [] from rfl, show firstE [] = 0 by unfold firstE; rfl] at hp
    subst hp
    (refine .seq (.region (.lti rfl rfl rfl (.nil (kthen_n (.seq (.condF rfl rfl (.exit (kthen_x (kthen_x (kblock_x (kthen_n (.seq (.region (.assign rfl rfl (.nil ?_))))))))))))))); refine kthen_n (.ret ?_))
    refine KF2.r1 rfl (RV.t rfl) ⟨rfl, rfl⟩ (ImpS.sb ?_)
    exact .c (.t (.t (.t .h))) (.s (.s (.s .r)))
attribute [local irreducible] checkG
end Go.Proofs.YtbconcohpfkncaaGreat
namespace Go.Proofs.YtbconcohpfkncaaGreat
open Go
/-- What Parse answers: the rules, a place, an error. -/
def parseF (s : List UInt8) : List RuleD × Nat × Nat :=
  if 2048 < s.length then ([], 0, 3) else
  match rulesF s (marksF s) (badF s) ((marksF s).length + 1) [] 0 with
  | .error p => ([], p, 172)
  | .ok g => if badF s < s.length then ([], badF s, 172) else if g.any longR = true then ([], 0, 173) else if checkG g = 0 then (g, 0, 0) else ([], 0, checkG g)
theorem readF_fit {s : List UInt8} {l : List NodeD} {a : Nat} (h : readF s = (l, a, 0)) : ¬ 4096 < l.length := by
  unfold readF at h
  split at h
  · cases h
  · split at h
    · cases h
    · rename_i hl _ l' k hx
      split at h
      · cases h
      · cases h
        have h1 := exprF_goes (marksF s) ((marksF s).length + 1) 0 _ _ hx
        have h2 := marksF_len s
        omega
theorem rulesF_fit {s : List UInt8} (hs : ¬ 2048 < s.length) {e : Nat} : ∀ (f : Nat) (out : List RuleD) (k : Nat) {g : List RuleD}, out.length ≤ k → k ≤ (marksF s).length → (∀ r ∈ out, ¬ 4096 < r.body.length ∧ ¬ 4096 < r.head.length) → rulesF s (marksF s) e f out k = .ok g →
    g.length ≤ (marksF s).length ∧ ∀ r ∈ g, ¬ 4096 < r.body.length ∧ ¬ 4096 < r.head.length
  | 0, out, k, g, h1, h2, h3, h => by cases h; exact ⟨by omega, h3⟩
  | f + 1, out, k, g, h1, h2, h3, h => by
    rw [rulesF] at h
    split at h
    · split at h
      · cases h
      · rename_i r k' hr
        obtain ⟨k3, e1, _, e3, _, _, e5, e6, e7⟩ := ruleF_ok hr
        refine rulesF_fit hs f (out ++ [r]) k' (by rw [List.length_append, List.length_cons, List.length_nil]; omega) e7 (fun x hx => ?_) h
        rcases List.mem_append.1 hx with hx | hx
        · exact h3 x hx
        · rw [List.mem_singleton.1 hx]
          obtain ⟨m, hm, _, ht, _⟩ := takeF_ok e1
          obtain ⟨_, a, hra⟩ := bodyF_ok e3
          have := marksF_in (List.mem_of_getElem? hm)
          exact ⟨readF_fit hra, by rw [ht]; omega⟩
    · cases h; exact ⟨by omega, h3⟩
theorem rulesF_fitG {s : List UInt8} (hs : ¬ 2048 < s.length) {e f : Nat} {g : List RuleD} (h : rulesF s (marksF s) e f [] 0 = .ok g) : FitG g := by
  obtain ⟨h1, h2⟩ := rulesF_fit hs f [] 0 (Nat.zero_le _) (Nat.zero_le _) (fun r hr => by cases hr) h
  have := marksF_len s
  exact ⟨by omega, fun r hr => (h2 r hr).1, fun r hr => (h2 r hr).2⟩
/-- What Parse answers, as it lies in memory. -/
def ParseR (z : List RuleD × Nat × Nat) : Value → List HP → Prop := fun r Q => ∃ v q, r = .tuple #[v, i64 (z.2.1 : Nat), i64 (z.2.2 : Nat)] ∧ RulesR q v z.1 ∧ Q = [q]
theorem RulesR.nil (q : HP) : RulesR q (.slice none 0 0) [] := ⟨[], BodiesR.nil q, none, 0, rfl, Nat.le_refl _, rfl, fun h => absurd h (Nat.lt_irrefl 0)⟩
theorem ImpS.tt {H : List HP} : ImpS H (Go.Proofs.YtbconcohpfkncaaGreat.pur True :: H) := ImpS.pur trivial ImpS.refl
theorem built_readerB (s : List UInt8) (v : Value) (n : Nat) (a : Option Addr) (m c : Nat) (hv : v = .slice a m c) : Tryz.prog.built 56 [(0, str s), (1, v), (3, i64 (n : Nat))] = some [str s, v, i64 0, i64 (n : Nat)].toArray := by subst hv; kernel_rfl
attribute [local irreducible] capN capM G GO GR GT Fn FnX FnV FnXV Dfr pt init exs pur sat own ImpS mapP mapIt checkG placeAt
set_option maxHeartbeats 4000000 in
theorem parse1_calm (c2 c3 c4 : Nat) : Dfr Tryz.prog 13 #[ptrV c2, ptrV c3, ptrV c4] .returning .returning [] (fun _ Q => Q = []) := by
  refine Dfr.mk Tryz.func13 rfl rfl rfl rfl Rcv.calm fun w0 F => ?_
  refine .seq (.region (.move rfl rfl ?_))
  refine GO.neqIfN rfl rfl ?_
  refine .nil (kthen_n (.condF rfl rfl (.skip ?_)))
  refine KF2.n0 rfl rfl (ImpS.sb ?_)
  exact .r
set_option maxHeartbeats 4000000 in
theorem parse1_caught (c2 c3 c4 i : Nat) (x y z : Value) : Dfr Tryz.prog 13 #[ptrV c2, ptrV c3, ptrV c4] (.panicking (chn (wrongB i))) (.panicking [{ v := wrongB i, recovered := true }]) [pt c2 (row [x] 23), pt c3 (row [y] 3), pt c4 (row [z] 24)]
    (fun _ Q => Q = [pt c2 (row [.slice none 0 0] 23), pt c3 (row [i64 (i : Nat)] 3), pt c4 (row [i64 172] 24)]) := by
  refine Dfr.mk Tryz.func13 rfl rfl rfl rfl (Rcv.caught (wrongB i)) fun w0 F => ?_
  refine .seq (.region (.move rfl rfl ?_))
  refine GO.neqIf rfl rfl ?_
  refine .nil (kthen_n (.condT rfl rfl (.seq (.region (.move rfl rfl ?_)))))
  refine GO.assertT rfl rfl rfl ?_
  (refine GO.move rfl rfl (GO.extract rfl rfl rfl (GO.extract rfl rfl rfl (GO.alloc rfl fun b4 => ?_))); refine GO.storeW rfl rfl Tk.h ⟨rfl, rfl⟩ (by simp [Value.oneCell']) ?_; refine GO.assign rfl rfl (GO.nil (kthen_n (G.seq (G.seq (G.region (GO.move rfl rfl (GO.not rfl rfl (GO.nil (kthen_n (G.condF rfl rfl (G.skip (kthen_n ?_)))))))))))))
  refine G.drawT 5 28 [pt b4 (row [i64 (i : Nat)] 49)] (pt c2 (row [x] 23) :: pt c3 (row [y] 3) :: pt c4 (row [z] 24) :: F) (by kernel_rfl) (keys_of rfl) (ImpS.sb (.c .h (.c .h (.c .h (.c .h .r))))) ?_
  refine .step rfl (fun _ => .fieldAddr rfl rfl KQ.z) (.step rfl (fun _ => .load1 rfl rfl rfl .h rfl KQ.z) (.skip rfl (.skip rfl (.skip rfl (.nil ?_)))))
  repeat refine GT.skip rfl ?_
  refine GT.step rfl ?_
  refine .store1 rfl rfl rfl (.t .h) (by simp) (.nil ?_)
  refine ⟨rfl, .tuple #[], pt c2 (row [.slice none 0 0] 23) :: pt c3 (row [y] 3) :: pt c4 (row [z] 24) :: F, rfl, ImpS.sb (.c (.t .h) (.c .h (.c .h (.c .h .r)))), ?_⟩
  repeat refine GT.skip rfl ?_
  refine GT.step rfl ?_
  refine .store1 rfl rfl rfl (.t (.t .h)) (by simp) (.nil ?_)
  refine ⟨rfl, .tuple #[], pt c2 (row [.slice none 0 0] 23) :: pt c3 (row [i64 (i : Nat)] 3) :: pt c4 (row [z] 24) :: F, rfl, ImpS.sb (.c (.t .h) (.c (.t .h) (.c .h (.c .h .r)))), ?_⟩
  repeat refine GT.skip rfl ?_
  refine GT.step rfl ?_
  refine .store1 rfl rfl rfl (.t (.t (.t .h))) (by simp) (.nil ?_)
  refine ⟨rfl, .tuple #[], pt c2 (row [.slice none 0 0] 23) :: pt c3 (row [i64 (i : Nat)] 3) :: pt c4 (row [i64 172] 24) :: F, rfl, ImpS.sb (.c (.t .h) (.c (.t .h) (.c (.t .h) (.c .h .r)))), ?_⟩
  refine GT.nil ?_
  refine .nil ?_
  refine KF2.n0 rfl rfl (ImpS.sb ?_)
  exact .c (.t .h) (.c (.t .h) (.c (.t .h) (.s .r)))
end Go.Proofs.YtbconcohpfkncaaGreat
namespace Go.Proofs.YtbconcohpfkncaaGreat
open Go
attribute [local irreducible] capN capM G GO GR GT Fn FnX FnV FnXV Dfr pt init exs pur sat own ImpS mapP mapIt checkG placeAt
set_option maxHeartbeats 64000000 in
set_option maxRecDepth 40000 in
theorem parse_spec (s : List UInt8) : Fn Tryz.prog 4 #[str s] [] (ParseR (parseF s)) := by
  refine Fn.mkD Tryz.func4 rfl rfl fun w0 F => ?_
  refine GZ.seq ?_
  refine .region (.alloc rfl fun b2 => .alloc rfl fun b3 => .alloc rfl fun b4 => .nil (kthen_n ?_))
  refine GZ.seq ?_
  by_cases hlen : 2048 < s.length
  · have e1 : decide ((2048 : Int) < (s.length : Int)) = true := decide_eq_true (by omega)
    have hr : parseF s = ([], 0, 3) := by unfold parseF; rw [if_pos hlen]
    rw [hr]
    (refine .seq (.region (.move rfl rfl (.strLen rfl rfl (.gti rfl rfl rfl (.nil (kthen_n (.condT rfl (by assumption) (.seq (.region (.store1 rfl rfl rfl (.t (.t .h)) (by decide) (.store1 rfl rfl rfl (.t (.t .h)) (by decide) (.store1 rfl rfl rfl (.t (.t .h)) (by decide) (.nil (kthen_n (.ret ?_))))))))))))))); refine kthen_r ?_)
    refine KF2.r3 rfl (RV.c1 rfl rfl (Tk.t (Tk.t Tk.h)) rfl) (RV.c1 rfl rfl (Tk.t Tk.h) rfl) (RV.c1 rfl rfl Tk.h rfl) ⟨.slice none 0 0, _, rfl, RulesR.nil _, rfl⟩ (ImpS.trans (ImpS.sb (M := F) ?_) ImpS.tt)
    exact .s (.s (.s .r))
  have e1 : decide ((2048 : Int) < (s.length : Int)) = false := decide_eq_false (by omega)
  have hlM := marksF_len s
  have hbl := badF_le s
  have hwh := scan_whole s (by omega)
  have hrd : parseF s = match rulesF s (marksF s) (badF s) ((marksF s).length + 1) [] 0 with
      | .error p => ([], p, 172)
      | .ok g => if badF s < s.length then ([], badF s, 172) else if g.any longR = true then ([], 0, 173) else if checkG g = 0 then (g, 0, 0) else ([], 0, checkG g) := by
    unfold parseF; rw [if_neg hlen]; try (cases rulesF s (marksF s) (badF s) ((marksF s).length + 1) [] 0 <;> rfl)
  have hru : ∀ q v br, MarksR q v (marksF s) → _ := fun q v br hq => rules_spec q v (marksF s) hq br (badF s) s (by omega) (by omega) (placesOK s)
  have hfit : ∀ g, rulesF s (marksF s) (badF s) ((marksF s).length + 1) [] 0 = .ok g → FitG g := fun g h => rulesF_fitG hlen h
  have hsc := scan_spec s (by omega)
  generalize rulesF s (marksF s) (badF s) ((marksF s).length + 1) [] 0 = ex at *
  rw [hrd]
  generalize badF s = bad at *
  generalize marksF s = ms at *
  clear hrd
  refine .seq (.region (.move rfl rfl (.strLen rfl rfl (.gti rfl rfl rfl (.nil (kthen_n (.condF rfl (by assumption) (.skip (kthen_n ?_)))))))))
  refine GZ.defer (vs := [ptrV b2, ptrV b3, ptrV b4]) rfl ⟨rfl, rfl, rfl, trivial⟩ ?_
  refine .seq (.region (.move rfl rfl ?_))
  refine GO.call1 rfl rfl (hsc) Tks.n ?_
  rintro _ _ (⟨hb, rfl, rfl⟩ | ⟨hb, v, rfl, hv1, rfl⟩)
  · have d1 : decide ((160 : Int) ≠ 0) = true := rfl
    refine .move rfl rfl (.extract rfl rfl rfl (.extract rfl rfl rfl (.extract rfl rfl rfl (.assign rfl rfl (.assign rfl rfl (.assign rfl rfl (.nil (kthen_n (.seq (.region (.move rfl rfl (.move rfl rfl (.move rfl rfl (.strLen rfl rfl ?_))))))))))))))
    refine GO.buildPart3 (built_readerB s (.slice none 0 0) s.length none 0 0 rfl) rfl rfl rfl rfl ?_
    (refine .box rfl rfl rfl fun b25 => .assign rfl rfl (.nil (kthen_n (.seq (.seq (.region (.move rfl rfl (.nei rfl rfl rfl (.nil (kthen_n (.condT rfl rfl (.seq (.region (.move rfl rfl (.move rfl rfl ?_)))))))))))))); refine .move rfl rfl ?_)
    refine GO.strHi rfl rfl rfl ⟨rfl, by omega⟩ ?_
    skip
    refine GO.call1 rfl rfl (hwh) Tks.n ?_
    rintro _ _ ⟨v, rfl, hv1, rfl⟩
    refine GO.ownRd (n := ms.length) (v := v) (xs := marksV ms) Tk.h fun q hq => ?_
    have hx := fun br => hru q v br hq
    obtain ⟨am, cm, rfl⟩ := marks_sl hq
    clear hq hru
    (refine .move rfl rfl (.extract rfl rfl rfl (.extract rfl rfl rfl (.extract rfl rfl rfl (.nilCheck rfl rfl (.fieldAddr rfl rfl (.store1 rfl rfl rfl (.t .h) (by simp) (.nil (kthen_n (.region (.move rfl rfl (.move rfl rfl (.nilCheck rfl rfl (.fieldAddr rfl rfl (.store1 rfl rfl rfl .h (by simp) (.nil ?_))))))))))))))); refine kthen_n (.seq (.region (.move rfl rfl ?_))))
    refine GO.callX1 rfl rfl (hx b25) (Tks.c Tk.h (Tks.c Tk.h Tks.n)) ?_ ?_
    · rintro _ _ ⟨p, hp, rfl, rfl⟩
      rw [hp]
      dsimp only
      repeat (first | refine kthen_p ?_ | refine kblock_p ?_ | refine kscope_p ?_)
      refine KFD.p3 (parse1_caught b2 b3 b4 p _ _ _) (X := F) (ImpS.sb (.c (.t (.t .h)) (.c (.t .h) (.c .h .r)))) rfl (RV.c1 rfl rfl Tk.h rfl) (RV.c1 rfl rfl (Tk.t Tk.h) rfl) (RV.c1 rfl rfl (Tk.t (Tk.t Tk.h)) rfl) ⟨.slice none 0 0, _, rfl, RulesR.nil _, rfl⟩ (ImpS.trans (ImpS.sb (M := F) ?_) ImpS.tt)
      exact .s (.s (.s .r))
    rintro r _ ⟨g, z, hg, hR, rfl⟩
    rw [hg]
    dsimp only
    rw [if_pos hb]
    obtain ⟨ag, cg, rfl⟩ := rules_sl hR
    (refine .store1 rfl rfl rfl (.t (.t (.t .h))) (by decide) (.nil (kthen_n (.seq (.block (.seq (.region (.move rfl rfl (.nei rfl rfl rfl (.assign rfl rfl (.nil (kthen_n (.condT rfl rfl (.seq (.region (.move rfl rfl ?_))))))))))))))); refine .store1 rfl rfl rfl .h (by simp) (.store1 rfl rfl rfl (.t (.t (.t .h))) (by decide) (.store1 rfl rfl rfl (.t (.t (.t .h))) (by decide) (.nil (kthen_n (.ret (kblock_r (kthen_r ?_))))))))
    refine KFD.r3 (parse1_calm b2 b3 b4) rfl (RV.c1 rfl rfl (Tk.t (Tk.t Tk.h)) rfl) (RV.c1 rfl rfl (Tk.t Tk.h) rfl) (RV.c1 rfl rfl Tk.h rfl) ⟨.slice none 0 0, _, rfl, RulesR.nil _, rfl⟩ (ImpS.trans (ImpS.sb (M := F) ?_) ImpS.tt)
    exact .s (.s (.s (.s .r)))
  · subst hb
    have d1 : decide ((0 : Int) ≠ 0) = false := rfl
    refine GO.ownRd (n := ms.length) (v := v) (xs := marksV ms) Tk.h fun q hq => ?_
    have hx := fun br => hru q v br hq
    obtain ⟨am, cm, rfl⟩ := marks_sl hq
    clear hq hru
    refine .move rfl rfl (.extract rfl rfl rfl (.extract rfl rfl rfl (.extract rfl rfl rfl (.assign rfl rfl (.assign rfl rfl (.assign rfl rfl (.nil (kthen_n (.seq (.region (.move rfl rfl (.move rfl rfl (.move rfl rfl (.strLen rfl rfl ?_))))))))))))))
    refine GO.buildPart3 (built_readerB s (.slice am ms.length cm) s.length am ms.length cm rfl) rfl rfl rfl rfl ?_
    (refine .box rfl rfl rfl fun b25 => .assign rfl rfl (.nil (kthen_n (.seq (.seq (.region (.move rfl rfl (.neF rfl rfl rfl rfl (.nil (kthen_n (.condF rfl rfl (.skip (kthen_n (.seq (.region ?_)))))))))))))); refine .move rfl rfl ?_)
    refine GO.callX1 rfl rfl (hx b25) (Tks.c Tk.h (Tks.c Tk.h Tks.n)) ?_ ?_
    · rintro _ _ ⟨p, hp, rfl, rfl⟩
      rw [hp]
      dsimp only
      repeat (first | refine kthen_p ?_ | refine kblock_p ?_ | refine kscope_p ?_)
      refine KFD.p3 (parse1_caught b2 b3 b4 p _ _ _) (X := F) (ImpS.sb (.c (.t (.t .h)) (.c (.t .h) (.c .h .r)))) rfl (RV.c1 rfl rfl Tk.h rfl) (RV.c1 rfl rfl (Tk.t Tk.h) rfl) (RV.c1 rfl rfl (Tk.t (Tk.t Tk.h)) rfl) ⟨.slice none 0 0, _, rfl, RulesR.nil _, rfl⟩ (ImpS.trans (ImpS.sb (M := F) ?_) ImpS.tt)
      exact .s (.s (.s .r))
    rintro r _ ⟨g, z, hg, hR, rfl⟩
    have hF := hfit g hg
    have hlo := long_spec z r g hR (by have := hF.len; omega) (fun x hx => by have := hF.body x hx; omega)
    have hch := checkG_spec z r g hR hF
    rw [hg]
    dsimp only
    rw [if_neg (Nat.lt_irrefl _)]
    obtain ⟨ag, cg, rfl⟩ := rules_sl hR
    refine .store1 rfl rfl rfl (.t (.t (.t .h))) (by decide) (.nil (kthen_n (.seq (.block (.seq (.region (.move rfl rfl (.neF rfl rfl rfl rfl (.assign rfl rfl (.nil (kthen_n (.condF rfl rfl (.seq (.region (.load1 rfl rfl rfl .h rfl ?_)))))))))))))))
    refine GO.call1 rfl rfl (hlo) (Tks.c (Tk.t Tk.h) Tks.n) ?_
    rintro _ _ ⟨rfl, rfl⟩
    cases hlg : g.any longR
    · rw [if_neg (by decide)]
      refine .assign rfl rfl (.nil (kthen_n (.condF rfl rfl (.skip (kblock_n (kthen_n (.seq (.seq (.region (.load1 rfl rfl rfl (.t .h) rfl ?_))))))))))
      refine GO.call1 rfl rfl (hch) (Tks.c Tk.h Tks.n) ?_
      rintro _ _ ⟨rfl, rfl⟩
      by_cases hc : checkG g = 0
      · rw [if_pos hc]
        have d2 : decide ((checkG g : Int) ≠ 0) = false := decide_eq_false (by omega)
        (refine .assign rfl rfl (.nil (kthen_n (.seq (.region (.move rfl rfl (.nei rfl rfl rfl (.nil (kthen_n (.condF rfl (by assumption) (.skip (kthen_n (.seq (.region (.load1 rfl rfl rfl (.t .h) rfl (.store1 rfl rfl rfl (.t .h) (by simp) ?_))))))))))))))); refine .store1 rfl rfl rfl (.t (.t (.t .h))) (by decide) (.store1 rfl rfl rfl (.t (.t (.t .h))) (by decide) (.nil (kthen_n (.ret ?_)))))
        refine KFD.r3 (parse1_calm b2 b3 b4) rfl (RV.c1 rfl rfl (Tk.t (Tk.t Tk.h)) rfl) (RV.c1 rfl rfl (Tk.t Tk.h) rfl) (RV.c1 rfl rfl Tk.h rfl) ⟨_, z, rfl, hR, rfl⟩ (ImpS.sb ?_)
        exact .c (.t (.t (.t .h))) (.s (.s (.s .r)))
      · rw [if_neg hc]
        have d2 : decide ((checkG g : Int) ≠ 0) = true := decide_eq_true (by omega)
        (refine .assign rfl rfl (.nil (kthen_n (.seq (.region (.move rfl rfl (.nei rfl rfl rfl (.nil (kthen_n (.condT rfl (by assumption) (.seq (.region (.move rfl rfl (.store1 rfl rfl rfl (.t .h) (by simp) (.store1 rfl rfl rfl (.t (.t (.t .h))) (by decide) (.store1 rfl rfl rfl (.t (.t (.t .h))) (by decide) ?_))))))))))))))); refine .nil (kthen_n (.ret (kthen_r ?_))))
        refine KFD.r3 (parse1_calm b2 b3 b4) rfl (RV.c1 rfl rfl (Tk.t (Tk.t Tk.h)) rfl) (RV.c1 rfl rfl (Tk.t Tk.h) rfl) (RV.c1 rfl rfl Tk.h rfl) ⟨.slice none 0 0, _, rfl, RulesR.nil _, rfl⟩ (ImpS.trans (ImpS.sb (M := F) ?_) ImpS.tt)
        exact .s (.s (.s (.s .r)))
    · rw [if_pos rfl]
      refine .assign rfl rfl (.nil (kthen_n (.condT rfl rfl (.seq (.region (.store1 rfl rfl rfl (.t .h) (by simp) (.store1 rfl rfl rfl (.t (.t (.t .h))) (by decide) (.store1 rfl rfl rfl (.t (.t (.t .h))) (by decide) (.nil (kthen_n (.ret (kblock_r (kthen_r ?_)))))))))))))
      refine KFD.r3 (parse1_calm b2 b3 b4) rfl (RV.c1 rfl rfl (Tk.t (Tk.t Tk.h)) rfl) (RV.c1 rfl rfl (Tk.t Tk.h) rfl) (RV.c1 rfl rfl Tk.h rfl) ⟨.slice none 0 0, _, rfl, RulesR.nil _, rfl⟩ (ImpS.trans (ImpS.sb (M := F) ?_) ImpS.tt)
      exact .s (.s (.s (.s .r)))
end Go.Proofs.YtbconcohpfkncaaGreat
namespace Go.Proofs.YtbconcohpfkncaaGreat
open Go
theorem eqR_str {P : Program} {d : Nat} {t : TypeId} {a b : List UInt8} [h : UL P t .string] : EqR P (d + 1) t (str a) (str b) (decide (a = b)) := by
  have := (EqR.str : EqR P (d + 1) t (.string ⟨a.toArray⟩) (.string ⟨b.toArray⟩) _)
  rwa [str_list, str_list, show (a == b) = decide (a = b) by rw [Bool.eq_iff_iff]; simp] at this
attribute [local irreducible] capN capM G GO GR GT Fn FnX FnV FnXV Dfr pt init exs pur sat own ImpS
end Go.Proofs.YtbconcohpfkncaaGreat
namespace Go.Proofs.YtbconcohpfkncaaGreat
open Go
theorem rowV_same {α : Type} {f : α → Value} {a b : Nat → α} {n : Nat} (h : ∀ i, i < n → a i = b i) : rowV f a n = rowV f b n := by
  unfold rowV
  exact List.map_congr_left fun i hi => by rw [h i (List.mem_range.1 hi)]
theorem set_lt {o : Nat → Bool} {n i : Nat} (h : i < n) : 0 + i * 1 < (boolsV o n).length := by rw [rowV_len]; omega
abbrev setP (b : Nat) (o : Nat → Bool) (n : Nat) : HP := pt b (row (boolsV o n) 4)
abbrev setV (b n : Nat) : Value := .slice (some ⟨b, 0, none⟩) n n
def orK (b c : Nat → Bool) (k : Nat) : Nat → Bool := fun i => if i < k then b i || c i else b i
theorem orK_succ (b c : Nat → Bool) (k : Nat) : upd (orK b c k) k (b k || c k) = orK b c (k + 1) := by
  funext i
  unfold upd orK
  by_cases h : i = k
  · rw [if_pos h, if_pos (by omega), h]
  · rw [if_neg h]
    by_cases h2 : i < k
    · rw [if_pos h2, if_pos (by omega)]
    · rw [if_neg h2, if_neg (by omega)]
theorem newF_succ (b c : Nat → Bool) (k : Nat) : newF b c (k + 1) = (newF b c k || (c k && !b k)) := by
  unfold newF
  rw [List.range_succ, List.any_append, List.any_cons, List.any_nil, Bool.or_false]
attribute [local irreducible] capN capM G GO GR GT Fn FnX FnV FnXV Dfr pt init exs pur sat own ImpS
set_option maxHeartbeats 16000000 in
theorem rjoin_spec (b1 b2 n : Nat) (o c : Nat → Bool) (hn : ¬ 4096 < n) : Fn Tryz.prog 61 #[setV b1 n, setV b2 n] [setP b1 o n, setP b2 c n] (fun r Q => r = .bool (newF o c n) ∧ Q = [setP b1 (orF o c) n, setP b2 c n]) := by
  refine Fn.mk2 Tryz.func61 rfl rfl fun w0 F => ?_
  (refine .seq (.region (.assign rfl rfl (.nil (kthen_n (.seq (.region (.assign rfl rfl (.nil (kthen_n (.seq (.seq (.region (.move rfl rfl (.lenS rfl rfl (.move rfl rfl ?_))))))))))))))); refine .nil (kthen_n (.block ?_)))
  refine G.loopI (σ := Nat) (fun k => [(0, setV b1 n), (1, setV b2 n), (5, .bool (newF o c k)), (8, setV b2 n), (9, i64 (n : Nat)), (10, i64 (k : Nat))]) (fun k => setP b1 (orK o c k) n :: setP b2 c n :: F) (fun k => k ≤ n) (fun k => n - k) 0 (Nat.zero_le _) ?_ ?_ ?_
  · exact .c rfl rfl (.c rfl rfl (.c rfl rfl (.c rfl rfl (.c rfl rfl (.c rfl rfl .n)))))
  · refine ImpS.sb ?_
    exact .c .h (.c .h .r)
  intro k hk
  refine .seq (.region (.lti rfl rfl rfl (.nil (kthen_n (.seq ?_)))))
  by_cases hlt : k < n
  · have d1 : decide ((k : Int) < (n : Int)) = true := decide_eq_true (by omega)
    have ek : orK o c k k = o k := by unfold orK; rw [if_neg (Nat.lt_irrefl _)]
    have e5 := newF_succ o c k
    have e6 := orK_succ o c k
    rw [← ek] at e5 e6
    generalize newF o c k = nw at *
    cases nw
    · cases hc : c k
      · cases ho : orK o c k k
        · (refine .condT rfl (by assumption) (.skip (kthen_n (.seq (.block (.seq (.region (.move rfl rfl (.idxS rfl rfl rfl ⟨rfl, by omega⟩ (.load1 rfl rfl rfl (.t .h) (rowV_get1 (by assumption)) (.assign rfl rfl (.assign rfl rfl (.nil (kthen_n (.seq (.region ?_))))))))))))))); refine .move rfl rfl (.move rfl rfl (.gT rfl rfl rfl (.move rfl rfl (.gT rfl rfl rfl (.move rfl rfl (.gF rfl rfl rfl (by assumption) (.gF rfl rfl rfl (by assumption) (.gF rfl rfl rfl (by assumption) (.gF rfl rfl rfl (by assumption) (.gF rfl rfl rfl (by assumption) (.gT rfl rfl rfl (.pickFa rfl rfl (by assumption) rfl (.pickF rfl rfl rfl (.assign rfl rfl (.nil ?_))))))))))))))); refine kthen_n (.region (.move rfl rfl (.move rfl rfl (.move rfl rfl (.move rfl rfl (.idxS rfl rfl rfl ⟨rfl, by omega⟩ (.load1 rfl rfl rfl .h (rowV_get1 (by assumption)) (.move rfl rfl (.gT rfl rfl (by assumption) (.move rfl rfl (.pickFa rfl rfl (by assumption) rfl (.idxS rfl rfl rfl ⟨rfl, by omega⟩ ?_)))))))))))))
          refine GO.store1 rfl rfl rfl Tk.h (set_lt (by omega)) ?_
          refine .nil (kblock_n (kthen_n (.region (.addi rfl rfl rfl (by omega) (.move rfl rfl (.nil (kthen_n ?_)))))))
          refine ⟨k + 1, hlt, by omega, ?_, ?_⟩
          · rw [show newF o c (k + 1) = (false) by rw [e5, hc]; rfl]
            exact .c rfl rfl (.c rfl rfl (.c rfl rfl (.c rfl rfl (.c rfl rfl (.c rfl rfl .n)))))
          · rw [rowV_set, show upd (orK o c k) k (c k) = orK o c (k + 1) by rw [← e6, ho]; rfl]
            refine ImpS.sb ?_
            exact .c .h (.c .h .r)
        · (refine .condT rfl (by assumption) (.skip (kthen_n (.seq (.block (.seq (.region (.move rfl rfl (.idxS rfl rfl rfl ⟨rfl, by omega⟩ (.load1 rfl rfl rfl (.t .h) (rowV_get1 (by assumption)) (.assign rfl rfl (.assign rfl rfl (.nil (kthen_n (.seq (.region ?_))))))))))))))); refine .move rfl rfl (.move rfl rfl (.gT rfl rfl rfl (.move rfl rfl (.gT rfl rfl rfl (.move rfl rfl (.gF rfl rfl rfl (by assumption) (.gF rfl rfl rfl (by assumption) (.gF rfl rfl rfl (by assumption) (.gF rfl rfl rfl (by assumption) (.gF rfl rfl rfl (by assumption) (.gT rfl rfl rfl (.pickFa rfl rfl (by assumption) rfl (.pickF rfl rfl rfl (.assign rfl rfl (.nil ?_))))))))))))))); refine kthen_n (.region (.move rfl rfl (.move rfl rfl (.move rfl rfl (.move rfl rfl (.idxS rfl rfl rfl ⟨rfl, by omega⟩ (.load1 rfl rfl rfl .h (rowV_get1 (by assumption)) (.move rfl rfl (.gF rfl rfl rfl (by assumption) (.pickTa rfl rfl (by assumption) rfl (.idxS rfl rfl rfl ⟨rfl, by omega⟩ ?_))))))))))))
          refine GO.store1 rfl rfl rfl Tk.h (set_lt (by omega)) ?_
          refine .nil (kblock_n (kthen_n (.region (.addi rfl rfl rfl (by omega) (.move rfl rfl (.nil (kthen_n ?_)))))))
          refine ⟨k + 1, hlt, by omega, ?_, ?_⟩
          · rw [show newF o c (k + 1) = (false) by rw [e5, hc]; rfl]
            exact .c rfl rfl (.c rfl rfl (.c rfl rfl (.c rfl rfl (.c rfl rfl (.c rfl rfl .n)))))
          · rw [rowV_set, show upd (orK o c k) k (true) = orK o c (k + 1) by rw [← e6, ho]; rfl]
            refine ImpS.sb ?_
            exact .c .h (.c .h .r)
      · cases ho : orK o c k k
        · (refine .condT rfl (by assumption) (.skip (kthen_n (.seq (.block (.seq (.region (.move rfl rfl (.idxS rfl rfl rfl ⟨rfl, by omega⟩ (.load1 rfl rfl rfl (.t .h) (rowV_get1 (by assumption)) (.assign rfl rfl (.assign rfl rfl (.nil (kthen_n (.seq (.region ?_))))))))))))))); refine .move rfl rfl (.move rfl rfl (.gT rfl rfl rfl (.move rfl rfl (.gT rfl rfl rfl (.move rfl rfl (.gT rfl rfl (by assumption) (.move rfl rfl (.gT rfl rfl (by assumption) (.move rfl rfl (.gT rfl rfl (by assumption) (.idxS rfl rfl rfl ⟨rfl, by omega⟩ (.gT rfl rfl (by assumption) (.load1 rfl rfl rfl .h (rowV_get1 (by assumption)) (.gT rfl rfl (by assumption) (.not rfl rfl ?_))))))))))))))); refine .gT rfl rfl rfl (.pickTa rfl rfl (by assumption) rfl (.pickF rfl rfl rfl (.assign rfl rfl (.nil (kthen_n (.region (.move rfl rfl (.move rfl rfl (.move rfl rfl (.move rfl rfl (.idxS rfl rfl rfl ⟨rfl, by omega⟩ (.load1 rfl rfl rfl .h (rowV_get1 (by assumption)) (.move rfl rfl (.gT rfl rfl (by assumption) (.move rfl rfl ?_))))))))))))))); refine .pickFa rfl rfl (by assumption) rfl (.idxS rfl rfl rfl ⟨rfl, by omega⟩ ?_))
          refine GO.store1 rfl rfl rfl Tk.h (set_lt (by omega)) ?_
          refine .nil (kblock_n (kthen_n (.region (.addi rfl rfl rfl (by omega) (.move rfl rfl (.nil (kthen_n ?_)))))))
          refine ⟨k + 1, hlt, by omega, ?_, ?_⟩
          · rw [show newF o c (k + 1) = (!orK o c k k) by rw [e5, hc]; rfl]
            exact .c rfl rfl (.c rfl rfl (.c rfl rfl (.c rfl rfl (.c rfl rfl (.c rfl rfl .n)))))
          · rw [rowV_set, show upd (orK o c k) k (c k) = orK o c (k + 1) by rw [← e6, ho]; rfl]
            refine ImpS.sb ?_
            exact .c .h (.c .h .r)
        · (refine .condT rfl (by assumption) (.skip (kthen_n (.seq (.block (.seq (.region (.move rfl rfl (.idxS rfl rfl rfl ⟨rfl, by omega⟩ (.load1 rfl rfl rfl (.t .h) (rowV_get1 (by assumption)) (.assign rfl rfl (.assign rfl rfl (.nil (kthen_n (.seq (.region ?_))))))))))))))); refine .move rfl rfl (.move rfl rfl (.gT rfl rfl rfl (.move rfl rfl (.gT rfl rfl rfl (.move rfl rfl (.gT rfl rfl (by assumption) (.move rfl rfl (.gT rfl rfl (by assumption) (.move rfl rfl (.gT rfl rfl (by assumption) (.idxS rfl rfl rfl ⟨rfl, by omega⟩ (.gT rfl rfl (by assumption) (.load1 rfl rfl rfl .h (rowV_get1 (by assumption)) (.gT rfl rfl (by assumption) (.not rfl rfl ?_))))))))))))))); refine .gT rfl rfl rfl (.pickTa rfl rfl (by assumption) rfl (.pickF rfl rfl rfl (.assign rfl rfl (.nil (kthen_n (.region (.move rfl rfl (.move rfl rfl (.move rfl rfl (.move rfl rfl (.idxS rfl rfl rfl ⟨rfl, by omega⟩ (.load1 rfl rfl rfl .h (rowV_get1 (by assumption)) (.move rfl rfl (.gF rfl rfl rfl (by assumption) (.pickTa rfl rfl (by assumption) rfl ?_))))))))))))))); refine .idxS rfl rfl rfl ⟨rfl, by omega⟩ ?_)
          refine GO.store1 rfl rfl rfl Tk.h (set_lt (by omega)) ?_
          refine .nil (kblock_n (kthen_n (.region (.addi rfl rfl rfl (by omega) (.move rfl rfl (.nil (kthen_n ?_)))))))
          refine ⟨k + 1, hlt, by omega, ?_, ?_⟩
          · rw [show newF o c (k + 1) = (!orK o c k k) by rw [e5, hc]; rfl]
            exact .c rfl rfl (.c rfl rfl (.c rfl rfl (.c rfl rfl (.c rfl rfl (.c rfl rfl .n)))))
          · rw [rowV_set, show upd (orK o c k) k (true) = orK o c (k + 1) by rw [← e6, ho]; rfl]
            refine ImpS.sb ?_
            exact .c .h (.c .h .r)
    · cases hc : c k
      · cases ho : orK o c k k
        · (refine .condT rfl (by assumption) (.skip (kthen_n (.seq (.block (.seq (.region (.move rfl rfl (.idxS rfl rfl rfl ⟨rfl, by omega⟩ (.load1 rfl rfl rfl (.t .h) (rowV_get1 (by assumption)) (.assign rfl rfl (.assign rfl rfl (.nil (kthen_n (.seq (.region ?_))))))))))))))); refine .move rfl rfl (.move rfl rfl (.gF rfl rfl rfl rfl (.gF rfl rfl rfl rfl (.gU rfl rfl rfl (.gU rfl rfl rfl (.gU rfl rfl rfl (.gU rfl rfl rfl (.gU rfl rfl rfl (.gF rfl rfl rfl rfl (.pickT rfl rfl rfl (.assign rfl rfl (.nil (kthen_n (.region (.move rfl rfl ?_))))))))))))))); refine .move rfl rfl (.move rfl rfl (.move rfl rfl (.idxS rfl rfl rfl ⟨rfl, by omega⟩ (.load1 rfl rfl rfl .h (rowV_get1 (by assumption)) (.move rfl rfl (.gT rfl rfl (by assumption) (.move rfl rfl (.pickFa rfl rfl (by assumption) rfl (.idxS rfl rfl rfl ⟨rfl, by omega⟩ ?_))))))))))
          refine GO.store1 rfl rfl rfl Tk.h (set_lt (by omega)) ?_
          refine .nil (kblock_n (kthen_n (.region (.addi rfl rfl rfl (by omega) (.move rfl rfl (.nil (kthen_n ?_)))))))
          refine ⟨k + 1, hlt, by omega, ?_, ?_⟩
          · rw [show newF o c (k + 1) = (true) by rw [e5]; rfl]
            exact .c rfl rfl (.c rfl rfl (.c rfl rfl (.c rfl rfl (.c rfl rfl (.c rfl rfl .n)))))
          · rw [rowV_set, show upd (orK o c k) k (c k) = orK o c (k + 1) by rw [← e6, ho]; rfl]
            refine ImpS.sb ?_
            exact .c .h (.c .h .r)
        · (refine .condT rfl (by assumption) (.skip (kthen_n (.seq (.block (.seq (.region (.move rfl rfl (.idxS rfl rfl rfl ⟨rfl, by omega⟩ (.load1 rfl rfl rfl (.t .h) (rowV_get1 (by assumption)) (.assign rfl rfl (.assign rfl rfl (.nil (kthen_n (.seq (.region ?_))))))))))))))); refine .move rfl rfl (.move rfl rfl (.gF rfl rfl rfl rfl (.gF rfl rfl rfl rfl (.gU rfl rfl rfl (.gU rfl rfl rfl (.gU rfl rfl rfl (.gU rfl rfl rfl (.gU rfl rfl rfl (.gF rfl rfl rfl rfl (.pickT rfl rfl rfl (.assign rfl rfl (.nil (kthen_n (.region (.move rfl rfl ?_))))))))))))))); refine .move rfl rfl (.move rfl rfl (.move rfl rfl (.idxS rfl rfl rfl ⟨rfl, by omega⟩ (.load1 rfl rfl rfl .h (rowV_get1 (by assumption)) (.move rfl rfl (.gF rfl rfl rfl (by assumption) (.pickTa rfl rfl (by assumption) rfl (.idxS rfl rfl rfl ⟨rfl, by omega⟩ ?_)))))))))
          refine GO.store1 rfl rfl rfl Tk.h (set_lt (by omega)) ?_
          refine .nil (kblock_n (kthen_n (.region (.addi rfl rfl rfl (by omega) (.move rfl rfl (.nil (kthen_n ?_)))))))
          refine ⟨k + 1, hlt, by omega, ?_, ?_⟩
          · rw [show newF o c (k + 1) = (true) by rw [e5]; rfl]
            exact .c rfl rfl (.c rfl rfl (.c rfl rfl (.c rfl rfl (.c rfl rfl (.c rfl rfl .n)))))
          · rw [rowV_set, show upd (orK o c k) k (true) = orK o c (k + 1) by rw [← e6, ho]; rfl]
            refine ImpS.sb ?_
            exact .c .h (.c .h .r)
      · cases ho : orK o c k k
        · (refine .condT rfl (by assumption) (.skip (kthen_n (.seq (.block (.seq (.region (.move rfl rfl (.idxS rfl rfl rfl ⟨rfl, by omega⟩ (.load1 rfl rfl rfl (.t .h) (rowV_get1 (by assumption)) (.assign rfl rfl (.assign rfl rfl (.nil (kthen_n (.seq (.region ?_))))))))))))))); refine .move rfl rfl (.move rfl rfl (.gF rfl rfl rfl rfl (.gF rfl rfl rfl rfl (.gU rfl rfl rfl (.gU rfl rfl rfl (.gU rfl rfl rfl (.gU rfl rfl rfl (.gU rfl rfl rfl (.gF rfl rfl rfl rfl (.pickT rfl rfl rfl (.assign rfl rfl (.nil (kthen_n (.region (.move rfl rfl ?_))))))))))))))); refine .move rfl rfl (.move rfl rfl (.move rfl rfl (.idxS rfl rfl rfl ⟨rfl, by omega⟩ (.load1 rfl rfl rfl .h (rowV_get1 (by assumption)) (.move rfl rfl (.gT rfl rfl (by assumption) (.move rfl rfl (.pickFa rfl rfl (by assumption) rfl (.idxS rfl rfl rfl ⟨rfl, by omega⟩ ?_))))))))))
          refine GO.store1 rfl rfl rfl Tk.h (set_lt (by omega)) ?_
          refine .nil (kblock_n (kthen_n (.region (.addi rfl rfl rfl (by omega) (.move rfl rfl (.nil (kthen_n ?_)))))))
          refine ⟨k + 1, hlt, by omega, ?_, ?_⟩
          · rw [show newF o c (k + 1) = (true) by rw [e5]; rfl]
            exact .c rfl rfl (.c rfl rfl (.c rfl rfl (.c rfl rfl (.c rfl rfl (.c rfl rfl .n)))))
          · rw [rowV_set, show upd (orK o c k) k (c k) = orK o c (k + 1) by rw [← e6, ho]; rfl]
            refine ImpS.sb ?_
            exact .c .h (.c .h .r)
        · (refine .condT rfl (by assumption) (.skip (kthen_n (.seq (.block (.seq (.region (.move rfl rfl (.idxS rfl rfl rfl ⟨rfl, by omega⟩ (.load1 rfl rfl rfl (.t .h) (rowV_get1 (by assumption)) (.assign rfl rfl (.assign rfl rfl (.nil (kthen_n (.seq (.region ?_))))))))))))))); refine .move rfl rfl (.move rfl rfl (.gF rfl rfl rfl rfl (.gF rfl rfl rfl rfl (.gU rfl rfl rfl (.gU rfl rfl rfl (.gU rfl rfl rfl (.gU rfl rfl rfl (.gU rfl rfl rfl (.gF rfl rfl rfl rfl (.pickT rfl rfl rfl (.assign rfl rfl (.nil (kthen_n (.region (.move rfl rfl ?_))))))))))))))); refine .move rfl rfl (.move rfl rfl (.move rfl rfl (.idxS rfl rfl rfl ⟨rfl, by omega⟩ (.load1 rfl rfl rfl .h (rowV_get1 (by assumption)) (.move rfl rfl (.gF rfl rfl rfl (by assumption) (.pickTa rfl rfl (by assumption) rfl (.idxS rfl rfl rfl ⟨rfl, by omega⟩ ?_)))))))))
          refine GO.store1 rfl rfl rfl Tk.h (set_lt (by omega)) ?_
          refine .nil (kblock_n (kthen_n (.region (.addi rfl rfl rfl (by omega) (.move rfl rfl (.nil (kthen_n ?_)))))))
          refine ⟨k + 1, hlt, by omega, ?_, ?_⟩
          · rw [show newF o c (k + 1) = (true) by rw [e5]; rfl]
            exact .c rfl rfl (.c rfl rfl (.c rfl rfl (.c rfl rfl (.c rfl rfl (.c rfl rfl .n)))))
          · rw [rowV_set, show upd (orK o c k) k (true) = orK o c (k + 1) by rw [← e6, ho]; rfl]
            refine ImpS.sb ?_
            exact .c .h (.c .h .r)
  · have d1 : decide ((k : Int) < (n : Int)) = false := decide_eq_false (by omega)
    obtain rfl : k = n := by omega
    have e : boolsV (orK o c k) k = boolsV (orF o c) k := rowV_same fun i hi => by unfold orK orF; rw [if_pos hi]
    unfold setP
    rw [e]
    refine .condF rfl (by assumption) (.exit (kthen_x (kthen_x (kblock_x (kthen_n (.seq (.region (.move rfl rfl (.assign rfl rfl (.nil (kthen_n (.ret ?_))))))))))))
    refine KF2.r1 rfl (RV.t rfl) ⟨rfl, rfl⟩ (ImpS.sb ?_)
    exact .c .h (.c .h .r)
end Go.Proofs.YtbconcohpfkncaaGreat
