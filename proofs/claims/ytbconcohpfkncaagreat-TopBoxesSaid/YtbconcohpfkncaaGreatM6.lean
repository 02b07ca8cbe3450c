/-
  The law TopBoxes, part 6.
-/
import Derived.Test.YtbconcohpfkncaaGreatM5
import Derived.Test.YtbconcohpfkncaaGreatRows
import Derived.WalkKit
import Derived.ProofKit
import Derived.OpenShut
import Derived.ChangeOld
import Derived.ChangeSame
import Derived.SizedLaws
import Derived.ChangeMaps5
import Derived.Deep.Slices
namespace Go.Proofs.YtbconcohpfkncaaGreat
open Go
def knownB (ns ls : List (List UInt8)) (s : List UInt8) : Bool := (posS ns s).isSome || (posS ls s).isSome
def symsW (ns ls w : List (List UInt8)) : List SyD := if w.all (knownB ns ls) = true then w.map (wsym ns ls) else []
theorem built_sym1 (n : Int) : Tryz.prog.built 72 [(1, i64 n)] = some [.bool false, i64 n].toArray := by kernel_rfl
theorem knownB_iff {ns ls : List (List UInt8)} {s : List UInt8} : knownB ns ls s = true ↔ s ∈ ns ∨ s ∈ ls := by
  unfold knownB
  rw [Bool.or_eq_true, Option.isSome_iff_exists, Option.isSome_iff_exists]
  exact or_congr ⟨fun ⟨j, h⟩ => List.mem_of_getElem? (posS_some h), posS_has⟩ ⟨fun ⟨j, h⟩ => List.mem_of_getElem? (posS_some h), posS_has⟩
attribute [local irreducible] capN capM G GO GR GT GW Fn FnX FnV FnXV Dfr pt init exs pur sat own ImpS natsV arsV sysV posS
set_option maxRecDepth 40000 in
set_option maxHeartbeats 16000000 in
theorem syms_spec (bm bt mb : Nat) (vp vn vl vw : Value) (st : Nat) (ns ls w : List (List UInt8)) (z qw : HP) (hn : StrsR z vn ns) (hl : StrsR z vl ls) (hw : WordR qw vw w) (hnl : ¬ 1024 < ns.length) (hll : ¬ 1024 < ls.length) (hwl : ¬ 1024 < w.length) :
    Fn Tryz.prog 8 #[ptrV bm, vw] [machP bm bt vp st, tabP bt mb vn vl, z, qw] (fun r Q => ∃ v, r = .tuple #[v, .bool (w.all (knownB ns ls))] ∧ Q = [ownS v (symsW ns ls w), machP bm bt vp st, tabP bt mb vn vl, z, qw]) := by
  have hN := rnames_spec bm bt mb vp vn vl st ns z hn (by omega)
  have hL := rlabels_spec bm bt mb vp vn vl st ls z hl (by omega)
  have hrw : ∀ i x, w[i]? = some x → _ := fun i x h => str_rd hw h
  obtain ⟨aw, cw, rfl⟩ := str_sl hw
  clear hw
  refine Fn.mk2 Tryz.func8 rfl rfl fun w0 F => ?_
  refine G.ownNil (T := 72) (sz := 2) ?_
  refine .seq (.region (.assign rfl rfl (.assign rfl rfl (.nil (kthen_n (.seq (.region (.move rfl rfl ?_))))))))
  refine GO.call1 rfl rfl (hN) (Tks.c (Tk.t Tk.h) (Tks.c (Tk.t Tk.h) (Tks.c (Tk.t Tk.h) Tks.n))) ?_
  rintro v6 _ rfl
  refine GO.ownRdK Tk.h fun q6 h6 => ?_
  refine .move rfl rfl ?_
  refine GO.call1 rfl rfl (hL) (Tks.c (Tk.t Tk.h) (Tks.c (Tk.t Tk.h) (Tks.c (Tk.t Tk.h) Tks.n))) ?_
  rintro v7 _ rfl
  refine GO.ownRdK Tk.h fun q7 h7 => ?_
  have hp6 := fun s => lplace_spec q6 v6 ns s h6 (by omega)
  have hp7 := fun s => lplace_spec q7 v7 ls s h7 (by omega)
  obtain ⟨a6, c6, rfl⟩ := strsW_sl h6
  obtain ⟨a7, c7, rfl⟩ := strsW_sl h7
  refine .assign rfl rfl (.assign rfl rfl (.nil (kthen_n (.seq (.region (.assign rfl rfl (.nil (kthen_n (.seq (.seq (.region (.assign rfl rfl (.nil (kthen_n (.block ?_)))))))))))))))
  refine G.loopI (σ := Nat × Value) (fun x => [(0, ptrV bm), (1, .slice aw w.length cw), (6, .slice a6 ns.length c6), (7, .slice a7 ls.length c7), (8, x.2), (9, i64 (x.1 : Nat))]) (fun x => own 72 2 x.1 x.2 (sysV ((w.take x.1).map (wsym ns ls))) :: q7 :: q6 :: machP bm bt vp st :: tabP bt mb vn vl :: z :: qw :: F)
    (fun x => x.1 ≤ w.length ∧ (w.take x.1).all (knownB ns ls) = true) (fun x => w.length - x.1) (0, .slice none 0 0) ⟨Nat.zero_le _, rfl⟩ ?_ ?_ ?_
  · exact .c rfl rfl (.c rfl rfl (.c rfl rfl (.c rfl rfl (.c rfl rfl (.c rfl rfl .n)))))
  · rw [List.take_zero, List.map_nil, show sysV [] = [] by unfold sysV; rfl]
    refine ImpS.sb ?_
    exact .c (.t (.t (.t (.t (.t .h))))) (.c .h (.c (.t (.t (.t .h))) (.c .h (.c .h (.c .h (.c .h .r))))))
  rintro ⟨i, v8⟩ ⟨hi, hk⟩
  dsimp only at hi hk ⊢
  refine .seq (.seq (.region (.move rfl rfl (.move rfl rfl (.lenS rfl rfl (.lti rfl rfl rfl (.nil (kthen_n ?_))))))))
  by_cases hlt : i < w.length
  · have d1 : decide ((i : Int) < (w.length : Int)) = true := decide_eq_true (by omega)
    obtain ⟨s, hs⟩ : ∃ s, w[i]? = some s := ⟨_, List.getElem?_eq_getElem hlt⟩
    obtain ⟨b, o, cap, e, rs⟩ := hrw i s hs
    injection e with e _ e2
    subst e e2
    have hp6 := hp6 s
    have hp7 := hp7 s
    refine .condT rfl (by assumption) (.skip (kthen_n (.seq (.block (.seq ?_)))))
    refine G.draw 12 (by kernel_rfl) ?_
    refine .step (fun _ => .move rfl rfl KQ.z) (.step (fun _ => .move rfl rfl KQ.z) (.step (fun _ => .move rfl rfl KQ.z) (.step (fun _ => .idxS rfl rfl rfl ⟨rfl, by omega⟩ KQ.z) (.step (fun _ => .loadQ rfl rfl rfl (.t (.t (.t (.t (.t (.t .h)))))) (by assumption) KQ.z) ?_))))
    apply GQ.step; focus (intro Z; refine GO.call2 rfl rfl rfl (hp6) (Tks.c (Tk.t (Tk.t Tk.h)) Tks.n) ?_; rintro _ _ ⟨rfl, rfl⟩; refine GO.nil (KQ.s ?_); ((refine Sb.c (Tk.t Tk.h) ?_; refine Sb.c (Tk.t Tk.h) ?_; refine Sb.c Tk.h ?_; refine Sb.c Tk.h ?_; refine Sb.c Tk.h ?_; refine Sb.c Tk.h ?_; refine Sb.c Tk.h ?_); (exact Sb.r)))
    refine .step (fun _ => .move rfl rfl KQ.z) (.step (fun _ => .move rfl rfl KQ.z) (.step (fun _ => .move rfl rfl KQ.z) (.step (fun _ => .idxS rfl rfl rfl ⟨rfl, by omega⟩ KQ.z) (.step (fun _ => .loadQ rfl rfl rfl (.t (.t (.t (.t (.t (.t .h)))))) (by assumption) KQ.z) ?_))))
    apply GQ.step; focus (intro Z; refine GO.call2 rfl rfl rfl (hp7) (Tks.c (Tk.t Tk.h) Tks.n) ?_; rintro _ _ ⟨rfl, rfl⟩; refine GO.nil (KQ.s ?_); ((refine Sb.c (Tk.t Tk.h) ?_; refine Sb.c Tk.h ?_; refine Sb.c Tk.h ?_; refine Sb.c Tk.h ?_; refine Sb.c Tk.h ?_; refine Sb.c Tk.h ?_; refine Sb.c Tk.h ?_); (exact Sb.r)))
    refine .nil ?_
    have hk2 : knownB ns ls s = true → (w.take (i + 1)).all (knownB ns ls) = true := fun h => by rw [take_snoc hs, List.all_append, hk, List.all_cons, h]; rfl
    have hsn : sysV ((w.take (i + 1)).map (wsym ns ls)) = sysV ((w.take i).map (wsym ns ls)) ++ syVs (wsym ns ls s) := by rw [take_snoc hs, List.map_append, sysV_app, List.map_cons, List.map_nil]; congr 1; unfold sysV; simp
    clear d1
    cases hpn : posS ns s with
    | some j =>
      have e6 : placeI ns s = (j : Nat) := by unfold placeI; rw [hpn]
      have hws : wsym ns ls s = ⟨false, j⟩ := by unfold wsym; rw [hpn]
      have hkn : knownB ns ls s = true := by unfold knownB; rw [hpn]; rfl
      rw [e6]
      have d2 : decide (((j : Nat) : Int) < 0) = false := decide_eq_false (by omega)
      have d3 : decide ((0 : Int) ≤ ((j : Nat) : Int)) = true := decide_eq_true (by omega)
      (refine .assign rfl rfl (.assign rfl rfl (.nil (kthen_n (.seq (.seq (.region (.move rfl rfl (.lti rfl rfl rfl (.move rfl rfl (.gF rfl rfl rfl rfl (.gF rfl rfl rfl rfl (.pickF rfl rfl rfl (.nil (kthen_n (.condF rfl rfl ?_))))))))))))))); refine .skip (kthen_n (.seq (.region (.move rfl rfl (.gei rfl rfl rfl (.nil (kthen_n (.condT rfl rfl (.region (.move rfl rfl (.move rfl rfl ?_))))))))))))
      refine GO.buildPart1 (built_sym1 _) rfl rfl ?_
      skip
      refine GO.buildSlice1 (n := 2) (v1 := syA ⟨false, j⟩) rfl rfl (fun v hv => by rw [List.mem_singleton.1 hv]; rfl) rfl ⟨by decide, by decide⟩ fun bs3 => ?_
      refine GO.appendOwn (m := 1) (news := syVs ⟨false, j⟩) rfl rfl rfl (Tk.t Tk.h) Tk.h rfl (by simp [Value.oneCell']) ⟨by decide, rfl⟩ Nat.one_pos (by unfold maxLen; omega) (by omega) fun v9 => ?_
      refine .assign rfl rfl (.nil (kblock_n (kthen_n (.region (.move rfl rfl (.addi rfl rfl rfl (by omega) (.assign rfl rfl (.nil (kthen_n ?_)))))))))
      refine ⟨(i + 1, v9), ⟨hlt, hk2 hkn⟩, by dsimp only; omega, ?_, ?_⟩
      · exact .c rfl rfl (.c rfl rfl (.c rfl rfl (.c rfl rfl (.c rfl rfl (.c rfl rfl .n)))))
      · dsimp only
        rw [hsn, hws]
        refine ImpS.sb ?_
        exact .c .h (.c (.t .h) (.c (.t .h) (.c (.t .h) (.c (.t .h) (.c (.t .h) (.c (.t .h) (.s .r)))))))
    | none =>
      have e6 : placeI ns s = -1 := by unfold placeI; rw [hpn]
      rw [e6]
      have d2 : decide ((-1 : Int) < 0) = true := rfl
      have d3 : decide ((0 : Int) ≤ -1) = false := rfl
      cases hpl : posS ls s with
      | some j =>
        have e7 : placeI ls s = (j : Nat) := by unfold placeI; rw [hpl]
        have hws : wsym ns ls s = ⟨true, j⟩ := by unfold wsym; rw [hpn, hpl]
        have hkn : knownB ns ls s = true := by unfold knownB; rw [hpn, hpl]; rfl
        rw [e7]
        have d4 : decide (((j : Nat) : Int) < 0) = false := decide_eq_false (by omega)
        (refine .assign rfl rfl (.assign rfl rfl (.nil (kthen_n (.seq (.seq (.region (.move rfl rfl (.lti rfl rfl rfl (.move rfl rfl (.gT rfl rfl rfl (.move rfl rfl (.gT rfl rfl rfl (.lti rfl rfl rfl (.pickT rfl rfl rfl (.nil ?_))))))))))))))); refine kthen_n (.condF rfl rfl (.skip (kthen_n (.seq (.region (.move rfl rfl (.gei rfl rfl rfl (.nil (kthen_n (.condF rfl rfl (.region (.move rfl rfl (.move rfl rfl (.build2 rfl rfl rfl rfl ?_)))))))))))))))
        refine GO.buildSlice1 (n := 2) (v1 := syA ⟨true, j⟩) rfl rfl (fun v hv => by rw [List.mem_singleton.1 hv]; rfl) rfl ⟨by decide, by decide⟩ fun bs3 => ?_
        refine GO.appendOwn (m := 1) (news := syVs ⟨true, j⟩) rfl rfl rfl (Tk.t Tk.h) Tk.h rfl (by simp [Value.oneCell']) ⟨by decide, rfl⟩ Nat.one_pos (by unfold maxLen; omega) (by omega) fun v9 => ?_
        refine .assign rfl rfl (.nil (kblock_n (kthen_n (.region (.move rfl rfl (.addi rfl rfl rfl (by omega) (.assign rfl rfl (.nil (kthen_n ?_)))))))))
        refine ⟨(i + 1, v9), ⟨hlt, hk2 hkn⟩, by dsimp only; omega, ?_, ?_⟩
        · exact .c rfl rfl (.c rfl rfl (.c rfl rfl (.c rfl rfl (.c rfl rfl (.c rfl rfl .n)))))
        · dsimp only
          rw [hsn, hws]
          refine ImpS.sb ?_
          exact .c .h (.c (.t .h) (.c (.t .h) (.c (.t .h) (.c (.t .h) (.c (.t .h) (.c (.t .h) (.s .r)))))))
      | none =>
        have e7 : placeI ls s = -1 := by unfold placeI; rw [hpl]
        have hkn : knownB ns ls s = false := by unfold knownB; rw [hpn, hpl]; rfl
        have hall : w.all (knownB ns ls) = false := by
          cases h : w.all (knownB ns ls) with
          | false => rfl
          | true => rw [List.all_eq_true] at h; rw [h s (List.mem_of_getElem? hs)] at hkn; cases hkn
        rw [e7, hall]
        unfold symsW
        rw [hall, if_neg (by decide)]
        refine GO.ownNil (T := 72) (sz := 2) ?_
        (refine .assign rfl rfl (.assign rfl rfl (.nil (kthen_n (.seq (.seq (.region (.move rfl rfl (.lti rfl rfl rfl (.move rfl rfl (.gT rfl rfl rfl (.move rfl rfl (.gT rfl rfl rfl (.lti rfl rfl rfl (.pickT rfl rfl rfl (.nil ?_))))))))))))))); refine kthen_n (.condT rfl rfl (.seq (.region (.assign rfl rfl (.assign rfl rfl (.nil (kthen_n (.ret (kthen_r (kblock_r (kthen_r (kthen_r (kblock_r (kthen_r ?_)))))))))))))))
        refine KF2.r2 rfl (RV.t rfl) (RV.t rfl) ⟨_, rfl, rfl⟩ (ImpS.sb ?_)
        rw [show ownS (.slice none 0 0) [] = own 72 2 0 (.slice none 0 0) [] by unfold ownS sysV; rfl]
        exact .c .h (.c (.t (.t (.t .h))) (.c (.t (.t (.t .h))) (.c (.t (.t (.t .h))) (.c (.t (.t (.t .h))) (.s (.s (.s .r)))))))
  · have d1 : decide ((i : Int) < (w.length : Int)) = false := decide_eq_false (by omega)
    rw [List.take_of_length_le (by omega)] at hk ⊢
    unfold symsW
    rw [hk, if_pos rfl]
    refine .condF rfl (by assumption) (.exit (kthen_x (kthen_x (kblock_x (kthen_n (.seq (.region (.move rfl rfl (.assign rfl rfl (.assign rfl rfl (.nil (kthen_n (.ret ?_)))))))))))))
    refine KF2.r2 rfl (RV.t rfl) (RV.t rfl) ⟨_, rfl, rfl⟩ (ImpS.sb ?_)
    rw [show ownS v8 (w.map (wsym ns ls)) = own 72 2 i v8 (sysV (w.map (wsym ns ls))) by unfold ownS; rw [List.length_map, show w.length = i by omega]]
    exact .c .h (.c (.t (.t .h)) (.c (.t (.t .h)) (.c (.t (.t .h)) (.c (.t (.t .h)) (.s (.s .r))))))
end Go.Proofs.YtbconcohpfkncaaGreat
namespace Go.Proofs.YtbconcohpfkncaaGreat
open Go
theorem compG_short {α : Type} [DecidableEq α] : ∀ (r : List α) (x : α), (compG x r).length ≤ r.length
  | [], _ => Nat.le_refl _
  | y :: r, x => by
    have := compG_short r y
    simp only [compG]
    split
    · rw [List.length_cons]; omega
    · rw [List.length_cons, List.length_cons]; omega
theorem compL_short {α : Type} [DecidableEq α] (l : List α) : (compL l).length ≤ l.length := by
  cases l with
  | nil => exact Nat.le_refl _
  | cons x r => have := compG_short r x; simp only [compL, List.length_cons]; omega
theorem box_sizes {g : List RuleD} {ns ls : List (List UInt8)} (h : TabOK g ns ls) (s : List UInt8) : (boxFins (leafF ns ls) (treesG s g)).length ≤ 65 ∧ ¬ 4294967296 < (boxArcs (leafF ns ls) (treesG s g)).length := by
  have hl := (box_gok (leaf := leafF ns ls) (ts := treesG s g) fun t ht => let ⟨_, _, _, _, e⟩ := trees_mem h ht; e).1
  rw [trees_leaves h] at hl
  have h64 := trees_occ h s
  have hA := (trees_arcs h s).2
  have hB := (gluK_B (leafF ns ls) 5 (treesG s g) ⟨false, [], []⟩ ([], []) 0 PtB.nil).1
  have h1 : (boxG (leafF ns ls) (treesG s g)).1.first.length ≤ 64 := by have := hB.nf; unfold boxG at hl ⊢; omega
  have h2 : (boxG (leafF ns ls) (treesG s g)).1.last.length ≤ 64 := by have := hB.nl; unfold boxG at hl ⊢; omega
  constructor
  · unfold boxFins sortN
    rw [List.length_mergeSort, List.length_append]
    split
    · rw [List.length_cons, List.length_nil]; omega
    · rw [List.length_nil]; omega
  · have h3 := compL_short (sortB orderA ((boxG (leafF ns ls) (treesG s g)).2.2 ++ joinA (boxG (leafF ns ls) (treesG s g)).2.1 [0] (boxG (leafF ns ls) (treesG s g)).1.first))
    rw [List.length_mergeSort, List.length_append, joinA_len, List.length_cons, List.length_nil] at h3
    unfold boxArcs
    omega
theorem box_auto {g : List RuleD} {ns ls : List (List UInt8)} (h : TabOK g ns ls) (s : List UInt8) : AutoOK (sizeG (leafF ns ls) g s) (boxFins (leafF ns ls) (treesG s g)) (boxArcs (leafF ns ls) (treesG s g)) := by
  have h1 := trees_leaves h s
  have h2 := trees_occ h s
  exact box_ok (fun t ht => let ⟨_, _, _, _, e⟩ := trees_mem h ht; e) (by omega)
/-- What a box says of a word. -/
def saysB (ns ls : List (List UInt8)) (g : List RuleD) (s : List UInt8) (w : List SyD) : Bool := (boxFins (leafF ns ls) (treesG s g)).any (runA (boxArcs (leafF ns ls) (treesG s g)) w fun q => decide (q = 0))
theorem says_iff {g : List RuleD} {ns ls : List (List UInt8)} (h : TabOK g ns ls) (s : List UInt8) {w : List (List UInt8)} (hw : w.all (knownB ns ls) = true) : saysB ns ls g s (w.map (wsym ns ls)) = true ↔ LgA nm (treesG s g) w := by
  unfold saysB
  rw [box_takes fun t ht => let ⟨_, _, _, _, e⟩ := trees_mem h ht; e]
  exact ((trees_img h s).iff wsym_inj fun x hx => knownB_iff.1 (List.all_eq_true.1 hw x hx)).symm
theorem known_of {g : List RuleD} {ns ls : List (List UInt8)} (h : TabOK g ns ls) {s : List UInt8} {w : List (List UInt8)} (hw : LgA nm (treesG s g) w) : w.all (knownB ns ls) = true :=
  List.all_eq_true.2 fun x hx => knownB_iff.2 (((trees_img h s).1 w hw).1 x hx)
theorem parse_ok {s : List UInt8} (h : (parseF s).2.2 = 0) : FitG (parseF s).1 ∧ checkG (parseF s).1 = 0 := by
  unfold parseF at h ⊢
  split at h
  · cases h
  rename_i hl
  rw [if_neg hl]
  cases hr : rulesF s (marksF s) (badF s) ((marksF s).length + 1) [] 0 with
  | error p => rw [hr] at h; cases h
  | ok g =>
    rw [hr] at h
    dsimp only at h ⊢
    split at h
    · cases h
    rename_i h1
    rw [if_neg h1]
    split at h
    · cases h
    rename_i h2
    rw [if_neg h2]
    split at h
    · rename_i h3
      rw [if_pos h3]
      exact ⟨rulesF_fitG hl hr, h3⟩
    · rename_i h3; exact absurd h h3
/-- "S = a S b | a b ;" -/
def bText : List UInt8 := [83, 32, 61, 32, 97, 32, 83, 32, 98, 32, 124, 32, 97, 32, 98, 32, 59]
def bTree : Tree := .node 5 [] [.node 4 [] [.node 3 [97] [], .node 2 [83] [], .node 3 [98] []], .node 4 [] [.node 3 [97] [], .node 3 [98] []]]
def bGram : List RuleD := [⟨[83], flat bTree⟩]
theorem bText_reads : parseF bText = (bGram, 0, 0) := by kernel_rfl
theorem bGram_ok : FitG bGram ∧ checkG bGram = 0 := by
  have := parse_ok (s := bText) (by rw [bText_reads])
  rw [bText_reads] at this
  exact this
theorem bGram_heads : headsF bGram = [[83]] := by kernel_rfl
theorem bGram_trees : treesG [83] bGram = [bTree] := by
  unfold treesG
  rw [show bodiesG [83] bGram = [flat bTree] by kernel_rfl, List.map_cons, List.map_nil, treeL_flat]
section
variable {α : Type} {leaf : Nat → List UInt8 → α} {n : List UInt8} {t : Tree} {ts : List Tree} {w : List α}
theorem lg_seq : Lg leaf (.node 4 n ts) w ↔ LgS leaf ts w := by rw [Lg, if_neg (by decide), if_neg (by decide), if_pos rfl]
theorem lg_alt : Lg leaf (.node 5 n ts) w ↔ LgA leaf ts w := by rw [Lg, if_neg (by decide), if_neg (by decide), if_neg (by decide), if_pos rfl]
theorem lg_leaf {k : Nat} (h : k = 2 ∨ k = 3) : Lg leaf (.node k n ts) w ↔ w = [leaf k n] := by rw [Lg, if_neg (by omega), if_pos h]
theorem lga_cons : LgA leaf (t :: ts) w ↔ Lg leaf t w ∨ LgA leaf ts w := by rw [LgA]
theorem lga_nil : LgA leaf [] w ↔ False := by rw [LgA]
theorem lgs_cons : LgS leaf (t :: ts) w ↔ ∃ u v, w = u ++ v ∧ Lg leaf t u ∧ LgS leaf ts v := by rw [LgS]
theorem lgs_nil : LgS leaf [] w ↔ w = [] := by rw [LgS]
end
theorem bTree_yes : LgA nm [bTree] [[97], [83], [98]] := by
  unfold bTree
  rw [lga_cons, lg_alt, lga_cons, lg_seq]
  exact .inl (.inl (lgs_cons.2 ⟨[[97]], [[83], [98]], rfl, (lg_leaf (.inr rfl)).2 rfl, lgs_cons.2 ⟨[[83]], [[98]], rfl, (lg_leaf (.inl rfl)).2 rfl, lgs_cons.2 ⟨[[98]], [], rfl, (lg_leaf (.inr rfl)).2 rfl, lgs_nil.2 rfl⟩⟩⟩))
theorem two_seq {k : Nat} {n : List UInt8} {k2 : Nat} {n2 : List UInt8} {ts : List Tree} {w : List (List UInt8)} (h1 : k = 2 ∨ k = 3) (h2 : k2 = 2 ∨ k2 = 3) (h : LgS nm (.node k n [] :: .node k2 n2 [] :: ts) w) : 2 ≤ w.length := by
  obtain ⟨u, v, rfl, a, b⟩ := lgs_cons.1 h
  obtain ⟨u2, v2, rfl, a2, b2⟩ := lgs_cons.1 b
  rw [(lg_leaf h1).1 a, (lg_leaf h2).1 a2]
  simp
theorem bTree_no : ¬ LgA nm [bTree] [[97]] := by
  unfold bTree
  rw [lga_cons, lg_alt, lga_cons, lga_cons, lg_seq, lg_seq, lga_nil]
  rintro ((h | h | h) | h)
  · have := two_seq (.inr rfl) (.inl rfl) h
    simp at this
  · have := two_seq (.inr rfl) (.inr rfl) h
    simp at this
  · exact h
  · exact h
theorem bGram_states (leaf : Nat → List UInt8 → SyD) : statesG leaf bGram [[83]] = 6 := by
  unfold statesG sizeG
  rw [List.map_cons, List.map_nil, bGram_trees]
  rfl
theorem bGram_labels {ls : List (List UInt8)} (h : TabOK bGram [[83]] ls) : ([[97], [83], [98]] : List (List UInt8)).all (knownB [[83]] ls) = true ∧ ([[97]] : List (List UInt8)).all (knownB [[83]] ls) = true := by
  have ha := h.lbs ⟨[83], flat bTree⟩ (by unfold bGram; simp) ⟨3, [97], 0⟩ (by unfold bTree; simp [flat, flats]) rfl
  have hb := h.lbs ⟨[83], flat bTree⟩ (by unfold bGram; simp) ⟨3, [98], 0⟩ (by unfold bTree; simp [flat, flats]) rfl
  have k1 : knownB [[83]] ls [97] = true := knownB_iff.2 (.inr ha)
  have k2 : knownB [[83]] ls [98] = true := knownB_iff.2 (.inr hb)
  have k3 : knownB [[83]] ls [83] = true := knownB_iff.2 (.inl (by simp))
  simp [k1, k2, k3]
theorem Sl.take {q : HP} {a : Option Addr} {n cap sz m : Nat} {l : List Value} (h : Sl q (.slice a n cap) n sz l) (hm : m ≤ n) : Sl q (.slice a m cap) m sz (l.take (m * sz)) := by
  obtain ⟨a', cap', e, h1, h2⟩ := h
  injection e with e1 _ e2
  subst e1 e2
  have hle := Nat.mul_le_mul_right sz hm
  refine ⟨a, cap, rfl, by rw [List.length_take]; omega, fun hp => ?_⟩
  obtain ⟨b, o, h3, h4⟩ := h2 (by omega)
  exact ⟨b, o, h3, fun j u hu => h4 j u (by rw [List.getElem?_take] at hu; split at hu; exact hu; cases hu)⟩
theorem sysV_take (w : List SyD) (i : Nat) : (sysV w).take (i * 2) = sysV (w.take i) := by
  induction w generalizing i with
  | nil => unfold sysV; simp
  | cons s w ih =>
    cases i with
    | zero => unfold sysV; simp
    | succ i =>
      have := ih i
      unfold sysV at this ⊢
      rw [List.take_succ_cons, List.flatMap_cons, List.flatMap_cons, Nat.add_mul, List.take_append, List.take_of_length_le (by show 2 ≤ _; omega)]
      refine congrArg _ ?_
      rw [show i * 2 + 1 * 2 - (syVs s).length = i * 2 by show i * 2 + 2 - 2 = _; omega]
      exact this
end Go.Proofs.YtbconcohpfkncaaGreat
namespace Go.Proofs.YtbconcohpfkncaaGreat
open Go
attribute [local irreducible] capN capM G GO GR GT GW Fn FnX FnV FnXV Dfr pt init exs pur sat own ImpS natsV arsV sysV posS parseF checkG headsF treesG statesG boxG boxFins boxArcs runA partsF sizeG symsW
/-- A machine's box, told a word. -/
theorem auto_has (bm bt : Nat) (vp : Value) (st : Nat) (cells : List Value) (z : HP) (g : List RuleD) (ns ls : List (List UInt8)) (vn vl : Value) (hm : MachR z g ns ls vn vl vp cells) (hnl : ¬ 16 < ns.length) (j : Nat) (s : List UInt8) (hj : ns[j]? = some s) :
    Fn Tryz.prog 11 #[ptrV bm, i64 (j : Nat)] [machP bm bt vp st, z] (fun r Q => ∃ vf va, r = .tuple #[autoA (sizeG (leafF ns ls) g s) vf va, i64 0] ∧ Q = [ownN vf (boxFins (leafF ns ls) (treesG s g)), ownA va (boxArcs (leafF ns ls) (treesG s g)), machP bm bt vp st, z]) := by
  obtain ⟨f, hf⟩ := partsF_get (leafF ns ls) g ns 0 j s hj
  have hl := partsF_len (leafF ns ls) g ns 0
  obtain ⟨h1, h2⟩ := box_sizes hm.tab s
  have := auto_spec bm bt vp st cells (partsF (leafF ns ls) g 0 ns) z j (boxPa (leafF ns ls) g s f) (by rw [hl]; exact hm.vp) hm.parts hf (by omega) (by show ¬ 65536 < (boxFins _ _).length; omega) h2
  exact this
end Go.Proofs.YtbconcohpfkncaaGreat
namespace Go.Proofs.YtbconcohpfkncaaGreat
open Go
attribute [local irreducible] capN capM G GO GR GT GW Fn FnX FnV FnXV Dfr pt init exs pur sat own ImpS natsV arsV sysV posS parseF checkG headsF treesG statesG boxG boxFins boxArcs runA partsF sizeG symsW
set_option maxRecDepth 40000 in
set_option maxHeartbeats 32000000 in
theorem boxes_spec : Fn Tryz.prog 5 #[] [] (fun r Q => r = .bool true ∧ Q = []) := by
  have p1 := parse_spec bText
  rw [bText_reads] at p1
  unfold ParseR at p1
  obtain ⟨hfit, hck⟩ := bGram_ok
  have hnew := fun q v hq => rsmNew_spec q v bGram hq hfit hck
  rw [bGram_heads] at hnew
  unfold bText at p1
  generalize hg : bGram = g at *
  dsimp only at p1
  refine Fn.mk2 Tryz.func5 rfl rfl fun w0 F => ?_
  refine .seq (.region (.assign rfl rfl (.nil (kthen_n (.seq (.region ?_))))))
  refine GO.call1 rfl rfl (p1) Tks.n ?_
  rintro _ _ ⟨v1, y1, rfl, hg1, rfl⟩
  have hnew := hnew y1 v1 hg1
  obtain ⟨ag1, cg1, rfl⟩ := rules_sl hg1
  refine .move rfl rfl (.extract rfl rfl rfl (.extract rfl rfl rfl (.extract rfl rfl rfl (.assign rfl rfl (.assign rfl rfl (.assign rfl rfl (.nil (kthen_n (.seq (.region (.move rfl rfl ?_)))))))))))
  refine GO.call1 rfl rfl (hnew) (Tks.c Tk.h Tks.n) ?_
  rintro _ _ ⟨bm, bt, mb, vn, vl, vp, ls, cells, z, hm, rfl, rfl⟩
  have hst : statesG (leafF [[83]] ls) g [[83]] = 6 := by rw [← hg]; exact bGram_states _
  rw [hst]
  have hau := auto_has bm bt vp 6 cells z g [[83]] ls vn vl hm (by decide) 0 [83] rfl
  (refine .move rfl rfl (.extract rfl rfl rfl (.extract rfl rfl rfl (.assign rfl rfl (.assign rfl rfl (.nil (kthen_n (.seq (.seq (.region (.move rfl rfl (.neF rfl rfl rfl rfl (.move rfl rfl (.gT rfl rfl rfl (.move rfl rfl (.gT rfl rfl rfl ?_))))))))))))))); refine .neF rfl rfl rfl rfl (.pickF rfl rfl rfl (.move rfl rfl (.gT rfl rfl rfl (.move rfl rfl (.gT rfl rfl rfl (.eqNilP rfl rfl (.pickF rfl rfl rfl (.nil (kthen_n (.condF rfl rfl (.skip (kthen_n (.seq (.region (.move rfl rfl ?_))))))))))))))))
  refine GO.call2 rfl rfl rfl (hau) (Tks.c Tk.h (Tks.c (Tk.t (Tk.t Tk.h)) Tks.n)) ?_
  rintro _ _ ⟨vf, va, rfl, rfl⟩
  refine GO.ownRd (v := vf) Tk.h fun qa hqa => ?_
  refine GO.ownRdK (v := va) (Tk.t Tk.h) fun qb hqb => ?_
  have hqa' : NatsR qa vf (boxFins (leafF [[83]] ls) (treesG [83] g)) := hqa
  have hqb' : ArsR qb va (boxArcs (leafF [[83]] ls) (treesG [83] g)) := hqb
  refine GO.merge (x := qa) (y := qb) (Tks.c (Tk.t Tk.h) (Tks.c Tk.h Tks.n)) ?_
  have hqa' := hqa'.sup (Sup.left qa qb)
  have hqb' := hqb'.sup (Sup.right qa qb)
  generalize star [qa, qb] = q3 at *
  clear hqa hqb
  have o1 := nats_one hqa'; have o2 := hqb'.one
  refine .move rfl rfl (.extract rfl rfl rfl (.extract rfl rfl rfl (.alloc rfl fun b6 => ?_)))
  refine GO.storeW (vs := [i64 (sizeG (leafF [[83]] ls) g [83] : Nat), vf, va]) rfl rfl Tk.h ⟨rfl, rfl⟩ (by simp [Value.oneCell']; exact ⟨o1, o2⟩) ?_
  refine .assign rfl rfl (.nil (kthen_n (.seq (.region (.move rfl rfl ?_)))))
  refine GO.buildSlice3 (n := 1) (v1 := str [97]) (v2 := str [83]) (v3 := str [98]) rfl rfl rfl rfl (fun v hv => by simp only [List.mem_cons, List.not_mem_nil, or_false] at hv; rcases hv with rfl | rfl | rfl <;> rfl) rfl ⟨by decide, by decide⟩ fun bs => ?_
  rw [show putParts [str [97], str [83], str [98]] = strsV [[97], [83], [98]] from rfl]
  refine GO.ownIn (n := 3) (sz := 1) Tk.h rfl (by decide) ?_
  refine GO.ownRd (n := 3) (sz := 1) Tk.h fun qw hqw => ?_
  obtain ⟨hk3, hk1⟩ := bGram_labels (ls := ls) (by rw [hg]; exact hm.tab)
  have hsy := syms_spec bm bt mb vp vn vl (.slice (some ⟨bs, 0, none⟩) 3 3) 6 [[83]] ls [[97], [83], [98]] z qw hm.vn hm.vl hqw (by decide) (by have := hm.tab.ll; omega) (by decide)
  rw [hk3] at hsy
  have hb := box_sizes hm.tab [83]
  have hau := box_auto hm.tab [83]
  have y1 := says_iff hm.tab [83] hk3
  have y2 := says_iff hm.tab [83] hk1
  rw [← hg, bGram_trees, hg] at y1 y2
  have y1 := y1.2 bTree_yes
  have y2 : saysB [[83]] ls g [83] ([[97]].map (wsym [[83]] ls)) = false := by
    cases h : saysB [[83]] ls g [83] ([[97]].map (wsym [[83]] ls)) with
    | false => rfl
    | true => exact absurd (y2.1 h) bTree_no
  unfold saysB at y1 y2
  have hws : symsW [[83]] ls [[97], [83], [98]] = ([[97], [83], [98]] : List (List UInt8)).map (wsym [[83]] ls) := by unfold symsW; rw [if_pos hk3]
  rw [hws] at hsy
  skip
  refine GO.call2 rfl rfl rfl (hsy) (Tks.c (Tk.t (Tk.t (Tk.t Tk.h))) (Tks.c (Tk.t (Tk.t (Tk.t (Tk.t Tk.h)))) (Tks.c (Tk.t (Tk.t (Tk.t Tk.h))) (Tks.c Tk.h Tks.n)))) ?_
  rintro _ _ ⟨v7, rfl, rfl⟩
  refine GO.ownRdK (v := v7) Tk.h fun q7 hq7K => ?_
  have hq7 := hq7K.sl
  have hh1 := has_spec (sizeG (leafF [[83]] ls) g [83]) vf va v7 _ _ (([[97], [83], [98]] : List (List UInt8)).map (wsym [[83]] ls)) q3 q7 hqa' hqb'.sl hq7 hau (by omega) hb.2 (by simp)
  rw [y1] at hh1
  obtain ⟨a7, c7, rfl, hc7, h6, h7r⟩ := hq7K
  rw [List.length_map] at hc7
  have hc7 : 3 ≤ c7 := hc7
  obtain ⟨b7, o7, rfl, _⟩ := h7r (by rw [List.length_map]; decide)
  have hq7 : Sl q7 (.slice (some ⟨b7, o7, none⟩) 3 c7) 3 2 (sysV (([[97], [83], [98]] : List (List UInt8)).map (wsym [[83]] ls))) := hq7
  have hq71 := hq7.take (m := 1) (by decide)
  rw [show 1 * 2 = 1 * 2 from rfl, sysV_take] at hq71
  have hh2 := has_spec (sizeG (leafF [[83]] ls) g [83]) vf va (.slice (some ⟨b7, o7, none⟩) 1 c7) _ _ (([[97]] : List (List UInt8)).map (wsym [[83]] ls)) q3 q7 hqa' hqb'.sl hq71 hau (by omega) hb.2 (by simp)
  rw [y2] at hh2
  refine .move rfl rfl (.extract rfl rfl rfl (.extract rfl rfl rfl (.assign rfl rfl (.assign rfl rfl (.nil (kthen_n (.seq (.region (.loadW rfl rfl rfl (.t (.t (.t (.t (.t .h))))) rfl (.move rfl rfl ?_))))))))))
  refine GO.call2 rfl rfl rfl (hh1) (Tks.c (Tk.t (Tk.t (Tk.t (Tk.t (Tk.t (Tk.t Tk.h)))))) (Tks.c Tk.h Tks.n)) ?_
  rintro _ _ ⟨rfl, rfl⟩
  refine .move rfl rfl (.extract rfl rfl rfl (.extract rfl rfl rfl (.assign rfl rfl (.assign rfl rfl (.nil (kthen_n (.seq ?_)))))))
  refine G.draw 9 (by kernel_rfl) ?_
  refine .step (fun _ => .loadW rfl rfl rfl (.t (.t (.t (.t (.t (.t .h)))))) rfl KQ.z) (.step (fun _ => .move rfl rfl KQ.z) ?_)
  apply GQ.step; focus (intro Z; refine GO.sliceHi (l := 1) rfl rfl rfl ⟨rfl, ?_⟩ ?_; omega; exact KQ.z)
  skip
  apply GQ.step; focus (intro Z; refine GO.call2 rfl rfl rfl (hh2) (Tks.c Tk.h (Tks.c Tk.h Tks.n)) ?_; rintro _ _ ⟨rfl, rfl⟩; refine GO.nil (KQ.s ?_); ((refine Sb.c Tk.h ?_; refine Sb.c Tk.h ?_; refine Sb.c Tk.h ?_; refine Sb.c Tk.h ?_; refine Sb.c Tk.h ?_; refine Sb.c Tk.h ?_; refine Sb.c Tk.h ?_; refine Sb.c Tk.h ?_; refine Sb.c Tk.h ?_); (exact Sb.r)))
  refine .step (fun _ => .move rfl rfl KQ.z) (.step (fun _ => .extract rfl rfl rfl KQ.z) (.step (fun _ => .extract rfl rfl rfl KQ.z) (.step (fun _ => .assign rfl rfl KQ.z) (.step (fun _ => .assign rfl rfl KQ.z) (.nil ?_)))))
  (refine .nil (kthen_n (.seq (.region (.move rfl rfl (.eqT rfl rfl rfl rfl (.move rfl rfl (.gT rfl rfl rfl (.move rfl rfl (.pickT rfl rfl rfl (.move rfl rfl (.gT rfl rfl rfl (.move rfl rfl (.gT rfl rfl rfl (.eqT rfl rfl rfl rfl (.pickT rfl rfl rfl ?_))))))))))))))); refine .move rfl rfl (.gT rfl rfl rfl (.move rfl rfl (.gT rfl rfl rfl (.eqT rfl rfl rfl rfl (.pickT rfl rfl rfl (.move rfl rfl (.gT rfl rfl rfl (.move rfl rfl (.pickT rfl rfl rfl (.move rfl rfl (.gT rfl rfl rfl (.move rfl rfl (.gT rfl rfl rfl (.not rfl rfl (.pickT rfl rfl rfl ?_))))))))))))))); refine .move rfl rfl (.gT rfl rfl rfl (.move rfl rfl (.gT rfl rfl rfl ?_))))
  refine GO.call1 rfl rfl (rstates_spec bm bt vp 6) (Tks.c (Tk.t (Tk.t Tk.h)) Tks.n) ?_
  rintro _ _ ⟨rfl, rfl⟩
  refine .gT rfl rfl rfl (.eqT rfl rfl rfl rfl (.pickT rfl rfl rfl (.assign rfl rfl (.nil (kthen_n (.ret ?_))))))
  refine KF2.r1 rfl (RV.t rfl) ⟨rfl, rfl⟩ (ImpS.sb ?_)
  exact .s (.s (.s (.s (.s (.s (.s (.s (.s .r))))))))
end Go.Proofs.YtbconcohpfkncaaGreat
namespace Go.Proofs.YtbconcohpfkncaaGreat
open Go
theorem lga_any {α : Type} {leaf : Nat → List UInt8 → α} {w : List α} : ∀ {ts : List Tree}, LgA leaf ts w ↔ ∃ t ∈ ts, Lg leaf t w
  | [] => ⟨fun h => (lga_nil.1 h).elim, fun ⟨_, h, _⟩ => by cases h⟩
  | t :: ts => by rw [lga_cons, lga_any (ts := ts)]; simp
theorem bodies_ne {g : List RuleD} {s : List UInt8} (h : s ∈ headsF g) : 0 < (bodiesG s g).length := by
  obtain ⟨r, hr, e⟩ := ((heads_ok g).2 s).1 h
  have : r.body ∈ bodiesG s g := by
    unfold bodiesG
    exact List.mem_map.2 ⟨r, List.mem_filter.2 ⟨hr, decide_eq_true e⟩, rfl⟩
  exact List.length_pos_of_mem this
attribute [local irreducible] capN capM G GO GR GT GW Fn FnX FnV FnXV Dfr pt init exs pur sat own ImpS natsV arsV sysV posS parseF checkG headsF treesG bodiesG statesG boxG boxFins boxArcs runA partsF sizeG symsW saysB
set_option maxRecDepth 40000 in
set_option maxHeartbeats 64000000 in
theorem topBoxes_spec (s : List UInt8) (w : List (List UInt8)) (qw : HP) (vw : Value) (hw : WordR qw vw w) : Fn Tryz.prog 3 #[str s, vw] [qw] (fun r Q => r = .bool true ∧ Q = [qw]) := by
  have p1 := parse_spec s
  unfold ParseR at p1
  have hpo := parse_ok (s := s)
  have hbx := boxes_spec
  generalize parseF s = zf at *
  obtain ⟨g, at1, er⟩ := zf
  dsimp only at *
  have hww := hw
  obtain ⟨aw, cw, rfl⟩ := str_sl hw
  refine Fn.mk2 Tryz.func3 rfl rfl fun w0 F => ?_
  refine .seq (.region (.assign rfl rfl (.nil (kthen_n (.seq (.region (.move rfl rfl ?_)))))))
  refine GO.call1 rfl rfl (p1) Tks.n ?_
  rintro _ _ ⟨v1, y1, rfl, hg1, rfl⟩
  have hnew := fun hf hc => rsmNew_spec y1 v1 g hg1 hf hc
  have hB := fun hf x => bodies_spec y1 v1 g x hg1 (FitG.len hf) (FitG.body hf)
  obtain ⟨ag1, cg1, rfl⟩ := rules_sl hg1
  by_cases her : er = 0
  · have c1 : decide ((er : Int) ≠ 0) = false := decide_eq_false (by omega)
    by_cases h20 : 20 < w.length
    · have c2 : decide ((20 : Int) < (w.length : Int)) = true := decide_eq_true (by omega)
      (refine .move rfl rfl (.extract rfl rfl rfl (.extract rfl rfl rfl (.extract rfl rfl rfl (.assign rfl rfl (.assign rfl rfl (.assign rfl rfl (.nil (kthen_n (.seq (.seq (.region (.move rfl rfl (.nei rfl rfl rfl (.move rfl rfl (.gT rfl rfl (by assumption) ?_))))))))))))))); refine .move rfl rfl (.gT rfl rfl (by assumption) (.lenS rfl rfl (.gT rfl rfl (by assumption) (.gti rfl rfl rfl (.pickFa rfl rfl (by assumption) rfl (.nil (kthen_n (.condT rfl (by assumption) (.seq (.region ?_)))))))))))
      refine GO.call0 rfl (hbx) Tks.n ?_
      rintro _ _ ⟨rfl, rfl⟩
      refine .assign rfl rfl (.nil (kthen_n (.ret (kthen_r ?_))))
      refine KF2.r1 rfl (RV.t rfl) ⟨rfl, rfl⟩ (ImpS.sb ?_)
      exact .c (.t .h) (.s .r)
    · have c2 : decide ((20 : Int) < (w.length : Int)) = false := decide_eq_false (by omega)
      obtain ⟨hfit, hck⟩ := hpo her
      have hgo := gram_ok hck
      have hn16 := hgo.nts
      have hnew := hnew hfit hck
      have hB := hB hfit
      have hne : ∀ x ∈ headsF g, _ := fun x hx => bodies_ne hx
      have hpos : 0 < (headsF g).length := by
        match g, hgo.len with
        | r :: g', _ => exact List.length_pos_of_mem (((heads_ok (r :: g')).2 r.head).2 ⟨r, by simp, rfl⟩)
      generalize headsF g = ns at *
      (refine .move rfl rfl (.extract rfl rfl rfl (.extract rfl rfl rfl (.extract rfl rfl rfl (.assign rfl rfl (.assign rfl rfl (.assign rfl rfl (.nil (kthen_n (.seq (.seq (.region (.move rfl rfl (.nei rfl rfl rfl (.move rfl rfl (.gT rfl rfl (by assumption) ?_))))))))))))))); refine .move rfl rfl (.gT rfl rfl (by assumption) (.lenS rfl rfl (.gT rfl rfl (by assumption) (.gti rfl rfl rfl (.pickFa rfl rfl (by assumption) rfl (.nil (kthen_n (.condF rfl (by assumption) (.skip (kthen_n (.seq (.region (.move rfl rfl ?_))))))))))))))
      refine GO.call1 rfl rfl (hnew) (Tks.c Tk.h Tks.n) ?_
      rintro _ _ ⟨bm, bt, mb, vn, vl, vp, ls, cells, z, hm, rfl, rfl⟩
      generalize hst : statesG (leafF ns ls) g ns = st
      have hau := fun j s hj => auto_has bm bt vp st cells z g ns ls vn vl hm (by omega) j s hj
      have hnm := rnames_spec bm bt mb vp vn vl st ns z hm.vn (by omega)
      have hll := hm.tab.ll
      have hsy := syms_spec bm bt mb vp vn vl (.slice aw w.length cw) st ns ls w z qw hm.vn hm.vl hww (by omega) (by omega) (by omega)
      (refine .move rfl rfl (.extract rfl rfl rfl (.extract rfl rfl rfl (.assign rfl rfl (.assign rfl rfl (.nil (kthen_n (.seq (.seq (.region (.move rfl rfl (.neF rfl rfl rfl rfl (.move rfl rfl (.gT rfl rfl rfl (.move rfl rfl (.gT rfl rfl rfl ?_))))))))))))))); refine .eqNilP rfl rfl (.pickF rfl rfl rfl (.nil (kthen_n (.condF rfl rfl (.skip (kthen_n (.seq (.region (.move rfl rfl ?_))))))))))
      refine GO.call1 rfl rfl (hnm) (Tks.c Tk.h (Tks.c Tk.h (Tks.c (Tk.t Tk.h) Tks.n))) ?_
      rintro v9 _ rfl
      refine GO.ownRdK Tk.h fun q9 h9 => ?_
      refine .assign rfl rfl (.nil (kthen_n (.seq (.region (.move rfl rfl (.move rfl rfl ?_))))))
      refine GO.call2 rfl rfl rfl (hsy) (Tks.c (Tk.t Tk.h) (Tks.c (Tk.t Tk.h) (Tks.c (Tk.t Tk.h) (Tks.c (Tk.t (Tk.t (Tk.t Tk.h))) Tks.n)))) ?_
      rintro _ _ ⟨v10, rfl, rfl⟩
      refine GO.ownRd (v := v10) Tk.h fun q10 h10 => ?_
      have hr9 : ∀ i x, ns[i]? = some x → _ := fun i x h => strs_rd h9 h
      obtain ⟨a9, c9, rfl⟩ := strsW_sl h9
      have hsl : ¬ 64 < (symsW ns ls w).length := by unfold symsW; split <;> simp <;> omega
      have hknown := fun x => known_of (s := x) (w := w) hm.tab
      have hsays : w.all (knownB ns ls) = true → ∀ x, saysB ns ls g x (symsW ns ls w) = true ↔ LgA nm (treesG x g) w := fun hk x => by
        unfold symsW
        rw [if_pos hk]
        exact says_iff hm.tab x hk
      have hh := fun x vf va z3 h1 h2 => has_spec (sizeG (leafF ns ls) g x) vf va v10 _ _ (symsW ns ls w) z3 q10 h1 h2 h10 (box_auto hm.tab x) (by have := (box_sizes hm.tab x).1; omega) (box_sizes hm.tab x).2 hsl
      have htr := fun x => trees_fit hm.tab x
      have hfl := fun x => trees_flat hm.tab x
      generalize w.all (knownB ns ls) = kn at *
      obtain ⟨a10, c10, rfl, _, _⟩ := h10
      refine .move rfl rfl (.extract rfl rfl rfl (.extract rfl rfl rfl (.assign rfl rfl (.assign rfl rfl (.nil (kthen_n (.seq (.seq (.region (.assign rfl rfl (.nil (kthen_n (.block ?_)))))))))))))
      refine G.loopI (σ := Nat) (fun i => [(1, .slice aw w.length cw), (5, .slice ag1 g.length cg1), (8, ptrV bm), (9, .slice a9 ns.length c9), (10, .slice a10 (symsW ns ls w).length c10), (11, .bool kn), (12, i64 (i : Nat))]) (fun _ => q10 :: q9 :: machP bm bt vp st :: tabP bt mb vn vl :: tabM mb ns ls :: z :: y1 :: qw :: F) (fun i => i ≤ ns.length) (fun i => ns.length - i) 0 (Nat.zero_le _) ?_ ?_ ?_
      · exact .c rfl rfl (.c rfl rfl (.c rfl rfl (.c rfl rfl (.c rfl rfl (.c rfl rfl (.c rfl rfl .n))))))
      · refine ImpS.sb ?_
        exact .c .h (.c (.t (.t (.t (.t .h)))) (.c .h (.c .h (.c (.t (.t .h)) (.c .h (.c (.t .h) (.c .h .r)))))))
      clear c1 c2 hnew hsy hnm
      intro i hi
      refine .seq (.seq (.region (.move rfl rfl (.move rfl rfl (.lenS rfl rfl (.lti rfl rfl rfl (.nil (kthen_n ?_))))))))
      by_cases hlt : i < ns.length
      · have d1 : decide ((i : Int) < (ns.length : Int)) = true := decide_eq_true (by omega)
        obtain ⟨x, hx⟩ : ∃ x, ns[i]? = some x := ⟨_, List.getElem?_eq_getElem hlt⟩
        obtain ⟨b, o, cap, e, _, rx⟩ := hr9 i x hx
        injection e with e _ e2
        subst e e2
        have hau := hau i x hx
        have hh := hh x
        have hne := hne x (List.mem_of_getElem? hx)
        have htr := htr x
        have hfl := hfl x
        have hknown := hknown x
        have htl := trees_len x g
        have htb : (treesG x g).length ≤ 64 := by have h1 := bodiesG_len x g; have h2 := hgo.len; omega
        have hsays := fun hk => hsays hk x
        unfold saysB at hsays
        (refine .condT rfl (by assumption) (.skip (kthen_n (.seq (.block (.seq (.region (.assign rfl rfl (.nil (kthen_n (.seq (.region (.move rfl rfl (.move rfl rfl (.move rfl rfl (.idxS rfl rfl rfl ⟨rfl, by omega⟩ ?_))))))))))))))); refine .loadQ rfl rfl rfl (.t .h) (by assumption) ?_)
        refine GO.call2 rfl rfl rfl (hB x) (Tks.c (Tk.t (Tk.t (Tk.t (Tk.t (Tk.t (Tk.t Tk.h)))))) Tks.n) ?_
        rintro vv _ ⟨vals, zb, hzb, rfl⟩
        refine GO.ownRd Tk.h fun zz hzz => ?_
        rw [← hfl] at hzb
        rw [← htl] at hzz hne
        generalize treesG x g = ts at *
        have hrd : ∀ (i : Nat) (t : Tree), ts[i]? = some t → ∃ b o cap a c, vv = .slice (some ⟨b, o, none⟩) ts.length cap ∧ NodesR zb (.slice a (flat t).length c) (flat t) ∧ Rd zz ⟨b, o + i * 1, none⟩ (.slice a (flat t).length c) := fun i t h => by
          obtain ⟨w, h1, _, h3⟩ := hzb.2 i (flat t) (by rw [List.getElem?_map, h]; rfl)
          obtain ⟨a, cap, rfl, _, hr⟩ := hzz
          have hi := (List.getElem?_eq_some_iff.1 h).1
          obtain ⟨b, o, rfl, hr2⟩ := hr (by omega)
          have h4 := h3
          obtain ⟨aw, cw, rfl⟩ := nodes_sl h4
          exact ⟨b, o, cap, aw, cw, rfl, h3, by rw [Nat.mul_one]; exact hr2 _ _ h1⟩
        obtain ⟨av, cv, rfl, _, _⟩ := hzz
        clear hzb
        refine .assign rfl rfl (.nil (kthen_n (.seq (.seq (.region (.assign rfl rfl (.nil (kthen_n (.block ?_)))))))))
        refine G.loopI (σ := Nat × Bool) (fun y => [(1, .slice aw w.length cw), (5, .slice ag1 g.length cg1), (8, ptrV bm), (9, .slice (some ⟨b, o, none⟩) ns.length c9), (10, .slice a10 (symsW ns ls w).length c10), (11, .bool kn), (12, i64 (i : Nat)), (13, .bool y.2), (14, .slice av ts.length cv), (15, i64 (y.1 : Nat))]) (fun _ => zz :: zb :: q10 :: q9 :: machP bm bt vp st :: tabP bt mb vn vl :: tabM mb ns ls :: z :: y1 :: qw :: F) (fun y => y.1 ≤ ts.length ∧ (y.2 = true ↔ LgA nm (ts.take y.1) w)) (fun y => ts.length - y.1) (0, false) ⟨Nat.zero_le _, by rw [List.take_zero, lga_nil]; simp⟩ ?_ ?_ ?_
        · exact .c rfl rfl (.c rfl rfl (.c rfl rfl (.c rfl rfl (.c rfl rfl (.c rfl rfl (.c rfl rfl (.c rfl rfl (.c rfl rfl (.c rfl rfl .n)))))))))
        · refine ImpS.sb ?_
          exact .c .h (.c .h (.c (.t .h) (.c (.t .h) (.c (.t .h) (.c (.t .h) (.c (.t .h) (.c (.t .h) (.c .h (.c .h .r)))))))))
        clear d1
        rintro ⟨j, wb⟩ ⟨hj, hwb⟩
        dsimp only at hj hwb ⊢
        refine .seq (.seq (.region (.move rfl rfl (.move rfl rfl (.lenS rfl rfl (.lti rfl rfl rfl (.nil (kthen_n ?_))))))))
        by_cases hjt : j < ts.length
        · have d1 : decide ((j : Int) < (ts.length : Int)) = true := decide_eq_true (by omega)
          obtain ⟨t, ht⟩ : ∃ t, ts[j]? = some t := ⟨_, List.getElem?_eq_getElem hjt⟩
          obtain ⟨b2, o2, cap, at1, ct, e, hq, rt⟩ := hrd j t ht
          injection e with e _ e2
          subst e e2
          obtain ⟨hok1, hck1, hl1, _⟩ := htr t (List.mem_of_getElem? ht)
          have hmt := match_spec zb qw _ (.slice aw w.length cw) t w hq hok1 hck1 (by omega) hww (by omega)
          refine .condT rfl (by assumption) (.skip (kthen_n (.seq (.block (.seq (.region (.move rfl rfl (.move rfl rfl (.idxS rfl rfl rfl ⟨rfl, by omega⟩ (.loadQ rfl rfl rfl .h (by assumption) (.move rfl rfl ?_)))))))))))
          refine GO.call2 rfl rfl rfl (hmt) (Tks.c (Tk.t Tk.h) (Tks.c (Tk.t (Tk.t (Tk.t (Tk.t (Tk.t (Tk.t (Tk.t (Tk.t Tk.h)))))))) Tks.n)) ?_
          rintro _ _ ⟨mb2, rfl, hmb, rfl⟩
          have hnext : ((wb || mb2) = true ↔ LgA nm (ts.take (j + 1)) w) := by
            rw [take_snoc ht, Bool.or_eq_true, hwb, hmb, lga_any, lga_any]
            simp only [List.mem_append, List.mem_singleton, or_and_right, exists_or, exists_eq_left]
          (refine .move rfl rfl (.extract rfl rfl rfl (.extract rfl rfl rfl (.assign rfl rfl (.assign rfl rfl (.nil (kthen_n (.seq (.seq (.region (.move rfl rfl (.neF rfl rfl rfl rfl (.nil (kthen_n (.condF rfl rfl (.skip ?_))))))))))))))); refine kthen_n (.region (.move rfl rfl (.move rfl rfl ?_))))
          cases wb
          · refine .gT rfl rfl rfl (.move rfl rfl (.pickF rfl rfl rfl (.assign rfl rfl (.nil (kblock_n (kthen_n (.region (.move rfl rfl (.addi rfl rfl rfl (by omega) (.assign rfl rfl (.nil (kthen_n ?_))))))))))))
            refine ⟨(j + 1, mb2), ⟨hjt, hnext⟩, by dsimp only; omega, ?_, ImpS.sb ?_⟩
            · exact .c rfl rfl (.c rfl rfl (.c rfl rfl (.c rfl rfl (.c rfl rfl (.c rfl rfl (.c rfl rfl (.c rfl rfl (.c rfl rfl (.c rfl rfl .n)))))))))
            · exact .c (.t (.t .h)) (.c .h (.c (.t .h) (.c (.t .h) (.c (.t .h) (.c (.t .h) (.c (.t .h) (.c (.t .h) (.c (.t .h) (.c .h .r)))))))))
          · refine .gF rfl rfl rfl rfl (.pickT rfl rfl rfl (.assign rfl rfl (.nil (kblock_n (kthen_n (.region (.move rfl rfl (.addi rfl rfl rfl (by omega) (.assign rfl rfl (.nil (kthen_n ?_)))))))))))
            refine ⟨(j + 1, true), ⟨hjt, hnext⟩, by dsimp only; omega, ?_, ImpS.sb ?_⟩
            · exact .c rfl rfl (.c rfl rfl (.c rfl rfl (.c rfl rfl (.c rfl rfl (.c rfl rfl (.c rfl rfl (.c rfl rfl (.c rfl rfl (.c rfl rfl .n)))))))))
            · exact .c (.t (.t .h)) (.c .h (.c (.t .h) (.c (.t .h) (.c (.t .h) (.c (.t .h) (.c (.t .h) (.c (.t .h) (.c (.t .h) (.c .h .r)))))))))
        have d1 : decide ((j : Int) < (ts.length : Int)) = false := decide_eq_false (by omega)
        rw [List.take_of_length_le (by omega)] at hwb
        have d3 : decide ((ts.length : Int) = 0) = false := decide_eq_false (by omega)
        refine .condF rfl (by assumption) (.exit (kthen_x (kthen_x (kblock_x (kthen_n (.seq (.region (.move rfl rfl (.move rfl rfl ?_)))))))))
        refine GO.call2 rfl rfl rfl (hau) (Tks.c (Tk.t (Tk.t (Tk.t (Tk.t Tk.h)))) (Tks.c (Tk.t (Tk.t (Tk.t (Tk.t (Tk.t (Tk.t Tk.h)))))) Tks.n)) ?_
        rintro _ _ ⟨vf, va, rfl, rfl⟩
        refine GO.ownRd (v := vf) Tk.h fun qa hqa => ?_
        refine GO.ownRdK (v := va) (Tk.t Tk.h) fun qb hqb => ?_
        have hqa' : NatsR qa vf (boxFins (leafF ns ls) ts) := hqa
        have hqb' : ArsR qb va (boxArcs (leafF ns ls) ts) := hqb
        refine GO.merge (x := qa) (y := qb) (Tks.c (Tk.t Tk.h) (Tks.c Tk.h Tks.n)) ?_
        have hqa' := hqa'.sup (Sup.left qa qb)
        have hqb' := hqb'.sup (Sup.right qa qb)
        generalize star [qa, qb] = q3 at *
        clear hqa hqb
        have o1 := nats_one hqa'; have o2 := hqb'.one
        have hh := hh vf va q3 hqa' hqb'.sl
        refine .move rfl rfl (.extract rfl rfl rfl (.extract rfl rfl rfl (.alloc rfl fun b18 => ?_)))
        refine GO.storeW (vs := [i64 (sizeG (leafF ns ls) g x : Nat), vf, va]) rfl rfl Tk.h ⟨rfl, rfl⟩ (by simp [Value.oneCell']; exact ⟨o1, o2⟩) ?_
        (refine .assign rfl rfl (.nil (kthen_n (.seq (.seq (.region (.move rfl rfl (.neF rfl rfl rfl rfl (.move rfl rfl (.gT rfl rfl rfl (.move rfl rfl (.gT rfl rfl rfl (.lenS rfl rfl (.gT rfl rfl rfl (.eqi rfl rfl rfl (.pickF rfl rfl rfl ?_))))))))))))))); refine .move rfl rfl (.gT rfl rfl (by assumption) (.move rfl rfl (.gT rfl rfl (by assumption) (.move rfl rfl ?_)))))
        generalize (boxFins (leafF ns ls) ts).any (runA (boxArcs (leafF ns ls) ts) (symsW ns ls w) fun q => decide (q = 0)) = is at *
        cases kn
        · have hwf : wb = false := by
            cases wb with
            | false => rfl
            | true => exact absurd (hknown (hwb.1 rfl)) (by decide)
          subst hwf
          refine .gF rfl rfl rfl rfl (.gF rfl rfl rfl rfl (.gT rfl rfl (by assumption) (.pickF rfl rfl rfl (.pickFa rfl rfl (by assumption) rfl (.nil (kthen_n (.condF rfl rfl (.skip (kthen_n (.seq (.region (.loadW rfl rfl rfl .h rfl (.move rfl rfl ?_)))))))))))))
          refine GO.call2 rfl rfl rfl (hh) (Tks.c (Tk.t Tk.h) (Tks.c (Tk.t (Tk.t (Tk.t (Tk.t (Tk.t Tk.h))))) Tks.n)) ?_
          rintro _ _ ⟨rfl, rfl⟩
          (refine .move rfl rfl (.extract rfl rfl rfl (.extract rfl rfl rfl (.assign rfl rfl (.assign rfl rfl (.nil (kthen_n (.seq (.region (.move rfl rfl (.move rfl rfl (.gF rfl rfl rfl rfl (.gF rfl rfl rfl rfl (.gF rfl rfl rfl rfl (.gU rfl rfl rfl (.gU rfl rfl rfl ?_))))))))))))))); refine .gU rfl rfl rfl (.gF rfl rfl rfl rfl (.pickF rfl rfl rfl (.nil (kthen_n (.condF rfl rfl (.skip (kblock_n (kthen_n (.region (.move rfl rfl (.addi rfl rfl rfl (by omega) (.assign rfl rfl (.nil (kthen_n ?_)))))))))))))))
          refine ⟨i + 1, hlt, by omega, ?_, ImpS.sb ?_⟩
          · exact .c rfl rfl (.c rfl rfl (.c rfl rfl (.c rfl rfl (.c rfl rfl (.c rfl rfl (.c rfl rfl .n))))))
          · exact .c (.t .h) (.c (.t (.t (.t (.t (.t (.t .h)))))) (.c (.t (.t .h)) (.c (.t (.t (.t (.t (.t .h))))) (.c (.t (.t (.t (.t (.t .h))))) (.c (.t (.t .h)) (.c (.t (.t (.t (.t .h)))) (.c (.t (.t (.t (.t .h)))) (.s (.s (.s (.s .r)))))))))))
        · have his : is = wb := by
            rw [Bool.eq_iff_iff]
            exact (hsays rfl).trans hwb.symm
          subst his
          cases is
          · refine .gF rfl rfl rfl rfl (.gF rfl rfl rfl rfl (.gT rfl rfl (by assumption) (.pickF rfl rfl rfl (.pickFa rfl rfl (by assumption) rfl (.nil (kthen_n (.condF rfl rfl (.skip (kthen_n (.seq (.region (.loadW rfl rfl rfl .h rfl (.move rfl rfl ?_)))))))))))))
            refine GO.call2 rfl rfl rfl (hh) (Tks.c (Tk.t Tk.h) (Tks.c (Tk.t (Tk.t (Tk.t (Tk.t (Tk.t Tk.h))))) Tks.n)) ?_
            rintro _ _ ⟨rfl, rfl⟩
            (refine .move rfl rfl (.extract rfl rfl rfl (.extract rfl rfl rfl (.assign rfl rfl (.assign rfl rfl (.nil (kthen_n (.seq (.region (.move rfl rfl (.move rfl rfl (.gT rfl rfl rfl (.move rfl rfl (.gT rfl rfl rfl (.neF rfl rfl rfl rfl (.gT rfl rfl rfl ?_))))))))))))))); refine .move rfl rfl (.gT rfl rfl rfl (.move rfl rfl (.gT rfl rfl rfl (.move rfl rfl (.gT rfl rfl rfl (.neqB rfl rfl rfl (.gT rfl rfl rfl (.pickF rfl rfl rfl (.pickT rfl rfl rfl (.nil (kthen_n (.condF rfl rfl (.skip (kblock_n (kthen_n ?_))))))))))))))); refine .region (.move rfl rfl (.addi rfl rfl rfl (by omega) (.assign rfl rfl (.nil (kthen_n ?_))))))
            refine ⟨i + 1, hlt, by omega, ?_, ImpS.sb ?_⟩
            · exact .c rfl rfl (.c rfl rfl (.c rfl rfl (.c rfl rfl (.c rfl rfl (.c rfl rfl (.c rfl rfl .n))))))
            · exact .c (.t .h) (.c (.t (.t (.t (.t (.t (.t .h)))))) (.c (.t (.t .h)) (.c (.t (.t (.t (.t (.t .h))))) (.c (.t (.t (.t (.t (.t .h))))) (.c (.t (.t .h)) (.c (.t (.t (.t (.t .h)))) (.c (.t (.t (.t (.t .h)))) (.s (.s (.s (.s .r)))))))))))
          · refine .gT rfl rfl rfl (.move rfl rfl (.gT rfl rfl rfl (.not rfl rfl (.gT rfl rfl (by assumption) (.pickT rfl rfl rfl (.pickFa rfl rfl (by assumption) rfl (.nil (kthen_n (.condF rfl rfl (.skip (kthen_n (.seq (.region (.loadW rfl rfl rfl .h rfl (.move rfl rfl ?_)))))))))))))))
            refine GO.call2 rfl rfl rfl (hh) (Tks.c (Tk.t Tk.h) (Tks.c (Tk.t (Tk.t (Tk.t (Tk.t (Tk.t Tk.h))))) Tks.n)) ?_
            rintro _ _ ⟨rfl, rfl⟩
            (refine .move rfl rfl (.extract rfl rfl rfl (.extract rfl rfl rfl (.assign rfl rfl (.assign rfl rfl (.nil (kthen_n (.seq (.region (.move rfl rfl (.move rfl rfl (.gT rfl rfl rfl (.move rfl rfl (.gT rfl rfl rfl (.neF rfl rfl rfl rfl (.gT rfl rfl rfl ?_))))))))))))))); refine .move rfl rfl (.gT rfl rfl rfl (.move rfl rfl (.gT rfl rfl rfl (.move rfl rfl (.gT rfl rfl rfl (.neqB rfl rfl rfl (.gT rfl rfl rfl (.pickF rfl rfl rfl (.pickT rfl rfl rfl (.nil (kthen_n (.condF rfl rfl (.skip (kblock_n (kthen_n ?_))))))))))))))); refine .region (.move rfl rfl (.addi rfl rfl rfl (by omega) (.assign rfl rfl (.nil (kthen_n ?_))))))
            refine ⟨i + 1, hlt, by omega, ?_, ImpS.sb ?_⟩
            · exact .c rfl rfl (.c rfl rfl (.c rfl rfl (.c rfl rfl (.c rfl rfl (.c rfl rfl (.c rfl rfl .n))))))
            · exact .c (.t .h) (.c (.t (.t (.t (.t (.t (.t .h)))))) (.c (.t (.t .h)) (.c (.t (.t (.t (.t (.t .h))))) (.c (.t (.t (.t (.t (.t .h))))) (.c (.t (.t .h)) (.c (.t (.t (.t (.t .h)))) (.c (.t (.t (.t (.t .h)))) (.s (.s (.s (.s .r)))))))))))
      · have d1 : decide ((i : Int) < (ns.length : Int)) = false := decide_eq_false (by omega)
        have d3 : decide ((0 : Int) < (ns.length : Int)) = true := decide_eq_true (by omega)
        refine .condF rfl (by assumption) (.exit (kthen_x (kthen_x (kblock_x (kthen_n (.seq (.region (.move rfl rfl (.lenS rfl rfl (.gti rfl rfl rfl (.move rfl rfl (.gT rfl rfl (by assumption) ?_))))))))))))
        refine GO.call0 rfl (hbx) Tks.n ?_
        rintro _ _ ⟨rfl, rfl⟩
        refine .pickTa rfl rfl (by assumption) rfl (.assign rfl rfl (.nil (kthen_n (.ret ?_))))
        refine KF2.r1 rfl (RV.t rfl) ⟨rfl, rfl⟩ (ImpS.sb ?_)
        exact .c (.t (.t (.t (.t (.t (.t (.t .h))))))) (.s (.s (.s (.s (.s (.s (.s .r)))))))
  · have c1 : decide ((er : Int) ≠ 0) = true := decide_eq_true (by omega)
    (refine .move rfl rfl (.extract rfl rfl rfl (.extract rfl rfl rfl (.extract rfl rfl rfl (.assign rfl rfl (.assign rfl rfl (.assign rfl rfl (.nil (kthen_n (.seq (.seq (.region (.move rfl rfl (.nei rfl rfl rfl (.move rfl rfl (.gF rfl rfl rfl (by assumption) ?_))))))))))))))); refine .gF rfl rfl rfl (by assumption) (.gF rfl rfl rfl (by assumption) (.pickTa rfl rfl (by assumption) rfl (.nil (kthen_n (.condT rfl rfl (.seq (.region ?_))))))))
    refine GO.call0 rfl (hbx) Tks.n ?_
    rintro _ _ ⟨rfl, rfl⟩
    refine .assign rfl rfl (.nil (kthen_n (.ret (kthen_r ?_))))
    refine KF2.r1 rfl (RV.t rfl) ⟨rfl, rfl⟩ (ImpS.sb ?_)
    exact .c (.t .h) (.s .r)
end Go.Proofs.YtbconcohpfkncaaGreat
namespace Go.Proofs.YtbconcohpfkncaaGreat
open Go Go.ChangeShapes Go.WideShapes Go.ChangeAt Go.RowKit Go.Deep
theorem ownGo : ownKnob Tryz.prog.godebug = none := by kernel_rfl
theorem laidOut : laidOutB Tryz.prog = true := by kernel_rfl
/-- A contract over all of the memory that was there, as the row wants it. -/
theorem Fn.calls {P : Program} {f : FuncId} {args : Array Value} {w : World} (h : Fn P f args [init w] (fun v Q => v = .bool true ∧ Q = [init w])) :
    Calls P f args w fun e w' => e = .returned (.bool true) ∧ Below w.heap.size w w' := by
  refine (callsIn_wide (n := 0)).1 ((h [] w (sat_init w)).mono ?_)
  rintro e w' ⟨v, Q, rfl, hs, ⟨rfl, rfl⟩, hq⟩
  exact ⟨rfl, init_below hs hq⟩
section
variable {H : Type} {enc : TypeId × Value → H} {w : World} {base : Nat} {spare : Nat → Bool} {held : Bool}
theorem open_strs {fuel : Nat} {v : Value} {x : DataW H × List MemPlace} (h : DataW.trod enc Tryz.prog w base spare held fuel 22 [v] = some x) : ∃ l : List (List UInt8), Sl (init w) v l.length 1 (strsV l) := by
  rcases open_slice1 Tryz.underlying22 (by kernel_rfl) h with ⟨hc, _⟩ | ⟨a, len, cap, m, n, V, D, Pl, hc, _, hl, _, hmm, _, hi⟩
  · simp only [List.cons.injEq, and_true] at hc
    subst hc
    exact ⟨[], none, 0, rfl, rfl, fun h => by simp at h⟩
  · simp only [List.cons.injEq, and_true] at hc
    subst hc
    have key : ∀ i, ∃ y : List UInt8, i < len → w.cell? (a.add i) = some (str y) := by
      intro i
      by_cases hil : i < len
      · obtain ⟨h1, h2⟩ := hi i (by rw [hmm]; split <;> omega)
        obtain ⟨s, hs, _⟩ := DataW.trod_string Tryz.underlying9 h2
        simp only [List.cons.injEq, and_true] at hs
        refine ⟨s.data.toList, fun _ => ?_⟩
        rw [h1, hs]
      · exact ⟨[], fun h => absurd h hil⟩
    obtain ⟨f, hf⟩ := Classical.axiomOfChoice key
    have hlen : ((List.range len).map f).length = len := by simp
    refine ⟨(List.range len).map f, some a, cap, by rw [hlen], by unfold strsV; simp, fun hpos => ?_⟩
    rw [hlen] at hpos
    obtain ⟨b, o, sp⟩ := a
    have hsp : sp = none := by
      have := hf 0 hpos
      simpa [Addr.add] using World.cell?_spot this
    subst hsp
    refine ⟨b, o, rfl, fun j u hj => ?_⟩
    have hjl : j < len := by
      have := (List.getElem?_eq_some_iff.1 hj).1
      unfold strsV at this
      rw [List.length_map, hlen] at this; exact this
    have hc := hf j hjl
    rw [add_plain] at hc
    unfold strsV at hj
    rw [List.getElem?_map, List.getElem?_map, List.getElem?_range hjl] at hj
    cases hj
    exact Rd.init hc
end
end Go.Proofs.YtbconcohpfkncaaGreat
