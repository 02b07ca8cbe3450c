/-
  The laws' own small grammar: head. The law DeriveHas.
-/
import Derived.Test.YtjokibfldngkeaaDL
import Derived.Test.YtjokibfldngkeaaLB
namespace Go.Proofs.Ytjokibfldngkeaa
open Go
abbrev smallC : CnfD := ⟨1, [(0, [(true, 2)])]⟩
theorem smallC_fits : Fits smallC := by
  refine ⟨by decide, fun p hp => ?_⟩
  simp at hp; subst hp; decide
theorem smallC_at (b7 b9 : Nat) : CnfR (star [pt b9 (row [i64 0, .slice (some ⟨b7, 0, none⟩) 1 1] 52), pt b7 (row [.bool true, i64 2] 54)]) (.agg [i64 1, .slice (some ⟨b9, 0, none⟩) 1 1].toArray) smallC := by
  refine ⟨_, rfl, [i64 0, .slice (some ⟨b7, 0, none⟩) 1 1], ⟨_, _, rfl, rfl, fun _ => ⟨b9, 0, rfl, fun j u hj => ?_⟩⟩, fun k p hk => ?_⟩
  · rw [Nat.zero_add]
    exact Sup.left _ _ _ _ (Rd.row hj)
  · match k, hk with
    | 0, hk =>
      simp at hk
      subst hk
      refine ⟨_, rfl, rfl, _, _, rfl, rfl, fun _ => ⟨b7, 0, rfl, fun j u hj => ?_⟩⟩
      rw [Nat.zero_add]
      exact Sup.right _ _ _ _ (Rd.row hj)
    | k + 1, hk => simp at hk
theorem small_yes : Der smallC [2] 0 0 1 := .one (s := (true, 2)) (by simp) rfl
theorem small_no (A : Int) (i j : Nat) : ¬ Der smallC [1] A i j := by
  intro h
  induction h with
  | none h _ => simp at h
  | one h hi =>
    simp only [List.mem_cons, Prod.mk.injEq, List.cons.injEq, and_true, List.not_mem_nil, or_false] at h
    obtain ⟨rfl, rfl⟩ := h
    rename_i i
    match i with
    | 0 => simp at hi
    | i + 1 => simp at hi
  | two h _ _ => simp at h
theorem word_one (b : Nat) (x : Int) : WordR (pt b (row [i64 x] 3)) (.slice (some ⟨b, 0, none⟩) 1 1) [x] :=
  ⟨some ⟨b, 0, none⟩, 1, rfl, rfl, fun _ => ⟨b, 0, rfl, fun j u hj => by rw [Nat.zero_add]; exact Rd.row hj⟩⟩
theorem der_ex (C : CnfD) (w : List Int) : ∃ D : Int → Nat → Nat → Bool, ∀ A i j, D A i j = true ↔ Der C w A i j :=
  ⟨fun A i j => @decide _ (Classical.propDecidable (Der C w A i j)), fun A i j => @decide_eq_true_iff _ (Classical.propDecidable _)⟩
attribute [local irreducible] G GO GR GT Fn FnV pt init exs pur sat own ImpS symsV wordV atN cntF natL
theorem small_has (q : HP) (v : Value) (hv : CnfR q v smallC) (x : Int) (wv : Value) (hw : WordR q wv [x]) (r : Bool) (hr : r = true ↔ Der smallC [x] 0 0 1) :
    Fn Try.prog 9 #[v, i64 0, wv] [q] (fun z Q => z = .tuple #[.bool r, i64 0] ∧ Q = [q]) := by
  obtain ⟨D, hD⟩ := der_ex smallC [x]
  have h := phas_spec q v smallC hv smallC_fits 0 [x] wv hw D hD
  have e : D 0 0 1 = r := by rw [Bool.eq_iff_iff, hD, hr]
  have e0 : askE smallC 0 1 = 0 := by decide
  rw [show [x].length = 1 from rfl, e0, if_pos rfl, e] at h
  exact h
set_option maxHeartbeats 4000000 in
theorem dhead_spec : Fn Try.prog 12 #[] [] (fun r Q => r = .bool true ∧ Q = []) := by
  refine Fn.mk2 Try.func12 rfl rfl fun w0 F => ?_
  (refine G.seq ?_; refine G.region ?_; refine GO.assign rfl rfl ?_; refine GO.nil ?_; refine kthen_n ?_; refine G.seq ?_; refine G.region ?_; refine GO.build2 rfl rfl rfl rfl ?_)
  refine GO.buildSlice1 rfl rfl (by simp; rfl) rfl ⟨by omega, by omega⟩ fun b7 => ?_
  (refine GO.build2 rfl rfl rfl rfl ?_)
  refine GO.buildSlice1 rfl rfl (by simp; rfl) rfl ⟨by omega, by omega⟩ fun b9 => ?_
  (refine GO.build2 rfl rfl rfl rfl ?_; refine GO.alloc rfl fun b1 => ?_)
  refine GO.storeW (vs := [i64 1, .slice (some ⟨b9, 0, none⟩) 1 1]) rfl rfl Tk.h ⟨rfl, rfl⟩ (by simp [Value.oneCell']) ?_
  refine GO.merge (x := pt b9 (row [i64 0, .slice (some ⟨b7, 0, none⟩) 1 1] 52)) (y := pt b7 (row [.bool true, i64 2] 54)) (Tks.c (Tk.t Tk.h) (Tks.c (Tk.t Tk.h) Tks.n)) ?_
  have hq := smallC_at b7 b9
  generalize star [pt b9 (row [i64 0, .slice (some ⟨b7, 0, none⟩) 1 1] 52), pt b7 (row [.bool true, i64 2] 54)] = q at hq ⊢
  (refine GO.nil ?_; refine kthen_n ?_; refine G.seq ?_; refine G.region ?_; refine GO.loadW rfl rfl rfl (Tk.t Tk.h) rfl ?_)
  refine GO.buildSlice1 rfl rfl (by simp; rfl) rfl ⟨by omega, by omega⟩ fun b13 => ?_
  refine GO.merge (x := pt b13 (row [i64 2] 3)) (y := q) (Tks.c Tk.h (Tks.c Tk.h Tks.n)) ?_
  have hw1 := (word_one b13 2).sup (Sup.left _ q)
  replace hq := hq.sup (Sup.right (pt b13 (row [i64 2] 3)) q)
  generalize star [pt b13 (row [i64 2] 3), q] = q at hq hw1 ⊢
  skip
  refine GO.call3 rfl rfl rfl rfl (small_has q _ hq 2 _ hw1 true (iff_of_true rfl small_yes)) (Tks.c Tk.h Tks.n) ?_
  rintro _ _ ⟨rfl, rfl⟩
  (refine GO.move rfl rfl ?_; refine GO.extract rfl rfl rfl ?_; refine GO.extract rfl rfl rfl ?_; refine GO.assign rfl rfl ?_; refine GO.assign rfl rfl ?_; refine GO.nil ?_; refine kthen_n ?_; refine G.seq ?_; refine G.region ?_; refine GO.loadW rfl rfl rfl (Tk.t Tk.h) rfl ?_)
  refine GO.buildSlice1 rfl rfl (by simp; rfl) rfl ⟨by omega, by omega⟩ fun b19 => ?_
  refine GO.merge (x := pt b19 (row [i64 1] 3)) (y := q) (Tks.c Tk.h (Tks.c Tk.h Tks.n)) ?_
  have hw2 := (word_one b19 1).sup (Sup.left _ q)
  replace hq := hq.sup (Sup.right (pt b19 (row [i64 1] 3)) q)
  generalize star [pt b19 (row [i64 1] 3), q] = q at hq hw2 ⊢
  skip
  refine GO.call3 rfl rfl rfl rfl (small_has q _ hq 1 _ hw2 false (iff_of_false (by simp) (small_no 0 0 1))) (Tks.c Tk.h Tks.n) ?_
  rintro _ _ ⟨rfl, rfl⟩
  (refine GO.move rfl rfl ?_; refine GO.extract rfl rfl rfl ?_; refine GO.extract rfl rfl rfl ?_; refine GO.assign rfl rfl ?_; refine GO.assign rfl rfl ?_; refine GO.nil ?_; refine kthen_n ?_; refine G.seq ?_; refine G.region ?_; refine GO.move rfl rfl ?_; refine GO.move rfl rfl ?_; refine GO.gT rfl rfl rfl ?_; refine GO.move rfl rfl ?_; refine GO.gT rfl rfl rfl ?_; refine GO.eqT rfl rfl rfl rfl ?_; refine GO.pickT rfl rfl rfl ?_; refine GO.move rfl rfl ?_; refine GO.gT rfl rfl rfl ?_; refine GO.move rfl rfl ?_; refine GO.gT rfl rfl rfl ?_; refine GO.not rfl rfl ?_; refine GO.pickT rfl rfl rfl ?_; refine GO.move rfl rfl ?_; refine GO.gT rfl rfl rfl ?_; refine GO.move rfl rfl ?_; refine GO.gT rfl rfl rfl ?_; refine GO.eqT rfl rfl rfl rfl ?_; refine GO.pickT rfl rfl rfl ?_; refine GO.assign rfl rfl ?_; refine GO.nil ?_; refine kthen_n ?_; refine G.ret ?_)
  refine KF2.r1 rfl (RV.t rfl) ⟨rfl, rfl⟩ (ImpS.sb ?_)
  (skip; (refine Sb.s ?_; refine Sb.s ?_; exact Sb.r))
theorem GO.unmerge {P : Program} {c : Cx} {A : Array Oper} {os : List Oper} {K : Kont} {L : Env} {x y : HP} {T : List HP} (k : GO P c A os K L (x :: y :: T)) : GO P c A os K L (star [x, y] :: T) :=
  GO.imp (H' := x :: y :: T) (fun l w s => (sat_flat.1 s : sat ([x, y] ++ (T ++ l)) w)) k
theorem dhas_law (q : HP) (v wv : Value) (C : CnfD) (nt : Int) (w : List Int) (hv : CnfR q v C) (hz : Fits C) (hw : WordR q wv w) :
    Fn Try.prog 3 #[v, i64 nt, wv] [q] (fun r Q => r = .bool true ∧ Q = [q]) := by
  obtain ⟨D, hD⟩ := der_ex C w
  have form : ∀ (b : Bool) (e : Int), (if e = 0 then Value.tuple #[.bool b, i64 0] else .tuple #[.bool false, i64 e]) = .tuple #[.bool (if e = 0 then b else false), i64 e] := fun b e => by
    by_cases h : e = 0
    · rw [if_pos h, if_pos h, h]
    · rw [if_neg h, if_neg h]
  have hcopy := copy_spec q v C hv hz
  have href := rdhas_spec q v C hv hz nt w wv hw D hD
  have heng := fun (z : HP) (c : Value) (hc : CnfR z c C) (hw' : WordR z wv w) => phas_spec z c C hc hz nt w wv hw' D hD
  simp only [form] at href heng
  generalize (if askE C nt w.length = 0 then D nt 0 w.length else false) = b at href heng
  generalize askE C nt w.length = e at href heng
  obtain ⟨pv, rfl, hp⟩ := hv
  obtain ⟨ap, cp, rfl⟩ := hp.form
  obtain ⟨aw, cw, rfl⟩ := hw.form
  have de : decide (e = e) = true := decide_eq_true rfl
  refine Fn.mk2 Try.func3 rfl rfl fun w0 F => ?_
  (refine G.seq ?_; refine G.region ?_; refine GO.box rfl rfl rfl fun b3 => ?_; refine GO.assign rfl rfl ?_; refine GO.nil ?_; refine kthen_n ?_; refine G.seq ?_; refine G.region ?_; refine GO.loadW rfl rfl rfl Tk.h rfl ?_)
  refine GO.call1 rfl rfl (hcopy) (Tks.c (Tk.t Tk.h) Tks.n) ?_
  rintro c _ ⟨z, hz1, rfl⟩
  refine GO.merge (x := z) (y := q) (Tks.c Tk.h (Tks.c Tk.h Tks.n)) ?_
  have heng := heng (star [z, q]) c (hz1.sup (Sup.left z q)) (hw.sup (Sup.right z q))
  (refine GO.move rfl rfl ?_; refine GO.move rfl rfl ?_)
  refine GO.call3 rfl rfl rfl rfl (heng) (Tks.c Tk.h Tks.n) ?_
  rintro _ _ ⟨rfl, rfl⟩
  refine GO.unmerge ?_
  (refine GO.move rfl rfl ?_; refine GO.extract rfl rfl rfl ?_; refine GO.extract rfl rfl rfl ?_; refine GO.assign rfl rfl ?_; refine GO.assign rfl rfl ?_; refine GO.nil ?_; refine kthen_n ?_; refine G.seq ?_; refine G.region ?_; refine GO.loadW rfl rfl rfl (Tk.t (Tk.t Tk.h)) rfl ?_; refine GO.move rfl rfl ?_; refine GO.move rfl rfl ?_)
  refine GO.call3 rfl rfl rfl rfl (href) (Tks.c (Tk.t Tk.h) Tks.n) ?_
  rintro _ _ ⟨rfl, rfl⟩
  (refine GO.move rfl rfl ?_; refine GO.extract rfl rfl rfl ?_; refine GO.extract rfl rfl rfl ?_; refine GO.assign rfl rfl ?_; refine GO.assign rfl rfl ?_; refine GO.nil ?_; refine kthen_n ?_; refine G.seq ?_; refine G.region ?_)
  refine GO.call0 rfl (dhead_spec) Tks.n ?_
  rintro _ _ ⟨rfl, rfl⟩
  (refine GO.move rfl rfl ?_; refine GO.gT rfl rfl rfl ?_; refine GO.move rfl rfl ?_; refine GO.gT rfl rfl rfl ?_; refine GO.move rfl rfl ?_; refine GO.gT rfl rfl rfl ?_; refine GO.eqlT rfl rfl rfl rfl ?_; refine GO.pickT rfl rfl rfl ?_; refine GO.move rfl rfl ?_; refine GO.gT rfl rfl rfl ?_; refine GO.move rfl rfl ?_; refine GO.gT rfl rfl rfl ?_; refine GO.move rfl rfl ?_; refine GO.gT rfl rfl rfl ?_; refine GO.eqT rfl rfl rfl rfl ?_; refine GO.pickT rfl rfl rfl ?_; refine GO.assign rfl rfl ?_; refine GO.nil ?_; refine kthen_n ?_; refine G.ret ?_)
  refine KF2.r1 rfl (RV.t rfl) ⟨rfl, rfl⟩ (ImpS.sb ?_)
  ((refine Sb.c Tk.h ?_); (refine Sb.s ?_; refine Sb.s ?_; exact Sb.r))
end Go.Proofs.Ytjokibfldngkeaa
