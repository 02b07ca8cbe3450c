/-
  The engine's Has, Begins.
-/
import Derived.Test.YtjokibfldngkeaaDG
namespace Go.Proofs.Ytjokibfldngkeaa
open Go
/-- The numbers below n for which f holds. -/
def natL (f : Nat → Bool) : Nat → List Int
  | 0 => []
  | n + 1 => if f n then natL f n ++ [(n : Int)] else natL f n
theorem natL_len (f : Nat → Bool) : ∀ n, (natL f n).length ≤ n
  | 0 => Nat.le_refl _
  | n + 1 => by
    have := natL_len f n
    unfold natL; split
    · rw [List.length_append]; simp; omega
    · omega
theorem wordV_snoc (l : List Int) (x : Int) : wordV (l ++ [x]) = wordV l ++ [i64 x] := by simp [wordV]
theorem wordV_len (l : List Int) : (wordV l).length = l.length := by simp [wordV]
theorem wordV_nil : wordV [] = [] := rfl
theorem natL_succ (f : Nat → Bool) (n : Nat) : natL f (n + 1) = if f n then natL f n ++ [(n : Int)] else natL f n := rfl
theorem own_nat0 (T : TypeId) (f : Nat → Bool) (u : Value) : own T 1 (natL f 0).length u (wordV (natL f 0)) = own T 1 0 u [] := rfl
theorem own_nil0 (T : TypeId) (u : Value) : own T 1 ([] : List Int).length u (wordV []) = own T 1 0 u [] := rfl
attribute [local irreducible] G GO GR GT Fn FnV pt init exs pur sat own ImpS f3sV numF mapO addF wordV symsV natL
set_option maxHeartbeats 4000000 in
theorem phas_spec (q : HP) (v : Value) (C : CnfD) (hv : CnfR q v C) (hz : Fits C) (nt : Int) (w : List Int) (wv : Value) (hw : WordR q wv w) (D : Int → Nat → Nat → Bool) (hD : ∀ A i j, D A i j = true ↔ Der C w A i j) :
    Fn Try.prog 9 #[v, i64 nt, wv] [q] (fun r Q => r = (if askE C nt w.length = 0 then .tuple #[.bool (D nt 0 w.length), i64 0] else .tuple #[.bool false, i64 (askE C nt w.length)]) ∧ Q = [q]) := by
  have ha := asked_spec q v C hv hz nt w wv hw
  obtain ⟨pv, rfl, hp⟩ := hv
  have htab := tabled_spec q C w pv wv hp hw
  obtain ⟨ap, cp, rfl⟩ := hp.form
  obtain ⟨aw, cw, rfl⟩ := hw.form
  by_cases he : askE C nt w.length = 0
  · obtain ⟨hok, _, _, _, hl⟩ := askE_zero he
    replace htab := htab hok hz hl
    rw [if_pos he]
    rw [he] at ha
    refine Fn.mk2 Try.func9 rfl rfl fun w0 F => ?_
    (refine G.seq ?_; refine G.region ?_; refine GO.box rfl rfl rfl fun b3 => ?_; refine GO.assign rfl rfl ?_; refine GO.assign rfl rfl ?_; refine GO.nil ?_; refine kthen_n ?_; refine G.seq ?_; refine G.seq ?_; refine G.region ?_; refine GO.loadW rfl rfl rfl Tk.h rfl ?_; refine GO.move rfl rfl ?_; refine GO.move rfl rfl ?_)
    refine GO.call3 rfl rfl rfl rfl (ha) (Tks.c (Tk.t Tk.h) Tks.n) ?_
    rintro _ _ ⟨rfl, rfl⟩
    (refine GO.assign rfl rfl ?_; refine GO.nil ?_; refine kthen_n ?_; refine G.seq ?_; refine G.region ?_; refine GO.move rfl rfl ?_; refine GO.neF rfl rfl rfl rfl ?_; refine GO.nil ?_; refine kthen_n ?_; refine G.condF rfl rfl ?_; refine G.skip ?_; refine kthen_n ?_; refine G.seq ?_; refine G.region ?_; refine GO.loadW rfl rfl rfl (Tk.t Tk.h) rfl ?_; refine GO.move rfl rfl ?_)
    refine GO.call2 rfl rfl rfl (htab) (Tks.c Tk.h Tks.n) ?_
    rintro _ _ ⟨bt, bm, rv, fs, rfl, hder, rfl⟩
    have hb : decide (factV nt 0 w.length ∈ fs) = D nt 0 w.length := by
      rw [Bool.eq_iff_iff, decide_eq_true_iff, hder, hD]
    (refine GO.move rfl rfl ?_; refine GO.move rfl rfl ?_; refine GO.lenS rfl rfl ?_; refine GO.build3 rfl rfl rfl rfl rfl ?_)
    refine GO.call2 rfl rfl rfl (has_spec bt C.nts (.slice ap C.prods.length cp) (.slice aw w.length cw) bm rv fs (factV nt 0 w.length)) (Tks.c Tk.h (Tks.c Tk.h (Tks.c Tk.h Tks.n))) ?_
    rintro _ _ ⟨rfl, rfl⟩
    rw [hb]
    (refine GO.assign rfl rfl ?_; refine GO.assign rfl rfl ?_; refine GO.nil ?_; refine kthen_n ?_; refine G.ret ?_)
    refine KF2.r2 rfl (RV.t rfl) (RV.t rfl) ⟨rfl, rfl⟩ (ImpS.sb ?_)
    ((refine Sb.c (Tk.t (Tk.t (Tk.t Tk.h))) ?_); (refine Sb.s ?_; refine Sb.s ?_; refine Sb.s ?_; refine Sb.s ?_; exact Sb.r))
  · rw [if_neg he]
    have de : decide (askE C nt w.length ≠ 0) = true := decide_eq_true he
    generalize askE C nt w.length = e at *
    refine Fn.mk2 Try.func9 rfl rfl fun w0 F => ?_
    (refine G.seq ?_; refine G.region ?_; refine GO.box rfl rfl rfl fun b3 => ?_; refine GO.assign rfl rfl ?_; refine GO.assign rfl rfl ?_; refine GO.nil ?_; refine kthen_n ?_; refine G.seq ?_; refine G.seq ?_; refine G.region ?_; refine GO.loadW rfl rfl rfl Tk.h rfl ?_; refine GO.move rfl rfl ?_; refine GO.move rfl rfl ?_)
    refine GO.call3 rfl rfl rfl rfl (ha) (Tks.c (Tk.t Tk.h) Tks.n) ?_
    rintro _ _ ⟨rfl, rfl⟩
    (refine GO.assign rfl rfl ?_; refine GO.nil ?_; refine kthen_n ?_; refine G.seq ?_; refine G.region ?_; refine GO.move rfl rfl ?_; refine GO.nei rfl rfl rfl ?_; refine GO.nil ?_; refine kthen_n ?_; refine G.condT rfl (by assumption) ?_; refine G.seq ?_; refine G.region ?_; refine GO.move rfl rfl ?_; refine GO.assign rfl rfl ?_; refine GO.assign rfl rfl ?_; refine GO.nil ?_; refine kthen_n ?_; refine G.ret ?_; refine kthen_r ?_)
    refine KF2.r2 rfl (RV.t rfl) (RV.t rfl) ⟨rfl, rfl⟩ (ImpS.sb ?_)
    ((refine Sb.c Tk.h ?_); (refine Sb.s ?_; exact Sb.r))
set_option maxHeartbeats 8000000 in
theorem pbegins_spec (q : HP) (v : Value) (C : CnfD) (hv : CnfR q v C) (hz : Fits C) (nt : Int) (w : List Int) (wv : Value) (hw : WordR q wv w) (D : Int → Nat → Nat → Bool) (hD : ∀ A i j, D A i j = true ↔ Der C w A i j) :
    Fn Try.prog 13 #[v, i64 nt, wv] [q] (fun r Q => ∃ u l, l = (if askE C nt w.length = 0 then natL (fun k => D nt 0 k) (w.length + 1) else []) ∧ r = .tuple #[u, i64 (askE C nt w.length)] ∧ Q = [own 3 1 l.length u (wordV l), q]) := by
  have ha := asked_spec q v C hv hz nt w wv hw
  obtain ⟨pv, rfl, hp⟩ := hv
  have htab := tabled_spec q C w pv wv hp hw
  obtain ⟨ap, cp, rfl⟩ := hp.form
  obtain ⟨aw, cw, rfl⟩ := hw.form
  by_cases he : askE C nt w.length = 0
  · obtain ⟨hok, _, _, _, hl⟩ := askE_zero he
    replace htab := htab hok hz hl
    rw [if_pos he, he]
    rw [he] at ha
    refine Fn.mk2 Try.func13 rfl rfl fun w0 F => ?_
    (refine G.seq ?_; refine G.region ?_; refine GO.box rfl rfl rfl fun b3 => ?_; refine GO.assign rfl rfl ?_; refine GO.assign rfl rfl ?_; refine GO.nil ?_; refine kthen_n ?_; refine G.seq ?_; refine G.seq ?_; refine G.region ?_; refine GO.loadW rfl rfl rfl Tk.h rfl ?_; refine GO.move rfl rfl ?_; refine GO.move rfl rfl ?_)
    refine GO.call3 rfl rfl rfl rfl (ha) (Tks.c (Tk.t Tk.h) Tks.n) ?_
    rintro _ _ ⟨rfl, rfl⟩
    (refine GO.assign rfl rfl ?_; refine GO.nil ?_; refine kthen_n ?_; refine G.seq ?_; refine G.region ?_; refine GO.move rfl rfl ?_; refine GO.neF rfl rfl rfl rfl ?_; refine GO.nil ?_; refine kthen_n ?_; refine G.condF rfl rfl ?_; refine G.skip ?_; refine kthen_n ?_; refine G.seq ?_; refine G.region ?_; refine GO.loadW rfl rfl rfl (Tk.t Tk.h) rfl ?_; refine GO.move rfl rfl ?_)
    refine GO.call2 rfl rfl rfl (htab) (Tks.c Tk.h Tks.n) ?_
    rintro _ _ ⟨bt, bm, rv, fs, rfl, hder, rfl⟩
    have hb : ∀ k, decide (factV nt 0 k ∈ fs) = D nt 0 k := fun k => by
      rw [Bool.eq_iff_iff, decide_eq_true_iff, hder, hD]
    (refine GO.assign rfl rfl ?_; refine GO.nil ?_; refine kthen_n ?_; refine G.seq ?_; refine G.region ?_; refine GO.assign rfl rfl ?_; refine GO.nil ?_; refine kthen_n ?_; refine G.seq ?_; refine G.seq ?_; refine G.region ?_; refine GO.move rfl rfl ?_; refine GO.lenS rfl rfl ?_; refine GO.addi rfl rfl rfl (by omega) ?_; refine GO.move rfl rfl ?_; refine GO.nil ?_; refine kthen_n ?_; refine G.block ?_)
    refine G.ownNil (T := 3) (sz := 1) ?_
    refine G.loop2 (fun (k : Nat) (u : Value) => [(1, i64 nt), (9, ptrT bt), (10, u), (24, .int .i64 ((w.length : Int) + 1)), (25, i64 (k : Nat))])
      (fun k u => own 3 1 (natL (fun k => D nt 0 k) k).length u (wordV (natL (fun k => D nt 0 k) k)) :: tabH bt C.nts (.slice ap C.prods.length cp) (.slice aw w.length cw) bm rv :: pt bm (mapO (numF 0 fs)) :: own 62 3 fs.length rv (f3sV fs) :: q :: F)
      (fun k _ => k ≤ w.length + 1) (fun k _ => w.length + 1 - k) 0 (.slice none 0 0) (Nat.zero_le _) ?_ ?_ ?_
    · (refine SubE.c rfl rfl ?_; refine SubE.c rfl rfl ?_; refine SubE.c rfl rfl ?_; refine SubE.c rfl rfl ?_; refine SubE.c rfl rfl ?_; exact SubE.n)
    · rw [own_nat0]
      ((refine Sb.c Tk.h ?_; refine Sb.c Tk.h ?_; refine Sb.c Tk.h ?_; refine Sb.c Tk.h ?_; refine Sb.c Tk.h ?_); (refine Sb.s ?_; exact Sb.r))
    · rintro k u hk
      (refine G.seq ?_; refine G.region ?_; refine GO.lti rfl rfl rfl ?_; refine GO.nil ?_; refine kthen_n ?_; refine G.seq ?_)
      refine G.condD rfl (fun hlt => ?_) (fun hge => ?_)
      · (refine G.skip ?_; refine kthen_n ?_; refine G.seq ?_; refine G.block ?_; refine G.seq ?_; refine G.region ?_; refine GO.move rfl rfl ?_; refine GO.assign rfl rfl ?_; refine GO.nil ?_; refine kthen_n ?_; refine G.seq ?_; refine G.region ?_; refine GO.move rfl rfl ?_; refine GO.move rfl rfl ?_; refine GO.move rfl rfl ?_; refine GO.build3 rfl rfl rfl rfl rfl ?_)
        refine GO.call2 rfl rfl rfl (has_spec bt C.nts (.slice ap C.prods.length cp) (.slice aw w.length cw) bm rv fs (factV nt 0 k)) (Tks.c (Tk.t Tk.h) (Tks.c (Tk.t Tk.h) (Tks.c (Tk.t Tk.h) Tks.n))) ?_
        rintro _ _ ⟨rfl, rfl⟩
        rw [hb]
        have hlen := natL_len (fun k => D nt 0 k) k
        have hstep : natL (fun k => D nt 0 k) (k + 1) = if D nt 0 k then natL (fun k => D nt 0 k) k ++ [(k : Int)] else natL (fun k => D nt 0 k) k := natL_succ _ k
        cases hd : D nt 0 k with
        | true =>
          rw [hd, if_pos rfl] at hstep
          (refine GO.nil ?_; refine kthen_n ?_; refine G.condT rfl rfl ?_; refine G.region ?_; refine GO.move rfl rfl ?_; refine GO.move rfl rfl ?_)
          refine GO.buildSlice1 rfl rfl (by simp; rfl) rfl ⟨by omega, by omega⟩ fun bs => ?_
          refine GO.appendOwn (m := 1) (news := [i64 (k : Nat)]) rfl rfl rfl (Tk.t (Tk.t (Tk.t (Tk.t Tk.h)))) Tk.h rfl (by simp [Value.oneCell']) ⟨by decide, rfl⟩ Nat.one_pos (by unfold maxLen; omega) (by omega) fun v4 => ?_
          rw [← wordV_snoc, show (natL (fun k => D nt 0 k) k).length + 1 = (natL (fun k => D nt 0 k) k ++ [(k : Int)]).length by rw [List.length_append]; rfl, ← hstep]
          (refine GO.assign rfl rfl ?_; refine GO.nil ?_; refine kblock_n ?_; refine kthen_n ?_; refine G.region ?_; refine GO.addi rfl rfl rfl (by omega) ?_; refine GO.move rfl rfl ?_; refine GO.nil ?_; refine kthen_n ?_)
          refine ⟨k + 1, v4, by omega, by omega, ?_, ?_⟩
          · (refine SubE.c rfl rfl ?_; refine SubE.c rfl rfl ?_; refine SubE.c rfl rfl ?_; refine SubE.c rfl rfl ?_; refine SubE.c rfl rfl ?_; exact SubE.n)
          · ((refine Sb.c Tk.h ?_; refine Sb.c (Tk.t Tk.h) ?_; refine Sb.c (Tk.t Tk.h) ?_; refine Sb.c (Tk.t Tk.h) ?_; refine Sb.c (Tk.t Tk.h) ?_); (refine Sb.s ?_; exact Sb.r))
        | false =>
          rw [hd, if_neg (by simp)] at hstep
          rw [← hstep]
          (refine GO.nil ?_; refine kthen_n ?_; refine G.condF rfl rfl ?_; refine G.skip ?_; refine kblock_n ?_; refine kthen_n ?_; refine G.region ?_; refine GO.addi rfl rfl rfl (by omega) ?_; refine GO.move rfl rfl ?_; refine GO.nil ?_; refine kthen_n ?_)
          refine ⟨k + 1, u, by omega, by omega, ?_, ?_⟩
          · (refine SubE.c rfl rfl ?_; refine SubE.c rfl rfl ?_; refine SubE.c rfl rfl ?_; refine SubE.c rfl rfl ?_; refine SubE.c rfl rfl ?_; exact SubE.n)
          · ((refine Sb.c (Tk.t (Tk.t (Tk.t Tk.h))) ?_; refine Sb.c Tk.h ?_; refine Sb.c Tk.h ?_; refine Sb.c Tk.h ?_; refine Sb.c Tk.h ?_); (exact Sb.r))
      · have : k = w.length + 1 := by omega
        subst this
        (refine G.exit ?_; refine kthen_x ?_; refine kthen_x ?_; refine kblock_x ?_; refine kthen_n ?_; refine G.seq ?_; refine G.region ?_; refine GO.move rfl rfl ?_; refine GO.assign rfl rfl ?_; refine GO.assign rfl rfl ?_; refine GO.nil ?_; refine kthen_n ?_; refine G.ret ?_)
        refine KF2.r2 rfl (RV.t rfl) (RV.t rfl) ⟨_, _, rfl, rfl, rfl⟩ (ImpS.sb ?_)
        ((refine Sb.c Tk.h ?_; refine Sb.c (Tk.t (Tk.t (Tk.t Tk.h))) ?_); (refine Sb.s ?_; refine Sb.s ?_; refine Sb.s ?_; exact Sb.r))
  · rw [if_neg he]
    have de : decide (askE C nt w.length ≠ 0) = true := decide_eq_true he
    generalize askE C nt w.length = e at *
    refine Fn.mk2 Try.func13 rfl rfl fun w0 F => ?_
    (refine G.seq ?_; refine G.region ?_; refine GO.box rfl rfl rfl fun b3 => ?_; refine GO.assign rfl rfl ?_; refine GO.assign rfl rfl ?_; refine GO.nil ?_; refine kthen_n ?_; refine G.seq ?_; refine G.seq ?_; refine G.region ?_; refine GO.loadW rfl rfl rfl Tk.h rfl ?_; refine GO.move rfl rfl ?_; refine GO.move rfl rfl ?_)
    refine GO.call3 rfl rfl rfl rfl (ha) (Tks.c (Tk.t Tk.h) Tks.n) ?_
    rintro _ _ ⟨rfl, rfl⟩
    refine GO.ownNil (T := 3) (sz := 1) ?_
    (refine GO.assign rfl rfl ?_; refine GO.nil ?_; refine kthen_n ?_; refine G.seq ?_; refine G.region ?_; refine GO.move rfl rfl ?_; refine GO.nei rfl rfl rfl ?_; refine GO.nil ?_; refine kthen_n ?_; refine G.condT rfl (by assumption) ?_; refine G.seq ?_; refine G.region ?_; refine GO.move rfl rfl ?_; refine GO.assign rfl rfl ?_; refine GO.assign rfl rfl ?_; refine GO.nil ?_; refine kthen_n ?_; refine G.ret ?_; refine kthen_r ?_)
    refine KF2.r2 (Q := [own 3 1 0 (.slice none 0 0) [], q]) rfl (RV.t rfl) (RV.t rfl) ⟨.slice none 0 0, [], rfl, rfl, by rw [own_nil0]⟩ (ImpS.sb ?_)
    ((refine Sb.c Tk.h ?_; refine Sb.c Tk.h ?_); (refine Sb.s ?_; exact Sb.r))
end Go.Proofs.Ytjokibfldngkeaa
