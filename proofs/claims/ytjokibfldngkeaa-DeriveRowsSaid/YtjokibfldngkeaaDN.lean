/-
  Who of the engine; the document's Begins and Who; lists held against each other.
-/
import Derived.Test.YtjokibfldngkeaaDM
namespace Go.Proofs.Ytjokibfldngkeaa
open Go
theorem wordV_get {l : List Int} {k : Nat} {x : Int} (h : l[k]? = some x) : (wordV l)[k]? = some (i64 x) := by unfold wordV; rw [List.getElem?_map, h]; rfl
attribute [local irreducible] G GO GR GT Fn FnV pt init exs pur sat own ImpS f3sV numF mapO addF wordV symsV natL atN cntF
set_option maxHeartbeats 8000000 in
theorem pwho_spec (q : HP) (v : Value) (C : CnfD) (hv : CnfR q v C) (hz : Fits C) (w : List Int) (wv : Value) (hw : WordR q wv w) (D : Int → Nat → Nat → Bool) (hD : ∀ A i j, D A i j = true ↔ Der C w A i j) :
    Fn Try.prog 14 #[v, wv] [q] (fun r Q => ∃ u l, l = (if askE C 0 w.length = 0 then natL (fun a => D (a : Int) 0 w.length) C.nts.toNat else []) ∧ r = .tuple #[u, i64 (askE C 0 w.length)] ∧ Q = [own 3 1 l.length u (wordV l), q]) := by
  have ha := asked_spec q v C hv hz 0 w wv hw
  obtain ⟨pv, rfl, hp⟩ := hv
  have htab := tabled_spec q C w pv wv hp hw
  obtain ⟨ap, cp, rfl⟩ := hp.form
  obtain ⟨aw, cw, rfl⟩ := hw.form
  by_cases he : askE C 0 w.length = 0
  · obtain ⟨hok, _, _, _, hl⟩ := askE_zero he
    replace htab := htab hok hz hl
    have hn := okC_nts hok
    obtain ⟨m, hm⟩ := Int.eq_ofNat_of_zero_le (show 0 ≤ C.nts by omega)
    have hmt : C.nts.toNat = m := by rw [hm]; rfl
    rw [if_pos he, he, hmt]
    rw [he] at ha
    refine Fn.mk2 Try.func14 rfl rfl fun w0 F => ?_
    (refine G.seq ?_; refine G.region ?_; refine GO.box rfl rfl rfl fun b2 => ?_; refine GO.assign rfl rfl ?_; refine GO.assign rfl rfl ?_; refine GO.nil ?_; refine kthen_n ?_; refine G.seq ?_; refine G.seq ?_; refine G.region ?_; refine GO.loadW rfl rfl rfl Tk.h rfl ?_; refine GO.move rfl rfl ?_)
    refine GO.call3 rfl rfl rfl rfl (ha) (Tks.c (Tk.t Tk.h) Tks.n) ?_
    rintro _ _ ⟨rfl, rfl⟩
    (refine GO.assign rfl rfl ?_; refine GO.nil ?_; refine kthen_n ?_; refine G.seq ?_; refine G.region ?_; refine GO.move rfl rfl ?_; refine GO.neF rfl rfl rfl rfl ?_; refine GO.nil ?_; refine kthen_n ?_; refine G.condF rfl rfl ?_; refine G.skip ?_; refine kthen_n ?_; refine G.seq ?_; refine G.region ?_; refine GO.loadW rfl rfl rfl (Tk.t Tk.h) rfl ?_; refine GO.move rfl rfl ?_)
    refine GO.call2 rfl rfl rfl (htab) (Tks.c Tk.h Tks.n) ?_
    rintro _ _ ⟨bt, bm, rv, fs, rfl, hder, rfl⟩
    have hb : ∀ k : Nat, decide (factV (k : Int) 0 w.length ∈ fs) = D (k : Int) 0 w.length := fun k => by
      rw [Bool.eq_iff_iff, decide_eq_true_iff, hder, hD]
    (refine GO.assign rfl rfl ?_; refine GO.nil ?_; refine kthen_n ?_; refine G.seq ?_; refine G.region ?_; refine GO.assign rfl rfl ?_; refine GO.nil ?_; refine kthen_n ?_; refine G.seq ?_; refine G.seq ?_; refine G.region ?_; refine GO.fieldAddr rfl rfl ?_; refine GO.load1 rfl rfl rfl (Tk.t (Tk.t (Tk.t (Tk.t Tk.h)))) rfl ?_; refine GO.move rfl rfl ?_; refine GO.nil ?_; refine kthen_n ?_; refine G.block ?_)
    refine G.ownNil (T := 3) (sz := 1) ?_
    refine G.loop2 (fun (k : Nat) (u : Value) => [(1, .slice aw w.length cw), (7, ptrT bt), (8, u), (20, i64 C.nts), (21, i64 (k : Nat))])
      (fun k u => own 3 1 (natL (fun a => D (a : Int) 0 w.length) k).length u (wordV (natL (fun a => D (a : Int) 0 w.length) k)) :: tabH bt C.nts (.slice ap C.prods.length cp) (.slice aw w.length cw) bm rv :: pt bm (mapO (numF 0 fs)) :: own 62 3 fs.length rv (f3sV fs) :: q :: F)
      (fun k _ => k ≤ m) (fun k _ => m - k) 0 (.slice none 0 0) (Nat.zero_le _) ?_ ?_ ?_
    · (refine SubE.c rfl rfl ?_; refine SubE.c rfl rfl ?_; refine SubE.c rfl rfl ?_; refine SubE.c rfl rfl ?_; refine SubE.c rfl rfl ?_; exact SubE.n)
    · rw [own_nat0]
      ((refine Sb.c Tk.h ?_; refine Sb.c Tk.h ?_; refine Sb.c Tk.h ?_; refine Sb.c Tk.h ?_; refine Sb.c Tk.h ?_); (refine Sb.s ?_; exact Sb.r))
    · rintro k u hk
      (refine G.seq ?_; refine G.region ?_; refine GO.lti rfl rfl rfl ?_; refine GO.nil ?_; refine kthen_n ?_; refine G.seq ?_)
      refine G.condD rfl (fun hlt => ?_) (fun hge => ?_)
      · (refine G.skip ?_; refine kthen_n ?_; refine G.seq ?_; refine G.block ?_; refine G.seq ?_; refine G.region ?_; refine GO.move rfl rfl ?_; refine GO.assign rfl rfl ?_; refine GO.nil ?_; refine kthen_n ?_; refine G.seq ?_; refine G.region ?_; refine GO.move rfl rfl ?_; refine GO.move rfl rfl ?_; refine GO.move rfl rfl ?_; refine GO.lenS rfl rfl ?_; refine GO.build3 rfl rfl rfl rfl rfl ?_)
        refine GO.call2 rfl rfl rfl (has_spec bt C.nts (.slice ap C.prods.length cp) (.slice aw w.length cw) bm rv fs (factV (k : Int) 0 w.length)) (Tks.c (Tk.t Tk.h) (Tks.c (Tk.t Tk.h) (Tks.c (Tk.t Tk.h) Tks.n))) ?_
        rintro _ _ ⟨rfl, rfl⟩
        rw [hb]
        have hlen := natL_len (fun a => D (a : Int) 0 w.length) k
        have hstep : natL (fun a => D (a : Int) 0 w.length) (k + 1) = if D (k : Int) 0 w.length then natL (fun a => D (a : Int) 0 w.length) k ++ [(k : Int)] else natL (fun a => D (a : Int) 0 w.length) k := natL_succ _ k
        cases hd : D (k : Int) 0 w.length with
        | true =>
          rw [hd, if_pos rfl] at hstep
          (refine GO.nil ?_; refine kthen_n ?_; refine G.condT rfl rfl ?_; refine G.region ?_; refine GO.move rfl rfl ?_; refine GO.move rfl rfl ?_)
          refine GO.buildSlice1 rfl rfl (by simp; rfl) rfl ⟨by omega, by omega⟩ fun bs => ?_
          refine GO.appendOwn (m := 1) (news := [i64 (k : Nat)]) rfl rfl rfl (Tk.t (Tk.t (Tk.t (Tk.t Tk.h)))) Tk.h rfl (by simp [Value.oneCell']) ⟨by decide, rfl⟩ Nat.one_pos (by unfold maxLen; omega) (by omega) fun v4 => ?_
          rw [← wordV_snoc, show (natL (fun a => D (a : Int) 0 w.length) k).length + 1 = (natL (fun a => D (a : Int) 0 w.length) k ++ [(k : Int)]).length by rw [List.length_append]; rfl, ← hstep]
          (refine GO.assign rfl rfl ?_; refine GO.nil ?_; refine kblock_n ?_; refine kthen_n ?_; refine G.region ?_; refine GO.addi rfl rfl rfl (by omega) ?_; refine GO.move rfl rfl ?_; refine GO.nil ?_; refine kthen_n ?_)
          refine ⟨k + 1, v4, by omega, by omega, ?_, ?_⟩
          · (refine SubE.c rfl rfl ?_; refine SubE.c rfl rfl ?_; refine SubE.c rfl rfl ?_; refine SubE.c rfl rfl ?_; refine SubE.c rfl rfl ?_; exact SubE.n)
          · ((refine Sb.c Tk.h ?_; refine Sb.c (Tk.t Tk.h) ?_; refine Sb.c (Tk.t Tk.h) ?_; refine Sb.c (Tk.t Tk.h) ?_; refine Sb.c (Tk.t Tk.h) ?_); (refine Sb.s ?_; exact Sb.r))
        | false =>
          rw [hd, if_neg (by simp)] at hstep
          rw [← hstep]
          (refine GO.nil ?_; refine kthen_n ?_; refine G.condF rfl rfl ?_; refine G.skip ?_; refine kblock_n ?_; refine kthen_n ?_; refine G.region ?_; refine GO.addi rfl rfl rfl (by omega) ?_; refine GO.move rfl rfl ?_; refine GO.nil ?_; refine kthen_n ?_)
          refine ⟨k + 1, u, by omega, by omega, ?_, ?_⟩
          · (refine SubE.c rfl rfl ?_; refine SubE.c rfl rfl ?_; refine SubE.c rfl rfl ?_; refine SubE.c rfl rfl ?_; refine SubE.c rfl rfl ?_; exact SubE.n)
          · ((refine Sb.c (Tk.t (Tk.t (Tk.t Tk.h))) ?_; refine Sb.c Tk.h ?_; refine Sb.c Tk.h ?_; refine Sb.c Tk.h ?_; refine Sb.c Tk.h ?_); (exact Sb.r))
      · have : k = m := by omega
        subst this
        (refine G.exit ?_; refine kthen_x ?_; refine kthen_x ?_; refine kblock_x ?_; refine kthen_n ?_; refine G.seq ?_; refine G.region ?_; refine GO.move rfl rfl ?_; refine GO.assign rfl rfl ?_; refine GO.assign rfl rfl ?_; refine GO.nil ?_; refine kthen_n ?_; refine G.ret ?_)
        refine KF2.r2 rfl (RV.t rfl) (RV.t rfl) ⟨_, _, rfl, rfl, rfl⟩ (ImpS.sb ?_)
        ((refine Sb.c Tk.h ?_; refine Sb.c (Tk.t (Tk.t (Tk.t Tk.h))) ?_); (refine Sb.s ?_; refine Sb.s ?_; refine Sb.s ?_; exact Sb.r))
  · rw [if_neg he]
    have de : decide (askE C 0 w.length ≠ 0) = true := decide_eq_true he
    generalize askE C 0 w.length = e at *
    refine Fn.mk2 Try.func14 rfl rfl fun w0 F => ?_
    (refine G.seq ?_; refine G.region ?_; refine GO.box rfl rfl rfl fun b2 => ?_; refine GO.assign rfl rfl ?_; refine GO.assign rfl rfl ?_; refine GO.nil ?_; refine kthen_n ?_; refine G.seq ?_; refine G.seq ?_; refine G.region ?_; refine GO.loadW rfl rfl rfl Tk.h rfl ?_; refine GO.move rfl rfl ?_)
    refine GO.call3 rfl rfl rfl rfl (ha) (Tks.c (Tk.t Tk.h) Tks.n) ?_
    rintro _ _ ⟨rfl, rfl⟩
    refine GO.ownNil (T := 3) (sz := 1) ?_
    (refine GO.assign rfl rfl ?_; refine GO.nil ?_; refine kthen_n ?_; refine G.seq ?_; refine G.region ?_; refine GO.move rfl rfl ?_; refine GO.nei rfl rfl rfl ?_; refine GO.nil ?_; refine kthen_n ?_; refine G.condT rfl (by assumption) ?_; refine G.seq ?_; refine G.region ?_; refine GO.move rfl rfl ?_; refine GO.assign rfl rfl ?_; refine GO.assign rfl rfl ?_; refine GO.nil ?_; refine kthen_n ?_; refine G.ret ?_; refine kthen_r ?_)
    refine KF2.r2 (Q := [own 3 1 0 (.slice none 0 0) [], q]) rfl (RV.t rfl) (RV.t rfl) ⟨.slice none 0 0, [], rfl, rfl, by rw [own_nil0]⟩ (ImpS.sb ?_)
    ((refine Sb.c Tk.h ?_; refine Sb.c Tk.h ?_); (refine Sb.s ?_; exact Sb.r))
set_option maxHeartbeats 8000000 in
theorem rbegins_spec (q : HP) (v : Value) (C : CnfD) (hv : CnfR q v C) (hz : Fits C) (nt : Int) (w : List Int) (wv : Value) (hw : WordR q wv w) (D : Int → Nat → Nat → Bool) (hD : ∀ A i j, D A i j = true ↔ Der C w A i j) :
    Fn Try.prog 15 #[v, i64 nt, wv] [q] (fun r Q => ∃ u l, l = (if askE C nt w.length = 0 then natL (fun k => D nt 0 k) (w.length + 1) else []) ∧ r = .tuple #[u, i64 (askE C nt w.length)] ∧ Q = [own 3 1 l.length u (wordV l), q]) := by
  have ha := rwrong_spec q v C hv hz nt w.length
  obtain ⟨pv, rfl, hp⟩ := hv
  have htab := rtable_spec q C w pv wv hp hw
  obtain ⟨ap, cp, rfl⟩ := hp.form
  obtain ⟨aw, cw, rfl⟩ := hw.form
  by_cases he : askE C nt w.length = 0
  · obtain ⟨hok, hwk, h0, h1, hl⟩ := askE_zero he
    replace htab := htab hok hwk hz hl _ rfl
    have hn := okC_nts hok
    obtain ⟨m, hm⟩ := Int.eq_ofNat_of_zero_le (show 0 ≤ C.nts by omega)
    have hmt : C.nts.toNat = m := by rw [hm]; rfl
    rw [if_pos he, he]
    rw [he] at ha
    obtain ⟨a, rfl⟩ := Int.eq_ofNat_of_zero_le h0
    refine Fn.mk2 Try.func15 rfl rfl fun w0 F => ?_
    (refine G.seq ?_; refine G.region ?_; refine GO.box rfl rfl rfl fun b3 => ?_; refine GO.assign rfl rfl ?_; refine GO.assign rfl rfl ?_; refine GO.nil ?_; refine kthen_n ?_; refine G.seq ?_; refine G.region ?_; refine GO.loadW rfl rfl rfl Tk.h rfl ?_; refine GO.move rfl rfl ?_; refine GO.move rfl rfl ?_; refine GO.lenS rfl rfl ?_)
    refine GO.call3 rfl rfl rfl rfl (ha) (Tks.c (Tk.t Tk.h) Tks.n) ?_
    rintro _ _ ⟨rfl, rfl⟩
    (refine GO.assign rfl rfl ?_; refine GO.nil ?_; refine kthen_n ?_; refine G.seq ?_; refine G.seq ?_; refine G.region ?_; refine GO.move rfl rfl ?_; refine GO.neF rfl rfl rfl rfl ?_; refine GO.nil ?_; refine kthen_n ?_; refine G.condF rfl rfl ?_; refine G.skip ?_; refine kthen_n ?_; refine G.seq ?_; refine G.region ?_; refine GO.loadW rfl rfl rfl (Tk.t Tk.h) rfl ?_; refine GO.move rfl rfl ?_)
    refine GO.call2 rfl rfl rfl (htab) (Tks.c Tk.h Tks.n) ?_
    rintro _ _ ⟨bo, K, rfl, hK, rfl⟩
    have hkd : ∀ k : Nat, k < w.length + 1 → K (atN (w.length + 1) a 0 k) = D (a : Int) 0 k := fun k hk => by
      rw [Bool.eq_iff_iff, hK _ _ _ (by omega) (by omega) (by omega), hD]
    have hlt : ∀ k : Nat, k < w.length + 1 → atN (w.length + 1) a 0 k < C.nts.toNat * (w.length + 1) * (w.length + 1) := fun k hk => atN_lt (by omega) (by omega) (by omega)
    generalize C.nts.toNat * (w.length + 1) * (w.length + 1) = N at *
    (refine GO.assign rfl rfl ?_; refine GO.nil ?_; refine kthen_n ?_; refine G.seq ?_; refine G.region ?_; refine GO.assign rfl rfl ?_; refine GO.nil ?_; refine kthen_n ?_; refine G.seq ?_; refine G.seq ?_; refine G.region ?_; refine GO.assign rfl rfl ?_; refine GO.nil ?_; refine kthen_n ?_; refine G.block ?_)
    refine G.ownNil (T := 3) (sz := 1) ?_
    refine G.loop2 (fun (k : Nat) (u : Value) => [(1, i64 (a : Nat)), (2, .slice aw w.length cw), (9, .slice (some ⟨bo, 0, none⟩) N N), (10, u), (11, i64 (k : Nat))])
      (fun k u => own 3 1 (natL (fun k => D (a : Int) 0 k) k).length u (wordV (natL (fun k => D (a : Int) 0 k) k)) :: knM bo N K :: q :: pt b3 (row [i64 C.nts, .slice ap C.prods.length cp] 24) :: F)
      (fun k _ => k ≤ w.length + 1) (fun k _ => w.length + 1 - k) 0 (.slice none 0 0) (Nat.zero_le _) ?_ ?_ ?_
    · (refine SubE.c rfl rfl ?_; refine SubE.c rfl rfl ?_; refine SubE.c rfl rfl ?_; refine SubE.c rfl rfl ?_; refine SubE.c rfl rfl ?_; exact SubE.n)
    · rw [own_nat0]
      ((refine Sb.c Tk.h ?_; refine Sb.c Tk.h ?_; refine Sb.c Tk.h ?_; refine Sb.c Tk.h ?_); (exact Sb.r))
    · rintro k u hk
      (refine G.seq ?_; refine G.seq ?_; refine G.region ?_; refine GO.move rfl rfl ?_; refine GO.move rfl rfl ?_; refine GO.lenS rfl rfl ?_; refine GO.lei rfl rfl rfl ?_; refine GO.nil ?_; refine kthen_n ?_)
      refine G.condD rfl (fun hlt2 => ?_) (fun hge => ?_)
      · have hx := hlt k (by omega)
        have hxd := hkd k (by omega)
        have hat := at_spec a 0 k (w.length + 1) (by omega) (by omega) (by omega) (by omega)
        rw [show i64 ((w.length + 1 : Nat) : Int) = .int .i64 ((w.length : Int) + 1) from rfl, show i64 ((0 : Nat) : Int) = i64 0 from rfl] at hat
        generalize atN (w.length + 1) a 0 k = x at hx hxd hat
        (refine G.skip ?_; refine kthen_n ?_; refine G.seq ?_; refine G.block ?_; refine G.seq ?_; refine G.region ?_; refine GO.move rfl rfl ?_; refine GO.move rfl rfl ?_; refine GO.move rfl rfl ?_; refine GO.move rfl rfl ?_; refine GO.lenS rfl rfl ?_; refine GO.addi rfl rfl rfl (by omega) ?_)
        refine GO.call4 rfl rfl rfl rfl rfl (hat) Tks.n ?_
        rintro _ _ ⟨rfl, rfl⟩
        (refine GO.idxS rfl rfl rfl ⟨rfl, by omega⟩ ?_; refine GO.load1 rfl rfl rfl (Tk.t Tk.h) (rowV_get1 (by assumption)) ?_; refine GO.nil ?_; refine kthen_n ?_)
        rw [hxd]
        have hlen := natL_len (fun k => D (a : Int) 0 k) k
        have hstep : natL (fun k => D (a : Int) 0 k) (k + 1) = if D (a : Int) 0 k then natL (fun k => D (a : Int) 0 k) k ++ [(k : Int)] else natL (fun k => D (a : Int) 0 k) k := natL_succ _ k
        cases hd : D (a : Int) 0 k with
        | true =>
          rw [hd, if_pos rfl] at hstep
          (refine G.condT rfl rfl ?_; refine G.region ?_; refine GO.move rfl rfl ?_; refine GO.move rfl rfl ?_)
          refine GO.buildSlice1 rfl rfl (by simp; rfl) rfl ⟨by omega, by omega⟩ fun bs => ?_
          refine GO.appendOwn (m := 1) (news := [i64 (k : Nat)]) rfl rfl rfl (Tk.t Tk.h) Tk.h rfl (by simp [Value.oneCell']) ⟨by decide, rfl⟩ Nat.one_pos (by unfold maxLen; omega) (by omega) fun v4 => ?_
          rw [← wordV_snoc, show (natL (fun k => D (a : Int) 0 k) k).length + 1 = (natL (fun k => D (a : Int) 0 k) k ++ [(k : Int)]).length by rw [List.length_append]; rfl, ← hstep]
          (refine GO.assign rfl rfl ?_; refine GO.nil ?_; refine kblock_n ?_; refine kthen_n ?_; refine G.region ?_; refine GO.move rfl rfl ?_; refine GO.addi rfl rfl rfl (by omega) ?_; refine GO.assign rfl rfl ?_; refine GO.nil ?_; refine kthen_n ?_)
          refine ⟨k + 1, v4, by omega, by omega, ?_, ?_⟩
          · (refine SubE.c rfl rfl ?_; refine SubE.c rfl rfl ?_; refine SubE.c rfl rfl ?_; refine SubE.c rfl rfl ?_; refine SubE.c rfl rfl ?_; exact SubE.n)
          · ((refine Sb.c Tk.h ?_; refine Sb.c (Tk.t Tk.h) ?_; refine Sb.c (Tk.t Tk.h) ?_; refine Sb.c (Tk.t Tk.h) ?_); (refine Sb.s ?_; exact Sb.r))
        | false =>
          rw [hd, if_neg (by simp)] at hstep
          rw [← hstep]
          (refine G.condF rfl rfl ?_; refine G.skip ?_; refine kblock_n ?_; refine kthen_n ?_; refine G.region ?_; refine GO.move rfl rfl ?_; refine GO.addi rfl rfl rfl (by omega) ?_; refine GO.assign rfl rfl ?_; refine GO.nil ?_; refine kthen_n ?_)
          refine ⟨k + 1, u, by omega, by omega, ?_, ?_⟩
          · (refine SubE.c rfl rfl ?_; refine SubE.c rfl rfl ?_; refine SubE.c rfl rfl ?_; refine SubE.c rfl rfl ?_; refine SubE.c rfl rfl ?_; exact SubE.n)
          · ((refine Sb.c Tk.h ?_; refine Sb.c Tk.h ?_; refine Sb.c Tk.h ?_; refine Sb.c Tk.h ?_); (exact Sb.r))
      · have : k = w.length + 1 := by omega
        subst this
        (refine G.exit ?_; refine kthen_x ?_; refine kthen_x ?_; refine kblock_x ?_; refine kthen_n ?_; refine G.seq ?_; refine G.region ?_; refine GO.move rfl rfl ?_; refine GO.assign rfl rfl ?_; refine GO.assign rfl rfl ?_; refine GO.nil ?_; refine kthen_n ?_; refine G.ret ?_)
        refine KF2.r2 rfl (RV.t rfl) (RV.t rfl) ⟨_, _, rfl, rfl, rfl⟩ (ImpS.sb ?_)
        ((refine Sb.c Tk.h ?_; refine Sb.c (Tk.t Tk.h) ?_); (refine Sb.s ?_; refine Sb.s ?_; exact Sb.r))
  · rw [if_neg he]
    have de : decide (askE C nt w.length ≠ 0) = true := decide_eq_true he
    generalize askE C nt w.length = e at *
    refine Fn.mk2 Try.func15 rfl rfl fun w0 F => ?_
    (refine G.seq ?_; refine G.region ?_; refine GO.box rfl rfl rfl fun b3 => ?_; refine GO.assign rfl rfl ?_; refine GO.assign rfl rfl ?_; refine GO.nil ?_; refine kthen_n ?_; refine G.seq ?_; refine G.region ?_; refine GO.loadW rfl rfl rfl Tk.h rfl ?_; refine GO.move rfl rfl ?_; refine GO.move rfl rfl ?_; refine GO.lenS rfl rfl ?_)
    refine GO.call3 rfl rfl rfl rfl (ha) (Tks.c (Tk.t Tk.h) Tks.n) ?_
    rintro _ _ ⟨rfl, rfl⟩
    refine GO.ownNil (T := 3) (sz := 1) ?_
    (refine GO.assign rfl rfl ?_; refine GO.nil ?_; refine kthen_n ?_; refine G.seq ?_; refine G.seq ?_; refine G.region ?_; refine GO.move rfl rfl ?_; refine GO.nei rfl rfl rfl ?_; refine GO.nil ?_; refine kthen_n ?_; refine G.condT rfl (by assumption) ?_; refine G.seq ?_; refine G.region ?_; refine GO.move rfl rfl ?_; refine GO.assign rfl rfl ?_; refine GO.assign rfl rfl ?_; refine GO.nil ?_; refine kthen_n ?_; refine G.ret ?_; refine kthen_r ?_)
    refine KF2.r2 (Q := [own 3 1 0 (.slice none 0 0) [], q]) rfl (RV.t rfl) (RV.t rfl) ⟨.slice none 0 0, [], rfl, rfl, by rw [own_nil0]⟩ (ImpS.sb ?_)
    ((refine Sb.c Tk.h ?_; refine Sb.c Tk.h ?_); (refine Sb.s ?_; exact Sb.r))
set_option maxHeartbeats 8000000 in
theorem rwho_spec (q : HP) (v : Value) (C : CnfD) (hv : CnfR q v C) (hz : Fits C) (w : List Int) (wv : Value) (hw : WordR q wv w) (D : Int → Nat → Nat → Bool) (hD : ∀ A i j, D A i j = true ↔ Der C w A i j) :
    Fn Try.prog 16 #[v, wv] [q] (fun r Q => ∃ u l, l = (if askE C 0 w.length = 0 then natL (fun a => D (a : Int) 0 w.length) (C.nts.toNat) else []) ∧ r = .tuple #[u, i64 (askE C 0 w.length)] ∧ Q = [own 3 1 l.length u (wordV l), q]) := by
  have ha := rwrong_spec q v C hv hz 0 w.length
  obtain ⟨pv, rfl, hp⟩ := hv
  have htab := rtable_spec q C w pv wv hp hw
  obtain ⟨ap, cp, rfl⟩ := hp.form
  obtain ⟨aw, cw, rfl⟩ := hw.form
  by_cases he : askE C 0 w.length = 0
  · obtain ⟨hok, hwk, h0, h1, hl⟩ := askE_zero he
    replace htab := htab hok hwk hz hl _ rfl
    have hn := okC_nts hok
    obtain ⟨m, hm⟩ := Int.eq_ofNat_of_zero_le (show 0 ≤ C.nts by omega)
    have hmt : C.nts.toNat = m := by rw [hm]; rfl
    rw [if_pos he, he, hmt]
    rw [he] at ha
    refine Fn.mk2 Try.func16 rfl rfl fun w0 F => ?_
    (refine G.seq ?_; refine G.region ?_; refine GO.box rfl rfl rfl fun b2 => ?_; refine GO.assign rfl rfl ?_; refine GO.assign rfl rfl ?_; refine GO.nil ?_; refine kthen_n ?_; refine G.seq ?_; refine G.region ?_; refine GO.loadW rfl rfl rfl Tk.h rfl ?_; refine GO.move rfl rfl ?_; refine GO.lenS rfl rfl ?_)
    refine GO.call3 rfl rfl rfl rfl (ha) (Tks.c (Tk.t Tk.h) Tks.n) ?_
    rintro _ _ ⟨rfl, rfl⟩
    (refine GO.assign rfl rfl ?_; refine GO.nil ?_; refine kthen_n ?_; refine G.seq ?_; refine G.seq ?_; refine G.region ?_; refine GO.move rfl rfl ?_; refine GO.neF rfl rfl rfl rfl ?_; refine GO.nil ?_; refine kthen_n ?_; refine G.condF rfl rfl ?_; refine G.skip ?_; refine kthen_n ?_; refine G.seq ?_; refine G.region ?_; refine GO.loadW rfl rfl rfl (Tk.t Tk.h) rfl ?_; refine GO.move rfl rfl ?_)
    refine GO.call2 rfl rfl rfl (htab) (Tks.c Tk.h Tks.n) ?_
    rintro _ _ ⟨bo, K, rfl, hK, rfl⟩
    have hkd : ∀ k : Nat, k < m → K (atN (w.length + 1) k 0 w.length) = D (k : Int) 0 w.length := fun k hk => by
      rw [Bool.eq_iff_iff, hK _ _ _ (by omega) (by omega) (by omega), hD]
    have hlt : ∀ k : Nat, k < m → atN (w.length + 1) k 0 w.length < C.nts.toNat * (w.length + 1) * (w.length + 1) := fun k hk => atN_lt (by omega) (by omega) (by omega)
    generalize C.nts.toNat * (w.length + 1) * (w.length + 1) = N at *
    (refine GO.assign rfl rfl ?_; refine GO.nil ?_; refine kthen_n ?_; refine G.seq ?_; refine G.region ?_; refine GO.assign rfl rfl ?_; refine GO.nil ?_; refine kthen_n ?_; refine G.seq ?_; refine G.seq ?_; refine G.region ?_; refine GO.assign rfl rfl ?_; refine GO.nil ?_; refine kthen_n ?_; refine G.block ?_)
    refine G.ownNil (T := 3) (sz := 1) ?_
    refine G.loop2 (fun (k : Nat) (u : Value) => [(1, .slice aw w.length cw), (2, ptrT b2), (7, .slice (some ⟨bo, 0, none⟩) N N), (8, u), (9, i64 (k : Nat))])
      (fun k u => own 3 1 (natL (fun a => D (a : Int) 0 w.length) k).length u (wordV (natL (fun a => D (a : Int) 0 w.length) k)) :: knM bo N K :: q :: pt b2 (row [i64 C.nts, .slice ap C.prods.length cp] 24) :: F)
      (fun k _ => k ≤ m) (fun k _ => m - k) 0 (.slice none 0 0) (Nat.zero_le _) ?_ ?_ ?_
    · (refine SubE.c rfl rfl ?_; refine SubE.c rfl rfl ?_; refine SubE.c rfl rfl ?_; refine SubE.c rfl rfl ?_; refine SubE.c rfl rfl ?_; exact SubE.n)
    · rw [own_nat0]
      ((refine Sb.c Tk.h ?_; refine Sb.c Tk.h ?_; refine Sb.c Tk.h ?_; refine Sb.c Tk.h ?_); (exact Sb.r))
    · rintro k u hk
      (refine G.seq ?_; refine G.seq ?_; refine G.region ?_; refine GO.move rfl rfl ?_; refine GO.fieldAddr rfl rfl ?_; refine GO.load1 rfl rfl rfl (Tk.t (Tk.t (Tk.t Tk.h))) rfl ?_; refine GO.lti rfl rfl rfl ?_; refine GO.nil ?_; refine kthen_n ?_)
      refine G.condD rfl (fun hlt2 => ?_) (fun hge => ?_)
      · have hx := hlt k (by omega)
        have hxd := hkd k (by omega)
        have hat := at_spec k 0 w.length (w.length + 1) (by omega) (by omega) (by omega) (by omega)
        rw [show i64 ((w.length + 1 : Nat) : Int) = .int .i64 ((w.length : Int) + 1) from rfl, show i64 ((0 : Nat) : Int) = i64 0 from rfl] at hat
        generalize atN (w.length + 1) k 0 w.length = x at hx hxd hat
        (refine G.skip ?_; refine kthen_n ?_; refine G.seq ?_; refine G.block ?_; refine G.seq ?_; refine G.region ?_; refine GO.move rfl rfl ?_; refine GO.move rfl rfl ?_; refine GO.move rfl rfl ?_; refine GO.lenS rfl rfl ?_; refine GO.move rfl rfl ?_; refine GO.lenS rfl rfl ?_; refine GO.addi rfl rfl rfl (by omega) ?_)
        refine GO.call4 rfl rfl rfl rfl rfl (hat) Tks.n ?_
        rintro _ _ ⟨rfl, rfl⟩
        (refine GO.idxS rfl rfl rfl ⟨rfl, by omega⟩ ?_; refine GO.load1 rfl rfl rfl (Tk.t Tk.h) (rowV_get1 (by assumption)) ?_; refine GO.nil ?_; refine kthen_n ?_)
        rw [hxd]
        have hlen := natL_len (fun a => D (a : Int) 0 w.length) k
        have hstep : natL (fun a => D (a : Int) 0 w.length) (k + 1) = if D (k : Int) 0 w.length then natL (fun a => D (a : Int) 0 w.length) k ++ [(k : Int)] else natL (fun a => D (a : Int) 0 w.length) k := natL_succ _ k
        cases hd : D (k : Int) 0 w.length with
        | true =>
          rw [hd, if_pos rfl] at hstep
          (refine G.condT rfl rfl ?_; refine G.region ?_; refine GO.move rfl rfl ?_; refine GO.move rfl rfl ?_)
          refine GO.buildSlice1 rfl rfl (by simp; rfl) rfl ⟨by omega, by omega⟩ fun bs => ?_
          refine GO.appendOwn (m := 1) (news := [i64 (k : Nat)]) rfl rfl rfl (Tk.t Tk.h) Tk.h rfl (by simp [Value.oneCell']) ⟨by decide, rfl⟩ Nat.one_pos (by unfold maxLen; omega) (by omega) fun v4 => ?_
          rw [← wordV_snoc, show (natL (fun a => D (a : Int) 0 w.length) k).length + 1 = (natL (fun a => D (a : Int) 0 w.length) k ++ [(k : Int)]).length by rw [List.length_append]; rfl, ← hstep]
          (refine GO.assign rfl rfl ?_; refine GO.nil ?_; refine kblock_n ?_; refine kthen_n ?_; refine G.region ?_; refine GO.move rfl rfl ?_; refine GO.addi rfl rfl rfl (by omega) ?_; refine GO.assign rfl rfl ?_; refine GO.nil ?_; refine kthen_n ?_)
          refine ⟨k + 1, v4, by omega, by omega, ?_, ?_⟩
          · (refine SubE.c rfl rfl ?_; refine SubE.c rfl rfl ?_; refine SubE.c rfl rfl ?_; refine SubE.c rfl rfl ?_; refine SubE.c rfl rfl ?_; exact SubE.n)
          · ((refine Sb.c Tk.h ?_; refine Sb.c (Tk.t Tk.h) ?_; refine Sb.c (Tk.t Tk.h) ?_; refine Sb.c (Tk.t Tk.h) ?_); (refine Sb.s ?_; exact Sb.r))
        | false =>
          rw [hd, if_neg (by simp)] at hstep
          rw [← hstep]
          (refine G.condF rfl rfl ?_; refine G.skip ?_; refine kblock_n ?_; refine kthen_n ?_; refine G.region ?_; refine GO.move rfl rfl ?_; refine GO.addi rfl rfl rfl (by omega) ?_; refine GO.assign rfl rfl ?_; refine GO.nil ?_; refine kthen_n ?_)
          refine ⟨k + 1, u, by omega, by omega, ?_, ?_⟩
          · (refine SubE.c rfl rfl ?_; refine SubE.c rfl rfl ?_; refine SubE.c rfl rfl ?_; refine SubE.c rfl rfl ?_; refine SubE.c rfl rfl ?_; exact SubE.n)
          · ((refine Sb.c Tk.h ?_; refine Sb.c Tk.h ?_; refine Sb.c Tk.h ?_; refine Sb.c Tk.h ?_); (exact Sb.r))
      · have : k = m := by omega
        subst this
        (refine G.exit ?_; refine kthen_x ?_; refine kthen_x ?_; refine kblock_x ?_; refine kthen_n ?_; refine G.seq ?_; refine G.region ?_; refine GO.move rfl rfl ?_; refine GO.assign rfl rfl ?_; refine GO.assign rfl rfl ?_; refine GO.nil ?_; refine kthen_n ?_; refine G.ret ?_)
        refine KF2.r2 rfl (RV.t rfl) (RV.t rfl) ⟨_, _, rfl, rfl, rfl⟩ (ImpS.sb ?_)
        ((refine Sb.c Tk.h ?_; refine Sb.c (Tk.t Tk.h) ?_); (refine Sb.s ?_; refine Sb.s ?_; exact Sb.r))
  · rw [if_neg he]
    have de : decide (askE C 0 w.length ≠ 0) = true := decide_eq_true he
    generalize askE C 0 w.length = e at *
    refine Fn.mk2 Try.func16 rfl rfl fun w0 F => ?_
    (refine G.seq ?_; refine G.region ?_; refine GO.box rfl rfl rfl fun b2 => ?_; refine GO.assign rfl rfl ?_; refine GO.assign rfl rfl ?_; refine GO.nil ?_; refine kthen_n ?_; refine G.seq ?_; refine G.region ?_; refine GO.loadW rfl rfl rfl Tk.h rfl ?_; refine GO.move rfl rfl ?_; refine GO.lenS rfl rfl ?_)
    refine GO.call3 rfl rfl rfl rfl (ha) (Tks.c (Tk.t Tk.h) Tks.n) ?_
    rintro _ _ ⟨rfl, rfl⟩
    refine GO.ownNil (T := 3) (sz := 1) ?_
    (refine GO.assign rfl rfl ?_; refine GO.nil ?_; refine kthen_n ?_; refine G.seq ?_; refine G.seq ?_; refine G.region ?_; refine GO.move rfl rfl ?_; refine GO.nei rfl rfl rfl ?_; refine GO.nil ?_; refine kthen_n ?_; refine G.condT rfl (by assumption) ?_; refine G.seq ?_; refine G.region ?_; refine GO.move rfl rfl ?_; refine GO.assign rfl rfl ?_; refine GO.assign rfl rfl ?_; refine GO.nil ?_; refine kthen_n ?_; refine G.ret ?_; refine kthen_r ?_)
    refine KF2.r2 (Q := [own 3 1 0 (.slice none 0 0) [], q]) rfl (RV.t rfl) (RV.t rfl) ⟨.slice none 0 0, [], rfl, rfl, by rw [own_nil0]⟩ (ImpS.sb ?_)
    ((refine Sb.c Tk.h ?_; refine Sb.c Tk.h ?_); (refine Sb.s ?_; exact Sb.r))
set_option maxHeartbeats 4000000 in
theorem sameI_spec (l : List Int) (hl : ¬ 1000000 < l.length) (u v : Value) : Fn Try.prog 17 #[u, v] [own 3 1 l.length u (wordV l), own 3 1 l.length v (wordV l)] (fun r Q => r = .bool true ∧ Q = [own 3 1 l.length u (wordV l), own 3 1 l.length v (wordV l)]) := by
  have dl : decide (((l.length : Nat) : Int) ≠ ((l.length : Nat) : Int)) = false := decide_eq_false (fun h => h rfl)
  refine Fn.mk2 Try.func17 rfl rfl fun w0 F => ?_
  (refine G.seq ?_; refine G.region ?_; refine GO.assign rfl rfl ?_; refine GO.nil ?_; refine kthen_n ?_; refine G.seq ?_; refine G.seq ?_; refine G.region ?_; refine GO.move rfl rfl ?_; refine GO.lenOwn rfl rfl Tk.h ?_; refine GO.move rfl rfl ?_; refine GO.lenOwn rfl rfl (Tk.t Tk.h) ?_; refine GO.neF rfl rfl rfl rfl ?_; refine GO.nil ?_; refine kthen_n ?_; refine G.condF rfl rfl ?_; refine G.skip ?_; refine kthen_n ?_; refine G.seq ?_; refine G.seq ?_; refine G.region ?_; refine GO.assign rfl rfl ?_; refine GO.nil ?_; refine kthen_n ?_; refine G.block ?_)
  refine G.loop (fun k : Nat => [(0, u), (1, v), (5, i64 (k : Nat))]) (fun _ => own 3 1 l.length u (wordV l) :: own 3 1 l.length v (wordV l) :: F) (fun k => k ≤ l.length) (fun k => l.length - k) 0 (Nat.zero_le _) ?_ ?_ ?_
  · (refine SubE.c rfl rfl ?_; refine SubE.c rfl rfl ?_; refine SubE.c rfl rfl ?_; exact SubE.n)
  · ((refine Sb.c Tk.h ?_; refine Sb.c Tk.h ?_); (exact Sb.r))
  · rintro k hk
    (refine G.seq ?_; refine G.seq ?_; refine G.region ?_; refine GO.move rfl rfl ?_; refine GO.move rfl rfl ?_; refine GO.lenOwn rfl rfl Tk.h ?_; refine GO.lti rfl rfl rfl ?_; refine GO.nil ?_; refine kthen_n ?_)
    refine G.condD rfl (fun hlt => ?_) (fun hge => ?_)
    · have hkl : k < l.length := by omega
      obtain ⟨x, hx⟩ : ∃ x, l[k]? = some x := ⟨_, List.getElem?_eq_getElem hkl⟩
      refine G.ownForm (by omega) Tk.h fun b1 c1 e1 _ _ _ => ?_
      subst e1
      refine G.ownForm (by omega) (Tk.t Tk.h) fun b2 c2 e2 _ _ _ => ?_
      subst e2
      have r1 : Rd (own 3 1 l.length (.slice (some ⟨b1, 0, none⟩) l.length c1) (wordV l)) ⟨b1, 0 + k * 1, none⟩ (i64 x) := Rd.own (by rw [Nat.zero_add, Nat.mul_one]; exact wordV_get hx)
      have r2 : Rd (own 3 1 l.length (.slice (some ⟨b2, 0, none⟩) l.length c2) (wordV l)) ⟨b2, 0 + k * 1, none⟩ (i64 x) := Rd.own (by rw [Nat.zero_add, Nat.mul_one]; exact wordV_get hx)
      have dx : decide (x ≠ x) = false := decide_eq_false (fun h => h rfl)
      (refine G.skip ?_; refine kthen_n ?_; refine G.seq ?_; refine G.block ?_; refine G.seq ?_)
      refine G.draw 9 (by kernel_rfl) ?_
      ((apply GQ.step; focus (intro Z; refine GO.move rfl rfl ?_; exact KQ.z)); (apply GQ.step; focus (intro Z; refine GO.move rfl rfl ?_; exact KQ.z)); (apply GQ.step; focus (intro Z; refine GO.idxS rfl rfl rfl ⟨rfl, by omega⟩ ?_; exact KQ.z)); (apply GQ.step; focus (intro Z; refine GO.loadQ rfl rfl rfl Tk.h (by assumption) ?_; exact KQ.z)); (apply GQ.step; focus (intro Z; refine GO.move rfl rfl ?_; exact KQ.z)); (apply GQ.step; focus (intro Z; refine GO.move rfl rfl ?_; exact KQ.z)); (apply GQ.step; focus (intro Z; refine GO.idxS rfl rfl rfl ⟨rfl, by omega⟩ ?_; exact KQ.z)); (apply GQ.step; focus (intro Z; refine GO.loadQ rfl rfl rfl (Tk.t Tk.h) (by assumption) ?_; exact KQ.z)); (apply GQ.step; focus (intro Z; refine GO.neF rfl rfl rfl rfl ?_; exact KQ.z)); refine GQ.nil ?_)
      (refine GO.nil ?_; refine kthen_n ?_; refine G.condF rfl rfl ?_; refine G.skip ?_; refine kblock_n ?_; refine kthen_n ?_; refine G.region ?_; refine GO.move rfl rfl ?_; refine GO.addi rfl rfl rfl (by omega) ?_; refine GO.assign rfl rfl ?_; refine GO.nil ?_; refine kthen_n ?_)
      refine ⟨k + 1, by omega, by omega, ?_, ?_⟩
      · (refine SubE.c rfl rfl ?_; refine SubE.c rfl rfl ?_; refine SubE.c rfl rfl ?_; exact SubE.n)
      · ((refine Sb.c Tk.h ?_; refine Sb.c Tk.h ?_); (exact Sb.r))
    · (refine G.exit ?_; refine kthen_x ?_; refine kthen_x ?_; refine kblock_x ?_; refine kthen_n ?_; refine G.seq ?_; refine G.region ?_; refine GO.assign rfl rfl ?_; refine GO.nil ?_; refine kthen_n ?_; refine G.ret ?_)
      refine KF2.r1 rfl (RV.t rfl) ⟨rfl, rfl⟩ (ImpS.sb ?_)
      ((refine Sb.c Tk.h ?_; refine Sb.c Tk.h ?_); (exact Sb.r))
end Go.Proofs.Ytjokibfldngkeaa
