/-
  The document's Right; the law DeriveRight.
-/
import Derived.Test.YtjokibfldngkeaaDU
import Derived.Test.YtjokibfldngkeaaDS
import Derived.Test.YtjokibfldngkeaaDV
namespace Go.Proofs.Ytjokibfldngkeaa
open Go
attribute [local irreducible] G GO GR GT Fn FnV pt init exs pur sat own ImpS f3sV symsV wordV
theorem left_spec (q : HP) (C : CnfD) (w : List Int) (pv wv : Value) (hp : PrsR q pv C.prods) (hw : WordR q wv w) (hok : okC C = true) (hwk : weakC C = true) (hz : Fits C) (hl : ¬ 64 < w.length) : ∀ (N : Nat) (l : List F3) (lv : Value), l.length ≤ N → ¬ 4096 < l.length → StepsR q lv l → LeftS q C w pv wv l lv
  | _, [], lv, _, _, hs => left_nil q C w pv wv lv hp hw hs
  | 0, f :: r, lv, h, _, _ => absurd h (by simp)
  | N + 1, (fp, ff, ft) :: r, lv, h, hn, hs => by
    rw [List.length_cons] at h hn
    intro A i j hi hj
    by_cases hg : 0 ≤ fp ∧ fp < C.prods.length ∧ ff = i ∧ ft = j
    · obtain ⟨g1, g2, rfl, rfl⟩ := hg
      obtain ⟨p, rfl⟩ := Int.eq_ofNat_of_zero_le g1
      exact left_good q C w pv wv lv hp hw hok hwk hz hl p i j (by omega) r hs (by rw [List.length_cons]; exact hn) (fun l' lv' hl' hs' => left_spec q C w pv wv hp hw hok hwk hz hl N l' lv' (by omega) (by omega) hs') A hi hj
    · exact left_off q C w pv wv lv hp hw hz fp ff ft r hs (by rw [List.length_cons]; exact hn) A i j hi hj hg
set_option maxHeartbeats 4000000 in
theorem rright_spec (q : HP) (v : Value) (C : CnfD) (hv : CnfR q v C) (hz : Fits C) (nt : Int) (w : List Int) (wv : Value) (hw : WordR q wv w) (l : List F3) (lv : Value) (hs : StepsR q lv l) :
    Fn Try.prog 19 #[v, i64 nt, wv, lv] [q] (fun r Q => ∃ b : Bool, r = .tuple #[.bool b, i64 (if askE C nt w.length = 0 then if 4096 < l.length then 3 else 0 else askE C nt w.length)] ∧ (b = true ↔ askE C nt w.length = 0 ∧ ¬ 4096 < l.length ∧ DerS C w nt 0 w.length l) ∧ Q = [q]) := by
  have ha := rwrong_spec q v C hv hz nt w.length
  obtain ⟨pv, rfl, hp⟩ := hv
  by_cases he : askE C nt w.length = 0
  · obtain ⟨hok, hwk, _, _, hl⟩ := askE_zero he
    have hleft := fun (h : ¬ 4096 < l.length) => left_spec q C w pv wv hp hw hok hwk hz hl l.length l lv (Nat.le_refl _) h hs nt 0 w.length (Nat.zero_le _) (Nat.le_refl _)
    obtain ⟨ap, cp, rfl⟩ := hp.form
    obtain ⟨aw, cw, rfl⟩ := hw.form
    obtain ⟨al, cl, rfl, hcl⟩ := hs.form
    rw [if_pos he]
    rw [he] at ha
    by_cases h4 : 4096 < l.length
    · have d4 : decide ((4096 : Int) < (l.length : Int)) = true := decide_eq_true (by omega)
      rw [if_pos h4]
      refine Fn.mk2 Try.func19 rfl rfl fun w0 F => ?_
      (refine G.seq ?_; refine G.region ?_; refine GO.box rfl rfl rfl fun b4 => ?_; refine GO.assign rfl rfl ?_; refine GO.assign rfl rfl ?_; refine GO.nil ?_; refine kthen_n ?_; refine G.seq ?_; refine G.region ?_; refine GO.loadW rfl rfl rfl Tk.h rfl ?_; refine GO.move rfl rfl ?_; refine GO.move rfl rfl ?_; refine GO.lenS rfl rfl ?_)
      refine GO.call3 rfl rfl rfl rfl (ha) (Tks.c (Tk.t Tk.h) Tks.n) ?_
      rintro _ _ ⟨rfl, rfl⟩
      (refine GO.assign rfl rfl ?_; refine GO.nil ?_; refine kthen_n ?_; refine G.seq ?_; refine G.seq ?_; refine G.region ?_; refine GO.move rfl rfl ?_; refine GO.neF rfl rfl rfl rfl ?_; refine GO.nil ?_; refine kthen_n ?_; refine G.condF rfl rfl ?_; refine G.skip ?_; refine kthen_n ?_; refine G.seq ?_; refine G.seq ?_; refine G.region ?_; refine GO.move rfl rfl ?_; refine GO.lenS rfl rfl ?_; refine GO.gti rfl rfl rfl ?_; refine GO.nil ?_; refine kthen_n ?_; refine G.condT rfl (by assumption) ?_; refine G.seq ?_; refine G.region ?_; refine GO.assign rfl rfl ?_; refine GO.assign rfl rfl ?_; refine GO.nil ?_; refine kthen_n ?_; refine G.ret ?_; refine kthen_r ?_)
      refine KF2.r2 rfl (RV.t rfl) (RV.t rfl) ⟨false, rfl, ⟨(fun h => by cases h), fun h => absurd h4 h.2.1⟩, rfl⟩ (ImpS.sb ?_)
      ((refine Sb.c Tk.h ?_); (refine Sb.s ?_; exact Sb.r))
    · have d4 : decide ((4096 : Int) < (l.length : Int)) = false := decide_eq_false (by omega)
      rw [if_neg h4]
      have hr := hleft h4
      rw [show i64 ((0 : Nat) : Int) = i64 0 from rfl] at hr
      refine Fn.mk2 Try.func19 rfl rfl fun w0 F => ?_
      (refine G.seq ?_; refine G.region ?_; refine GO.box rfl rfl rfl fun b4 => ?_; refine GO.assign rfl rfl ?_; refine GO.assign rfl rfl ?_; refine GO.nil ?_; refine kthen_n ?_; refine G.seq ?_; refine G.region ?_; refine GO.loadW rfl rfl rfl Tk.h rfl ?_; refine GO.move rfl rfl ?_; refine GO.move rfl rfl ?_; refine GO.lenS rfl rfl ?_)
      refine GO.call3 rfl rfl rfl rfl (ha) (Tks.c (Tk.t Tk.h) Tks.n) ?_
      rintro _ _ ⟨rfl, rfl⟩
      (refine GO.assign rfl rfl ?_; refine GO.nil ?_; refine kthen_n ?_; refine G.seq ?_; refine G.seq ?_; refine G.region ?_; refine GO.move rfl rfl ?_; refine GO.neF rfl rfl rfl rfl ?_; refine GO.nil ?_; refine kthen_n ?_; refine G.condF rfl rfl ?_; refine G.skip ?_; refine kthen_n ?_; refine G.seq ?_; refine G.seq ?_; refine G.region ?_; refine GO.move rfl rfl ?_; refine GO.lenS rfl rfl ?_; refine GO.gti rfl rfl rfl ?_; refine GO.nil ?_; refine kthen_n ?_; refine G.condF rfl (by assumption) ?_; refine G.skip ?_; refine kthen_n ?_; refine G.seq ?_; refine G.region ?_; refine GO.loadW rfl rfl rfl (Tk.t Tk.h) rfl ?_; refine GO.move rfl rfl ?_; refine GO.move rfl rfl ?_; refine GO.move rfl rfl ?_; refine GO.move rfl rfl ?_; refine GO.lenS rfl rfl ?_)
      refine GO.call6 rfl rfl rfl rfl rfl rfl rfl (hr) (Tks.c Tk.h Tks.n) ?_
      rintro _ _ ⟨n, rfl, hR, rfl⟩
      (refine GO.eqi rfl rfl rfl ?_; refine GO.assign rfl rfl ?_; refine GO.assign rfl rfl ?_; refine GO.nil ?_; refine kthen_n ?_; refine G.ret ?_)
      refine KF2.r2 rfl (RV.t rfl) (RV.t rfl) ⟨_, rfl, ?_, rfl⟩ (ImpS.sb ?_)
      · rw [decide_eq_true_iff, ← hR.all]
        have hle := hR.le
        unfold leftN
        constructor
        · intro h
          split at h
          · omega
          · exact ⟨he, h4, by omega, by omega⟩
        · rintro ⟨_, _, h1, h2⟩
          rw [if_neg (by omega)]; omega
      · ((refine Sb.c Tk.h ?_); (refine Sb.s ?_; exact Sb.r))
  · obtain ⟨ap, cp, rfl⟩ := hp.form
    obtain ⟨aw, cw, rfl⟩ := hw.form
    obtain ⟨al, cl, rfl, hcl⟩ := hs.form
    rw [if_neg he]
    have de : decide (askE C nt w.length ≠ 0) = true := decide_eq_true he
    generalize askE C nt w.length = e at *
    refine Fn.mk2 Try.func19 rfl rfl fun w0 F => ?_
    (refine G.seq ?_; refine G.region ?_; refine GO.box rfl rfl rfl fun b4 => ?_; refine GO.assign rfl rfl ?_; refine GO.assign rfl rfl ?_; refine GO.nil ?_; refine kthen_n ?_; refine G.seq ?_; refine G.region ?_; refine GO.loadW rfl rfl rfl Tk.h rfl ?_; refine GO.move rfl rfl ?_; refine GO.move rfl rfl ?_; refine GO.lenS rfl rfl ?_)
    refine GO.call3 rfl rfl rfl rfl (ha) (Tks.c (Tk.t Tk.h) Tks.n) ?_
    rintro _ _ ⟨rfl, rfl⟩
    (refine GO.assign rfl rfl ?_; refine GO.nil ?_; refine kthen_n ?_; refine G.seq ?_; refine G.seq ?_; refine G.region ?_; refine GO.move rfl rfl ?_; refine GO.nei rfl rfl rfl ?_; refine GO.nil ?_; refine kthen_n ?_; refine G.condT rfl (by assumption) ?_; refine G.seq ?_; refine G.region ?_; refine GO.move rfl rfl ?_; refine GO.assign rfl rfl ?_; refine GO.assign rfl rfl ?_; refine GO.nil ?_; refine kthen_n ?_; refine G.ret ?_; refine kthen_r ?_)
    refine KF2.r2 rfl (RV.t rfl) (RV.t rfl) ⟨false, rfl, ⟨(fun h => by cases h), fun h => absurd h.1 he⟩, rfl⟩ (ImpS.sb ?_)
    ((refine Sb.c Tk.h ?_); (refine Sb.s ?_; exact Sb.r))
set_option maxHeartbeats 4000000 in
theorem dright_law (q : HP) (v wv lv : Value) (C : CnfD) (nt : Int) (w : List Int) (l : List F3) (hv : CnfR q v C) (hz : Fits C) (hw : WordR q wv w) (hs : StepsR q lv l) :
    Fn Try.prog 5 #[v, i64 nt, wv, lv] [q] (fun r Q => r = .bool true ∧ Q = [q]) := by
  have hcopy := copy_spec q v C hv hz
  have href := rright_spec q v C hv hz nt w wv hw l lv hs
  have heng := fun (z : HP) (c : Value) (hc : CnfR z c C) (hsup : Sup q z) => pright_spec z c C hc hz nt w wv (hw.sup hsup) l lv (hs.sup hsup)
  generalize (if askE C nt w.length = 0 then if 4096 < l.length then (3 : Int) else 0 else askE C nt w.length) = e at href heng
  obtain ⟨pv, rfl, hp⟩ := hv
  obtain ⟨ap, cp, rfl⟩ := hp.form
  obtain ⟨aw, cw, rfl⟩ := hw.form
  obtain ⟨al, cl, rfl, hcl⟩ := hs.form
  have de : decide (e = e) = true := decide_eq_true rfl
  refine Fn.mk2 Try.func5 rfl rfl fun w0 F => ?_
  (refine G.seq ?_; refine G.region ?_; refine GO.box rfl rfl rfl fun b4 => ?_; refine GO.assign rfl rfl ?_; refine GO.nil ?_; refine kthen_n ?_; refine G.seq ?_; refine G.region ?_; refine GO.loadW rfl rfl rfl Tk.h rfl ?_)
  refine GO.call1 rfl rfl (hcopy) (Tks.c (Tk.t Tk.h) Tks.n) ?_
  rintro c _ ⟨z, hz1, rfl⟩
  refine GO.merge (x := z) (y := q) (Tks.c Tk.h (Tks.c Tk.h Tks.n)) ?_
  have heng := heng (star [z, q]) c (hz1.sup (Sup.left z q)) (Sup.right z q)
  (refine GO.move rfl rfl ?_; refine GO.move rfl rfl ?_; refine GO.move rfl rfl ?_)
  refine GO.call4 rfl rfl rfl rfl rfl (heng) (Tks.c Tk.h Tks.n) ?_
  rintro _ _ ⟨b1, rfl, hb1, rfl⟩
  refine GO.unmerge ?_
  (refine GO.move rfl rfl ?_; refine GO.extract rfl rfl rfl ?_; refine GO.extract rfl rfl rfl ?_; refine GO.assign rfl rfl ?_; refine GO.assign rfl rfl ?_; refine GO.nil ?_; refine kthen_n ?_; refine G.seq ?_; refine G.region ?_; refine GO.loadW rfl rfl rfl (Tk.t (Tk.t Tk.h)) rfl ?_; refine GO.move rfl rfl ?_; refine GO.move rfl rfl ?_; refine GO.move rfl rfl ?_)
  refine GO.call4 rfl rfl rfl rfl rfl (href) (Tks.c (Tk.t Tk.h) Tks.n) ?_
  rintro _ _ ⟨b2, rfl, hb2, rfl⟩
  obtain rfl : b1 = b2 := by rw [Bool.eq_iff_iff, hb1, hb2]
  (refine GO.move rfl rfl ?_; refine GO.extract rfl rfl rfl ?_; refine GO.extract rfl rfl rfl ?_; refine GO.assign rfl rfl ?_; refine GO.assign rfl rfl ?_; refine GO.nil ?_; refine kthen_n ?_; refine G.seq ?_; refine G.region ?_)
  refine GO.call0 rfl (dhead_spec) Tks.n ?_
  rintro _ _ ⟨rfl, rfl⟩
  (refine GO.move rfl rfl ?_; refine GO.gT rfl rfl rfl ?_; refine GO.move rfl rfl ?_; refine GO.gT rfl rfl rfl ?_; refine GO.move rfl rfl ?_; refine GO.gT rfl rfl rfl ?_; refine GO.eqlT rfl rfl rfl rfl ?_; refine GO.pickT rfl rfl rfl ?_; refine GO.move rfl rfl ?_; refine GO.gT rfl rfl rfl ?_; refine GO.move rfl rfl ?_; refine GO.gT rfl rfl rfl ?_; refine GO.move rfl rfl ?_; refine GO.gT rfl rfl rfl ?_; refine GO.eqT rfl rfl rfl rfl ?_; refine GO.pickT rfl rfl rfl ?_; refine GO.assign rfl rfl ?_; refine GO.nil ?_; refine kthen_n ?_; refine G.ret ?_)
  refine KF2.r1 rfl (RV.t rfl) ⟨rfl, rfl⟩ (ImpS.sb ?_)
  ((refine Sb.c Tk.h ?_); (refine Sb.s ?_; refine Sb.s ?_; exact Sb.r))
end Go.Proofs.Ytjokibfldngkeaa
