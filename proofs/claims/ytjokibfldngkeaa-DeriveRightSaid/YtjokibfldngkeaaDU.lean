/-
  The engine's Right.
-/
import Derived.Test.YtjokibfldngkeaaDT
import Derived.Test.YtjokibfldngkeaaDR
namespace Go.Proofs.Ytjokibfldngkeaa
open Go
attribute [local irreducible] G GO GR GT Fn FnV pt init exs pur sat own ImpS f3sV symsV wordV
theorem right_spec (q : HP) (C : CnfD) (w : List Int) (pv wv : Value) (hp : PrsR q pv C.prods) (hw : WordR q wv w) (hok : okC C = true) (hwk : weakC C = true) (hz : Fits C) (hl : ¬ 64 < w.length) : ∀ (N : Nat) (l : List F3) (lv : Value), l.length ≤ N → ¬ 4096 < l.length → StepsR q lv l → RightS q C w pv wv l lv
  | _, [], lv, _, _, hs => right_nil q C w pv wv lv hp hw hs
  | 0, f :: r, lv, h, _, _ => absurd h (by simp)
  | N + 1, (fp, ff, ft) :: r, lv, h, hn, hs => by
    rw [List.length_cons] at h hn
    intro A i j hi hj
    by_cases hg : 0 ≤ fp ∧ fp < C.prods.length ∧ ff = i ∧ ft = j
    · obtain ⟨g1, g2, rfl, rfl⟩ := hg
      obtain ⟨p, rfl⟩ := Int.eq_ofNat_of_zero_le g1
      exact right_good q C w pv wv lv hp hw hok hwk hz hl p i j (by omega) r hs (by rw [List.length_cons]; exact hn) (fun l' lv' hl' hs' => right_spec q C w pv wv hp hw hok hwk hz hl N l' lv' (by omega) (by omega) hs') A hi hj
    · exact right_off q C w pv wv lv hp hw hz fp ff ft r hs (by rw [List.length_cons]; exact hn) A i j hi hj hg
set_option maxHeartbeats 4000000 in
theorem pright_spec (q : HP) (v : Value) (C : CnfD) (hv : CnfR q v C) (hz : Fits C) (nt : Int) (w : List Int) (wv : Value) (hw : WordR q wv w) (l : List F3) (lv : Value) (hs : StepsR q lv l) :
    Fn Try.prog 18 #[v, i64 nt, wv, lv] [q] (fun r Q => ∃ b : Bool, r = .tuple #[.bool b, i64 (if askE C nt w.length = 0 then if 4096 < l.length then 3 else 0 else askE C nt w.length)] ∧ (b = true ↔ askE C nt w.length = 0 ∧ ¬ 4096 < l.length ∧ DerS C w nt 0 w.length l) ∧ Q = [q]) := by
  have ha := asked_spec q v C hv hz nt w wv hw
  obtain ⟨pv, rfl, hp⟩ := hv
  by_cases he : askE C nt w.length = 0
  · obtain ⟨hok, hwk, _, _, hl⟩ := askE_zero he
    have hright := fun (lv' : Value) (hs' : StepsR q lv' l) (h : ¬ 4096 < l.length) => right_spec q C w pv wv hp hw hok hwk hz hl l.length l lv' (Nat.le_refl _) h hs' nt 0 w.length (Nat.zero_le _) (Nat.le_refl _)
    have hclip := clip_spec lv q l hs
    obtain ⟨ap, cp, rfl⟩ := hp.form
    obtain ⟨aw, cw, rfl⟩ := hw.form
    obtain ⟨al, cl, rfl, hcl⟩ := hs.form
    rw [if_pos he]
    rw [he] at ha
    by_cases h4 : 4096 < l.length
    · have d4 : decide ((4096 : Int) < (l.length : Int)) = true := decide_eq_true (by omega)
      rw [if_pos h4]
      refine Fn.mk2 Try.func18 rfl rfl fun w0 F => ?_
      (refine G.seq ?_; refine G.region ?_; refine GO.box rfl rfl rfl fun b4 => ?_; refine GO.assign rfl rfl ?_; refine GO.assign rfl rfl ?_; refine GO.nil ?_; refine kthen_n ?_; refine G.seq ?_; refine G.seq ?_; refine G.region ?_; refine GO.loadW rfl rfl rfl Tk.h rfl ?_; refine GO.move rfl rfl ?_; refine GO.move rfl rfl ?_)
      refine GO.call3 rfl rfl rfl rfl (ha) (Tks.c (Tk.t Tk.h) Tks.n) ?_
      rintro _ _ ⟨rfl, rfl⟩
      (refine GO.assign rfl rfl ?_; refine GO.nil ?_; refine kthen_n ?_; refine G.seq ?_; refine G.region ?_; refine GO.move rfl rfl ?_; refine GO.neF rfl rfl rfl rfl ?_; refine GO.nil ?_; refine kthen_n ?_; refine G.condF rfl rfl ?_; refine G.skip ?_; refine kthen_n ?_; refine G.seq ?_; refine G.seq ?_; refine G.region ?_; refine GO.move rfl rfl ?_; refine GO.lenS rfl rfl ?_; refine GO.gti rfl rfl rfl ?_; refine GO.nil ?_; refine kthen_n ?_; refine G.condT rfl (by assumption) ?_; refine G.seq ?_; refine G.region ?_; refine GO.assign rfl rfl ?_; refine GO.assign rfl rfl ?_; refine GO.nil ?_; refine kthen_n ?_; refine G.ret ?_; refine kthen_r ?_)
      refine KF2.r2 rfl (RV.t rfl) (RV.t rfl) ⟨false, rfl, ⟨(fun h => by cases h), fun h => absurd h4 h.2.1⟩, rfl⟩ (ImpS.sb ?_)
      ((refine Sb.c Tk.h ?_); (refine Sb.s ?_; exact Sb.r))
    · have d4 : decide ((4096 : Int) < (l.length : Int)) = false := decide_eq_false (by omega)
      rw [if_neg h4]
      refine Fn.mk2 Try.func18 rfl rfl fun w0 F => ?_
      (refine G.seq ?_; refine G.region ?_; refine GO.box rfl rfl rfl fun b4 => ?_; refine GO.assign rfl rfl ?_; refine GO.assign rfl rfl ?_; refine GO.nil ?_; refine kthen_n ?_; refine G.seq ?_; refine G.seq ?_; refine G.region ?_; refine GO.loadW rfl rfl rfl Tk.h rfl ?_; refine GO.move rfl rfl ?_; refine GO.move rfl rfl ?_)
      refine GO.call3 rfl rfl rfl rfl (ha) (Tks.c (Tk.t Tk.h) Tks.n) ?_
      rintro _ _ ⟨rfl, rfl⟩
      (refine GO.assign rfl rfl ?_; refine GO.nil ?_; refine kthen_n ?_; refine G.seq ?_; refine G.region ?_; refine GO.move rfl rfl ?_; refine GO.neF rfl rfl rfl rfl ?_; refine GO.nil ?_; refine kthen_n ?_; refine G.condF rfl rfl ?_; refine G.skip ?_; refine kthen_n ?_; refine G.seq ?_; refine G.seq ?_; refine G.region ?_; refine GO.move rfl rfl ?_; refine GO.lenS rfl rfl ?_; refine GO.gti rfl rfl rfl ?_; refine GO.nil ?_; refine kthen_n ?_; refine G.condF rfl (by assumption) ?_; refine G.skip ?_; refine kthen_n ?_; refine G.seq ?_; refine G.region ?_; refine GO.move rfl rfl ?_)
      refine GO.call1 rfl rfl (hclip) Tks.n ?_
      rintro lv2 _ ⟨hs2, rfl⟩
      have hr := hright lv2 hs2 h4
      rw [show i64 ((0 : Nat) : Int) = i64 0 from rfl] at hr
      obtain ⟨a2, c2, rfl, _⟩ := hs2.form
      by_cases h0 : 0 < l.length
      · have d0 : decide ((0 : Int) < (l.length : Int)) = true := decide_eq_true (by omega)
        (refine GO.assign rfl rfl ?_; refine GO.nil ?_; refine kthen_n ?_; refine G.seq ?_; refine G.region ?_; refine GO.move rfl rfl ?_; refine GO.lenS rfl rfl ?_; refine GO.gti rfl rfl rfl ?_; refine GO.move rfl rfl ?_; refine GO.gT rfl rfl (by assumption) ?_; refine GO.loadW rfl rfl rfl (Tk.t Tk.h) rfl ?_; refine GO.gT rfl rfl (by assumption) ?_; refine GO.move rfl rfl ?_; refine GO.gT rfl rfl (by assumption) ?_; refine GO.move rfl rfl ?_; refine GO.gT rfl rfl (by assumption) ?_; refine GO.move rfl rfl ?_; refine GO.gT rfl rfl (by assumption) ?_; refine GO.move rfl rfl ?_; refine GO.gT rfl rfl (by assumption) ?_; refine GO.lenS rfl rfl ?_; refine GO.gT rfl rfl (by assumption) ?_)
        refine GO.call6 rfl rfl rfl rfl rfl rfl rfl (hr) (Tks.c Tk.h Tks.n) ?_
        rintro _ _ ⟨n, rfl, hR, rfl⟩
        (refine GO.gT rfl rfl (by assumption) ?_; refine GO.move rfl rfl ?_; refine GO.gT rfl rfl (by assumption) ?_; refine GO.lenS rfl rfl ?_; refine GO.gT rfl rfl (by assumption) ?_; refine GO.eqi rfl rfl rfl ?_; refine GO.pickTa rfl rfl (by assumption) rfl ?_; refine GO.assign rfl rfl ?_; refine GO.assign rfl rfl ?_; refine GO.nil ?_; refine kthen_n ?_; refine G.ret ?_)
        refine KF2.r2 rfl (RV.t rfl) (RV.t rfl) ⟨_, rfl, ?_, rfl⟩ (ImpS.sb ?_)
        · rw [decide_eq_true_iff, ← hR.all]
          constructor
          · intro h; exact ⟨he, h4, h0, by omega⟩
          · rintro ⟨_, _, _, h⟩; omega
        · ((refine Sb.c Tk.h ?_); (refine Sb.s ?_; exact Sb.r))
      · have d0 : decide ((0 : Int) < (l.length : Int)) = false := decide_eq_false (by omega)
        (refine GO.assign rfl rfl ?_; refine GO.nil ?_; refine kthen_n ?_; refine G.seq ?_; refine G.region ?_; refine GO.move rfl rfl ?_; refine GO.lenS rfl rfl ?_; refine GO.gti rfl rfl rfl ?_; refine GO.move rfl rfl ?_; refine GO.gF rfl rfl rfl (by assumption) ?_; refine GO.gF rfl rfl rfl (by assumption) ?_; refine GO.gF rfl rfl rfl (by assumption) ?_; refine GO.gF rfl rfl rfl (by assumption) ?_; refine GO.gF rfl rfl rfl (by assumption) ?_; refine GO.gF rfl rfl rfl (by assumption) ?_; refine GO.gF rfl rfl rfl (by assumption) ?_; refine GO.gF rfl rfl rfl (by assumption) ?_; refine GO.gF rfl rfl rfl (by assumption) ?_; refine GO.gF rfl rfl rfl (by assumption) ?_; refine GO.pickFa rfl rfl (by assumption) rfl ?_; refine GO.assign rfl rfl ?_; refine GO.assign rfl rfl ?_; refine GO.nil ?_; refine kthen_n ?_; refine G.ret ?_)
        refine KF2.r2 rfl (RV.t rfl) (RV.t rfl) ⟨false, rfl, ⟨(fun h => by cases h), fun h => absurd h.2.2.pos h0⟩, rfl⟩ (ImpS.sb ?_)
        ((refine Sb.c Tk.h ?_); (refine Sb.s ?_; exact Sb.r))
  · obtain ⟨ap, cp, rfl⟩ := hp.form
    obtain ⟨aw, cw, rfl⟩ := hw.form
    obtain ⟨al, cl, rfl, hcl⟩ := hs.form
    rw [if_neg he]
    have de : decide (askE C nt w.length ≠ 0) = true := decide_eq_true he
    generalize askE C nt w.length = e at *
    refine Fn.mk2 Try.func18 rfl rfl fun w0 F => ?_
    (refine G.seq ?_; refine G.region ?_; refine GO.box rfl rfl rfl fun b4 => ?_; refine GO.assign rfl rfl ?_; refine GO.assign rfl rfl ?_; refine GO.nil ?_; refine kthen_n ?_; refine G.seq ?_; refine G.seq ?_; refine G.region ?_; refine GO.loadW rfl rfl rfl Tk.h rfl ?_; refine GO.move rfl rfl ?_; refine GO.move rfl rfl ?_)
    refine GO.call3 rfl rfl rfl rfl (ha) (Tks.c (Tk.t Tk.h) Tks.n) ?_
    rintro _ _ ⟨rfl, rfl⟩
    (refine GO.assign rfl rfl ?_; refine GO.nil ?_; refine kthen_n ?_; refine G.seq ?_; refine G.region ?_; refine GO.move rfl rfl ?_; refine GO.nei rfl rfl rfl ?_; refine GO.nil ?_; refine kthen_n ?_; refine G.condT rfl (by assumption) ?_; refine G.seq ?_; refine G.region ?_; refine GO.move rfl rfl ?_; refine GO.assign rfl rfl ?_; refine GO.assign rfl rfl ?_; refine GO.nil ?_; refine kthen_n ?_; refine G.ret ?_; refine kthen_r ?_)
    refine KF2.r2 rfl (RV.t rfl) (RV.t rfl) ⟨false, rfl, ⟨(fun h => by cases h), fun h => absurd h.1 he⟩, rfl⟩ (ImpS.sb ?_)
    ((refine Sb.c Tk.h ?_); (refine Sb.s ?_; exact Sb.r))
end Go.Proofs.Ytjokibfldngkeaa
