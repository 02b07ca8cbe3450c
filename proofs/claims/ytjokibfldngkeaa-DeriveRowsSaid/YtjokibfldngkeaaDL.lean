/-
  The document's Has, Begins.
-/
import Derived.Test.YtjokibfldngkeaaDK
import Derived.Test.YtjokibfldngkeaaDH
namespace Go.Proofs.Ytjokibfldngkeaa
open Go
attribute [local irreducible] G GO GR GT Fn FnV pt init exs pur sat own ImpS symsV wordV atN cntF natL
set_option maxHeartbeats 8000000 in
theorem rdhas_spec (q : HP) (v : Value) (C : CnfD) (hv : CnfR q v C) (hz : Fits C) (nt : Int) (w : List Int) (wv : Value) (hw : WordR q wv w) (D : Int → Nat → Nat → Bool) (hD : ∀ A i j, D A i j = true ↔ Der C w A i j) :
    Fn Try.prog 11 #[v, i64 nt, wv] [q] (fun r Q => r = (if askE C nt w.length = 0 then .tuple #[.bool (D nt 0 w.length), i64 0] else .tuple #[.bool false, i64 (askE C nt w.length)]) ∧ Q = [q]) := by
  have ha := rwrong_spec q v C hv hz nt w.length
  obtain ⟨pv, rfl, hp⟩ := hv
  have htab := rtable_spec q C w pv wv hp hw
  obtain ⟨ap, cp, rfl⟩ := hp.form
  obtain ⟨aw, cw, rfl⟩ := hw.form
  by_cases he : askE C nt w.length = 0
  · obtain ⟨hok, hwk, h0, h1, hl⟩ := askE_zero he
    replace htab := htab hok hwk hz hl _ rfl
    have hn := okC_nts hok
    rw [if_pos he]
    rw [he] at ha
    obtain ⟨a, rfl⟩ := Int.eq_ofNat_of_zero_le h0
    have hlt : atN (w.length + 1) a 0 w.length < C.nts.toNat * (w.length + 1) * (w.length + 1) := atN_lt (by omega) (by omega) (by omega)
    have hat := at_spec a 0 w.length (w.length + 1) (by omega) (by omega) (by omega) (by omega)
    rw [show i64 ((w.length + 1 : Nat) : Int) = .int .i64 ((w.length : Int) + 1) from rfl, show i64 ((0 : Nat) : Int) = i64 0 from rfl] at hat
    refine Fn.mk2 Try.func11 rfl rfl fun w0 F => ?_
    (refine G.seq ?_; refine G.region ?_; refine GO.box rfl rfl rfl fun b3 => ?_; refine GO.assign rfl rfl ?_; refine GO.assign rfl rfl ?_; refine GO.nil ?_; refine kthen_n ?_; refine G.seq ?_; refine G.region ?_; refine GO.loadW rfl rfl rfl Tk.h rfl ?_; refine GO.move rfl rfl ?_; refine GO.move rfl rfl ?_; refine GO.lenS rfl rfl ?_)
    refine GO.call3 rfl rfl rfl rfl (ha) (Tks.c (Tk.t Tk.h) Tks.n) ?_
    rintro _ _ ⟨rfl, rfl⟩
    (refine GO.assign rfl rfl ?_; refine GO.nil ?_; refine kthen_n ?_; refine G.seq ?_; refine G.seq ?_; refine G.region ?_; refine GO.move rfl rfl ?_; refine GO.neF rfl rfl rfl rfl ?_; refine GO.nil ?_; refine kthen_n ?_; refine G.condF rfl rfl ?_; refine G.skip ?_; refine kthen_n ?_; refine G.seq ?_; refine G.region ?_; refine GO.loadW rfl rfl rfl (Tk.t Tk.h) rfl ?_; refine GO.move rfl rfl ?_)
    refine GO.call2 rfl rfl rfl (htab) (Tks.c Tk.h Tks.n) ?_
    rintro _ _ ⟨bo, K, rfl, hK, rfl⟩
    have hkd : K (atN (w.length + 1) a 0 w.length) = D (a : Int) 0 w.length := by
      rw [Bool.eq_iff_iff, hK a 0 w.length (by omega) (by omega) (Nat.le_refl _), hD]
    rw [← hkd]
    generalize C.nts.toNat * (w.length + 1) * (w.length + 1) = N at *
    generalize atN (w.length + 1) a 0 w.length = x at *
    (refine GO.assign rfl rfl ?_; refine GO.nil ?_; refine kthen_n ?_; refine G.seq ?_; refine G.region ?_; refine GO.move rfl rfl ?_; refine GO.move rfl rfl ?_; refine GO.move rfl rfl ?_; refine GO.lenS rfl rfl ?_; refine GO.move rfl rfl ?_; refine GO.lenS rfl rfl ?_; refine GO.addi rfl rfl rfl (by omega) ?_)
    refine GO.call4 rfl rfl rfl rfl rfl (hat) Tks.n ?_
    rintro _ _ ⟨rfl, rfl⟩
    (refine GO.idxS rfl rfl rfl ⟨rfl, by omega⟩ ?_; refine GO.load1 rfl rfl rfl Tk.h (rowV_get1 (by assumption)) ?_; refine GO.assign rfl rfl ?_; refine GO.assign rfl rfl ?_; refine GO.nil ?_; refine kthen_n ?_; refine G.ret ?_)
    refine KF2.r2 rfl (RV.t rfl) (RV.t rfl) ⟨rfl, rfl⟩ (ImpS.sb ?_)
    ((refine Sb.c (Tk.t Tk.h) ?_); (refine Sb.s ?_; refine Sb.s ?_; exact Sb.r))
  · rw [if_neg he]
    have de : decide (askE C nt w.length ≠ 0) = true := decide_eq_true he
    generalize askE C nt w.length = e at *
    refine Fn.mk2 Try.func11 rfl rfl fun w0 F => ?_
    (refine G.seq ?_; refine G.region ?_; refine GO.box rfl rfl rfl fun b3 => ?_; refine GO.assign rfl rfl ?_; refine GO.assign rfl rfl ?_; refine GO.nil ?_; refine kthen_n ?_; refine G.seq ?_; refine G.region ?_; refine GO.loadW rfl rfl rfl Tk.h rfl ?_; refine GO.move rfl rfl ?_; refine GO.move rfl rfl ?_; refine GO.lenS rfl rfl ?_)
    refine GO.call3 rfl rfl rfl rfl (ha) (Tks.c (Tk.t Tk.h) Tks.n) ?_
    rintro _ _ ⟨rfl, rfl⟩
    (refine GO.assign rfl rfl ?_; refine GO.nil ?_; refine kthen_n ?_; refine G.seq ?_; refine G.seq ?_; refine G.region ?_; refine GO.move rfl rfl ?_; refine GO.nei rfl rfl rfl ?_; refine GO.nil ?_; refine kthen_n ?_; refine G.condT rfl (by assumption) ?_; refine G.seq ?_; refine G.region ?_; refine GO.move rfl rfl ?_; refine GO.assign rfl rfl ?_; refine GO.assign rfl rfl ?_; refine GO.nil ?_; refine kthen_n ?_; refine G.ret ?_; refine kthen_r ?_)
    refine KF2.r2 rfl (RV.t rfl) (RV.t rfl) ⟨rfl, rfl⟩ (ImpS.sb ?_)
    ((refine Sb.c Tk.h ?_); (refine Sb.s ?_; exact Sb.r))
end Go.Proofs.Ytjokibfldngkeaa
