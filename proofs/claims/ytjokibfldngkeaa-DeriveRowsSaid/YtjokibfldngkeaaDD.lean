/-
  The table of facts: begin.
-/
import Derived.Test.YtjokibfldngkeaaDC
namespace Go.Proofs.Ytjokibfldngkeaa
open Go
def wordV (w : List Int) : List Value := w.map fun x => i64 x
/-- A word, readable in q. -/
def WordR (q : HP) (v : Value) (w : List Int) : Prop := Sl q v w.length 1 (wordV w)
theorem WordR.form {q : HP} {v : Value} {w : List Int} (h : WordR q v w) : ∃ a cap, v = .slice a w.length cap := let ⟨a, cap, e, _⟩ := h; ⟨a, cap, e⟩
theorem WordR.at {q : HP} {a : Option Addr} {n cap k : Nat} {w : List Int} {x : Int} (h : WordR q (.slice a n cap) w) (hk : w[k]? = some x) :
    ∃ b o, a = some ⟨b, o, none⟩ ∧ n = w.length ∧ Rd q ⟨b, o + k * 1, none⟩ (i64 x) := by
  obtain ⟨a', cap', e, hl, hr⟩ := h
  injection e with e1 e2 e3
  subst e1 e2
  have hlt := (List.getElem?_eq_some_iff.1 hk).1
  obtain ⟨b, o, rfl, hr'⟩ := hr (by omega)
  refine ⟨b, o, rfl, rfl, ?_⟩
  rw [Nat.mul_one]
  exact hr' _ _ (by unfold wordV; rw [List.getElem?_map, hk]; rfl)
theorem WordR.sup {q q' : HP} (h : Sup q q') {v : Value} {w : List Int} (k : WordR q v w) : WordR q' v w := Sl.sup h k
theorem tab_small {C : CnfD} {w : List Int} {fs : List F3} (hok : okC C = true) (hl : ¬ 64 < w.length) (hs : Sound C w fs) (hn : fs.Nodup) : ¬ 5000000 ≤ fs.length := by
  have h1 := sound_len hok hs hn
  have h2 := okC_nts hok
  have h3 : C.nts.toNat * ((w.length + 1) * (w.length + 1)) ≤ 1024 * (65 * 65) := Nat.mul_le_mul (by omega) (Nat.mul_le_mul (by omega) (by omega))
  omega
theorem memA {fs : List F3} {f : F3} : f ∈ addF fs f := addF_mem.2 (.inr rfl)
theorem memO {fs : List F3} {f g : F3} (h : g ∈ fs) : g ∈ addF fs f := addF_mem.2 (.inl h)
attribute [local irreducible] G GO GR GT Fn FnV pt init exs pur sat own ImpS f3sV numF mapO addF wordV symsV
set_option maxHeartbeats 16000000 in
theorem begin_spec (q : HP) (C : CnfD) (w : List Int) (pv wv : Value) (hp : PrsR q pv C.prods) (hw : WordR q wv w) (hok : okC C = true) (hz : Fits C) (hl : ¬ 64 < w.length) (bt bm : Nat) (rv : Value) (fs : List F3) (hs : Sound C w fs) (hnd : fs.Nodup) :
    Fn Try.prog 41 #[ptrT bt] (tabL bt C.nts pv wv bm rv fs ++ [q]) (fun r Q => ∃ rv' fs', Sound C w fs' ∧ fs'.Nodup ∧ (∀ p ∈ C.prods, BaseP w p fs') ∧ Q = tabL bt C.nts pv wv bm rv' fs' ++ [q]) := by
  have hpn : ¬ 140737488355328 < C.prods.length := by have := hz.1; omega
  obtain ⟨ap, cp, rfl⟩ := hp.form
  obtain ⟨aw, cw, rfl⟩ := hw.form
  refine Fn.mk2 Try.func41 rfl rfl fun w0 F => ?_
  (refine G.seq ?_; refine G.region ?_; refine GO.move rfl rfl ?_; refine GO.nilCheck rfl rfl ?_; refine GO.fieldAddr rfl rfl ?_; refine GO.fieldAddr rfl rfl ?_; refine GO.load1 rfl rfl rfl Tk.h rfl ?_; refine GO.lenS rfl rfl ?_; refine GO.move rfl rfl ?_; refine GO.nil ?_; refine kthen_n ?_; refine G.block ?_)
  refine G.loop3 (fun (k : Nat) (_ : Value) (_ : List F3) => [(0, ptrT bt), (11, .slice ap C.prods.length cp), (12, i64 (C.prods.length : Nat)), (13, i64 (k : Nat))])
    (fun _ rv fs => tabH bt C.nts (.slice ap C.prods.length cp) (.slice aw w.length cw) bm rv :: pt bm (mapO (numF 0 fs)) :: own 62 3 fs.length rv (f3sV fs) :: q :: F)
    (fun k _ fs => k ≤ C.prods.length ∧ Sound C w fs ∧ fs.Nodup ∧ ∀ j p, j < k → C.prods[j]? = some p → BaseP w p fs) (fun k _ _ => C.prods.length - k) 0 rv fs ⟨Nat.zero_le _, hs, hnd, fun j p h => absurd h (Nat.not_lt_zero _)⟩ ?_ ?_ ?_
  · (refine SubE.c rfl rfl ?_; refine SubE.c rfl rfl ?_; refine SubE.c rfl rfl ?_; refine SubE.c rfl rfl ?_; exact SubE.n)
  · ((refine Sb.c Tk.h ?_; refine Sb.c Tk.h ?_; refine Sb.c Tk.h ?_; refine Sb.c Tk.h ?_); (exact Sb.r))
  · rintro k rv fs ⟨hk, hs, hnd, hb⟩
    (refine G.seq ?_; refine G.region ?_; refine GO.lti rfl rfl rfl ?_; refine GO.nil ?_; refine kthen_n ?_; refine G.seq ?_)
    refine G.condD rfl (fun hlt => ?_) (fun hge => ?_)
    · have hkl : k < C.prods.length := by omega
      obtain ⟨p, hpk⟩ : ∃ p, C.prods[k]? = some p := ⟨_, List.getElem?_eq_getElem hkl⟩
      obtain ⟨b0, o0, bv, rfl, _, r1, r2, hss⟩ := hp.at hpk
      have hpm := List.mem_of_getElem? hpk
      obtain ⟨A, body⟩ := p
      dsimp only at r1 r2 hss
      obtain ⟨ab, cb, rfl⟩ := hss.form
      (refine G.skip ?_; refine kthen_n ?_; refine G.seq ?_; refine G.block ?_; refine G.seq ?_; refine G.region ?_; refine GO.idxS rfl rfl rfl ⟨rfl, by omega⟩ ?_; refine GO.load2 rfl rfl rfl (Tk.t (Tk.t (Tk.t Tk.h))) (by assumption) (by assumption) ?_; refine GO.alloc rfl fun b3 => ?_; refine GO.storeW rfl rfl Tk.h ⟨rfl, rfl⟩ (by simp [Value.oneCell']) ?_; refine GO.nil ?_; refine kthen_n ?_; refine G.seq ?_; refine G.region ?_; refine GO.fieldAddr rfl rfl ?_; refine GO.load1 rfl rfl rfl Tk.h rfl ?_; refine GO.lenS rfl rfl ?_; refine GO.nil ?_; refine kthen_n ?_; refine G.block ?_; refine G.seq ?_; refine G.region ?_; refine GO.eqi rfl rfl rfl ?_; refine GO.assign rfl rfl ?_; refine GO.nil ?_; refine kthen_n ?_)
      match body, hss, hpk, hpm with
      | [], hss, hpk, hpm =>
        (refine G.condT rfl rfl ?_; refine G.seq ?_; refine G.region ?_; refine GO.move rfl rfl ?_; refine GO.nilCheck rfl rfl ?_; refine GO.fieldAddr rfl rfl ?_; refine GO.load1 rfl rfl rfl (Tk.t Tk.h) rfl ?_; refine GO.lenS rfl rfl ?_; refine GO.addi rfl rfl rfl (by omega) ?_; refine GO.move rfl rfl ?_; refine GO.nil ?_; refine kthen_n ?_; refine G.block ?_)
        refine G.loop3 (fun (i : Nat) (_ : Value) (_ : List F3) => [(0, ptrT bt), (3, ptrT b3), (11, .slice (some ⟨b0, o0, none⟩) C.prods.length cp), (12, i64 (C.prods.length : Nat)), (13, i64 (k : Nat)), (27, .int .i64 ((w.length : Int) + 1)), (28, i64 (i : Nat))])
          (fun _ rv gs => tabH bt C.nts (.slice (some ⟨b0, o0, none⟩) C.prods.length cp) (.slice aw w.length cw) bm rv :: pt bm (mapO (numF 0 gs)) :: own 62 3 gs.length rv (f3sV gs) :: q :: pt b3 (row [i64 A, .slice ab 0 cb] 52) :: F)
          (fun i _ gs => i ≤ w.length + 1 ∧ Sound C w gs ∧ gs.Nodup ∧ (∀ x ∈ fs, x ∈ gs) ∧ ∀ j, j < i → factV A j j ∈ gs) (fun i _ _ => w.length + 1 - i) 0 rv fs ⟨Nat.zero_le _, hs, hnd, fun _ h => h, fun j h => absurd h (Nat.not_lt_zero _)⟩ ?_ ?_ ?_
        · (refine SubE.c rfl rfl ?_; refine SubE.c rfl rfl ?_; refine SubE.c rfl rfl ?_; refine SubE.c rfl rfl ?_; refine SubE.c rfl rfl ?_; refine SubE.c rfl rfl ?_; refine SubE.c rfl rfl ?_; exact SubE.n)
        · ((refine Sb.c (Tk.t Tk.h) ?_; refine Sb.c (Tk.t Tk.h) ?_; refine Sb.c (Tk.t Tk.h) ?_; refine Sb.c (Tk.t Tk.h) ?_; refine Sb.c Tk.h ?_); (exact Sb.r))
        · rintro i rv gs ⟨hi, hgs, hgn, hsub, hall⟩
          have hsm := tab_small hok hl hgs hgn
          (refine G.seq ?_; refine G.region ?_; refine GO.lti rfl rfl rfl ?_; refine GO.nil ?_; refine kthen_n ?_; refine G.seq ?_)
          refine G.condD rfl (fun hlt2 => ?_) (fun hge2 => ?_)
          · have hd : Der C w A i i := .none hpm (by omega)
            (refine G.skip ?_; refine kthen_n ?_; refine G.seq ?_; refine G.block ?_; refine G.seq ?_; refine G.region ?_; refine GO.move rfl rfl ?_; refine GO.assign rfl rfl ?_; refine GO.nil ?_; refine kthen_n ?_; refine G.region ?_; refine GO.move rfl rfl ?_; refine GO.fieldAddr rfl rfl ?_; refine GO.load1 rfl rfl rfl (Tk.t (Tk.t (Tk.t (Tk.t Tk.h)))) rfl ?_; refine GO.move rfl rfl ?_; refine GO.move rfl rfl ?_; refine GO.build3 rfl rfl rfl rfl rfl ?_)
            refine GO.call2 rfl rfl rfl (add_spec bt C.nts (.slice (some ⟨b0, o0, none⟩) C.prods.length cp) (.slice aw w.length cw) bm rv gs (factV A i i) (by omega)) (Tks.c Tk.h (Tks.c Tk.h (Tks.c Tk.h Tks.n))) ?_
            rintro _ _ ⟨rv', rfl⟩
            (refine GO.nil ?_; refine kblock_n ?_; refine kthen_n ?_; refine G.region ?_; refine GO.addi rfl rfl rfl (by omega) ?_; refine GO.move rfl rfl ?_; refine GO.nil ?_; refine kthen_n ?_)
            refine ⟨i + 1, rv', addF gs (factV A i i), ⟨by omega, addF_sound hgs hd, addF_nodup hgn _, fun x hx => memO (hsub x hx), fun j hj => ?_⟩, by omega, ?_, ?_⟩
            · by_cases e : j = i
              · subst e; exact memA
              · exact memO (hall j (by omega))
            · (refine SubE.c rfl rfl ?_; refine SubE.c rfl rfl ?_; refine SubE.c rfl rfl ?_; refine SubE.c rfl rfl ?_; refine SubE.c rfl rfl ?_; refine SubE.c rfl rfl ?_; refine SubE.c rfl rfl ?_; exact SubE.n)
            · ((refine Sb.c Tk.h ?_; refine Sb.c Tk.h ?_; refine Sb.c Tk.h ?_; refine Sb.c Tk.h ?_; refine Sb.c Tk.h ?_); (exact Sb.r))
          · (refine G.exit ?_; refine kthen_x ?_; refine kthen_x ?_; refine kblock_x ?_; refine kblock_n ?_; refine kblock_n ?_; refine kthen_n ?_; refine G.region ?_; refine GO.addi rfl rfl rfl (by omega) ?_; refine GO.move rfl rfl ?_; refine GO.nil ?_; refine kthen_n ?_)
            refine ⟨k + 1, rv, gs, ⟨by omega, hgs, hgn, fun j p hj hjp => ?_⟩, by omega, ?_, ?_⟩
            · by_cases e : j = k
              · subst e
                rw [hpk] at hjp
                injection hjp with hjp
                subst hjp
                exact ⟨fun _ m hm => hall m (by omega), (fun s e => by cases e)⟩
              · exact (hb j p (by omega) hjp).mono hsub
            · (refine SubE.c rfl rfl ?_; refine SubE.c rfl rfl ?_; refine SubE.c rfl rfl ?_; refine SubE.c rfl rfl ?_; exact SubE.n)
            · ((refine Sb.c Tk.h ?_; refine Sb.c Tk.h ?_; refine Sb.c Tk.h ?_; refine Sb.c Tk.h ?_); (refine Sb.s ?_; exact Sb.r))
      | [s], hss, hpk, hpm =>
        obtain ⟨bb, ob, rfl, _, _, rs⟩ := hss.at (k := 0) (s := s) rfl
        (refine G.condF rfl rfl ?_; refine G.seq ?_; refine G.region ?_; refine GO.eqT rfl rfl rfl rfl ?_; refine GO.assign rfl rfl ?_; refine GO.nil ?_; refine kthen_n ?_; refine G.condT rfl rfl ?_; refine G.seq ?_; refine G.region ?_; refine GO.move rfl rfl ?_; refine GO.nilCheck rfl rfl ?_; refine GO.fieldAddr rfl rfl ?_; refine GO.load1 rfl rfl rfl (Tk.t Tk.h) rfl ?_; refine GO.lenS rfl rfl ?_; refine GO.move rfl rfl ?_; refine GO.nil ?_; refine kthen_n ?_; refine G.block ?_)
        refine G.loop3 (fun (i : Nat) (_ : Value) (_ : List F3) => [(0, ptrT bt), (3, ptrT b3), (11, .slice (some ⟨b0, o0, none⟩) C.prods.length cp), (12, i64 (C.prods.length : Nat)), (13, i64 (k : Nat)), (44, .slice aw w.length cw), (45, i64 (w.length : Nat)), (46, i64 (i : Nat))])
          (fun _ rv gs => tabH bt C.nts (.slice (some ⟨b0, o0, none⟩) C.prods.length cp) (.slice aw w.length cw) bm rv :: pt bm (mapO (numF 0 gs)) :: own 62 3 gs.length rv (f3sV gs) :: q :: pt b3 (row [i64 A, .slice (some ⟨bb, ob, none⟩) 1 cb] 52) :: F)
          (fun i _ gs => i ≤ w.length ∧ Sound C w gs ∧ gs.Nodup ∧ (∀ x ∈ fs, x ∈ gs) ∧ ∀ j, j < i → w[j]? = some s.2 → factV A j (j + 1) ∈ gs) (fun i _ _ => w.length - i) 0 rv fs ⟨Nat.zero_le _, hs, hnd, fun _ h => h, fun j h => absurd h (Nat.not_lt_zero _)⟩ ?_ ?_ ?_
        · (refine SubE.c rfl rfl ?_; refine SubE.c rfl rfl ?_; refine SubE.c rfl rfl ?_; refine SubE.c rfl rfl ?_; refine SubE.c rfl rfl ?_; refine SubE.c rfl rfl ?_; refine SubE.c rfl rfl ?_; refine SubE.c rfl rfl ?_; exact SubE.n)
        · ((refine Sb.c (Tk.t Tk.h) ?_; refine Sb.c (Tk.t Tk.h) ?_; refine Sb.c (Tk.t Tk.h) ?_; refine Sb.c (Tk.t Tk.h) ?_; refine Sb.c Tk.h ?_); (exact Sb.r))
        · rintro i rv gs ⟨hi, hgs, hgn, hsub, hall⟩
          have hsm := tab_small hok hl hgs hgn
          (refine G.seq ?_; refine G.region ?_; refine GO.lti rfl rfl rfl ?_; refine GO.nil ?_; refine kthen_n ?_; refine G.seq ?_)
          refine G.condD rfl (fun hlt2 => ?_) (fun hge2 => ?_)
          · have hiw : i < w.length := by omega
            obtain ⟨x, hx⟩ : ∃ x, w[i]? = some x := ⟨_, List.getElem?_eq_getElem hiw⟩
            obtain ⟨bw, ow, rfl, _, rw1⟩ := hw.at hx
            (refine G.skip ?_; refine kthen_n ?_; refine G.seq ?_; refine G.block ?_; refine G.seq ?_; refine G.region ?_; refine GO.move rfl rfl ?_; refine GO.idxS rfl rfl rfl ⟨rfl, by omega⟩ ?_; refine GO.loadQ rfl rfl rfl (Tk.t (Tk.t (Tk.t Tk.h))) (by assumption) ?_; refine GO.assign rfl rfl ?_; refine GO.assign rfl rfl ?_; refine GO.nil ?_; refine kthen_n ?_; refine G.seq ?_; refine G.region ?_; refine GO.move rfl rfl ?_; refine GO.fieldAddr rfl rfl ?_; refine GO.load1 rfl rfl rfl (Tk.t (Tk.t (Tk.t (Tk.t Tk.h)))) rfl ?_)
            refine GO.idxS (j := 0) rfl rfl rfl ⟨rfl, by decide⟩ ?_
            (refine GO.fieldAddr rfl rfl ?_; refine GO.loadQ rfl rfl rfl (Tk.t (Tk.t (Tk.t Tk.h))) (by assumption) ?_; refine GO.eqi rfl rfl rfl ?_; refine GO.nil ?_; refine kthen_n ?_)
            refine G.condD rfl (fun heq => ?_) (fun hne => ?_)
            · subst heq
              have hd : Der C w A i (i + 1) := .one hpm hx
              have hadd := fun (pv wv : Value) => add_spec bt C.nts pv wv bm rv gs (factV A i (i + 1)) (by omega)
              rw [show f3V (factV A i (i + 1)) = .agg #[i64 A, i64 (i : Nat), .int .i64 ((i : Int) + 1)] from rfl] at hadd
              (refine G.region ?_; refine GO.move rfl rfl ?_; refine GO.fieldAddr rfl rfl ?_; refine GO.load1 rfl rfl rfl (Tk.t (Tk.t (Tk.t (Tk.t Tk.h)))) rfl ?_; refine GO.move rfl rfl ?_; refine GO.move rfl rfl ?_; refine GO.addi rfl rfl rfl (by omega) ?_; refine GO.build3 rfl rfl rfl rfl rfl ?_)
              refine GO.call2 rfl rfl rfl (hadd (.slice (some ⟨b0, o0, none⟩) C.prods.length cp) (.slice (some ⟨bw, ow, none⟩) w.length cw)) (Tks.c Tk.h (Tks.c Tk.h (Tks.c Tk.h Tks.n))) ?_
              rintro _ _ ⟨rv', rfl⟩
              (refine GO.nil ?_; refine kblock_n ?_; refine kthen_n ?_; refine G.region ?_; refine GO.addi rfl rfl rfl (by omega) ?_; refine GO.move rfl rfl ?_; refine GO.nil ?_; refine kthen_n ?_)
              refine ⟨i + 1, rv', addF gs (factV A i (i + 1)), ⟨by omega, addF_sound hgs hd, addF_nodup hgn _, fun x hx => memO (hsub x hx), fun j hj hjx => ?_⟩, by omega, ?_, ?_⟩
              · by_cases e : j = i
                · subst e; exact memA
                · exact memO (hall j (by omega) hjx)
              · (refine SubE.c rfl rfl ?_; refine SubE.c rfl rfl ?_; refine SubE.c rfl rfl ?_; refine SubE.c rfl rfl ?_; refine SubE.c rfl rfl ?_; refine SubE.c rfl rfl ?_; refine SubE.c rfl rfl ?_; refine SubE.c rfl rfl ?_; exact SubE.n)
              · ((refine Sb.c Tk.h ?_; refine Sb.c Tk.h ?_; refine Sb.c Tk.h ?_; refine Sb.c Tk.h ?_; refine Sb.c Tk.h ?_); (exact Sb.r))
            · (refine G.skip ?_; refine kblock_n ?_; refine kthen_n ?_; refine G.region ?_; refine GO.addi rfl rfl rfl (by omega) ?_; refine GO.move rfl rfl ?_; refine GO.nil ?_; refine kthen_n ?_)
              refine ⟨i + 1, rv, gs, ⟨by omega, hgs, hgn, hsub, fun j hj hjx => ?_⟩, by omega, ?_, ?_⟩
              · by_cases e : j = i
                · subst e
                  rw [hx] at hjx
                  injection hjx with hjx
                  exact absurd hjx hne
                · exact hall j (by omega) hjx
              · (refine SubE.c rfl rfl ?_; refine SubE.c rfl rfl ?_; refine SubE.c rfl rfl ?_; refine SubE.c rfl rfl ?_; refine SubE.c rfl rfl ?_; refine SubE.c rfl rfl ?_; refine SubE.c rfl rfl ?_; refine SubE.c rfl rfl ?_; exact SubE.n)
              · ((refine Sb.c Tk.h ?_; refine Sb.c Tk.h ?_; refine Sb.c Tk.h ?_; refine Sb.c Tk.h ?_; refine Sb.c Tk.h ?_); (exact Sb.r))
          · (refine G.exit ?_; refine kthen_x ?_; refine kthen_x ?_; refine kblock_x ?_; refine kblock_n ?_; refine kblock_n ?_; refine kthen_n ?_; refine G.region ?_; refine GO.addi rfl rfl rfl (by omega) ?_; refine GO.move rfl rfl ?_; refine GO.nil ?_; refine kthen_n ?_)
            refine ⟨k + 1, rv, gs, ⟨by omega, hgs, hgn, fun j p hj hjp => ?_⟩, by omega, ?_, ?_⟩
            · by_cases e : j = k
              · subst e
                rw [hpk] at hjp
                injection hjp with hjp
                subst hjp
                refine ⟨(fun e => by cases e), fun s' e m hm => ?_⟩
                injection e with e _
                subst e
                exact hall m (by have := (List.getElem?_eq_some_iff.1 hm).1; omega) hm
              · exact (hb j p (by omega) hjp).mono hsub
            · (refine SubE.c rfl rfl ?_; refine SubE.c rfl rfl ?_; refine SubE.c rfl rfl ?_; refine SubE.c rfl rfl ?_; exact SubE.n)
            · ((refine Sb.c Tk.h ?_; refine Sb.c Tk.h ?_; refine Sb.c Tk.h ?_; refine Sb.c Tk.h ?_); (refine Sb.s ?_; exact Sb.r))
      | s :: t :: more, hss, hpk, hpm =>
        have d0 : decide (((s :: t :: more).length : Int) = 0) = false := decide_eq_false (by simp; omega)
        have d1 : decide (((s :: t :: more).length : Int) = 1) = false := decide_eq_false (by simp; omega)
        (refine G.condF rfl rfl ?_; refine G.seq ?_; refine G.region ?_; refine GO.eqi rfl rfl rfl ?_; refine GO.assign rfl rfl ?_; refine GO.nil ?_; refine kthen_n ?_; refine G.condF rfl rfl ?_; refine G.skip ?_; refine kblock_n ?_; refine kblock_n ?_; refine kthen_n ?_; refine G.region ?_; refine GO.addi rfl rfl rfl (by omega) ?_; refine GO.move rfl rfl ?_; refine GO.nil ?_; refine kthen_n ?_)
        refine ⟨k + 1, rv, fs, ⟨by omega, hs, hnd, fun j p hj hjp => ?_⟩, by omega, ?_, ?_⟩
        · by_cases e : j = k
          · subst e
            rw [hpk] at hjp
            injection hjp with hjp
            subst hjp
            exact ⟨(fun e => by cases e), (fun s' e => by cases e)⟩
          · exact hb j p (by omega) hjp
        · (refine SubE.c rfl rfl ?_; refine SubE.c rfl rfl ?_; refine SubE.c rfl rfl ?_; refine SubE.c rfl rfl ?_; exact SubE.n)
        · ((refine Sb.c (Tk.t Tk.h) ?_; refine Sb.c (Tk.t Tk.h) ?_; refine Sb.c (Tk.t Tk.h) ?_; refine Sb.c (Tk.t Tk.h) ?_); (refine Sb.s ?_; exact Sb.r))
    · have : k = C.prods.length := by omega
      subst this
      (refine G.exit ?_; refine kthen_x ?_; refine kthen_x ?_; refine kblock_x ?_)
      refine KF2.n0 (Q := tabL bt C.nts (.slice ap C.prods.length cp) (.slice aw w.length cw) bm rv fs ++ [q]) rfl ⟨rv, fs, hs, hnd, fun p hpm => ?_, rfl⟩ (ImpS.sb ?_)
      · obtain ⟨j, hj⟩ := List.getElem?_of_mem hpm
        exact hb j p (List.getElem?_eq_some_iff.1 hj).1 hj
      · ((refine Sb.c Tk.h ?_; refine Sb.c Tk.h ?_; refine Sb.c Tk.h ?_; refine Sb.c Tk.h ?_); (exact Sb.r))
end Go.Proofs.Ytjokibfldngkeaa
