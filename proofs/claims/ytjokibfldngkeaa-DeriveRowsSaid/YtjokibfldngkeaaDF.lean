/-
  The table of a word: what is in it, the productions derive.
-/
import Derived.Test.YtjokibfldngkeaaDE
namespace Go.Proofs.Ytjokibfldngkeaa
open Go
theorem f3sV_get : ∀ {fs : List F3} {k : Nat} {f : F3}, fs[k]? = some f → (f3sV fs)[k * 3]? = some (i64 f.1) ∧ (f3sV fs)[k * 3 + 1]? = some (i64 f.2.1) ∧ (f3sV fs)[k * 3 + 2]? = some (i64 f.2.2)
  | [], _, _, h => by simp at h
  | g :: fs, 0, f, h => by simp at h; subst h; simp [f3sV]
  | g :: fs, k + 1, f, h => by
    have := f3sV_get (fs := fs) (k := k) (by simpa using h)
    have e : f3sV (g :: fs) = i64 g.1 :: i64 g.2.1 :: i64 g.2.2 :: f3sV fs := rfl
    rw [e, show (k + 1) * 3 = k * 3 + 3 by omega]
    simpa using this
theorem built_tab (n : Int) (ap aw : Option Addr) (lp cp lw cw bm : Nat) : Try.prog.built 88 [(0, .agg #[i64 n, .slice ap lp cp]), (1, .slice aw lw cw), (2, .map (some bm))] = some [i64 n, .slice ap lp cp, .slice aw lw cw, .map (some bm), .slice none 0 0].toArray := by kernel_rfl
/-- Of the facts ahead of a place, those that belong to each other are joined. -/
def Clk (C : CnfD) (k : Nat) (fs : List F3) : Prop := ∀ p ∈ C.prods, ∀ s t, p.2 = [s, t] → ∀ i m j a b, a < k → b < k → fs[a]? = some (factV s.2 i m) → fs[b]? = some (factV t.2 m j) → factV p.1 i j ∈ fs
theorem Clk.succ {C : CnfD} {k : Nat} {fs gs : List F3} {A : Int} {fr to : Nat} (h : Clk C k fs) (hk : fs[k]? = some (factV A fr to)) (hp : ∃ t, gs = fs ++ t) (hj : ∀ p ∈ C.prods, JoinP p A fr to fs gs) : Clk C (k + 1) gs := by
  intro p hpm s t e i m j a b ha hb h1 h2
  have hkl := (List.getElem?_eq_some_iff.1 hk).1
  obtain ⟨u, rfl⟩ := hp
  rw [List.getElem?_append_left (by omega)] at h1 h2
  by_cases ea : a = k
  · subst ea
    rw [hk] at h1
    injection h1 with h1
    obtain ⟨rfl, rfl, rfl⟩ := factV_inj h1
    exact (hj p hpm s t e).1 rfl _ (List.mem_of_getElem? h2)
  · by_cases eb : b = k
    · subst eb
      rw [hk] at h2
      injection h2 with h2
      obtain ⟨rfl, rfl, rfl⟩ := factV_inj h2
      exact (hj p hpm s t e).2 rfl _ (List.mem_of_getElem? h1)
    · exact List.mem_append_left _ (h p hpm s t e i m j a b (by omega) (by omega) h1 h2)
theorem table_der {C : CnfD} {w : List Int} {fs : List F3} (hs : Sound C w fs) (hb : ∀ p ∈ C.prods, BaseP w p fs) (hc : Clk C fs.length fs) (A : Int) (i j : Nat) : factV A i j ∈ fs ↔ Der C w A i j :=
  ⟨fun h => hs.der h, fun h => closed_der hb (fun p hp s t e i k j h1 h2 => by
    obtain ⟨a, ha⟩ := List.getElem?_of_mem h1
    obtain ⟨b, hb⟩ := List.getElem?_of_mem h2
    exact hc p hp s t e i k j a b (List.getElem?_eq_some_iff.1 ha).1 (List.getElem?_eq_some_iff.1 hb).1 ha hb) h⟩
theorem begin0 (q : HP) (C : CnfD) (w : List Int) (pv wv : Value) (hp : PrsR q pv C.prods) (hw : WordR q wv w) (hok : okC C = true) (hz : Fits C) (hl : ¬ 64 < w.length) (bt bm : Nat) :
    Fn Try.prog 41 #[ptrT bt] [tabH bt C.nts pv wv bm (.slice none 0 0), pt bm (mapO []), own 62 3 0 (.slice none 0 0) [], q] (fun r Q => ∃ rv' fs', Sound C w fs' ∧ fs'.Nodup ∧ (∀ p ∈ C.prods, BaseP w p fs') ∧ Q = tabL bt C.nts pv wv bm rv' fs' ++ [q]) :=
  begin_spec q C w pv wv hp hw hok hz hl bt bm (.slice none 0 0) [] (fun f h => by cases h) List.nodup_nil
attribute [local irreducible] G GO GR GT Fn FnV pt init exs pur sat own ImpS f3sV numF mapO addF wordV symsV
set_option maxHeartbeats 8000000 in
theorem tabled_spec (q : HP) (C : CnfD) (w : List Int) (pv wv : Value) (hp : PrsR q pv C.prods) (hw : WordR q wv w) (hok : okC C = true) (hz : Fits C) (hl : ¬ 64 < w.length) :
    Fn Try.prog 26 #[.agg #[i64 C.nts, pv], wv] [q] (fun r Q => ∃ bt bm rv fs, r = ptrT bt ∧ (∀ A i j, factV A i j ∈ fs ↔ Der C w A i j) ∧ Q = tabL bt C.nts pv wv bm rv fs ++ [q]) := by
  have hpn : ¬ 140737488355328 < C.prods.length := by have := hz.1; omega
  have hbeg := begin0 q C w pv wv hp hw hok hz hl
  have hjoin := fun (bt bm : Nat) (rv : Value) (fs : List F3) => join_fact q C w pv wv hp hw hok hz hl bt bm rv fs
  obtain ⟨ap, cp, rfl⟩ := hp.form
  obtain ⟨aw, cw, rfl⟩ := hw.form
  refine Fn.mk2 Try.func26 rfl rfl fun w0 F => ?_
  (refine G.seq ?_; refine G.region ?_; refine GO.box rfl rfl rfl fun b2 => ?_; refine GO.assign rfl rfl ?_; refine GO.nil ?_; refine kthen_n ?_; refine G.seq ?_; refine G.region ?_; refine GO.loadW rfl rfl rfl Tk.h rfl ?_; refine GO.move rfl rfl ?_)
  refine GO.makeMap rfl fun bm => ?_
  refine GO.buildPart3 (built_tab C.nts ap aw C.prods.length cp w.length cw bm) rfl rfl rfl rfl ?_
  (refine GO.box rfl rfl rfl fun b11 => ?_; refine GO.assign rfl rfl ?_; refine GO.nil ?_; refine kthen_n ?_; refine G.seq ?_; refine G.region ?_; refine GO.move rfl rfl ?_)
  refine GO.ownNil (T := 62) (sz := 3) ?_
  refine GO.call1 rfl rfl (hbeg b11 bm) (Tks.c (Tk.t Tk.h) (Tks.c (Tk.t Tk.h) (Tks.c Tk.h (Tks.c (Tk.t Tk.h) Tks.n)))) ?_
  rintro _ _ ⟨rv, fs, hs, hn, hb, rfl⟩
  (refine GO.nil ?_; refine kthen_n ?_; refine G.seq ?_; refine G.seq ?_; refine G.region ?_; refine GO.assign rfl rfl ?_; refine GO.nil ?_; refine kthen_n ?_; refine G.block ?_)
  refine G.loop3 (fun (k : Nat) (_ : Value) (_ : List F3) => [(5, ptrT b11), (6, i64 (k : Nat))]) (fun _ rv gs => tabH b11 C.nts (.slice ap C.prods.length cp) (.slice aw w.length cw) bm rv :: pt bm (mapO (numF 0 gs)) :: own 62 3 gs.length rv (f3sV gs) :: q :: F)
    (fun k _ gs => k ≤ gs.length ∧ Sound C w gs ∧ gs.Nodup ∧ (∀ p ∈ C.prods, BaseP w p gs) ∧ Clk C k gs) (fun k _ _ => 5000000 - k) 0 rv fs ⟨Nat.zero_le _, hs, hn, hb, fun p _ s t _ i m j a b h => absurd h (Nat.not_lt_zero _)⟩ ?_ ?_ ?_
  · (refine SubE.c rfl rfl ?_; refine SubE.c rfl rfl ?_; exact SubE.n)
  · ((refine Sb.c Tk.h ?_; refine Sb.c Tk.h ?_; refine Sb.c Tk.h ?_; refine Sb.c Tk.h ?_); (refine Sb.s ?_; exact Sb.r))
  · rintro k rv fs ⟨hk, hs, hn, hb, hc⟩
    have hsm := tab_small hok hl hs hn
    (refine G.seq ?_; refine G.seq ?_; refine G.region ?_; refine GO.move rfl rfl ?_; refine GO.move rfl rfl ?_; refine GO.nilCheck rfl rfl ?_; refine GO.fieldAddr rfl rfl ?_; refine GO.load1 rfl rfl rfl Tk.h rfl ?_; refine GO.lenOwn rfl rfl (Tk.t (Tk.t Tk.h)) ?_; refine GO.lti rfl rfl rfl ?_; refine GO.nil ?_; refine kthen_n ?_)
    refine G.condD rfl (fun hlt => ?_) (fun hge => ?_)
    · have hkl : k < fs.length := by omega
      obtain ⟨f, hf⟩ : ∃ f, fs[k]? = some f := ⟨_, List.getElem?_eq_getElem hkl⟩
      obtain ⟨A, fr, to, rfl, hd⟩ := hs f (List.mem_of_getElem? hf)
      obtain ⟨g1, g2, g3⟩ := f3sV_get hf
      refine G.ownForm (by omega) (Tk.t (Tk.t Tk.h)) fun b cap e12 _ _ _ => ?_
      subst e12
      have hrd : ∀ j u, [i64 A, i64 (fr : Nat), i64 (to : Nat)][j]? = some u → Rd (own 62 3 fs.length (.slice (some ⟨b, 0, none⟩) fs.length cap) (f3sV fs)) ⟨b, 0 + k * 3 + j, none⟩ u := fun j u hj => by
        refine Rd.own ?_
        rw [Nat.zero_add]
        match j, hj with
        | 0, hj => simp at hj; subst hj; exact g1
        | 1, hj => simp at hj; subst hj; exact g2
        | 2, hj => simp at hj; subst hj; exact g3
      (refine G.skip ?_; refine kthen_n ?_; refine G.seq ?_; refine G.block ?_; refine G.region ?_; refine GO.move rfl rfl ?_; refine GO.move rfl rfl ?_; refine GO.nilCheck rfl rfl ?_; refine GO.fieldAddr rfl rfl ?_; refine GO.load1 rfl rfl rfl Tk.h rfl ?_; refine GO.move rfl rfl ?_; refine GO.idxS rfl rfl rfl ⟨rfl, by omega⟩ ?_)
      refine GO.loadM (vs := [i64 A, i64 (fr : Nat), i64 (to : Nat)]) rfl rfl rfl (Tk.t (Tk.t Tk.h)) rfl hrd ?_
      skip
      refine GO.call2 rfl rfl rfl (hjoin b11 bm (.slice (some ⟨b, 0, none⟩) fs.length cap) fs hs hn A fr to hd) (Tks.c Tk.h (Tks.c Tk.h (Tks.c Tk.h (Tks.c Tk.h Tks.n)))) ?_
      rintro _ _ ⟨rv', gs, h1, h2, h3, h4, rfl⟩
      (refine GO.nil ?_; refine kblock_n ?_; refine kthen_n ?_; refine G.region ?_; refine GO.move rfl rfl ?_; refine GO.addi rfl rfl rfl (by omega) ?_; refine GO.assign rfl rfl ?_; refine GO.nil ?_; refine kthen_n ?_)
      refine ⟨k + 1, rv', gs, ⟨?_, h1, h2, fun p hp => (hb p hp).mono fun x hx => sub_pre h3 hx, hc.succ hf h3 h4⟩, by omega, ?_, ?_⟩
      · obtain ⟨u, rfl⟩ := h3
        rw [List.length_append]; omega
      · (refine SubE.c rfl rfl ?_; refine SubE.c rfl rfl ?_; exact SubE.n)
      · ((refine Sb.c Tk.h ?_; refine Sb.c Tk.h ?_; refine Sb.c Tk.h ?_; refine Sb.c Tk.h ?_); (exact Sb.r))
    · have : k = fs.length := by omega
      subst this
      (refine G.exit ?_; refine kthen_x ?_; refine kthen_x ?_; refine kblock_x ?_; refine kthen_n ?_; refine G.seq ?_; refine G.region ?_; refine GO.move rfl rfl ?_; refine GO.assign rfl rfl ?_; refine GO.nil ?_; refine kthen_n ?_; refine G.ret ?_)
      refine KF2.r1 rfl (RV.t rfl) ⟨b11, bm, rv, fs, rfl, table_der hs hb hc, rfl⟩ (ImpS.sb ?_)
      ((refine Sb.c Tk.h ?_; refine Sb.c Tk.h ?_; refine Sb.c Tk.h ?_; refine Sb.c Tk.h ?_); (exact Sb.r))
end Go.Proofs.Ytjokibfldngkeaa
