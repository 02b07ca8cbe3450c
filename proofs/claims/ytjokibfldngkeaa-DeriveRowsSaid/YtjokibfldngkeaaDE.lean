/-
  The table of facts: join.
-/
import Derived.Test.YtjokibfldngkeaaDD
namespace Go.Proofs.Ytjokibfldngkeaa
open Go
theorem Sound.der {C : CnfD} {w : List Int} {fs : List F3} (h : Sound C w fs) {A : Int} {i j : Nat} (k : factV A i j ∈ fs) : Der C w A i j := by
  obtain ⟨B, m, n, e, hd⟩ := h _ k
  obtain ⟨rfl, rfl, rfl⟩ := factV_inj e
  exact hd
theorem sub_pre {fs gs : List F3} (h : ∃ t, gs = fs ++ t) {x : F3} (k : x ∈ fs) : x ∈ gs := by
  obtain ⟨t, rfl⟩ := h
  exact List.mem_append_left _ k
theorem pre_trans {fs gs hs : List F3} (h : ∃ t, gs = fs ++ t) (k : ∃ t, hs = gs ++ t) : ∃ t, hs = fs ++ t := by
  obtain ⟨t, rfl⟩ := h
  obtain ⟨u, rfl⟩ := k
  exact ⟨t ++ u, by rw [List.append_assoc]⟩
theorem addF_pre2 {fs gs : List F3} (h : ∃ t, gs = fs ++ t) (f : F3) : ∃ t, addF gs f = fs ++ t := pre_trans h (addF_pre gs f)
theorem G.midE {P : Program} {c : Cx} {K : Kont} {L : Env} {H : List HP} {σ : Type} {x y : Code} (S : σ → Env) (M : σ → List HP) (I : σ → Prop) (hx : G P c x (kthen (fun L' H' => ∃ s, I s ∧ SubE (S s) L' ∧ ImpS H' (M s)) K) L H) (hy : ∀ s, I s → G P c y K (S s) (M s)) : G P c x (kthen (fun L H => G P c y K L H) K) L H :=
  G.mono hx (fun e L' H' h => by
    cases e with
    | normal => obtain ⟨s, hi, hL, hH⟩ := h; exact G.subI hL hH (hy s hi)
    | _ => exact h)
theorem G.midBE {P : Program} {c : Cx} {K : Kont} {L : Env} {H : List HP} {σ : Type} {x y : Code} {id : Nat} (S : σ → Env) (M : σ → List HP) (I : σ → Prop) (hx : G P c x (kblock id (kthen (fun L' H' => ∃ s, I s ∧ SubE (S s) L' ∧ ImpS H' (M s)) K)) L H) (hy : ∀ s, I s → G P c y K (S s) (M s)) : G P c x (kblock id (kthen (fun L H => G P c y K L H) K)) L H :=
  G.mono hx (fun e L' H' h => by
    cases e with
    | normal => obtain ⟨s, hi, hL, hH⟩ := h; exact G.subI hL hH (hy s hi)
    | exit i =>
      simp only [kblock] at h ⊢
      cases hb : Nat.beq i id with
      | true => simp only [hb, cond_true] at h ⊢; obtain ⟨s, hi, hL, hH⟩ := h; exact G.subI hL hH (hy s hi)
      | false => simp only [hb, cond_false] at h ⊢; exact h
    | _ => exact h)
attribute [local irreducible] G GO GR GT Fn FnV pt init exs pur sat own ImpS f3sV numF mapO addF wordV symsV
set_option maxHeartbeats 32000000 in
theorem join_fact (q : HP) (C : CnfD) (w : List Int) (pv wv : Value) (hp : PrsR q pv C.prods) (hw : WordR q wv w) (hok : okC C = true) (hz : Fits C) (hl : ¬ 64 < w.length) (bt bm : Nat) (rv : Value) (fs : List F3) (hs : Sound C w fs) (hnd : fs.Nodup)
    (A : Int) (fr to : Nat) (hd : Der C w A fr to) :
    Fn Try.prog 42 #[ptrT bt, .agg #[i64 A, i64 (fr : Nat), i64 (to : Nat)]] (tabL bt C.nts pv wv bm rv fs ++ [q]) (fun r Q => ∃ rv' gs, Sound C w gs ∧ gs.Nodup ∧ (∃ t, gs = fs ++ t) ∧ (∀ p ∈ C.prods, JoinP p A fr to fs gs) ∧ Q = tabL bt C.nts pv wv bm rv' gs ++ [q]) := by
  have hpn : ¬ 140737488355328 < C.prods.length := by have := hz.1; omega
  have hdl := hd.le
  obtain ⟨ap, cp, rfl⟩ := hp.form
  obtain ⟨aw, cw, rfl⟩ := hw.form
  refine Fn.mk2 Try.func42 rfl rfl fun w0 F => ?_
  (refine G.seq ?_; refine G.region ?_; refine GO.box rfl rfl rfl fun b3 => ?_; refine GO.nil ?_; refine kthen_n ?_; refine G.seq ?_; refine G.region ?_; refine GO.move rfl rfl ?_; refine GO.nilCheck rfl rfl ?_; refine GO.fieldAddr rfl rfl ?_; refine GO.fieldAddr rfl rfl ?_; refine GO.load1 rfl rfl rfl (Tk.t Tk.h) rfl ?_; refine GO.lenS rfl rfl ?_; refine GO.move rfl rfl ?_; refine GO.nil ?_; refine kthen_n ?_; refine G.block ?_)
  refine G.loop3 (fun (k : Nat) (_ : Value) (_ : List F3) => [(0, ptrT bt), (3, ptrT b3), (12, .slice ap C.prods.length cp), (13, i64 (C.prods.length : Nat)), (14, i64 (k : Nat))])
    (fun _ rv gs => tabH bt C.nts (.slice ap C.prods.length cp) (.slice aw w.length cw) bm rv :: pt bm (mapO (numF 0 gs)) :: own 62 3 gs.length rv (f3sV gs) :: q :: pt b3 (row [i64 A, i64 (fr : Nat), i64 (to : Nat)] 62) :: F)
    (fun k _ gs => k ≤ C.prods.length ∧ Sound C w gs ∧ gs.Nodup ∧ (∃ t, gs = fs ++ t) ∧ ∀ j p, j < k → C.prods[j]? = some p → JoinP p A fr to fs gs) (fun k _ _ => C.prods.length - k) 0 rv fs ⟨Nat.zero_le _, hs, hnd, ⟨[], by simp⟩, fun j p h => absurd h (Nat.not_lt_zero _)⟩ ?_ ?_ ?_
  · (refine SubE.c rfl rfl ?_; refine SubE.c rfl rfl ?_; refine SubE.c rfl rfl ?_; refine SubE.c rfl rfl ?_; refine SubE.c rfl rfl ?_; exact SubE.n)
  · ((refine Sb.c (Tk.t Tk.h) ?_; refine Sb.c (Tk.t Tk.h) ?_; refine Sb.c (Tk.t Tk.h) ?_; refine Sb.c (Tk.t Tk.h) ?_; refine Sb.c Tk.h ?_); (exact Sb.r))
  · rintro k rv gs ⟨hk, hgs, hgn, hpre, hb⟩
    (refine G.seq ?_; refine G.region ?_; refine GO.lti rfl rfl rfl ?_; refine GO.nil ?_; refine kthen_n ?_; refine G.seq ?_)
    refine G.condD rfl (fun hlt => ?_) (fun hge => ?_)
    · have hkl : k < C.prods.length := by omega
      obtain ⟨p, hpk⟩ : ∃ p, C.prods[k]? = some p := ⟨_, List.getElem?_eq_getElem hkl⟩
      obtain ⟨b0, o0, bv, rfl, _, r1, r2, hss⟩ := hp.at hpk
      have hpm := List.mem_of_getElem? hpk
      obtain ⟨B, body⟩ := p
      dsimp only at r1 r2 hss
      obtain ⟨ab, cb, rfl⟩ := hss.form
      (refine G.skip ?_; refine kthen_n ?_; refine G.seq ?_; refine G.block ?_; refine G.seq ?_; refine G.region ?_; refine GO.idxS rfl rfl rfl ⟨rfl, by omega⟩ ?_; refine GO.load2 rfl rfl rfl (Tk.t (Tk.t (Tk.t Tk.h))) (by assumption) (by assumption) ?_; refine GO.alloc rfl fun b5 => ?_; refine GO.storeW rfl rfl Tk.h ⟨rfl, rfl⟩ (by simp [Value.oneCell']) ?_; refine GO.nil ?_; refine kthen_n ?_; refine G.seq ?_; refine G.seq ?_; refine G.region ?_; refine GO.fieldAddr rfl rfl ?_; refine GO.load1 rfl rfl rfl Tk.h rfl ?_; refine GO.lenS rfl rfl ?_; refine GO.nei rfl rfl rfl ?_; refine GO.nil ?_; refine kthen_n ?_)
      refine G.condD rfl (fun hne => ?_) (fun heq => ?_)
      · (refine G.exit ?_; refine kthen_x ?_; refine kblock_x ?_; refine kthen_n ?_; refine G.region ?_; refine GO.addi rfl rfl rfl (by omega) ?_; refine GO.move rfl rfl ?_; refine GO.nil ?_; refine kthen_n ?_)
        refine ⟨k + 1, rv, gs, ⟨by omega, hgs, hgn, hpre, fun j p hj hjp => ?_⟩, by omega, ?_, ?_⟩
        · by_cases e : j = k
          · subst e
            rw [hpk] at hjp
            injection hjp with hjp
            subst hjp
            intro s t e
            dsimp only at e
            subst e
            exact absurd rfl hne
          · exact hb j p (by omega) hjp
        · (refine SubE.c rfl rfl ?_; refine SubE.c rfl rfl ?_; refine SubE.c rfl rfl ?_; refine SubE.c rfl rfl ?_; refine SubE.c rfl rfl ?_; exact SubE.n)
        · ((refine Sb.c (Tk.t Tk.h) ?_; refine Sb.c (Tk.t Tk.h) ?_; refine Sb.c (Tk.t Tk.h) ?_; refine Sb.c (Tk.t Tk.h) ?_; refine Sb.c (Tk.t Tk.h) ?_); (refine Sb.s ?_; exact Sb.r))
      · obtain ⟨s, t, rfl⟩ : ∃ s t, body = [s, t] := by
          match body, heq with
          | [s, t], _ => exact ⟨s, t, rfl⟩
          | [], h => simp at h
          | [s], h => simp at h
          | s :: t :: u :: more, h => simp at h; omega
        obtain ⟨bb, ob, rfl, _, _, rs⟩ := hss.at (k := 0) (s := s) rfl
        obtain ⟨bb', ob', e, _, _, rt⟩ := hss.at (k := 1) (s := t) rfl
        injection e with e
        injection e with e1 e2
        subst e1 e2
        (refine G.skip ?_; refine kthen_n ?_; refine G.seq ?_; refine G.seq ?_)
        refine G.draw 8 (by kernel_rfl) ?_
        ((apply GQ.step; focus (intro Z; refine GO.fieldAddr rfl rfl ?_; exact KQ.z)); (apply GQ.step; focus (intro Z; refine GO.load1 rfl rfl rfl Tk.h rfl ?_; exact KQ.z)))
        apply GQ.step; focus (intro Z; refine GO.idxS (j := 0) rfl rfl rfl ⟨rfl, by simp⟩ ?_; exact KQ.z)
        ((apply GQ.step; focus (intro Z; refine GO.fieldAddr rfl rfl ?_; exact KQ.z)); (apply GQ.step; focus (intro Z; refine GO.loadQ rfl rfl rfl (Tk.t (Tk.t (Tk.t (Tk.t Tk.h)))) (by assumption) ?_; exact KQ.z)); (apply GQ.step; focus (intro Z; refine GO.fieldAddr rfl rfl ?_; exact KQ.z)); (apply GQ.step; focus (intro Z; refine GO.load1 rfl rfl rfl (Tk.t (Tk.t (Tk.t (Tk.t (Tk.t Tk.h))))) rfl ?_; exact KQ.z)); (apply GQ.step; focus (intro Z; refine GO.eqi rfl rfl rfl ?_; exact KQ.z)); refine GQ.nil ?_)
        (refine GO.nil ?_; refine kthen_n ?_)
        refine G.midE (fun _ : Value × List F3 => [(0, ptrT bt), (3, ptrT b3), (5, ptrT b5), (12, .slice (some ⟨b0, o0, none⟩) C.prods.length cp), (13, i64 (C.prods.length : Nat)), (14, i64 (k : Nat))]) (fun p => tabH bt C.nts (.slice (some ⟨b0, o0, none⟩) C.prods.length cp) (.slice aw w.length cw) bm p.1 :: pt bm (mapO (numF 0 p.2)) :: own 62 3 p.2.length p.1 (f3sV p.2) :: q :: pt b3 (row [i64 A, i64 (fr : Nat), i64 (to : Nat)] 62) :: pt b5 (row [i64 B, .slice (some ⟨bb, ob, none⟩) 2 cb] 52) :: F) (fun p => Sound C w p.2 ∧ p.2.Nodup ∧ (∃ t, p.2 = gs ++ t) ∧ (s.2 = A → ∀ m, factV t.2 to m ∈ fs → factV B fr m ∈ p.2)) ?_ ?_
        · refine G.condD rfl (fun heq => ?_) (fun hne => ?_)
          · (refine G.seq ?_; refine G.region ?_; refine GO.fieldAddr rfl rfl ?_; refine GO.load1 rfl rfl rfl (Tk.t (Tk.t (Tk.t (Tk.t (Tk.t Tk.h))))) rfl ?_; refine GO.assign rfl rfl ?_; refine GO.nil ?_; refine kthen_n ?_; refine G.block ?_)
            refine G.loop3 (fun (m : Nat) (_ : Value) (_ : List F3) => [(0, ptrT bt), (3, ptrT b3), (5, ptrT b5), (12, .slice (some ⟨b0, o0, none⟩) C.prods.length cp), (13, i64 (C.prods.length : Nat)), (14, i64 (k : Nat)), (6, i64 (m : Nat))]) (fun _ rv gs => tabH bt C.nts (.slice (some ⟨b0, o0, none⟩) C.prods.length cp) (.slice aw w.length cw) bm rv :: pt bm (mapO (numF 0 gs)) :: own 62 3 gs.length rv (f3sV gs) :: q :: pt b3 (row [i64 A, i64 (fr : Nat), i64 (to : Nat)] 62) :: pt b5 (row [i64 B, .slice (some ⟨bb, ob, none⟩) 2 cb] 52) :: F)
              (fun m _ hs => to ≤ m ∧ m ≤ w.length + 1 ∧ Sound C w hs ∧ hs.Nodup ∧ (∃ t, hs = gs ++ t) ∧ ∀ n, to ≤ n → n < m → factV t.2 to n ∈ fs → factV B fr n ∈ hs) (fun m _ _ => w.length + 1 - m) to rv gs ⟨Nat.le_refl _, by omega, hgs, hgn, ⟨[], by simp⟩, fun n h1 h2 => absurd h2 (by omega)⟩ ?_ ?_ ?_
            · (refine SubE.c rfl rfl ?_; refine SubE.c rfl rfl ?_; refine SubE.c rfl rfl ?_; refine SubE.c rfl rfl ?_; refine SubE.c rfl rfl ?_; refine SubE.c rfl rfl ?_; refine SubE.c rfl rfl ?_; exact SubE.n)
            · ((refine Sb.c (Tk.t Tk.h) ?_; refine Sb.c (Tk.t Tk.h) ?_; refine Sb.c (Tk.t Tk.h) ?_; refine Sb.c (Tk.t Tk.h) ?_; refine Sb.c (Tk.t Tk.h) ?_; refine Sb.c Tk.h ?_); (exact Sb.r))
            · rintro m rv2 hs2 ⟨hm1, hm2, h2s, h2n, h2p, hall⟩
              have hsm := tab_small hok hl h2s h2n
              (refine G.seq ?_; refine G.seq ?_; refine G.region ?_; refine GO.move rfl rfl ?_; refine GO.move rfl rfl ?_; refine GO.nilCheck rfl rfl ?_; refine GO.fieldAddr rfl rfl ?_; refine GO.load1 rfl rfl rfl Tk.h rfl ?_; refine GO.lenS rfl rfl ?_; refine GO.lei rfl rfl rfl ?_; refine GO.nil ?_; refine kthen_n ?_)
              refine G.condD rfl (fun hlt2 => ?_) (fun hge2 => ?_)
              · (refine G.skip ?_; refine kthen_n ?_; refine G.seq ?_; refine G.block ?_; refine G.seq ?_)
                refine G.draw 11 (by kernel_rfl) ?_
                ((apply GQ.step; focus (intro Z; refine GO.move rfl rfl ?_; exact KQ.z)); (apply GQ.step; focus (intro Z; refine GO.fieldAddr rfl rfl ?_; exact KQ.z)); (apply GQ.step; focus (intro Z; refine GO.load1 rfl rfl rfl (Tk.t (Tk.t (Tk.t (Tk.t (Tk.t Tk.h))))) rfl ?_; exact KQ.z)))
                apply GQ.step; focus (intro Z; refine GO.idxS (j := 1) rfl rfl rfl ⟨rfl, by simp⟩ ?_; exact KQ.z)
                ((apply GQ.step; focus (intro Z; refine GO.fieldAddr rfl rfl ?_; exact KQ.z)); (apply GQ.step; focus (intro Z; refine GO.loadQ rfl rfl rfl (Tk.t (Tk.t (Tk.t Tk.h))) (by assumption) ?_; exact KQ.z)); (apply GQ.step; focus (intro Z; refine GO.fieldAddr rfl rfl ?_; exact KQ.z)); (apply GQ.step; focus (intro Z; refine GO.load1 rfl rfl rfl (Tk.t (Tk.t (Tk.t (Tk.t Tk.h)))) rfl ?_; exact KQ.z)); (apply GQ.step; focus (intro Z; refine GO.move rfl rfl ?_; exact KQ.z)); (apply GQ.step; focus (intro Z; refine GO.build3 rfl rfl rfl rfl rfl ?_; exact KQ.z)))
                apply GQ.step; focus (intro Z; refine GO.call2 rfl rfl rfl (has_spec bt C.nts (.slice (some ⟨b0, o0, none⟩) C.prods.length cp) (.slice aw w.length cw) bm rv2 hs2 (factV t.2 to m)) (Tks.c Tk.h (Tks.c Tk.h (Tks.c Tk.h Tks.n))) ?_; rintro _ _ ⟨rfl, rfl⟩; refine GO.nil (KQ.s ?_); ((refine Sb.c Tk.h ?_; refine Sb.c Tk.h ?_; refine Sb.c Tk.h ?_; refine Sb.c Tk.h ?_; refine Sb.c Tk.h ?_; refine Sb.c Tk.h ?_); (exact Sb.r)))
                (refine GQ.nil ?_)
                (refine GO.nil ?_; refine kthen_n ?_)
                refine G.condD rfl (fun hin => ?_) (fun hout => ?_)
                · have hd2 : Der C w B fr m := .two hpm (by rw [heq]; exact hd) (h2s.der hin)
                  (refine G.region ?_; refine GO.move rfl rfl ?_; refine GO.fieldAddr rfl rfl ?_; refine GO.load1 rfl rfl rfl (Tk.t (Tk.t (Tk.t (Tk.t (Tk.t Tk.h))))) rfl ?_; refine GO.fieldAddr rfl rfl ?_; refine GO.load1 rfl rfl rfl (Tk.t (Tk.t (Tk.t (Tk.t Tk.h)))) rfl ?_; refine GO.move rfl rfl ?_; refine GO.build3 rfl rfl rfl rfl rfl ?_)
                  refine GO.call2 rfl rfl rfl (add_spec bt C.nts (.slice (some ⟨b0, o0, none⟩) C.prods.length cp) (.slice aw w.length cw) bm rv2 hs2 (factV B fr m) (by omega)) (Tks.c Tk.h (Tks.c Tk.h (Tks.c Tk.h Tks.n))) ?_
                  rintro _ _ ⟨rv3, rfl⟩
                  (refine GO.nil ?_; refine kblock_n ?_; refine kthen_n ?_; refine G.region ?_; refine GO.move rfl rfl ?_; refine GO.addi rfl rfl rfl (by omega) ?_; refine GO.assign rfl rfl ?_; refine GO.nil ?_; refine kthen_n ?_)
                  refine ⟨m + 1, rv3, addF hs2 (factV B fr m), ⟨by omega, by omega, addF_sound h2s hd2, addF_nodup h2n _, addF_pre2 h2p _, fun n h1 h2 h3 => ?_⟩, by omega, ?_, ?_⟩
                  · by_cases e : n = m
                    · subst e; exact memA
                    · exact memO (hall n h1 (by omega) h3)
                  · (refine SubE.c rfl rfl ?_; refine SubE.c rfl rfl ?_; refine SubE.c rfl rfl ?_; refine SubE.c rfl rfl ?_; refine SubE.c rfl rfl ?_; refine SubE.c rfl rfl ?_; refine SubE.c rfl rfl ?_; exact SubE.n)
                  · ((refine Sb.c Tk.h ?_; refine Sb.c Tk.h ?_; refine Sb.c Tk.h ?_; refine Sb.c Tk.h ?_; refine Sb.c Tk.h ?_; refine Sb.c Tk.h ?_); (exact Sb.r))
                · (refine G.skip ?_; refine kblock_n ?_; refine kthen_n ?_; refine G.region ?_; refine GO.move rfl rfl ?_; refine GO.addi rfl rfl rfl (by omega) ?_; refine GO.assign rfl rfl ?_; refine GO.nil ?_; refine kthen_n ?_)
                  refine ⟨m + 1, rv2, hs2, ⟨by omega, by omega, h2s, h2n, h2p, fun n h1 h2 h3 => ?_⟩, by omega, ?_, ?_⟩
                  · by_cases e : n = m
                    · subst e
                      exact absurd (sub_pre h2p (sub_pre hpre h3)) hout
                    · exact hall n h1 (by omega) h3
                  · (refine SubE.c rfl rfl ?_; refine SubE.c rfl rfl ?_; refine SubE.c rfl rfl ?_; refine SubE.c rfl rfl ?_; refine SubE.c rfl rfl ?_; refine SubE.c rfl rfl ?_; refine SubE.c rfl rfl ?_; exact SubE.n)
                  · ((refine Sb.c Tk.h ?_; refine Sb.c Tk.h ?_; refine Sb.c Tk.h ?_; refine Sb.c Tk.h ?_; refine Sb.c Tk.h ?_; refine Sb.c Tk.h ?_); (exact Sb.r))
              · (refine G.exit ?_; refine kthen_x ?_; refine kthen_x ?_; refine kblock_x ?_; refine kthen_n ?_)
                refine ⟨(rv2, hs2), ⟨h2s, h2n, h2p, fun _ n hn => ?_⟩, ?_, ImpS.sb ?_⟩
                · have := (hs.der hn).le
                  exact hall n this.1 (by omega) hn
                · (refine SubE.c rfl rfl ?_; refine SubE.c rfl rfl ?_; refine SubE.c rfl rfl ?_; refine SubE.c rfl rfl ?_; refine SubE.c rfl rfl ?_; refine SubE.c rfl rfl ?_; exact SubE.n)
                · ((refine Sb.c Tk.h ?_; refine Sb.c Tk.h ?_; refine Sb.c Tk.h ?_; refine Sb.c Tk.h ?_; refine Sb.c Tk.h ?_; refine Sb.c Tk.h ?_); (exact Sb.r))
          · (refine G.skip ?_; refine kthen_n ?_)
            refine ⟨(rv, gs), ⟨hgs, hgn, ⟨[], by simp⟩, fun h => absurd h hne⟩, ?_, ImpS.sb ?_⟩
            · (refine SubE.c rfl rfl ?_; refine SubE.c rfl rfl ?_; refine SubE.c rfl rfl ?_; refine SubE.c rfl rfl ?_; refine SubE.c rfl rfl ?_; refine SubE.c rfl rfl ?_; exact SubE.n)
            · ((refine Sb.c (Tk.t Tk.h) ?_; refine Sb.c (Tk.t Tk.h) ?_; refine Sb.c (Tk.t Tk.h) ?_; refine Sb.c (Tk.t Tk.h) ?_; refine Sb.c (Tk.t Tk.h) ?_; refine Sb.c Tk.h ?_); (exact Sb.r))
        rintro ⟨rv1, gs1⟩ ⟨h1s, h1n, h1p, hone⟩
        dsimp only at h1s h1n h1p hone ⊢
        (refine G.seq ?_)
        refine G.draw 8 (by kernel_rfl) ?_
        ((apply GQ.step; focus (intro Z; refine GO.fieldAddr rfl rfl ?_; exact KQ.z)); (apply GQ.step; focus (intro Z; refine GO.load1 rfl rfl rfl (Tk.t (Tk.t (Tk.t (Tk.t (Tk.t Tk.h))))) rfl ?_; exact KQ.z)))
        apply GQ.step; focus (intro Z; refine GO.idxS (j := 1) rfl rfl rfl ⟨rfl, by simp⟩ ?_; exact KQ.z)
        ((apply GQ.step; focus (intro Z; refine GO.fieldAddr rfl rfl ?_; exact KQ.z)); (apply GQ.step; focus (intro Z; refine GO.loadQ rfl rfl rfl (Tk.t (Tk.t (Tk.t Tk.h))) (by assumption) ?_; exact KQ.z)); (apply GQ.step; focus (intro Z; refine GO.fieldAddr rfl rfl ?_; exact KQ.z)); (apply GQ.step; focus (intro Z; refine GO.load1 rfl rfl rfl (Tk.t (Tk.t (Tk.t (Tk.t Tk.h)))) rfl ?_; exact KQ.z)); (apply GQ.step; focus (intro Z; refine GO.eqi rfl rfl rfl ?_; exact KQ.z)); refine GQ.nil ?_)
        (refine GO.nil ?_; refine kthen_n ?_)
        refine G.midBE (fun _ : Value × List F3 => [(0, ptrT bt), (3, ptrT b3), (5, ptrT b5), (12, .slice (some ⟨b0, o0, none⟩) C.prods.length cp), (13, i64 (C.prods.length : Nat)), (14, i64 (k : Nat))]) (fun p => tabH bt C.nts (.slice (some ⟨b0, o0, none⟩) C.prods.length cp) (.slice aw w.length cw) bm p.1 :: pt bm (mapO (numF 0 p.2)) :: own 62 3 p.2.length p.1 (f3sV p.2) :: q :: pt b3 (row [i64 A, i64 (fr : Nat), i64 (to : Nat)] 62) :: pt b5 (row [i64 B, .slice (some ⟨bb, ob, none⟩) 2 cb] 52) :: F) (fun p => Sound C w p.2 ∧ p.2.Nodup ∧ (∃ t, p.2 = gs1 ++ t) ∧ (t.2 = A → ∀ m, factV s.2 m fr ∈ fs → factV B m to ∈ p.2)) ?_ ?_
        · refine G.condD rfl (fun heq => ?_) (fun hne => ?_)
          · (refine G.seq ?_; refine G.region ?_; refine GO.fieldAddr rfl rfl ?_; refine GO.load1 rfl rfl rfl (Tk.t (Tk.t (Tk.t (Tk.t Tk.h)))) rfl ?_; refine GO.addi rfl rfl rfl (by omega) ?_; refine GO.move rfl rfl ?_; refine GO.nil ?_; refine kthen_n ?_; refine G.block ?_)
            refine G.loop3 (fun (m : Nat) (_ : Value) (_ : List F3) => [(0, ptrT bt), (3, ptrT b3), (5, ptrT b5), (12, .slice (some ⟨b0, o0, none⟩) C.prods.length cp), (13, i64 (C.prods.length : Nat)), (14, i64 (k : Nat)), (70, .int .i64 ((fr : Int) + 1)), (71, i64 (m : Nat))]) (fun _ rv gs => tabH bt C.nts (.slice (some ⟨b0, o0, none⟩) C.prods.length cp) (.slice aw w.length cw) bm rv :: pt bm (mapO (numF 0 gs)) :: own 62 3 gs.length rv (f3sV gs) :: q :: pt b3 (row [i64 A, i64 (fr : Nat), i64 (to : Nat)] 62) :: pt b5 (row [i64 B, .slice (some ⟨bb, ob, none⟩) 2 cb] 52) :: F)
              (fun m _ hs => m ≤ fr + 1 ∧ Sound C w hs ∧ hs.Nodup ∧ (∃ t, hs = gs1 ++ t) ∧ ∀ n, n < m → factV s.2 n fr ∈ fs → factV B n to ∈ hs) (fun m _ _ => fr + 1 - m) 0 rv1 gs1 ⟨Nat.zero_le _, h1s, h1n, ⟨[], by simp⟩, fun n h2 => absurd h2 (Nat.not_lt_zero _)⟩ ?_ ?_ ?_
            · (refine SubE.c rfl rfl ?_; refine SubE.c rfl rfl ?_; refine SubE.c rfl rfl ?_; refine SubE.c rfl rfl ?_; refine SubE.c rfl rfl ?_; refine SubE.c rfl rfl ?_; refine SubE.c rfl rfl ?_; refine SubE.c rfl rfl ?_; exact SubE.n)
            · ((refine Sb.c Tk.h ?_; refine Sb.c Tk.h ?_; refine Sb.c Tk.h ?_; refine Sb.c Tk.h ?_; refine Sb.c Tk.h ?_; refine Sb.c Tk.h ?_); (exact Sb.r))
            · rintro m rv2 hs2 ⟨hm2, h2s, h2n, h2p, hall⟩
              have hsm := tab_small hok hl h2s h2n
              (refine G.seq ?_; refine G.region ?_; refine GO.lti rfl rfl rfl ?_; refine GO.nil ?_; refine kthen_n ?_; refine G.seq ?_)
              refine G.condD rfl (fun hlt2 => ?_) (fun hge2 => ?_)
              · (refine G.skip ?_; refine kthen_n ?_; refine G.seq ?_; refine G.block ?_; refine G.seq ?_; refine G.region ?_; refine GO.move rfl rfl ?_; refine GO.assign rfl rfl ?_; refine GO.nil ?_; refine kthen_n ?_; refine G.seq ?_)
                refine G.draw 11 (by kernel_rfl) ?_
                ((apply GQ.step; focus (intro Z; refine GO.move rfl rfl ?_; exact KQ.z)); (apply GQ.step; focus (intro Z; refine GO.fieldAddr rfl rfl ?_; exact KQ.z)); (apply GQ.step; focus (intro Z; refine GO.load1 rfl rfl rfl (Tk.t (Tk.t (Tk.t (Tk.t (Tk.t Tk.h))))) rfl ?_; exact KQ.z)))
                apply GQ.step; focus (intro Z; refine GO.idxS (j := 0) rfl rfl rfl ⟨rfl, by simp⟩ ?_; exact KQ.z)
                ((apply GQ.step; focus (intro Z; refine GO.fieldAddr rfl rfl ?_; exact KQ.z)); (apply GQ.step; focus (intro Z; refine GO.loadQ rfl rfl rfl (Tk.t (Tk.t (Tk.t Tk.h))) (by assumption) ?_; exact KQ.z)); (apply GQ.step; focus (intro Z; refine GO.move rfl rfl ?_; exact KQ.z)); (apply GQ.step; focus (intro Z; refine GO.fieldAddr rfl rfl ?_; exact KQ.z)); (apply GQ.step; focus (intro Z; refine GO.load1 rfl rfl rfl (Tk.t (Tk.t (Tk.t (Tk.t Tk.h)))) rfl ?_; exact KQ.z)); (apply GQ.step; focus (intro Z; refine GO.build3 rfl rfl rfl rfl rfl ?_; exact KQ.z)))
                apply GQ.step; focus (intro Z; refine GO.call2 rfl rfl rfl (has_spec bt C.nts (.slice (some ⟨b0, o0, none⟩) C.prods.length cp) (.slice aw w.length cw) bm rv2 hs2 (factV s.2 m fr)) (Tks.c Tk.h (Tks.c Tk.h (Tks.c Tk.h Tks.n))) ?_; rintro _ _ ⟨rfl, rfl⟩; refine GO.nil (KQ.s ?_); ((refine Sb.c Tk.h ?_; refine Sb.c Tk.h ?_; refine Sb.c Tk.h ?_; refine Sb.c Tk.h ?_; refine Sb.c Tk.h ?_; refine Sb.c Tk.h ?_); (exact Sb.r)))
                (refine GQ.nil ?_)
                (refine GO.nil ?_; refine kthen_n ?_)
                refine G.condD rfl (fun hin => ?_) (fun hout => ?_)
                · have hd2 : Der C w B m to := .two hpm (h2s.der hin) (by rw [heq]; exact hd)
                  (refine G.region ?_; refine GO.move rfl rfl ?_; refine GO.fieldAddr rfl rfl ?_; refine GO.load1 rfl rfl rfl (Tk.t (Tk.t (Tk.t (Tk.t (Tk.t Tk.h))))) rfl ?_; refine GO.move rfl rfl ?_; refine GO.fieldAddr rfl rfl ?_; refine GO.load1 rfl rfl rfl (Tk.t (Tk.t (Tk.t (Tk.t Tk.h)))) rfl ?_; refine GO.build3 rfl rfl rfl rfl rfl ?_)
                  refine GO.call2 rfl rfl rfl (add_spec bt C.nts (.slice (some ⟨b0, o0, none⟩) C.prods.length cp) (.slice aw w.length cw) bm rv2 hs2 (factV B m to) (by omega)) (Tks.c Tk.h (Tks.c Tk.h (Tks.c Tk.h Tks.n))) ?_
                  rintro _ _ ⟨rv3, rfl⟩
                  (refine GO.nil ?_; refine kblock_n ?_; refine kthen_n ?_; refine G.region ?_; refine GO.addi rfl rfl rfl (by omega) ?_; refine GO.move rfl rfl ?_; refine GO.nil ?_; refine kthen_n ?_)
                  refine ⟨m + 1, rv3, addF hs2 (factV B m to), ⟨by omega, addF_sound h2s hd2, addF_nodup h2n _, addF_pre2 h2p _, fun n h2 h3 => ?_⟩, by omega, ?_, ?_⟩
                  · by_cases e : n = m
                    · subst e; exact memA
                    · exact memO (hall n (by omega) h3)
                  · (refine SubE.c rfl rfl ?_; refine SubE.c rfl rfl ?_; refine SubE.c rfl rfl ?_; refine SubE.c rfl rfl ?_; refine SubE.c rfl rfl ?_; refine SubE.c rfl rfl ?_; refine SubE.c rfl rfl ?_; refine SubE.c rfl rfl ?_; exact SubE.n)
                  · ((refine Sb.c Tk.h ?_; refine Sb.c Tk.h ?_; refine Sb.c Tk.h ?_; refine Sb.c Tk.h ?_; refine Sb.c Tk.h ?_; refine Sb.c Tk.h ?_); (exact Sb.r))
                · (refine G.skip ?_; refine kblock_n ?_; refine kthen_n ?_; refine G.region ?_; refine GO.addi rfl rfl rfl (by omega) ?_; refine GO.move rfl rfl ?_; refine GO.nil ?_; refine kthen_n ?_)
                  refine ⟨m + 1, rv2, hs2, ⟨by omega, h2s, h2n, h2p, fun n h2 h3 => ?_⟩, by omega, ?_, ?_⟩
                  · by_cases e : n = m
                    · subst e
                      exact absurd (sub_pre h2p (sub_pre h1p (sub_pre hpre h3))) hout
                    · exact hall n (by omega) h3
                  · (refine SubE.c rfl rfl ?_; refine SubE.c rfl rfl ?_; refine SubE.c rfl rfl ?_; refine SubE.c rfl rfl ?_; refine SubE.c rfl rfl ?_; refine SubE.c rfl rfl ?_; refine SubE.c rfl rfl ?_; refine SubE.c rfl rfl ?_; exact SubE.n)
                  · ((refine Sb.c Tk.h ?_; refine Sb.c Tk.h ?_; refine Sb.c Tk.h ?_; refine Sb.c Tk.h ?_; refine Sb.c Tk.h ?_; refine Sb.c Tk.h ?_); (exact Sb.r))
              · (refine G.exit ?_; refine kthen_x ?_; refine kthen_x ?_; refine kblock_x ?_; refine kblock_n ?_; refine kthen_n ?_)
                refine ⟨(rv2, hs2), ⟨h2s, h2n, h2p, fun _ n hn => ?_⟩, ?_, ImpS.sb ?_⟩
                · have := (hs.der hn).le
                  exact hall n (by omega) hn
                · (refine SubE.c rfl rfl ?_; refine SubE.c rfl rfl ?_; refine SubE.c rfl rfl ?_; refine SubE.c rfl rfl ?_; refine SubE.c rfl rfl ?_; refine SubE.c rfl rfl ?_; exact SubE.n)
                · ((refine Sb.c Tk.h ?_; refine Sb.c Tk.h ?_; refine Sb.c Tk.h ?_; refine Sb.c Tk.h ?_; refine Sb.c Tk.h ?_; refine Sb.c Tk.h ?_); (exact Sb.r))
          · (refine G.skip ?_; refine kblock_n ?_; refine kthen_n ?_)
            refine ⟨(rv1, gs1), ⟨h1s, h1n, ⟨[], by simp⟩, fun h => absurd h hne⟩, ?_, ImpS.sb ?_⟩
            · (refine SubE.c rfl rfl ?_; refine SubE.c rfl rfl ?_; refine SubE.c rfl rfl ?_; refine SubE.c rfl rfl ?_; refine SubE.c rfl rfl ?_; refine SubE.c rfl rfl ?_; exact SubE.n)
            · ((refine Sb.c Tk.h ?_; refine Sb.c Tk.h ?_; refine Sb.c Tk.h ?_; refine Sb.c Tk.h ?_; refine Sb.c Tk.h ?_; refine Sb.c Tk.h ?_); (exact Sb.r))
        rintro ⟨rv2, gs2⟩ ⟨h2s, h2n, h2p, htwo⟩
        dsimp only at h2s h2n h2p htwo ⊢
        (refine G.region ?_; refine GO.addi rfl rfl rfl (by omega) ?_; refine GO.move rfl rfl ?_; refine GO.nil ?_; refine kthen_n ?_)
        refine ⟨k + 1, rv2, gs2, ⟨by omega, h2s, h2n, pre_trans (pre_trans hpre h1p) h2p, fun j p hj hjp => ?_⟩, by omega, ?_, ?_⟩
        · by_cases e : j = k
          · subst e
            rw [hpk] at hjp
            injection hjp with hjp
            subst hjp
            intro s' t' e
            dsimp only at e
            injection e with e1 e
            injection e with e2 _
            subst e1 e2
            exact ⟨fun h m hm => sub_pre h2p (hone h m hm), fun h m hm => htwo h m hm⟩
          · exact (hb j p (by omega) hjp).mono fun x hx => sub_pre h2p (sub_pre h1p hx)
        · (refine SubE.c rfl rfl ?_; refine SubE.c rfl rfl ?_; refine SubE.c rfl rfl ?_; refine SubE.c rfl rfl ?_; refine SubE.c rfl rfl ?_; exact SubE.n)
        · ((refine Sb.c Tk.h ?_; refine Sb.c Tk.h ?_; refine Sb.c Tk.h ?_; refine Sb.c Tk.h ?_; refine Sb.c Tk.h ?_); (refine Sb.s ?_; exact Sb.r))
    · have : k = C.prods.length := by omega
      subst this
      (refine G.exit ?_; refine kthen_x ?_; refine kthen_x ?_; refine kblock_x ?_)
      refine KF2.n0 (Q := tabL bt C.nts (.slice ap C.prods.length cp) (.slice aw w.length cw) bm rv gs ++ [q]) rfl ⟨rv, gs, hgs, hgn, hpre, fun p hpm => ?_, rfl⟩ (ImpS.sb ?_)
      · obtain ⟨j, hj⟩ := List.getElem?_of_mem hpm
        exact hb j p (List.getElem?_eq_some_iff.1 hj).1 hj
      · ((refine Sb.c Tk.h ?_; refine Sb.c Tk.h ?_; refine Sb.c Tk.h ?_; refine Sb.c Tk.h ?_); (refine Sb.s ?_; exact Sb.r))
end Go.Proofs.Ytjokibfldngkeaa
