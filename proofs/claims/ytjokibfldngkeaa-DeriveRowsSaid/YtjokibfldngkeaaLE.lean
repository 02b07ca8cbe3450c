/-
  May productions be? The engine's Check.
-/
import Derived.Test.YtjokibfldngkeaaLD
namespace Go.Proofs.Ytjokibfldngkeaa
open Go
theorem Fn.framed {P : Program} {f : FuncId} {args : Array Value} {Pre : List HP} {Rv : Value → Prop} (h : Fn P f args Pre (fun v Q => Rv v ∧ Q = Pre)) (X : List HP) : Fn P f args (X ++ Pre) (fun v Q => Rv v ∧ Q = X ++ Pre) := by
  intro F w s
  have s1 : sat (Pre ++ (X ++ F)) w := by
    refine sat_perm ?_ s
    rw [List.append_assoc]
    exact List.perm_append_comm_assoc X Pre F
  refine (h (X ++ F) w s1).mono ?_
  rintro e w' ⟨v, Q, a, b, ⟨x, rfl⟩, d⟩
  refine ⟨v, X ++ Q, a, b, ⟨x, rfl⟩, ?_⟩
  refine sat_perm ?_ d
  rw [List.append_assoc]
  exact List.perm_append_comm_assoc Q X F
attribute [local irreducible] G GO GR GT Fn FnV pt init exs pur sat own ImpS
theorem okC_take {C : CnfD} {k : Nat} {p : ProdD} (h : C.prods[k]? = some p) : (C.prods.take (k + 1)).all (prodOK C.nts) = ((C.prods.take k).all (prodOK C.nts) && prodOK C.nts p) := by
  rw [List.take_add_one, h, List.all_append]; simp
theorem prodOK_split (n : Int) (p : ProdD) : prodOK n p = ((decide (0 ≤ p.1) && decide (p.1 < n)) && p.2.all (symOK n)) := by
  unfold prodOK
  by_cases h1 : p.1 < 0 <;> by_cases h2 : n ≤ p.1 <;> simp [h1, h2] <;> omega
theorem any_bad (n : Int) (ss : List SymD) : (!ss.any fun s => !symOK n s) = ss.all (symOK n) := by
  induction ss with
  | nil => rfl
  | cons s ss ih => simp only [List.any_cons, List.all_cons, ← ih]; cases symOK n s <;> simp
set_option maxHeartbeats 4000000 in
set_option maxRecDepth 20000 in
theorem check_spec (q : HP) (v : Value) (C : CnfD) (hv : CnfR q v C) (hz : Fits C) : Fn Try.prog 35 #[v] [q] (fun r Q => r = i64 (if okC C then 0 else 220) ∧ Q = [q]) := by
  obtain ⟨pv, rfl, hp⟩ := hv
  obtain ⟨a0, cap0, rfl⟩ := hp.form
  have hz1 := hz.1
  refine Fn.mk Try.func35 rfl rfl fun w0 F => ?_
  (refine G.seq ?_; refine G.region ?_)
  refine GO.box rfl rfl rfl fun b1 => ?_
  (refine GO.assign rfl rfl ?_; refine GO.nil ?_; refine kthen_n ?_; refine G.seq ?_; refine G.region ?_)
  refine GO.makeFunc1 rfl rfl ?_
  refine GO.alloc rfl fun b3 => ?_
  refine GO.store1 rfl rfl rfl Tk.h (by decide) ?_
  (refine GO.nil ?_; refine kthen_n ?_; refine G.seq ?_; refine G.region ?_; refine GO.fieldAddr rfl rfl ?_; refine GO.load1 rfl rfl rfl (Tk.t Tk.h) rfl ?_; refine GO.gei rfl rfl rfl ?_; refine GO.move rfl rfl ?_)
  refine GO.cut1 4 (.bool (decide (1 ≤ C.nts) && decide (C.nts ≤ 1024))) ?_ ?_
  · refine GO.splitD 11 rfl (fun h => ?_) (fun h => ?_)
    · (refine GO.gT rfl rfl rfl ?_; refine GO.fieldAddr rfl rfl ?_; refine GO.gT rfl rfl rfl ?_; refine GO.load1 rfl rfl rfl (Tk.t Tk.h) rfl ?_; refine GO.gT rfl rfl rfl ?_; refine GO.lei rfl rfl rfl ?_; refine GO.pickT rfl rfl rfl ?_; refine GO.assign rfl rfl ?_; refine GO.nil ?_; refine kthen_n ?_)
      refine ⟨?_, ImpS.sb ?_⟩
      · ((refine SubE.c rfl ?_ ?_; focus (simp; omega)); (refine SubE.c rfl ?_ ?_; focus (simp; omega)); refine SubE.c rfl rfl ?_; refine SubE.c rfl rfl ?_; refine SubE.c rfl rfl ?_; refine SubE.c rfl rfl ?_; refine SubE.c rfl rfl ?_; refine SubE.c rfl rfl ?_; refine SubE.c rfl rfl ?_; refine SubE.c rfl rfl ?_; exact SubE.n)
      · ((refine Sb.c Tk.h ?_; refine Sb.c Tk.h ?_; refine Sb.c Tk.h ?_); (exact Sb.r))
    · (refine GO.gF rfl rfl rfl rfl ?_; refine GO.gF rfl rfl rfl rfl ?_; refine GO.gF rfl rfl rfl rfl ?_; refine GO.pickF rfl rfl rfl ?_; refine GO.assign rfl rfl ?_; refine GO.nil ?_; refine kthen_n ?_)
      refine ⟨?_, ImpS.sb ?_⟩
      · ((refine SubE.c rfl ?_ ?_; focus (simp; omega)); (refine SubE.c rfl ?_ ?_; focus (simp; omega)); refine SubE.c rfl rfl ?_; refine SubE.c rfl rfl ?_; refine SubE.c rfl rfl ?_; refine SubE.c rfl rfl ?_; refine SubE.c rfl rfl ?_; refine SubE.c rfl rfl ?_; refine SubE.c rfl rfl ?_; refine SubE.c rfl rfl ?_; exact SubE.n)
      · ((refine Sb.c Tk.h ?_; refine Sb.c Tk.h ?_; refine Sb.c Tk.h ?_); (exact Sb.r))
  have hb0 : (decide (1 ≤ C.nts) && decide (C.nts ≤ 1024)) = !(decide (C.nts < 1) || decide (1024 < C.nts)) := by
    by_cases h1 : C.nts < 1 <;> by_cases h2 : 1024 < C.nts <;> simp [h1, h2] <;> omega
  rw [hb0]
  generalize hbase : (!(decide (C.nts < 1) || decide (1024 < C.nts))) = base
  (refine G.seq ?_; refine G.seq ?_; refine G.region ?_; refine GO.fieldAddr rfl rfl ?_; refine GO.load1 rfl rfl rfl (Tk.t Tk.h) rfl ?_; refine GO.lenS rfl rfl ?_; refine GO.move rfl rfl ?_; refine GO.nil ?_; refine kthen_n ?_; refine G.block ?_)
  refine G.loop2 (fun (k : Nat) (ok : Bool) => [(1, .pointer (some ⟨b1, 0, none⟩)), (3, .pointer (some ⟨b3, 0, none⟩)), (4, .bool ok), (17, .slice a0 C.prods.length cap0), (18, i64 C.prods.length), (19, i64 k)])
    (fun _ _ => q :: (ntM C.nts (.slice a0 C.prods.length cap0) b1 b3 ++ F)) (fun k ok => k ≤ C.prods.length ∧ ok = (base && (C.prods.take k).all (prodOK C.nts))) (fun k _ => C.prods.length - k) 0 base ⟨by omega, by simp⟩ ?_ ?_ ?_
  · (refine SubE.c rfl rfl ?_; refine SubE.c rfl rfl ?_; refine SubE.c rfl rfl ?_; refine SubE.c rfl rfl ?_; refine SubE.c rfl rfl ?_; refine SubE.c rfl rfl ?_; exact SubE.n)
  · ((refine Sb.c (Tk.t (Tk.t Tk.h)) ?_; refine Sb.c Tk.h ?_; refine Sb.c Tk.h ?_); (exact Sb.r))
  rintro k ok ⟨hk, hok⟩
  (refine G.seq ?_; refine G.region ?_; refine GO.lti rfl rfl rfl ?_; refine GO.nil ?_; refine kthen_n ?_; refine G.seq ?_)
  refine G.condD rfl (fun hlt => ?_) (fun hge => ?_)
  · have hlt' : k < C.prods.length := by omega
    obtain ⟨p, hpk⟩ : ∃ p, C.prods[k]? = some p := ⟨C.prods[k], by simp [hlt']⟩
    obtain ⟨b, o, bv, rfl, _, r1, r2, hs⟩ := hp.at hpk
    obtain ⟨ab, capb, rfl⟩ := hs.form
    have hpl := hz.2 p (List.mem_of_getElem? hpk)
    (refine G.skip ?_; refine kthen_n ?_; refine G.seq ?_; refine G.block ?_; refine G.seq ?_; refine G.region ?_; refine GO.idxS rfl rfl rfl ⟨rfl, by omega⟩ ?_)
    refine GO.load2 (q := q) rfl rfl rfl (by (exact Tk.h)) r1 r2 ?_
    refine GO.alloc rfl fun b6 => ?_
    refine GO.storeW rfl rfl Tk.h ⟨rfl, rfl⟩ (by simp [Value.oneCell']) ?_
    (refine GO.nil ?_; refine kthen_n ?_; refine G.region ?_; refine GO.move rfl rfl ?_; refine GO.move rfl rfl ?_)
    refine GO.cutN 4 (.bool (ok && prodOK C.nts p)) ?_ (fun L' H' h1 h2 => G.subI h1 h2 ?_)
    · cases ok with
      | false =>
        (refine GO.gF rfl rfl rfl rfl ?_; refine GO.gF rfl rfl rfl rfl ?_; refine GO.gF rfl rfl rfl rfl ?_; refine GO.gF rfl rfl rfl rfl ?_; refine GO.pickF rfl rfl rfl ?_; refine GO.move rfl rfl ?_; refine GO.gF rfl rfl rfl rfl ?_; refine GO.gF rfl rfl rfl rfl ?_; refine GO.gF rfl rfl rfl rfl ?_; refine GO.gF rfl rfl rfl rfl ?_; refine GO.gF rfl rfl rfl rfl ?_; refine GO.pickF rfl rfl rfl ?_; refine GO.assign rfl rfl ?_; refine GO.nil ?_; refine kthen_n ?_)
        refine ⟨?_, ImpS.sb ?_⟩
        · (refine SubE.c rfl rfl ?_; refine SubE.c rfl rfl ?_; refine SubE.c rfl rfl ?_; refine SubE.c rfl rfl ?_; refine SubE.c rfl rfl ?_; refine SubE.c rfl rfl ?_; refine SubE.c rfl rfl ?_; refine SubE.c rfl rfl ?_; refine SubE.c rfl rfl ?_; refine SubE.c rfl rfl ?_; refine SubE.c rfl rfl ?_; refine SubE.c rfl rfl ?_; exact SubE.n)
        · ((refine Sb.c Tk.h ?_; refine Sb.c Tk.h ?_; refine Sb.c Tk.h ?_; refine Sb.c Tk.h ?_); (exact Sb.r))
      | true =>
        (refine GO.gT rfl rfl rfl ?_; refine GO.load1 rfl rfl rfl (Tk.t (Tk.t Tk.h)) rfl ?_; refine GO.gT rfl rfl rfl ?_; refine GO.fieldAddr rfl rfl ?_; refine GO.gT rfl rfl rfl ?_; refine GO.load1 rfl rfl rfl Tk.h rfl ?_; refine GO.gT rfl rfl rfl ?_)
        refine GO.callV1 rfl rfl rfl (FnV.of (caps := [.pointer (some ⟨b1, 0, none⟩)]) (nt_spec C.nts p.1 b1 _)) (Tks.c (Tk.t (Tk.t (Tk.t Tk.h))) Tks.n) ?_
        rintro _ _ ⟨rfl, rfl⟩
        (refine GO.pickT rfl rfl rfl ?_; refine GO.move rfl rfl ?_)
        refine GO.split 30 rfl (fun h => ?_) (fun h => ?_)
        · (refine GO.gT rfl rfl rfl ?_; refine GO.fieldAddr rfl rfl ?_; refine GO.gT rfl rfl rfl ?_; refine GO.load1 rfl rfl rfl (Tk.t Tk.h) rfl ?_; refine GO.gT rfl rfl rfl ?_)
          refine GO.makeFunc1 rfl rfl ?_
          (refine GO.gT rfl rfl rfl ?_)
          refine GO.call2 rfl rfl rfl (containsSym_spec q _ _ p.2 (fun s => !symOK C.nts s) (ntM C.nts (.slice (some ⟨b, o, none⟩) C.prods.length cap0) b1 b3) hs (fun s _ => FnV.of (caps := [.pointer (some ⟨b3, 0, none⟩)]) (Fn.framed (Rv := fun r => r = .bool (!symOK C.nts s)) (bad_spec C.nts s b1 b3 _) [q])) (by omega)) (Tks.c (Tk.t (Tk.t Tk.h)) (Tks.c (Tk.t (Tk.t Tk.h)) (Tks.c Tk.h Tks.n))) ?_
          rintro _ _ ⟨rfl, rfl⟩
          have hpt : prodOK C.nts p = !(p.2.any fun s => !symOK C.nts s) := by rw [prodOK_split, h, any_bad]; rfl
          rw [hpt]
          (refine GO.gT rfl rfl rfl ?_; refine GO.not rfl rfl ?_; refine GO.pickT rfl rfl rfl ?_; refine GO.assign rfl rfl ?_; refine GO.nil ?_; refine kthen_n ?_)
          refine ⟨?_, ImpS.sb ?_⟩
          · (refine SubE.c rfl rfl ?_; refine SubE.c rfl rfl ?_; refine SubE.c rfl rfl ?_; refine SubE.c rfl rfl ?_; refine SubE.c rfl rfl ?_; refine SubE.c rfl rfl ?_; refine SubE.c rfl rfl ?_; refine SubE.c rfl rfl ?_; refine SubE.c rfl rfl ?_; refine SubE.c rfl rfl ?_; refine SubE.c rfl rfl ?_; refine SubE.c rfl rfl ?_; exact SubE.n)
          · ((refine Sb.c (Tk.t (Tk.t (Tk.t Tk.h))) ?_; refine Sb.c Tk.h ?_; refine Sb.c Tk.h ?_; refine Sb.c Tk.h ?_); (exact Sb.r))
        · have hpf : prodOK C.nts p = false := by rw [prodOK_split, h]; rfl
          rw [hpf]
          (refine GO.gF rfl rfl rfl rfl ?_; refine GO.gF rfl rfl rfl rfl ?_; refine GO.gF rfl rfl rfl rfl ?_; refine GO.gF rfl rfl rfl rfl ?_; refine GO.gF rfl rfl rfl rfl ?_; refine GO.pickF rfl rfl rfl ?_; refine GO.assign rfl rfl ?_; refine GO.nil ?_; refine kthen_n ?_)
          refine ⟨?_, ImpS.sb ?_⟩
          · (refine SubE.c rfl rfl ?_; refine SubE.c rfl rfl ?_; refine SubE.c rfl rfl ?_; refine SubE.c rfl rfl ?_; refine SubE.c rfl rfl ?_; refine SubE.c rfl rfl ?_; refine SubE.c rfl rfl ?_; refine SubE.c rfl rfl ?_; refine SubE.c rfl rfl ?_; refine SubE.c rfl rfl ?_; refine SubE.c rfl rfl ?_; refine SubE.c rfl rfl ?_; exact SubE.n)
          · ((refine Sb.c (Tk.t Tk.h) ?_; refine Sb.c (Tk.t Tk.h) ?_; refine Sb.c (Tk.t Tk.h) ?_; refine Sb.c Tk.h ?_); (exact Sb.r))
    (refine G.region ?_; refine GO.addi rfl rfl rfl (by omega) ?_; refine GO.move rfl rfl ?_; refine GO.nil ?_; refine kthen_n ?_)
    refine ⟨k + 1, ok && prodOK C.nts p, ⟨by omega, by rw [hok, okC_take hpk, Bool.and_assoc]⟩, by omega, ?_, ?_⟩
    · (refine SubE.c rfl rfl ?_; refine SubE.c rfl rfl ?_; refine SubE.c rfl rfl ?_; refine SubE.c rfl rfl ?_; refine SubE.c rfl rfl ?_; refine SubE.c rfl rfl ?_; exact SubE.n)
    · ((refine Sb.c (Tk.t Tk.h) ?_; refine Sb.c (Tk.t Tk.h) ?_; refine Sb.c (Tk.t Tk.h) ?_); (refine Sb.s ?_; exact Sb.r))
  · have : k = C.prods.length := by omega
    subst this
    rw [List.take_length, ← hbase] at hok
    have hok' : ok = okC C := hok
    (refine G.exit ?_; refine G.seq ?_; refine G.seq ?_; refine G.region ?_; refine GO.move rfl rfl ?_; refine GO.not rfl rfl ?_; refine GO.nil ?_; refine kthen_n ?_)
    refine G.cond rfl (fun hb => ?_) (fun hb => ?_)
    · have hf : okC C = false := by rw [← hok']; simpa using hb
      (refine G.seq ?_; refine G.region ?_; refine GO.assign rfl rfl ?_; refine GO.nil ?_; refine kthen_n ?_; refine G.ret ?_; refine kthen_r ?_)
      refine KF.r1 rfl (RV.t rfl) ⟨by rw [hf]; rfl, rfl⟩ ?_
      ((refine Sb.c Tk.h ?_); (refine Sb.s ?_; refine Sb.s ?_; exact Sb.r))
    · have hf : okC C = true := by rw [← hok']; simpa using hb
      (refine G.skip ?_; refine kthen_n ?_; refine G.seq ?_; refine G.region ?_; refine GO.assign rfl rfl ?_; refine GO.nil ?_; refine kthen_n ?_; refine G.ret ?_)
      refine KF.r1 rfl (RV.t rfl) ⟨by rw [hf]; rfl, rfl⟩ ?_
      ((refine Sb.c Tk.h ?_); (refine Sb.s ?_; refine Sb.s ?_; exact Sb.r))
end Go.Proofs.Ytjokibfldngkeaa
