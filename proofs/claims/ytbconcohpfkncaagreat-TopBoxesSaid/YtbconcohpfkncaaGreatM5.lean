/-
  The law TopBoxes, part 5.
-/
import Derived.Test.YtbconcohpfkncaaGreatM4
import Derived.Test.YtbconcohpfkncaaGreatLaA
import Derived.Test.YtbconcohpfkncaaGreatLaI
import Derived.Shelf.Sort.Plain
namespace Go.Proofs.YtbconcohpfkncaaGreat
open Go
abbrev ownS (v : Value) (S : List SyD) : HP := own 72 2 S.length v (sysV S)
abbrev ownA (v : Value) (A : List ArD) : HP := own 85 4 A.length v (arsV A)
/-- How the loop over the kids stands. -/
structure TrS where
  i : Nat
  ts : List Tree
  out : PtD
  st : GSt
  vs : Value
  va : Value
  vf : Value
  vl : Value
  w : Value
  z : HP
/-- What tree answers. -/
def TreeR (bm : Nat) (q g : HP) (rest : List NodeD) (x : PtD × GSt) : Value → List HP → Prop := fun r Q => ∃ vs va vf vl w z, NatsR z vf x.1.first ∧ NatsR z vl x.1.last ∧ NodesR q w rest ∧ r = .tuple #[partA x.1.emp vf vl, w] ∧ Q = [mkP bm vs va, ownS vs x.2.1, ownA va x.2.2, z, q, g]
section
variable {P : Program} {c : Cx} {A : Array Oper} {rest : List Oper} {K : Kont} {L : Env} {H : List HP} {t ty : TypeId} {p : String} {e : Array Edge} {d : Nat}
theorem GO.buildPart2 {i1 i2 : Nat} {x1 x2 : Operand} {v1 v2 : Value} {l : List Value} (hb : P.built ty [(i1, v1), (i2, v2)] = some l.toArray) (hN : Nat.blt d c.N = true) (h1 : evl L x1 = some v1) (h2 : evl L x2 = some v2)
    (k : GO P c A rest K ((d, .agg l.toArray) :: L) H) : GO P c A (⟨some d, .build ty #[(i1, x1), (i2, x2)], t, p, e, none⟩ :: rest) K L H :=
  GO.buildPart (ps := [(i1, x1), (i2, x2)]) hb hN ⟨rfl, h1, rfl, h2, trivial⟩ k
end
theorem built_part (x : Bool) : Tryz.prog.built 121 [(0, .bool x)] = some [.bool x, .slice none 0 0, .slice none 0 0].toArray := by kernel_rfl
theorem built_part2 (a1 a2 : Option Addr) (n1 n2 c1 c2 : Nat) : Tryz.prog.built 121 [(1, .slice a1 n1 c1), (2, .slice a2 n2 c2)] = some [.bool false, .slice a1 n1 c1, .slice a2 n2 c2].toArray := by kernel_rfl
theorem sysV_snoc (S : List SyD) (s : SyD) : sysV (S ++ [s]) = sysV S ++ syVs s := by rw [sysV_app]; unfold sysV; simp
attribute [local irreducible] capN capM G GO GR GT GW Fn FnX FnV FnXV Dfr pt init exs pur sat own ImpS natsV arsV sysV joinA gluT gluK flats nodesV
set_option maxRecDepth 40000 in
set_option maxHeartbeats 64000000 in
theorem tree_spec (leaf : Nat → List UInt8 → SyD) (yv : Value) (g : HP) (hy : ∀ m : NodeD, (m.kind = 2 ∨ m.kind = 3) → FnV Tryz.prog yv [nodeA m] [g] (fun r Q => r = syA (leaf m.kind m.name) ∧ Q = [g])) (bm : Nat) (q : HP) (n : Nat) : ∀ (t : Tree) (rest : List NodeD) (v vs va : Value) (st : GSt), okT t = true → (flat t).length ≤ n → NodesR q v (flat t ++ rest) → ¬ 1048576 < (flat t ++ rest).length → ¬ 1024 < (gluT leaf t st).2.1.length → ¬ 2147483648 < (gluT leaf t st).2.2.length →
    Fn Tryz.prog 49 #[ptrV bm, v, yv] [mkP bm vs va, ownS vs st.1, ownA va st.2, q, g] (TreeR bm q g rest (gluT leaf t st)) := by
  induction n with
  | zero => intro t rest v vs va st _ h; have := flat_pos t; omega
  | succ n ih =>
  rintro ⟨k, nm, ts⟩ rest v vs va st hok hn hq hl hS hA
  rw [okT, Bool.and_eq_true] at hok
  have hkid : ∀ u ∈ ts, okT u = true := fun u hu => okTs_mem hok.2 hu
  have hm := mayN_cases hok.1
  dsimp only at hm
  have h0 : flat (.node k nm ts) = ⟨k, nm, ts.length⟩ :: flats ts := by rw [flat]
  obtain ⟨b, o, cap, rfl, hcap, rm⟩ := nodes_rd hq (i := 0) (m := ⟨k, nm, ts.length⟩) (by rw [h0]; rfl)
  rw [h0, List.cons_append, List.length_cons] at hq hcap
  have hlen : (flat (.node k nm ts) ++ rest).length = (flats ts ++ rest).length + 1 := by rw [h0]; rfl
  rw [hlen]
  rw [hlen] at hl
  have htail := fun o' ho => NodesR.tail (o' := o') hq ho
  have hy := hy ⟨k, nm, ts.length⟩
  have hkl : (flat (.node k nm ts)).length = (flats ts).length + 1 := by rw [h0]; rfl
  rw [hkl] at hn
  clear h0 hlen hkl hq hok
  generalize hg : gluT leaf (.node k nm ts) st = res at *
  rw [gluT] at hg
  refine Fn.mk2 Tryz.func49 rfl rfl fun w0 F => ?_
  (refine G.seq ?_; refine G.region ?_; refine GO.alloc rfl fun b6 => ?_; refine GO.assign rfl rfl ?_; refine GO.nil ?_; refine kthen_n ?_; refine G.seq ?_; refine G.region ?_; refine GO.move rfl rfl ?_; refine GO.idxS (j := 0) rfl rfl rfl ⟨rfl, by simp⟩ ?_)
  refine GO.loadM (vs := [i64 (k : Nat), str nm, i64 (ts.length : Nat)]) rfl rfl rfl (Tk.t (Tk.t (Tk.t (Tk.t Tk.h)))) rfl rm ?_
  (refine GO.alloc rfl fun b8 => ?_; refine GO.storeW rfl rfl Tk.h ⟨rfl, rfl⟩ (by simp [Value.oneCell']) ?_; refine GO.nil ?_; refine kthen_n ?_; refine G.seq ?_; refine G.region ?_; refine GO.move rfl rfl ?_)
  refine GO.sliceTail rfl rfl rfl ⟨rfl, by omega, by omega⟩ fun o' ho => ?_
  have htl := htail o' ho
  clear htail
  rw [Nat.add_sub_cancel]
  have bnd : ∀ x y : PtD × GSt, x = y → y.2.1.length ≤ x.2.1.length := fun x y e => by rw [e]; exact Nat.le_refl _
  by_cases h1 : k = 1
  · have c1 : decide ((k : Int) = 1) = true := decide_eq_true (by omega)
    have c2 : decide ((k : Int) = 2) = false := decide_eq_false (by omega)
    have c3 : decide ((k : Int) = 3) = false := decide_eq_false (by omega)
    have c6 : decide ((k : Int) = 6) = false := decide_eq_false (by omega)
    have c7 : decide ((k : Int) = 7) = false := decide_eq_false (by omega)
    have hts : ts = [] := by
      rcases hm with h | h | h | h | h
      · exact List.length_eq_zero_iff.1 h.2.2
      all_goals omega
    rw [if_neg (by omega), if_neg (by omega), hts, gluK, decide_eq_true h1] at hg
    subst hg
    dsimp only
    rw [hts, show flats [] = [] by unfold flats; rfl, List.nil_append] at htl ⊢
    refine .assign rfl rfl (.nil (kthen_n (.seq (.region (.fieldAddr rfl rfl (.load1 rfl rfl rfl .h rfl (.eqi rfl rfl rfl (.move rfl rfl (.gF rfl rfl rfl (by assumption) (.gF rfl rfl rfl (by assumption) (.gF rfl rfl rfl (by assumption) (.pickTa rfl rfl (by assumption) rfl ?_))))))))))))
    refine GO.buildPart1 (built_part true) rfl rfl ?_
    (refine GO.alloc rfl fun b10 => ?_; refine GO.storeW rfl rfl Tk.h ⟨rfl, rfl⟩ (by simp [Value.oneCell']) ?_; refine GO.nil (kthen_n (G.seq (G.seq (G.region (GO.fieldAddr rfl rfl (GO.load1 rfl rfl rfl (Tk.t Tk.h) rfl (GO.eqi rfl rfl rfl (GO.move rfl rfl ?_)))))))); refine GO.gT rfl rfl (by assumption) ?_; refine GO.fieldAddr rfl rfl ?_; refine GO.gT rfl rfl (by assumption) ?_; refine GO.load1 rfl rfl rfl (Tk.t Tk.h) rfl ?_; refine GO.gT rfl rfl (by assumption) ?_; refine GO.eqi rfl rfl rfl ?_; refine GO.pickFa rfl rfl (by assumption) rfl ?_; refine GO.nil (kthen_n ?_); refine G.condF rfl (by assumption) ?_; refine G.skip (kthen_n (G.seq (G.seq (G.region (GO.fieldAddr rfl rfl (GO.load1 rfl rfl rfl (Tk.t Tk.h) rfl (GO.move rfl rfl (GO.nil (kthen_n (G.block ?_)))))))))))
    refine G.loopI (σ := Unit) (fun _ => [(6, ptrV b6), (8, ptrV b8), (9, .slice (some ⟨b, o', none⟩) rest.length (cap - 1)), (10, ptrV b10), (59, i64 ((0 : Nat) : Int)), (60, i64 ((0 : Nat) : Int))]) (fun _ => pt b10 (row [.bool true, .slice none 0 0, .slice none 0 0] 121) :: pt b8 (row [i64 (k : Nat), str nm, i64 ((0 : Nat) : Int)] 78) :: pt b6 (row [.bool false, .slice none 0 0, .slice none 0 0] 121) :: mkP bm vs va :: ownS vs st.1 :: ownA va st.2 :: q :: g :: F) (fun _ => True) (fun _ => 0) () trivial ?_ ?_ ?_
    · (refine SubE.c rfl rfl ?_; refine SubE.c rfl rfl ?_; refine SubE.c rfl rfl ?_; refine SubE.c rfl rfl ?_; refine SubE.c rfl rfl ?_; refine SubE.c rfl rfl ?_; exact SubE.n)
    · refine ImpS.sb ?_
      ((refine Sb.c Tk.h ?_; refine Sb.c Tk.h ?_; refine Sb.c Tk.h ?_; refine Sb.c Tk.h ?_; refine Sb.c Tk.h ?_; refine Sb.c Tk.h ?_; refine Sb.c Tk.h ?_; refine Sb.c Tk.h ?_); (exact Sb.r))
    intro _ _
    (refine G.seq ?_; refine G.region ?_; refine GO.lti rfl rfl rfl ?_; refine GO.nil ?_; refine kthen_n ?_; refine G.seq ?_; refine G.condF rfl rfl ?_; refine G.exit ?_; refine kthen_x ?_; refine kthen_x ?_; refine kblock_x ?_; refine kthen_n ?_; refine G.seq ?_; refine G.seq ?_; refine G.region ?_; refine GO.fieldAddr rfl rfl ?_; refine GO.load1 rfl rfl rfl (Tk.t Tk.h) rfl ?_; refine GO.nil ?_; refine kthen_n ?_; refine G.block ?_; refine G.seq ?_; refine G.seq ?_; refine G.region ?_; refine GO.eqi rfl rfl rfl ?_; refine GO.assign rfl rfl ?_; refine GO.nil ?_; refine kthen_n ?_; refine G.condF rfl (by assumption) ?_; refine G.region ?_; refine GO.eqi rfl rfl rfl ?_; refine GO.assign rfl rfl ?_; refine GO.nil ?_; refine kthen_n ?_; refine G.condF rfl (by assumption) ?_; refine G.skip ?_; refine kblock_n ?_; refine kthen_n ?_; refine G.seq ?_; refine G.region ?_; refine GO.fieldAddr rfl rfl ?_; refine GO.load1 rfl rfl rfl Tk.h rfl ?_; refine GO.move rfl rfl ?_; refine GO.gF rfl rfl rfl rfl ?_; refine GO.gF rfl rfl rfl rfl ?_; refine GO.gF rfl rfl rfl rfl ?_; refine GO.pickT rfl rfl rfl ?_; refine GO.move rfl rfl ?_; refine GO.gF rfl rfl rfl rfl ?_; refine GO.gF rfl rfl rfl rfl ?_; refine GO.gF rfl rfl rfl rfl ?_; refine GO.pickT rfl rfl rfl ?_; refine GO.fieldAddr rfl rfl ?_; refine GO.store1 rfl rfl rfl Tk.h (by decide) ?_; refine GO.nil ?_; refine kthen_n ?_; refine G.seq ?_; refine G.region ?_; refine GO.loadW rfl rfl rfl Tk.h rfl ?_; refine GO.move rfl rfl ?_; refine GO.storeW rfl rfl (Tk.t (Tk.t Tk.h)) ⟨rfl, rfl⟩ (by simp [Value.oneCell']) ?_; refine GO.assign rfl rfl ?_; refine GO.nil ?_; refine kthen_n ?_; refine G.ret ?_)
    refine KF2.r2 rfl (RV.cW rfl rfl Tk.h rfl) (RV.t rfl) ⟨vs, va, .slice none 0 0, .slice none 0 0, _, Go.Proofs.YtbconcohpfkncaaGreat.pur True, ⟨none, 0, rfl, by unfold natsV; rfl, fun h => absurd h (by simp)⟩, ⟨none, 0, rfl, by unfold natsV; rfl, fun h => absurd h (by simp)⟩, htl, rfl, rfl⟩ (ImpS.trans ImpS.tt (ImpS.sb ?_))
    exact .c (.t (.t (.t (.t .h)))) (.c (.t (.t (.t (.t .h)))) (.c (.t (.t (.t (.t .h)))) (.c .h (.c (.t (.t (.t .h))) (.c (.t (.t (.t .h))) (.s (.s (.s .r))))))))
  have c1 : decide ((k : Int) = 1) = false := decide_eq_false (by omega)
  by_cases h23 : k = 2 ∨ k = 3
  · rw [if_pos h23] at hg
    subst hg
    dsimp only at hS hA ⊢
    have c4 : decide ((k : Int) = 4) = false := decide_eq_false (by omega)
    have hts : ts = [] := by
      rcases hm with h | h | h | h | h
      · omega
      · exact List.length_eq_zero_iff.1 h.2.1
      · exact List.length_eq_zero_iff.1 h.2.1
      all_goals omega
    subst hts
    rw [show flats [] = [] by unfold flats; rfl, List.nil_append] at htl
    rw [show flats [] = [] by unfold flats; rfl, List.nil_append]
    have hy := hy h23
    dsimp only at hy
    generalize leaf k nm = s at *
    rw [List.length_append, List.length_cons, List.length_nil] at hS
    rcases h23 with h2 | h3
    · have c2 : decide ((k : Int) = 2) = true := decide_eq_true (by omega)
      refine .assign rfl rfl (.nil (kthen_n (.seq (.region (.fieldAddr rfl rfl (.load1 rfl rfl rfl .h rfl (.eqi rfl rfl rfl (.move rfl rfl (.gT rfl rfl (by assumption) (.fieldAddr rfl rfl (.gT rfl rfl (by assumption) (.load1 rfl rfl rfl .h rfl (.gT rfl rfl (by assumption) (.eqi rfl rfl rfl (.pickFa rfl rfl (by assumption) rfl ?_)))))))))))))))
      rw [c4]
      refine GO.buildPart1 (built_part false) rfl rfl ?_
      (refine .alloc rfl fun b10 => .storeW rfl rfl .h ⟨rfl, rfl⟩ (by simp [Value.oneCell']) (.nil (kthen_n (.seq (.seq (.region (.fieldAddr rfl rfl (.load1 rfl rfl rfl (.t .h) rfl (.eqi rfl rfl rfl (.move rfl rfl (.gF rfl rfl rfl (by assumption) (.gF rfl rfl rfl (by assumption) (.gF rfl rfl rfl (by assumption) (.pickTa rfl rfl (by assumption) rfl (.nil ?_)))))))))))))); refine kthen_n (.condT rfl rfl (.seq ?_)))
      refine G.drawT 12 768 [mkP bm vs va, g, pt b8 (row [i64 (k : Nat), str nm, i64 (([] : List Tree).length : Nat)] 78)] (pt b10 (row [.bool false, .slice none 0 0, .slice none 0 0] 121) :: pt b6 (row [.bool false, .slice none 0 0, .slice none 0 0] 121) :: ownS vs st.1 :: ownA va st.2 :: q :: F) (by kernel_rfl) (keys_of rfl) (ImpS.sb (.c (.t (.t (.t .h))) (.c (.t (.t (.t (.t (.t (.t .h)))))) (.c (.t .h) (.c .h (.c .h (.c .h (.c .h (.c .h .r))))))))) ?_
      refine .step rfl (fun _ => .move rfl rfl KQ.z) (.step rfl (fun _ => .move rfl rfl KQ.z) (.step rfl (fun _ => .nilCheck rfl rfl KQ.z) (.step rfl (fun _ => .fieldAddr rfl rfl KQ.z) (.step rfl (fun _ => .load1 rfl rfl rfl .h rfl KQ.z) (.step rfl (fun _ => .move rfl rfl KQ.z) (.step rfl (fun _ => .loadW rfl rfl rfl (.t (.t .h)) rfl KQ.z) ?_))))))
      apply GR.step rfl; focus (intro Z; refine GO.callV1 rfl rfl rfl hy (Tks.c (Tk.t Tk.h) Tks.n) ?_; rintro _ _ ⟨rfl, rfl⟩; refine GO.nil (KQ.s ?_); ((refine Sb.c (Tk.t Tk.h) ?_; refine Sb.c Tk.h ?_; refine Sb.c Tk.h ?_); (exact Sb.r)))
      refine .skip rfl (.skip rfl (.step rfl (fun _ => .nilCheck rfl rfl KQ.z) (.step rfl (fun _ => .fieldAddr rfl rfl KQ.z) (.nil ?_))))
      repeat refine GT.skip rfl ?_
      refine GT.step rfl ?_
      refine GO.buildSlice1 (n := 2) (v1 := syA s) rfl rfl (fun v hv => by rw [List.mem_singleton.1 hv]; rfl) rfl ⟨by decide, by decide⟩ fun bs3 => ?_
      refine GO.nil ⟨rfl, _, pt bs3 (row (syVs s) 72) :: pt b10 (row [.bool false, .slice none 0 0, .slice none 0 0] 121) :: pt b6 (row [.bool false, .slice none 0 0, .slice none 0 0] 121) :: ownS vs st.1 :: ownA va st.2 :: q :: F, rfl, ImpS.sb (.c (.t .h) (.c (.t .h) (.c (.t .h) (.c .h (.c .h (.c .h (.c .h (.c .h (.c .h .r))))))))), ?_⟩
      repeat refine GT.skip rfl ?_
      refine GT.step rfl ?_
      refine GO.appendOwn (m := 1) (news := syVs s) rfl rfl rfl (Tk.t (Tk.t (Tk.t (Tk.t (Tk.t (Tk.t Tk.h)))))) (Tk.t (Tk.t (Tk.t Tk.h))) rfl (by simp [Value.oneCell']) ⟨by decide, rfl⟩ Nat.one_pos (by unfold maxLen; omega) (by omega) fun v4 => ?_
      refine GO.ownShp Tk.h fun x4 c4 e4 => ?_
      subst e4
      refine GO.nil ⟨rfl, _, own 72 2 (st.1.length + 1) (.slice x4 (st.1.length + 1) c4) (sysV st.1 ++ syVs s) :: pt b10 (row [.bool false, .slice none 0 0, .slice none 0 0] 121) :: pt b6 (row [.bool false, .slice none 0 0, .slice none 0 0] 121) :: ownA va st.2 :: q :: F, rfl, ImpS.sb (.c (.t .h) (.c (.t .h) (.c (.t .h) (.c .h (.c (.t .h) (.c (.t .h) (.c (.t .h) (.c (.t .h) (.s .r))))))))), ?_⟩
      repeat refine GT.skip rfl ?_
      refine GT.nil ?_
      refine .store1 rfl rfl rfl .h (by simp) (.nil (kthen_n (.seq (.region (.move rfl rfl (.nilCheck rfl rfl (.fieldAddr rfl rfl (.load1 rfl rfl rfl .h rfl (.lenS rfl rfl (.assign rfl rfl (.nil (kthen_n (.seq (.region (.move rfl rfl ?_)))))))))))))))
      refine GO.buildSlice1 (n := 1) rfl rfl (fun v hv => by rw [List.mem_singleton.1 hv]; rfl) rfl ⟨by decide, by decide⟩ fun bs5 => ?_
      refine GO.ownIn (n := 1) (sz := 1) Tk.h rfl (by decide) ?_
      refine GO.ownRd (n := 1) (sz := 1) Tk.h fun qa hqa => ?_
      refine .move rfl rfl ?_
      refine GO.buildSlice1 (n := 1) rfl rfl (fun v hv => by rw [List.mem_singleton.1 hv]; rfl) rfl ⟨by decide, by decide⟩ fun bs6 => ?_
      refine GO.ownIn (n := 1) (sz := 1) Tk.h rfl (by decide) ?_
      refine GO.ownRd (n := 1) (sz := 1) Tk.h fun qb hqb => ?_
      refine GO.merge (x := qa) (y := qb) (Tks.c (Tk.t Tk.h) (Tks.c Tk.h Tks.n)) ?_
      skip
      refine GO.buildPart2 (built_part2 _ _ _ _ _ _) rfl rfl rfl ?_
      refine .move rfl rfl (.storeW rfl rfl (.t (.t (.t (.t (.t (.t .h)))))) ⟨rfl, rfl⟩ (by simp [Value.oneCell']) (.assign rfl rfl (.nil (kthen_n (.ret (kthen_r ?_))))))
      refine KF2.r2 rfl (RV.cW rfl rfl Tk.h rfl) (RV.t rfl) ⟨.slice x4 (st.1.length + 1) c4, va, .slice (some ⟨bs5, 0, none⟩) 1 1, .slice (some ⟨bs6, 0, none⟩) 1 1, _, star [qa, qb], ?_, ?_, htl, rfl, rfl⟩ (ImpS.sb ?_)
      · show Sl _ _ _ _ _
        unfold natsV
        exact hqa.sup (Sup.left _ _)
      · show Sl _ _ _ _ _
        unfold natsV
        exact hqb.sup (Sup.right _ _)
      · dsimp only
        rw [show ∀ v, ownS v (st.1 ++ [s]) = own 72 2 (st.1.length + 1) v (sysV st.1 ++ syVs s) from fun v => by unfold ownS; rw [List.length_append, sysV_snoc]; rfl]
        exact .c (.t (.t .h)) (.c (.t (.t (.t (.t .h)))) (.c (.t (.t (.t (.t (.t .h))))) (.c (.t .h) (.c (.t (.t (.t (.t .h)))) (.c (.t .h) (.s (.s (.s .r))))))))
    · have c2 : decide ((k : Int) = 2) = false := decide_eq_false (by omega)
      have c3 : decide ((k : Int) = 3) = true := decide_eq_true (by omega)
      refine .assign rfl rfl (.nil (kthen_n (.seq (.region (.fieldAddr rfl rfl (.load1 rfl rfl rfl .h rfl (.eqi rfl rfl rfl (.move rfl rfl (.gT rfl rfl (by assumption) (.fieldAddr rfl rfl (.gT rfl rfl (by assumption) (.load1 rfl rfl rfl .h rfl (.gT rfl rfl (by assumption) (.eqi rfl rfl rfl (.pickFa rfl rfl (by assumption) rfl ?_)))))))))))))))
      rw [c4]
      refine GO.buildPart1 (built_part false) rfl rfl ?_
      (refine .alloc rfl fun b10 => .storeW rfl rfl .h ⟨rfl, rfl⟩ (by simp [Value.oneCell']) (.nil (kthen_n (.seq (.seq (.region (.fieldAddr rfl rfl (.load1 rfl rfl rfl (.t .h) rfl (.eqi rfl rfl rfl (.move rfl rfl (.gT rfl rfl (by assumption) (.fieldAddr rfl rfl (.gT rfl rfl (by assumption) (.load1 rfl rfl rfl (.t .h) rfl (.gT rfl rfl (by assumption) ?_)))))))))))))); refine .eqi rfl rfl rfl (.pickFa rfl rfl (by assumption) rfl (.nil (kthen_n (.condT rfl (by assumption) (.seq ?_))))))
      refine G.drawT 12 768 [mkP bm vs va, g, pt b8 (row [i64 (k : Nat), str nm, i64 (([] : List Tree).length : Nat)] 78)] (pt b10 (row [.bool false, .slice none 0 0, .slice none 0 0] 121) :: pt b6 (row [.bool false, .slice none 0 0, .slice none 0 0] 121) :: ownS vs st.1 :: ownA va st.2 :: q :: F) (by kernel_rfl) (keys_of rfl) (ImpS.sb (.c (.t (.t (.t .h))) (.c (.t (.t (.t (.t (.t (.t .h)))))) (.c (.t .h) (.c .h (.c .h (.c .h (.c .h (.c .h .r))))))))) ?_
      refine .step rfl (fun _ => .move rfl rfl KQ.z) (.step rfl (fun _ => .move rfl rfl KQ.z) (.step rfl (fun _ => .nilCheck rfl rfl KQ.z) (.step rfl (fun _ => .fieldAddr rfl rfl KQ.z) (.step rfl (fun _ => .load1 rfl rfl rfl .h rfl KQ.z) (.step rfl (fun _ => .move rfl rfl KQ.z) (.step rfl (fun _ => .loadW rfl rfl rfl (.t (.t .h)) rfl KQ.z) ?_))))))
      apply GR.step rfl; focus (intro Z; refine GO.callV1 rfl rfl rfl hy (Tks.c (Tk.t Tk.h) Tks.n) ?_; rintro _ _ ⟨rfl, rfl⟩; refine GO.nil (KQ.s ?_); ((refine Sb.c (Tk.t Tk.h) ?_; refine Sb.c Tk.h ?_; refine Sb.c Tk.h ?_); (exact Sb.r)))
      refine .skip rfl (.skip rfl (.step rfl (fun _ => .nilCheck rfl rfl KQ.z) (.step rfl (fun _ => .fieldAddr rfl rfl KQ.z) (.nil ?_))))
      repeat refine GT.skip rfl ?_
      refine GT.step rfl ?_
      refine GO.buildSlice1 (n := 2) (v1 := syA s) rfl rfl (fun v hv => by rw [List.mem_singleton.1 hv]; rfl) rfl ⟨by decide, by decide⟩ fun bs3 => ?_
      refine GO.nil ⟨rfl, _, pt bs3 (row (syVs s) 72) :: pt b10 (row [.bool false, .slice none 0 0, .slice none 0 0] 121) :: pt b6 (row [.bool false, .slice none 0 0, .slice none 0 0] 121) :: ownS vs st.1 :: ownA va st.2 :: q :: F, rfl, ImpS.sb (.c (.t .h) (.c (.t .h) (.c (.t .h) (.c .h (.c .h (.c .h (.c .h (.c .h (.c .h .r))))))))), ?_⟩
      repeat refine GT.skip rfl ?_
      refine GT.step rfl ?_
      refine GO.appendOwn (m := 1) (news := syVs s) rfl rfl rfl (Tk.t (Tk.t (Tk.t (Tk.t (Tk.t (Tk.t Tk.h)))))) (Tk.t (Tk.t (Tk.t Tk.h))) rfl (by simp [Value.oneCell']) ⟨by decide, rfl⟩ Nat.one_pos (by unfold maxLen; omega) (by omega) fun v4 => ?_
      refine GO.ownShp Tk.h fun x4 c4 e4 => ?_
      subst e4
      refine GO.nil ⟨rfl, _, own 72 2 (st.1.length + 1) (.slice x4 (st.1.length + 1) c4) (sysV st.1 ++ syVs s) :: pt b10 (row [.bool false, .slice none 0 0, .slice none 0 0] 121) :: pt b6 (row [.bool false, .slice none 0 0, .slice none 0 0] 121) :: ownA va st.2 :: q :: F, rfl, ImpS.sb (.c (.t .h) (.c (.t .h) (.c (.t .h) (.c .h (.c (.t .h) (.c (.t .h) (.c (.t .h) (.c (.t .h) (.s .r))))))))), ?_⟩
      repeat refine GT.skip rfl ?_
      refine GT.nil ?_
      refine .store1 rfl rfl rfl .h (by simp) (.nil (kthen_n (.seq (.region (.move rfl rfl (.nilCheck rfl rfl (.fieldAddr rfl rfl (.load1 rfl rfl rfl .h rfl (.lenS rfl rfl (.assign rfl rfl (.nil (kthen_n (.seq (.region (.move rfl rfl ?_)))))))))))))))
      refine GO.buildSlice1 (n := 1) rfl rfl (fun v hv => by rw [List.mem_singleton.1 hv]; rfl) rfl ⟨by decide, by decide⟩ fun bs5 => ?_
      refine GO.ownIn (n := 1) (sz := 1) Tk.h rfl (by decide) ?_
      refine GO.ownRd (n := 1) (sz := 1) Tk.h fun qa hqa => ?_
      refine .move rfl rfl ?_
      refine GO.buildSlice1 (n := 1) rfl rfl (fun v hv => by rw [List.mem_singleton.1 hv]; rfl) rfl ⟨by decide, by decide⟩ fun bs6 => ?_
      refine GO.ownIn (n := 1) (sz := 1) Tk.h rfl (by decide) ?_
      refine GO.ownRd (n := 1) (sz := 1) Tk.h fun qb hqb => ?_
      refine GO.merge (x := qa) (y := qb) (Tks.c (Tk.t Tk.h) (Tks.c Tk.h Tks.n)) ?_
      skip
      refine GO.buildPart2 (built_part2 _ _ _ _ _ _) rfl rfl rfl ?_
      refine .move rfl rfl (.storeW rfl rfl (.t (.t (.t (.t (.t (.t .h)))))) ⟨rfl, rfl⟩ (by simp [Value.oneCell']) (.assign rfl rfl (.nil (kthen_n (.ret (kthen_r ?_))))))
      refine KF2.r2 rfl (RV.cW rfl rfl Tk.h rfl) (RV.t rfl) ⟨.slice x4 (st.1.length + 1) c4, va, .slice (some ⟨bs5, 0, none⟩) 1 1, .slice (some ⟨bs6, 0, none⟩) 1 1, _, star [qa, qb], ?_, ?_, htl, rfl, rfl⟩ (ImpS.sb ?_)
      · show Sl _ _ _ _ _
        unfold natsV
        exact hqa.sup (Sup.left _ _)
      · show Sl _ _ _ _ _
        unfold natsV
        exact hqb.sup (Sup.right _ _)
      · dsimp only
        rw [show ∀ v, ownS v (st.1 ++ [s]) = own 72 2 (st.1.length + 1) v (sysV st.1 ++ syVs s) from fun v => by unfold ownS; rw [List.length_append, sysV_snoc]; rfl]
        exact .c (.t (.t .h)) (.c (.t (.t (.t (.t .h)))) (.c (.t (.t (.t (.t (.t .h))))) (.c (.t .h) (.c (.t (.t (.t (.t .h)))) (.c (.t .h) (.s (.s (.s .r))))))))
  rw [if_neg h23] at hg
  have c2 : decide ((k : Int) = 2) = false := decide_eq_false (by omega)
  have c3 : decide ((k : Int) = 3) = false := decide_eq_false (by omega)
  have e4 : decide ((k : Int) = 4) = (decide (k = 1) || decide (k = 4)) := by
    rw [decide_eq_false h1, Bool.false_or]
    by_cases h4 : k = 4
    · rw [decide_eq_true h4, decide_eq_true (by omega)]
    · rw [decide_eq_false h4, decide_eq_false (by omega)]
  refine .assign rfl rfl (.nil (kthen_n (.seq (.region (.fieldAddr rfl rfl (.load1 rfl rfl rfl .h rfl (.eqi rfl rfl rfl (.move rfl rfl (.gT rfl rfl (by assumption) (.fieldAddr rfl rfl (.gT rfl rfl (by assumption) (.load1 rfl rfl rfl .h rfl (.gT rfl rfl (by assumption) (.eqi rfl rfl rfl (.pickFa rfl rfl (by assumption) rfl ?_)))))))))))))))
  rw [e4]
  generalize hfin : gluK leaf k ts ⟨decide (k = 1) || decide (k = 4), [], []⟩ st = fin at *
  have hB0 := gluK_B leaf k ts ⟨decide (k = 1) || decide (k = 4), [], []⟩ st st.1.length PtB.nil
  rw [hfin] at hB0
  have hS1 : fin.2.1.length = res.2.1.length := by rw [← hg]; dsimp only; split <;> rfl
  have hA1 : fin.2.2.length ≤ res.2.2.length := by
    rw [← hg]; dsimp only; split
    · dsimp only; rw [List.length_append]; omega
    · exact Nat.le_refl _
  generalize (decide (k = 1) || decide (k = 4)) = e0 at *
  refine GO.buildPart1 (built_part e0) rfl rfl ?_
  (refine GO.alloc rfl fun b10 => ?_; refine GO.storeW rfl rfl Tk.h ⟨rfl, rfl⟩ (by simp [Value.oneCell']) ?_; refine GO.nil (kthen_n (G.seq (G.seq (G.region (GO.fieldAddr rfl rfl (GO.load1 rfl rfl rfl (Tk.t Tk.h) rfl (GO.eqi rfl rfl rfl (GO.move rfl rfl ?_)))))))); refine GO.gT rfl rfl (by assumption) ?_; refine GO.fieldAddr rfl rfl ?_; refine GO.gT rfl rfl (by assumption) ?_; refine GO.load1 rfl rfl rfl (Tk.t Tk.h) rfl ?_; refine GO.gT rfl rfl (by assumption) ?_; refine GO.eqi rfl rfl rfl ?_; refine GO.pickFa rfl rfl (by assumption) rfl ?_; refine GO.nil (kthen_n ?_); refine G.condF rfl (by assumption) ?_; refine G.skip (kthen_n (G.seq (G.seq (G.region (GO.fieldAddr rfl rfl (GO.load1 rfl rfl rfl (Tk.t Tk.h) rfl (GO.move rfl rfl (GO.nil (kthen_n (G.block ?_)))))))))))
  refine G.loopI (σ := TrS) (fun x => [(0, ptrV bm), (2, yv), (6, ptrV b6), (8, ptrV b8), (9, x.w), (10, ptrV b10), (59, i64 (ts.length : Nat)), (60, i64 (x.i : Nat))]) (fun x => pt b10 (row [.bool x.out.emp, x.vf, x.vl] 121) :: pt b8 (row [i64 (k : Nat), str nm, i64 (ts.length : Nat)] 78) :: pt b6 (row [.bool false, .slice none 0 0, .slice none 0 0] 121) :: mkP bm x.vs x.va :: ownS x.vs x.st.1 :: ownA x.va x.st.2 :: x.z :: q :: g :: F)
    (fun x => gluK leaf k x.ts x.out x.st = fin ∧ PtB st.1.length x.st.1.length x.out ∧ x.i + x.ts.length = ts.length ∧ (∀ u ∈ x.ts, okT u = true) ∧ (flats x.ts).length ≤ (flats ts).length ∧ NodesR q x.w (flats x.ts ++ rest) ∧ NatsR x.z x.vf x.out.first ∧ NatsR x.z x.vl x.out.last) (fun x => x.ts.length)
    ⟨0, ts, ⟨e0, [], []⟩, st, vs, va, .slice none 0 0, .slice none 0 0, .slice (some ⟨b, o', none⟩) (flats ts ++ rest).length (cap - 1), Go.Proofs.YtbconcohpfkncaaGreat.pur True⟩ ⟨hfin, PtB.nil, Nat.zero_add _, hkid, Nat.le_refl _, htl, ⟨none, 0, rfl, by unfold natsV; rfl, fun h => absurd h (by simp)⟩, ⟨none, 0, rfl, by unfold natsV; rfl, fun h => absurd h (by simp)⟩⟩ ?_ ?_ ?_
  · exact .c rfl rfl (.c rfl rfl (.c rfl rfl (.c rfl rfl (.c rfl rfl (.c rfl rfl (.c rfl rfl (.c rfl rfl .n)))))))
  · refine ImpS.trans ImpS.tt (ImpS.sb ?_)
    exact .c (.t .h) (.c (.t .h) (.c (.t .h) (.c (.t .h) (.c (.t .h) (.c (.t .h) (.c .h (.c .h (.c .h .r))))))))
  clear htl hfin hB0 hkid
  rintro ⟨i, us, out, st', vs, va, vf, vl, w, z⟩ ⟨hfin, hB, hi, hkid, hfl, hw, hvf, hvl⟩
  dsimp only at hfin hB hi hkid hfl hw hvf hvl ⊢
  have hvf' := hvf
  have hvl' := hvl
  have hw' := hw
  obtain ⟨af, cf, rfl⟩ := nats_sl hvf'
  obtain ⟨al, cl, rfl⟩ := nats_sl hvl'
  obtain ⟨aw, cw, rfl⟩ := nodes_sl hw'
  clear hvf' hvl' hw'
  refine .seq (.region (.lti rfl rfl rfl (.nil (kthen_n (.seq ?_)))))
  cases us with
  | cons u us =>
    rw [List.length_cons] at hi
    have d1 : decide ((i : Int) < (ts.length : Int)) = true := decide_eq_true (by omega)
    have hfu : flats (u :: us) = flat u ++ flats us := by rw [flats]
    rw [hfu, List.append_assoc] at hw
    rw [hfu, List.length_append] at hfl
    rw [gluK] at hfin
    have hku := hkid u (by simp)
    have hB1 := gluT_B leaf u st'
    have hup := flat_pos u
    have htl : ¬ 1048576 < ts.length := by have := kids_le ts; rw [List.length_append] at hl; omega
    have hl1 : (flat u ++ (flats us ++ rest)).length ≤ (flats ts ++ rest).length := by simp only [List.length_append] at hfl ⊢; omega
    rw [hfu, List.append_assoc]
    have hi1 := ih u (flats us ++ rest) (.slice aw (flat u ++ (flats us ++ rest)).length cw) vs va st' hku (by omega) hw (by omega)
    clear hfu hw
    generalize hkid1 : gluT leaf u st' = kid at *
    obtain ⟨kp, S2, A2⟩ := kid
    dsimp only at hi1 hB1 hfin
    have hSA : S2.length ≤ fin.2.1.length ∧ A2.length ≤ fin.2.2.length ∧ (k = 4 → (A2 ++ joinA S2 out.last kp.first).length ≤ fin.2.2.length) := by
      by_cases h4 : k = 4
      · rw [if_pos h4] at hfin
        obtain ⟨_, g1, g2⟩ := gluK_B leaf k us (seqP out kp) (S2, A2 ++ joinA S2 out.last kp.first) st.1.length (hB.seq hB1.1)
        rw [hfin] at g1 g2
        dsimp only at g1 g2
        refine ⟨g1, ?_, fun _ => g2⟩
        rw [List.length_append] at g2; omega
      · rw [if_neg h4] at hfin
        obtain ⟨_, g1, g2⟩ := gluK_B leaf k us (altP out kp) (S2, A2) st.1.length (hB.alt hB1.1)
        rw [hfin] at g1 g2
        exact ⟨g1, g2, fun h => absurd h h4⟩
    have hi1 := hi1 (by omega) (by omega)
    refine .condT rfl (by assumption) (.skip (kthen_n (.seq (.block (.seq (.region (.alloc rfl fun b12 => .nil (kthen_n (.seq (.region (.move rfl rfl (.move rfl rfl (.move rfl rfl ?_)))))))))))))
    refine GO.call3 rfl rfl rfl rfl (hi1) (Tks.c (Tk.t (Tk.t (Tk.t (Tk.t Tk.h)))) (Tks.c (Tk.t (Tk.t (Tk.t (Tk.t Tk.h)))) (Tks.c (Tk.t (Tk.t (Tk.t (Tk.t Tk.h)))) (Tks.c (Tk.t (Tk.t (Tk.t (Tk.t (Tk.t Tk.h))))) (Tks.c (Tk.t (Tk.t (Tk.t (Tk.t (Tk.t Tk.h))))) Tks.n))))) ?_
    rintro _ _ ⟨vs2, va2, kvf, kvl, w2, z2, hkf, hkl, hw2, rfl, rfl⟩
    dsimp only at hkf hkl ⊢
    refine GO.merge (x := z) (y := z2) (Tks.c (Tk.t (Tk.t (Tk.t (Tk.t (Tk.t (Tk.t (Tk.t (Tk.t (Tk.t (Tk.t Tk.h)))))))))) (Tks.c (Tk.t (Tk.t (Tk.t Tk.h))) Tks.n)) ?_
    refine GO.ownSl (v := vs2) (Tk.t (Tk.t Tk.h)) fun hsl => ?_
    have hkf := hkf.sup (Sup.right z z2)
    have hkl := hkl.sup (Sup.right z z2)
    have hvf := hvf.sup (Sup.left z z2)
    have hvl := hvl.sup (Sup.left z z2)
    generalize star [z, z2] = zz at *
    have hkf' := hkf
    have hkl' := hkl
    have hw2' := hw2
    obtain ⟨kaf, kcf, rfl⟩ := nats_sl hkf'
    obtain ⟨kal, kcl, rfl⟩ := nats_sl hkl'
    obtain ⟨aw2, cw2, rfl⟩ := nodes_sl hw2'
    clear hkf' hkl' hw2'
    refine .move rfl rfl (.extract rfl rfl rfl (.extract rfl rfl rfl (.storeW rfl rfl (.t (.t (.t (.t (.t (.t .h)))))) ⟨rfl, rfl⟩ (by simp [Value.oneCell']) (.assign rfl rfl (.nil (kthen_n (.seq (.region (.fieldAddr rfl rfl (.load1 rfl rfl rfl (.t (.t (.t (.t (.t (.t (.t (.t .h)))))))) rfl (.eqi rfl rfl rfl (.nil (kthen_n ?_)))))))))))))
    by_cases h4 : k = 4
    · have c4 : decide ((k : Int) = 4) = true := decide_eq_true (by omega)
      rw [if_pos h4] at hfin
      have hA3 := hSA.2.2 h4
      rw [List.length_append, joinA_len] at hA3
      have hb0 := hB.nf; have hb1 := hB.nl; have hb2 := hB1.1.nf; have hb3 := hB1.1.nl; have hb4 := hB1.1.le
      refine .condT rfl (by assumption) (.region (.move rfl rfl (.loadW rfl rfl rfl (.t (.t (.t (.t (.t (.t (.t .h))))))) rfl (.loadW rfl rfl rfl .h rfl ?_))))
      refine GO.call3 rfl rfl rfl rfl (seq_spec bm vs2 va2 (.slice af out.first.length cf) (.slice al out.last.length cl) (.slice kaf kp.first.length kcf) (.slice kal kp.last.length kcl) S2 A2 out kp (ownS vs2 S2) zz hsl hvf hvl hkf hkl hB1.1.fst (by omega) (by omega) (by omega) (by omega) (by omega) (by omega)) (Tks.c (Tk.t (Tk.t Tk.h)) (Tks.c (Tk.t (Tk.t Tk.h)) (Tks.c (Tk.t (Tk.t Tk.h)) (Tks.c (Tk.t Tk.h) Tks.n)))) ?_
      rintro _ _ ⟨va3, vf3, vl3, rfl, rfl⟩
      refine GO.ownRd (v := vf3) (Tk.t (Tk.t (Tk.t Tk.h))) fun qa hqa => ?_
      refine GO.ownRd (v := vl3) (Tk.t (Tk.t (Tk.t (Tk.t Tk.h)))) fun qb hqb => ?_
      have hqa' : NatsR qa vf3 (seqP out kp).first := hqa
      have hqb' : NatsR qb vl3 (seqP out kp).last := hqb
      have ha2 := hqa'
      have hb2 := hqb'
      obtain ⟨xa, ca, rfl⟩ := nats_sl ha2
      obtain ⟨xb, cb, rfl⟩ := nats_sl hb2
      clear ha2 hb2 hqa hqb
      refine GO.merge (x := qa) (y := qb) (Tks.c (Tk.t Tk.h) (Tks.c Tk.h Tks.n)) ?_
      refine .storeW rfl rfl (.t (.t (.t (.t (.t (.t (.t (.t .h)))))))) ⟨rfl, rfl⟩ (by simp [Value.oneCell']) (.nil (kblock_n (kthen_n (.region (.addi rfl rfl rfl (by omega) (.move rfl rfl (.nil (kthen_n ?_))))))))
      refine ⟨⟨i + 1, us, seqP out kp, (S2, A2 ++ joinA S2 out.last kp.first), vs2, va3, .slice xa (seqP out kp).first.length ca, .slice xb (seqP out kp).last.length cb, .slice aw2 (flats us ++ rest).length cw2, star [qa, qb]⟩, ⟨hfin, hB.seq hB1.1, by dsimp only; omega, fun x hx => hkid x (by simp [hx]), by dsimp only; omega, hw2, hqa'.sup (Sup.left _ _), hqb'.sup (Sup.right _ _)⟩, by dsimp only; rw [List.length_cons]; omega, ?_, ?_⟩
      · exact .c rfl rfl (.c rfl rfl (.c rfl rfl (.c rfl rfl (.c rfl rfl (.c rfl rfl (.c rfl rfl (.c rfl rfl .n)))))))
      · refine ImpS.sb ?_
        exact .c .h (.c (.t (.t (.t (.t (.t (.t (.t (.t .h)))))))) (.c (.t (.t (.t (.t (.t (.t (.t (.t .h)))))))) (.c (.t .h) (.c (.t .h) (.c (.t .h) (.c .h (.c (.t (.t .h)) (.c (.t (.t .h)) (.s (.s .r))))))))))
    · have c4 : decide ((k : Int) = 4) = false := decide_eq_false (by omega)
      rw [if_neg h4] at hfin
      have hb0 := hB.nf; have hb1 := hB.nl; have hb2 := hB1.1.nf; have hb3 := hB1.1.nl; have hb4 := hB1.1.le
      refine .condF rfl (by assumption) (.region (.loadW rfl rfl rfl (.t (.t (.t (.t (.t (.t (.t .h))))))) rfl (.loadW rfl rfl rfl .h rfl ?_)))
      refine GO.call2 rfl rfl rfl (alt_spec (.slice af out.first.length cf) (.slice al out.last.length cl) (.slice kaf kp.first.length kcf) (.slice kal kp.last.length kcl) out kp zz hvf hvl hkf hkl (by omega) (by omega) (by omega) (by omega)) (Tks.c (Tk.t Tk.h) Tks.n) ?_
      rintro _ _ ⟨vf3, vl3, rfl, rfl⟩
      refine GO.ownRd (v := vf3) Tk.h fun qa hqa => ?_
      refine GO.ownRd (v := vl3) (Tk.t Tk.h) fun qb hqb => ?_
      have hqa' : NatsR qa vf3 (altP out kp).first := hqa
      have hqb' : NatsR qb vl3 (altP out kp).last := hqb
      have ha2 := hqa'
      have hb2 := hqb'
      obtain ⟨xa, ca, rfl⟩ := nats_sl ha2
      obtain ⟨xb, cb, rfl⟩ := nats_sl hb2
      clear ha2 hb2 hqa hqb
      refine GO.merge (x := qa) (y := qb) (Tks.c (Tk.t Tk.h) (Tks.c Tk.h Tks.n)) ?_
      refine .storeW rfl rfl (.t (.t (.t (.t (.t (.t (.t (.t .h)))))))) ⟨rfl, rfl⟩ (by simp [Value.oneCell']) (.nil (kblock_n (kthen_n (.region (.addi rfl rfl rfl (by omega) (.move rfl rfl (.nil (kthen_n ?_))))))))
      refine ⟨⟨i + 1, us, altP out kp, (S2, A2), vs2, va2, .slice xa (altP out kp).first.length ca, .slice xb (altP out kp).last.length cb, .slice aw2 (flats us ++ rest).length cw2, star [qa, qb]⟩, ⟨hfin, hB.alt hB1.1, by dsimp only; omega, fun x hx => hkid x (by simp [hx]), by dsimp only; omega, hw2, hqa'.sup (Sup.left _ _), hqb'.sup (Sup.right _ _)⟩, by dsimp only; rw [List.length_cons]; omega, ?_, ?_⟩
      · exact .c rfl rfl (.c rfl rfl (.c rfl rfl (.c rfl rfl (.c rfl rfl (.c rfl rfl (.c rfl rfl (.c rfl rfl .n)))))))
      · refine ImpS.sb ?_
        exact .c .h (.c (.t (.t (.t (.t (.t (.t (.t (.t .h)))))))) (.c (.t (.t (.t (.t (.t (.t (.t (.t .h)))))))) (.c (.t (.t (.t .h))) (.c (.t (.t (.t .h))) (.c (.t (.t (.t .h))) (.c .h (.c (.t (.t .h)) (.c (.t (.t .h)) (.s (.s .r))))))))))
  | nil =>
    have d1 : decide ((i : Int) < (ts.length : Int)) = false := decide_eq_false (by rw [List.length_nil] at hi; omega)
    rw [gluK] at hfin
    subst hfin
    rw [show flats [] = [] by unfold flats; rfl, List.nil_append] at hw ⊢
    dsimp only at hS1 hA1 hg
    obtain ⟨oe, of, ol⟩ := out
    obtain ⟨S1, A1⟩ := st'
    dsimp only at hB hvf hvl hS1 hA1 hg ⊢
    by_cases h6 : k = 6
    · have c6 : decide ((k : Int) = 6) = true := decide_eq_true (by omega)
      have hA3 := hA
      rw [← hg, if_pos (.inl h6), List.length_append, joinA_len] at hA3
      rw [if_pos (.inl h6)] at hg
      subst hg
      have hb0 := hB.nf; have hb1 := hB.nl
      dsimp only at hb0 hb1
      (refine .condF rfl (by assumption) (.exit (kthen_x (kthen_x (kblock_x (kthen_n (.seq (.seq (.region (.fieldAddr rfl rfl (.load1 rfl rfl rfl (.t .h) rfl (.nil (kthen_n (.block (.seq (.seq ?_))))))))))))))); refine .region (.eqi rfl rfl rfl (.assign rfl rfl (.nil (kthen_n (.condT rfl (by assumption) (.skip (kthen_n (.condT rfl (by assumption) (.region (.move rfl rfl (.fieldAddr rfl rfl (.load1 rfl rfl rfl .h rfl (.fieldAddr rfl rfl (.load1 rfl rfl rfl .h rfl ?_)))))))))))))))
      refine GO.ownSl (v := vs) (Tk.t (Tk.t (Tk.t (Tk.t Tk.h)))) fun hsl => ?_
      refine GO.call3 rfl rfl rfl rfl (mjoin_spec bm vs va (.slice al ol.length cl) (.slice af of.length cf) S1 A1 ol of (ownS vs S1) z hsl hvl hvf hB.fst (by omega) (by omega) (by omega) (by omega)) (Tks.c (Tk.t (Tk.t (Tk.t Tk.h))) (Tks.c (Tk.t (Tk.t (Tk.t Tk.h))) (Tks.c (Tk.t (Tk.t (Tk.t Tk.h))) (Tks.c (Tk.t (Tk.t (Tk.t Tk.h))) Tks.n)))) ?_
      rintro _ _ ⟨va9, rfl⟩
      cases oe
      · (refine GO.nil ?_; refine kblock_n ?_; refine kthen_n ?_; refine G.seq ?_; refine G.region ?_; refine GO.fieldAddr rfl rfl ?_; refine GO.load1 rfl rfl rfl (Tk.t (Tk.t (Tk.t (Tk.t Tk.h)))) rfl ?_; refine GO.move rfl rfl ?_; refine GO.gT rfl rfl rfl ?_; refine GO.fieldAddr rfl rfl ?_; refine GO.gT rfl rfl rfl ?_; refine GO.load1 rfl rfl rfl (Tk.t (Tk.t (Tk.t (Tk.t (Tk.t Tk.h))))) rfl ?_; refine GO.gT rfl rfl rfl ?_; refine GO.eqi rfl rfl rfl ?_; refine GO.pickF rfl rfl rfl ?_; refine GO.move rfl rfl ?_; refine GO.gF rfl rfl rfl (by assumption) ?_; refine GO.gF rfl rfl rfl (by assumption) ?_; refine GO.gF rfl rfl rfl (by assumption) ?_; refine GO.pickTa rfl rfl (by assumption) rfl ?_; refine GO.fieldAddr rfl rfl ?_; refine GO.store1 rfl rfl rfl (Tk.t (Tk.t (Tk.t (Tk.t Tk.h)))) (by simp) ?_; refine GO.nil ?_; refine kthen_n ?_; refine G.seq ?_; refine G.region ?_; refine GO.loadW rfl rfl rfl Tk.h rfl ?_; refine GO.move rfl rfl ?_; refine GO.storeW rfl rfl (Tk.t (Tk.t (Tk.t (Tk.t (Tk.t (Tk.t Tk.h)))))) ⟨rfl, rfl⟩ (by simp [Value.oneCell']) ?_; refine GO.assign rfl rfl ?_; refine GO.nil ?_; refine kthen_n ?_; refine G.ret ?_)
        refine KF2.r2 rfl (RV.cW rfl rfl Tk.h rfl) (RV.t rfl) ⟨vs, va9, .slice af of.length cf, .slice al ol.length cl, .slice aw rest.length cw, z, hvf, hvl, hw, by rw [Bool.false_or, decide_eq_true h6, Bool.true_or]; rfl, rfl⟩ (ImpS.sb ?_)
        ((refine Sb.c (Tk.t (Tk.t Tk.h)) ?_; refine Sb.c (Tk.t (Tk.t Tk.h)) ?_; refine Sb.c (Tk.t (Tk.t Tk.h)) ?_; refine Sb.c (Tk.t (Tk.t Tk.h)) ?_; refine Sb.c (Tk.t (Tk.t (Tk.t Tk.h))) ?_; refine Sb.c (Tk.t (Tk.t (Tk.t Tk.h))) ?_); (refine Sb.s ?_; refine Sb.s ?_; refine Sb.s ?_; exact Sb.r))
      · (refine GO.nil ?_; refine kblock_n ?_; refine kthen_n ?_; refine G.seq ?_; refine G.region ?_; refine GO.fieldAddr rfl rfl ?_; refine GO.load1 rfl rfl rfl (Tk.t (Tk.t (Tk.t (Tk.t Tk.h)))) rfl ?_; refine GO.move rfl rfl ?_; refine GO.gF rfl rfl rfl rfl ?_; refine GO.gF rfl rfl rfl rfl ?_; refine GO.gF rfl rfl rfl rfl ?_; refine GO.pickT rfl rfl rfl ?_; refine GO.move rfl rfl ?_; refine GO.gF rfl rfl rfl rfl ?_; refine GO.gF rfl rfl rfl rfl ?_; refine GO.gF rfl rfl rfl rfl ?_; refine GO.pickT rfl rfl rfl ?_; refine GO.fieldAddr rfl rfl ?_; refine GO.store1 rfl rfl rfl (Tk.t (Tk.t (Tk.t (Tk.t Tk.h)))) (by simp) ?_; refine GO.nil ?_; refine kthen_n ?_; refine G.seq ?_; refine G.region ?_; refine GO.loadW rfl rfl rfl Tk.h rfl ?_; refine GO.move rfl rfl ?_; refine GO.storeW rfl rfl (Tk.t (Tk.t (Tk.t (Tk.t (Tk.t (Tk.t Tk.h)))))) ⟨rfl, rfl⟩ (by simp [Value.oneCell']) ?_; refine GO.assign rfl rfl ?_; refine GO.nil ?_; refine kthen_n ?_; refine G.ret ?_)
        refine KF2.r2 rfl (RV.cW rfl rfl Tk.h rfl) (RV.t rfl) ⟨vs, va9, .slice af of.length cf, .slice al ol.length cl, .slice aw rest.length cw, z, hvf, hvl, hw, by rw [Bool.true_or]; rfl, rfl⟩ (ImpS.sb ?_)
        ((refine Sb.c (Tk.t (Tk.t Tk.h)) ?_; refine Sb.c (Tk.t (Tk.t Tk.h)) ?_; refine Sb.c (Tk.t (Tk.t Tk.h)) ?_; refine Sb.c (Tk.t (Tk.t Tk.h)) ?_; refine Sb.c (Tk.t (Tk.t (Tk.t Tk.h))) ?_; refine Sb.c (Tk.t (Tk.t (Tk.t Tk.h))) ?_); (refine Sb.s ?_; refine Sb.s ?_; refine Sb.s ?_; exact Sb.r))
    have c6 : decide ((k : Int) = 6) = false := decide_eq_false (by omega)
    by_cases h7 : k = 7
    · have c7 : decide ((k : Int) = 7) = true := decide_eq_true (by omega)
      have c8 : decide ((k : Int) = 8) = false := decide_eq_false (by omega)
      have hA3 := hA
      rw [← hg, if_pos (.inr h7), List.length_append, joinA_len] at hA3
      rw [if_pos (.inr h7)] at hg
      subst hg
      have hb0 := hB.nf; have hb1 := hB.nl
      dsimp only at hb0 hb1
      (refine .condF rfl (by assumption) (.exit (kthen_x (kthen_x (kblock_x (kthen_n (.seq (.seq (.region (.fieldAddr rfl rfl (.load1 rfl rfl rfl (.t .h) rfl (.nil (kthen_n (.block (.seq (.seq ?_))))))))))))))); refine .region (.eqi rfl rfl rfl (.assign rfl rfl (.nil (kthen_n (.condF rfl (by assumption) (.region (.eqi rfl rfl rfl (.assign rfl rfl (.nil (kthen_n (.condT rfl (by assumption) (.region (.move rfl rfl (.fieldAddr rfl rfl (.load1 rfl rfl rfl .h rfl ?_))))))))))))))); refine .fieldAddr rfl rfl (.load1 rfl rfl rfl .h rfl ?_))
      refine GO.ownSl (v := vs) (Tk.t (Tk.t (Tk.t (Tk.t Tk.h)))) fun hsl => ?_
      refine GO.call3 rfl rfl rfl rfl (mjoin_spec bm vs va (.slice al ol.length cl) (.slice af of.length cf) S1 A1 ol of (ownS vs S1) z hsl hvl hvf hB.fst (by omega) (by omega) (by omega) (by omega)) (Tks.c (Tk.t (Tk.t (Tk.t Tk.h))) (Tks.c (Tk.t (Tk.t (Tk.t Tk.h))) (Tks.c (Tk.t (Tk.t (Tk.t Tk.h))) (Tks.c (Tk.t (Tk.t (Tk.t Tk.h))) Tks.n)))) ?_
      rintro _ _ ⟨va9, rfl⟩
      cases oe
      · (refine GO.nil ?_; refine kblock_n ?_; refine kthen_n ?_; refine G.seq ?_; refine G.region ?_; refine GO.fieldAddr rfl rfl ?_; refine GO.load1 rfl rfl rfl (Tk.t (Tk.t (Tk.t (Tk.t Tk.h)))) rfl ?_; refine GO.move rfl rfl ?_; refine GO.gT rfl rfl rfl ?_; refine GO.fieldAddr rfl rfl ?_; refine GO.gT rfl rfl rfl ?_; refine GO.load1 rfl rfl rfl (Tk.t (Tk.t (Tk.t (Tk.t (Tk.t Tk.h))))) rfl ?_; refine GO.gT rfl rfl rfl ?_; refine GO.eqi rfl rfl rfl ?_; refine GO.pickF rfl rfl rfl ?_; refine GO.move rfl rfl ?_; refine GO.gT rfl rfl (by assumption) ?_; refine GO.fieldAddr rfl rfl ?_; refine GO.gT rfl rfl (by assumption) ?_; refine GO.load1 rfl rfl rfl (Tk.t (Tk.t (Tk.t (Tk.t (Tk.t Tk.h))))) rfl ?_; refine GO.gT rfl rfl (by assumption) ?_; refine GO.eqi rfl rfl rfl ?_; refine GO.pickFa rfl rfl (by assumption) rfl ?_; refine GO.fieldAddr rfl rfl ?_; refine GO.store1 rfl rfl rfl (Tk.t (Tk.t (Tk.t (Tk.t Tk.h)))) (by simp) ?_; refine GO.nil ?_; refine kthen_n ?_; refine G.seq ?_; refine G.region ?_; refine GO.loadW rfl rfl rfl Tk.h rfl ?_; refine GO.move rfl rfl ?_; refine GO.storeW rfl rfl (Tk.t (Tk.t (Tk.t (Tk.t (Tk.t (Tk.t Tk.h)))))) ⟨rfl, rfl⟩ (by simp [Value.oneCell']) ?_; refine GO.assign rfl rfl ?_; refine GO.nil ?_; refine kthen_n ?_; refine G.ret ?_)
        refine KF2.r2 rfl (RV.cW rfl rfl Tk.h rfl) (RV.t rfl) ⟨vs, va9, .slice af of.length cf, .slice al ol.length cl, .slice aw rest.length cw, z, hvf, hvl, hw, by rw [Bool.false_or, decide_eq_false h6, decide_eq_false (show ¬ k = 8 by omega), Bool.false_or, c8]; rfl, rfl⟩ (ImpS.sb ?_)
        ((refine Sb.c (Tk.t (Tk.t Tk.h)) ?_; refine Sb.c (Tk.t (Tk.t Tk.h)) ?_; refine Sb.c (Tk.t (Tk.t Tk.h)) ?_; refine Sb.c (Tk.t (Tk.t Tk.h)) ?_; refine Sb.c (Tk.t (Tk.t (Tk.t Tk.h))) ?_; refine Sb.c (Tk.t (Tk.t (Tk.t Tk.h))) ?_); (refine Sb.s ?_; refine Sb.s ?_; refine Sb.s ?_; exact Sb.r))
      · (refine GO.nil ?_; refine kblock_n ?_; refine kthen_n ?_; refine G.seq ?_; refine G.region ?_; refine GO.fieldAddr rfl rfl ?_; refine GO.load1 rfl rfl rfl (Tk.t (Tk.t (Tk.t (Tk.t Tk.h)))) rfl ?_; refine GO.move rfl rfl ?_; refine GO.gF rfl rfl rfl rfl ?_; refine GO.gF rfl rfl rfl rfl ?_; refine GO.gF rfl rfl rfl rfl ?_; refine GO.pickT rfl rfl rfl ?_; refine GO.move rfl rfl ?_; refine GO.gF rfl rfl rfl rfl ?_; refine GO.gF rfl rfl rfl rfl ?_; refine GO.gF rfl rfl rfl rfl ?_; refine GO.pickT rfl rfl rfl ?_; refine GO.fieldAddr rfl rfl ?_; refine GO.store1 rfl rfl rfl (Tk.t (Tk.t (Tk.t (Tk.t Tk.h)))) (by simp) ?_; refine GO.nil ?_; refine kthen_n ?_; refine G.seq ?_; refine G.region ?_; refine GO.loadW rfl rfl rfl Tk.h rfl ?_; refine GO.move rfl rfl ?_; refine GO.storeW rfl rfl (Tk.t (Tk.t (Tk.t (Tk.t (Tk.t (Tk.t Tk.h)))))) ⟨rfl, rfl⟩ (by simp [Value.oneCell']) ?_; refine GO.assign rfl rfl ?_; refine GO.nil ?_; refine kthen_n ?_; refine G.ret ?_)
        refine KF2.r2 rfl (RV.cW rfl rfl Tk.h rfl) (RV.t rfl) ⟨vs, va9, .slice af of.length cf, .slice al ol.length cl, .slice aw rest.length cw, z, hvf, hvl, hw, by rw [Bool.true_or]; rfl, rfl⟩ (ImpS.sb ?_)
        ((refine Sb.c (Tk.t (Tk.t Tk.h)) ?_; refine Sb.c (Tk.t (Tk.t Tk.h)) ?_; refine Sb.c (Tk.t (Tk.t Tk.h)) ?_; refine Sb.c (Tk.t (Tk.t Tk.h)) ?_; refine Sb.c (Tk.t (Tk.t (Tk.t Tk.h))) ?_; refine Sb.c (Tk.t (Tk.t (Tk.t Tk.h))) ?_); (refine Sb.s ?_; refine Sb.s ?_; refine Sb.s ?_; exact Sb.r))
    · have c7 : decide ((k : Int) = 7) = false := decide_eq_false (by omega)
      have e8 : decide ((k : Int) = 8) = decide (k = 8) := by
        by_cases h8 : k = 8
        · rw [decide_eq_true h8, decide_eq_true (by omega)]
        · rw [decide_eq_false h8, decide_eq_false (by omega)]
      rw [if_neg (by omega)] at hg
      subst hg
      cases oe
      · (refine G.condF rfl (by assumption) ?_; refine G.exit ?_; refine kthen_x ?_; refine kthen_x ?_; refine kblock_x ?_; refine kthen_n ?_; refine G.seq ?_; refine G.seq ?_; refine G.region ?_; refine GO.fieldAddr rfl rfl ?_; refine GO.load1 rfl rfl rfl (Tk.t Tk.h) rfl ?_; refine GO.nil ?_; refine kthen_n ?_; refine G.block ?_; refine G.seq ?_; refine G.seq ?_; refine G.region ?_; refine GO.eqi rfl rfl rfl ?_; refine GO.assign rfl rfl ?_; refine GO.nil ?_; refine kthen_n ?_; refine G.condF rfl (by assumption) ?_; refine G.region ?_; refine GO.eqi rfl rfl rfl ?_; refine GO.assign rfl rfl ?_; refine GO.nil ?_; refine kthen_n ?_; refine G.condF rfl (by assumption) ?_; refine G.skip ?_; refine kblock_n ?_; refine kthen_n ?_; refine G.seq ?_; refine G.region ?_; refine GO.fieldAddr rfl rfl ?_; refine GO.load1 rfl rfl rfl Tk.h rfl ?_; refine GO.move rfl rfl ?_; refine GO.gT rfl rfl rfl ?_; refine GO.fieldAddr rfl rfl ?_; refine GO.gT rfl rfl rfl ?_; refine GO.load1 rfl rfl rfl (Tk.t Tk.h) rfl ?_; refine GO.gT rfl rfl rfl ?_; refine GO.eqi rfl rfl rfl ?_; refine GO.pickF rfl rfl rfl ?_; refine GO.move rfl rfl ?_; refine GO.gT rfl rfl (by assumption) ?_; refine GO.fieldAddr rfl rfl ?_; refine GO.gT rfl rfl (by assumption) ?_; refine GO.load1 rfl rfl rfl (Tk.t Tk.h) rfl ?_; refine GO.gT rfl rfl (by assumption) ?_; refine GO.eqi rfl rfl rfl ?_; refine GO.pickFa rfl rfl (by assumption) rfl ?_; refine GO.fieldAddr rfl rfl ?_; refine GO.store1 rfl rfl rfl Tk.h (by simp) ?_; refine GO.nil ?_; refine kthen_n ?_; refine G.seq ?_; refine G.region ?_; refine GO.loadW rfl rfl rfl Tk.h rfl ?_; refine GO.move rfl rfl ?_; refine GO.storeW rfl rfl (Tk.t (Tk.t Tk.h)) ⟨rfl, rfl⟩ (by simp [Value.oneCell']) ?_; refine GO.assign rfl rfl ?_; refine GO.nil ?_; refine kthen_n ?_; refine G.ret ?_)
        refine KF2.r2 rfl (RV.cW rfl rfl Tk.h rfl) (RV.t rfl) ⟨vs, va, .slice af of.length cf, .slice al ol.length cl, .slice aw rest.length cw, z, hvf, hvl, hw, by rw [Bool.false_or, decide_eq_false h6, Bool.false_or, e8]; rfl, rfl⟩ (ImpS.sb ?_)
        exact .c (.t (.t (.t .h))) (.c (.t (.t (.t .h))) (.c (.t (.t (.t .h))) (.c (.t (.t (.t .h))) (.c (.t (.t (.t .h))) (.c (.t (.t (.t .h))) (.s (.s (.s .r))))))))
      · (refine .condF rfl (by assumption) (.exit (kthen_x (kthen_x (kblock_x (kthen_n (.seq (.seq (.region (.fieldAddr rfl rfl (.load1 rfl rfl rfl (.t .h) rfl (.nil (kthen_n (.block (.seq (.seq ?_))))))))))))))); refine .region (.eqi rfl rfl rfl (.assign rfl rfl (.nil (kthen_n (.condF rfl (by assumption) (.region (.eqi rfl rfl rfl (.assign rfl rfl (.nil (kthen_n (.condF rfl (by assumption) (.skip (kblock_n (kthen_n (.seq ?_))))))))))))))); refine .region (.fieldAddr rfl rfl (.load1 rfl rfl rfl .h rfl (.move rfl rfl (.gF rfl rfl rfl rfl (.gF rfl rfl rfl rfl (.gF rfl rfl rfl rfl (.pickT rfl rfl rfl (.move rfl rfl (.gF rfl rfl rfl rfl (.gF rfl rfl rfl rfl (.gF rfl rfl rfl rfl (.pickT rfl rfl rfl (.fieldAddr rfl rfl (.store1 rfl rfl rfl .h (by simp) (.nil ?_))))))))))))))); refine kthen_n (.seq (.region (.loadW rfl rfl rfl .h rfl (.move rfl rfl (.storeW rfl rfl (.t (.t .h)) ⟨rfl, rfl⟩ (by simp [Value.oneCell']) (.assign rfl rfl (.nil (kthen_n (.ret ?_))))))))))
        refine KF2.r2 rfl (RV.cW rfl rfl Tk.h rfl) (RV.t rfl) ⟨vs, va, .slice af of.length cf, .slice al ol.length cl, .slice aw rest.length cw, z, hvf, hvl, hw, by rw [Bool.true_or]; rfl, rfl⟩ (ImpS.sb ?_)
        exact .c (.t (.t (.t .h))) (.c (.t (.t (.t .h))) (.c (.t (.t (.t .h))) (.c (.t (.t (.t .h))) (.c (.t (.t (.t .h))) (.c (.t (.t (.t .h))) (.s (.s (.s .r))))))))
end Go.Proofs.YtbconcohpfkncaaGreat
namespace Go.Proofs.YtbconcohpfkncaaGreat
open Go Go.Sort Go.Shelf Go.RowKit
theorem grown_of {W w' : World} (h : Below W.heap.size W w') (hd : W.drawn ≤ w'.drawn) : ∃ q os', w' = grow (W.drewN q) os' := by
  obtain ⟨e1, e2, e3, e4, e5⟩ := h
  refine ⟨w'.drawn - W.drawn, w'.heap.extract W.heap.size w'.heap.size, ?_⟩
  have hh : w'.heap = W.heap ++ w'.heap.extract W.heap.size w'.heap.size := by
    apply Array.ext_getElem?
    intro k
    by_cases hk : k < W.heap.size
    · rw [e5 k hk, Array.getElem?_append_left hk]
    · rw [Array.getElem?_append_right (by omega), Array.getElem?_extract]
      by_cases h2 : k < w'.heap.size
      · rw [if_pos (by omega)]; congr 1; omega
      · rw [if_neg (by omega)]; exact Array.getElem?_eq_none (by omega)
  generalize w'.heap.extract W.heap.size w'.heap.size = os at hh
  obtain ⟨h1, h2, h3, h4, h5⟩ := w'
  obtain ⟨g1, g2, g3, g4, g5⟩ := W
  simp only at e1 e2 e3 hh hd
  subst e1 e2 e3 hh
  show World.mk (g1 ++ os) h2 h3 h4 h5 = World.mk (g1 ++ os) h2 (g3 + (h3 - g3)) h4 h5
  rw [Nat.add_sub_cancel' hd]
/-- A list put in order. -/
abbrev sortB {α : Type} (cf : α → α → Int) (l : List α) : List α := l.mergeSort fun x y => !(Go.Proofs.ltOf cf) y x
section
variable {α : Type}
theorem flat_get {enc : α → List Value} {k : Nat} (hk : ∀ x, (enc x).length = k) {j : Nat} (hj : j < k) : ∀ (l : List α) (i : Nat), (l.flatMap enc)[i * k + j]? = (l[i]?).bind fun x => (enc x)[j]?
  | [], i => by simp
  | x :: l, 0 => by rw [List.flatMap_cons, Nat.zero_mul, Nat.zero_add, List.getElem?_append_left (by rw [hk]; exact hj)]; rfl
  | x :: l, i + 1 => by
    rw [List.flatMap_cons, List.getElem?_append_right (by rw [hk, Nat.add_mul]; omega), hk, show (i + 1) * k + j - k = i * k + j by rw [Nat.add_mul]; omega, flat_get hk hj l i]
    rfl
theorem flat_len {enc : α → List Value} {k : Nat} (hk : ∀ x, (enc x).length = k) : ∀ (l : List α), (l.flatMap enc).length = l.length * k
  | [] => by simp
  | x :: l => by rw [List.flatMap_cons, List.length_append, hk, flat_len hk l, List.length_cons, Nat.add_mul]; omega
variable [Inhabited α]
theorem flatK_list {enc : α → List Value} {k : Nat} (hk : ∀ x, (enc x).length = k) (d : Array α) : (flatK enc k d).toList = d.toList.flatMap enc := by
  apply List.ext_getElem?
  intro t
  by_cases ht : t < d.size * k
  · have hk0 : 0 < k := by rcases Nat.eq_zero_or_pos k with h | h; · subst h; simp at ht
                           · exact h
    have e1 : t / k * k + t % k = t := by rw [Nat.mul_comm]; exact Nat.div_add_mod t k
    have h1 : t / k < d.size := Nat.div_lt_of_lt_mul (by rwa [Nat.mul_comm] at ht)
    have h2 : t % k < k := Nat.mod_lt _ hk0
    have a1 := get_flatK enc k d t ht
    rw [getElem!_pos (flatK enc k d) t (by simpa using ht), getElem!_pos d (t / k) h1, getElem!_pos (enc d[t / k]) (t % k) (by rw [hk]; exact h2)] at a1
    have a2 := flat_get hk h2 d.toList (t / k)
    rw [e1] at a2
    rw [a2, List.getElem?_eq_getElem (by simpa using ht), List.getElem?_eq_getElem (by simpa using h1)]
    simp only [Option.bind_some]
    rw [List.getElem?_eq_getElem (by rw [hk]; exact h2)]
    exact congrArg some a1
  · rw [List.getElem?_eq_none (by simpa using ht), List.getElem?_eq_none (by rw [flat_len hk]; simpa using ht)]
theorem putCells_row (F : Array Value) (l rest : List Value) (h : F.size = l.length) : putCells id 0 F (l ++ rest).toArray = (F.toList ++ rest).toArray := by
  apply Array.ext_getElem?
  intro k
  simp only [putCells, Array.getElem?_mapIdx, List.getElem?_toArray]
  by_cases hk : k < F.size
  · rw [List.getElem?_append_left (by omega), List.getElem?_append_left (by simpa using hk), List.getElem?_eq_getElem (by omega), List.getElem?_eq_getElem (by simpa using hk), Option.map_some, if_pos ⟨by omega, by omega⟩, Nat.sub_zero, getElem!_pos F k hk]
    rfl
  · have e1 : (l ++ rest)[k]? = rest[k - F.size]? := by rw [List.getElem?_append_right (by omega), h]
    have e2 : (F.toList ++ rest)[k]? = rest[k - F.size]? := by rw [List.getElem?_append_right (by simpa using hk)]; simp
    rw [e1, e2]
    cases rest[k - F.size]? with
    | none => rfl
    | some y => rw [Option.map_some, if_neg (by omega)]
end
instance : Inhabited ArD := ⟨⟨0, ⟨false, 0⟩, 0⟩⟩
theorem sortFA_spec (v : Value) (l : List ArD) (hsz : ¬ 4294967296 < l.length) :
    Fn Tryz.prog 53 #[v, fnC 54] [own 85 4 l.length v (arsV l)] (fun r Q => r = .tuple #[] ∧ Q = [own 85 4 l.length v (arsV (sortB orderA l))]) := by
  intro F w s
  rcases own_shape s with ⟨rfl, h0, _, s2⟩ | ⟨b, cap, rest, rfl, g1, g2, g3, g4, s2⟩
  · have hl : l = [] := List.length_eq_zero_iff.1 h0
    subst hl
    refine callsIn_wide.2 ((Go.Proofs.AnyF.slices_SortFunc_none (ρ := sortA_ren) sortA none 0 (fnC 54) w).mono ?_)
    rintro e w' ⟨rfl, rfl⟩
    exact ⟨_, _, rfl, Same.refl _, ⟨rfl, rfl⟩, by rw [show sortB orderA ([] : List ArD) = [] from List.mergeSort_nil]; exact s⟩
  · have hb := sat_pt s2
    have hlt := (Array.getElem?_eq_some_iff.1 hb).1
    have hk : ∀ x : ArD, (arVs x).length = 4 := fun _ => rfl
    have hone : ∀ x : ArD, ∀ u ∈ arVs x, u.oneCell' = true := fun x u hu => arsV_one [x] u (by unfold arsV; rw [List.flatMap_cons, List.flatMap_nil, List.append_nil]; exact hu)
    have hfl : (flatK arVs 4 l.toArray).toList = l.flatMap arVs := flatK_list hk l.toArray
    have hH : HoldsK arVs 4 w b 0 l.toArray := by
      intro j hj
      have hj' : j < (l.flatMap arVs).length := by rw [← hfl]; simpa using hj
      have e1 : (flatK arVs 4 l.toArray)[j]! = (l.flatMap arVs)[j] := by
        rw [getElem!_pos _ j hj]
        have : (flatK arVs 4 l.toArray).toList[j]? = (l.flatMap arVs)[j]? := by rw [hfl]
        rw [List.getElem?_eq_getElem (by simpa using hj), List.getElem?_eq_getElem hj'] at this
        exact Option.some.inj this
      constructor
      · simp only [World.cell?, hb, row, Nat.zero_add, List.getElem?_toArray]
        rw [List.getElem?_append_left (by unfold arsV; exact hj')]
        unfold arsV
        rw [List.getElem?_eq_getElem hj', e1]; rfl
      · simp [World.frozen?, hb, row]
    have hc : Go.Proofs.CmpLays Tryz.prog 54 #[] arVs 4 orderA b 0 l.toArray.size w := fun m os dk _ x y => (callsIn_wide (n := 0)).1 ((orderA_spec x y [init _] _ (sat_init _)).mono fun e w' ⟨v, Q, e1, sm, ⟨e2, e3⟩, q⟩ => by
      subst e1 e2 e3
      exact ⟨rfl, grown_of (init_below sm q) sm.draws⟩)
    have h := Go.Proofs.AnyQ.slices_SortFunc_total sortA 4 (fun w => Tryz.isAgg85 w) (fun w => Tryz.sizeOf85 w) arVs hk hone orderA orderA_ord.swo 54 #[] b 0 cap l.toArray w (fun args w => Cal.out args w) hc hH hlt (by simp; omega) orderA_ord.tot
    have hyl : (sortB orderA l).length = l.length := List.length_mergeSort l
    rw [show l.toArray.size = l.length by simp] at h
    refine callsIn_wide.2 (h.mono ?_)
    rintro e w' ⟨rfl, m, os, rfl⟩
    refine ⟨_, _, rfl, ?_, ⟨rfl, rfl⟩, ?_⟩
    · refine ⟨rfl, rfl, rfl, ?_, ?_⟩
      · show w.heap.size ≤ (Array.append _ _).size
        simp [putRowK, putRow, mapBlock]
      · show w.drawn ≤ w.drawn + m
        omega
    · refine sat_grow (own_in (rest := rest) rfl (by rw [arsV_len, hyl]) g2 g3 (by rw [List.length_append, arsV_len] at g4 ⊢; rw [hyl]; exact g4) (sat_upd (w := w) s2 ?_ ?_)) os
      · show ((w.heap.modify b (onCells (putCells id 0 (flatK arVs 4 (sortB orderA l).toArray)))))[b]? = _
        rw [Array.getElem?_modify, if_pos rfl, hb]
        simp only [Option.map_some, row, onCells]
        rw [putCells_row _ _ _ (by rw [size_flatK, arsV_len]; simp), flatK_list hk]
        rfl
      · intro j hj
        show ((w.heap.modify b (onCells (putCells id 0 (flatK arVs 4 (sortB orderA l).toArray)))))[j]? = _
        rw [Array.getElem?_modify, if_neg (Ne.symm hj)]
theorem putCells_int (ys : List Int) (l rest : List Value) (h : ys.length = l.length) : putCells (Value.int .i64) 0 ys.toArray (l ++ rest).toArray = (intsV ys ++ rest).toArray := by
  apply Array.ext_getElem?
  intro k
  simp only [putCells, Array.getElem?_mapIdx, List.getElem?_toArray, List.size_toArray]
  by_cases hk : k < ys.length
  · rw [List.getElem?_append_left (by omega), List.getElem?_append_left (by simpa [intsV] using hk), List.getElem?_eq_getElem (by omega), Option.map_some, if_pos ⟨by omega, by omega⟩, Nat.sub_zero, getElem!_pos ys.toArray k (by simpa using hk)]
    simp [intsV, hk]
  · have e1 : (l ++ rest)[k]? = rest[k - ys.length]? := by rw [List.getElem?_append_right (by omega), h]
    have e2 : (intsV ys ++ rest)[k]? = rest[k - ys.length]? := by rw [List.getElem?_append_right (by simp [intsV]; omega)]; simp [intsV]
    rw [e1, e2]
    cases rest[k - ys.length]? with
    | none => rfl
    | some y => rw [Option.map_some, if_neg (by omega)]
abbrev sortI' (l : List Int) : List Int := l.mergeSort fun x y => decide (x ≤ y)
theorem sort_int {P : Program} {ρ : Ren} (L : Go.Proofs.Lays.n189 P ρ) (el : TypeId) (v : Value) (l : List Int) (hsz : l.length < 4611686018427387904) :
    Fn P (ρ.f 189) #[v] [own el 1 l.length v (intsV l)] (fun r Q => r = .tuple #[] ∧ Q = [own el 1 l.length v (intsV (sortI' l))]) := by
  intro F w s
  rcases own_shape s with ⟨rfl, h0, _, s2⟩ | ⟨b, cap, rest, rfl, g1, g2, g3, g4, s2⟩
  · have hl : l = [] := List.length_eq_zero_iff.1 h0
    subst hl
    refine callsIn_wide.2 ((Go.Proofs.Any.slices_Sort_int_none L none 0 w).mono ?_)
    rintro e w' ⟨rfl, rfl⟩
    exact ⟨_, _, rfl, Same.refl _, ⟨rfl, rfl⟩, by rw [show sortI' [] = [] from List.mergeSort_nil]; exact s⟩
  · have hb := sat_pt s2
    have hlt := (Array.getElem?_eq_some_iff.1 hb).1
    have hH : Holds (Value.int .i64) w b 0 l.toArray := by
      intro j hj
      have hj' : j < l.length := by simpa using hj
      constructor
      · simp only [World.cell?, hb, row, Nat.zero_add, List.getElem?_toArray]
        rw [List.getElem?_append_left (by simpa [intsV] using hj'), getElem!_pos l.toArray j hj]
        simp [intsV, hj']
      · simp [World.frozen?, hb, row]
    refine callsIn_wide.2 ((Go.Proofs.Any.slices_Sort_int L b 0 cap l w hH hlt hsz).mono ?_)
    rintro e w' ⟨rfl, m, os, rfl⟩
    have hyl : (sortI' l).length = l.length := List.length_mergeSort l
    refine ⟨_, _, rfl, ?_, ⟨rfl, rfl⟩, ?_⟩
    · refine ⟨rfl, rfl, rfl, ?_, ?_⟩
      · show w.heap.size ≤ (Array.append _ _).size
        simp [putRow, mapBlock]
      · show w.drawn ≤ w.drawn + m
        omega
    · refine sat_grow (own_in (rest := rest) rfl (by rw [intsV_len, hyl, Nat.mul_one]) g2 g3 (by rw [List.length_append, intsV_len] at g4 ⊢; rw [hyl]; exact g4) (sat_upd (w := w) s2 ?_ ?_)) os
      · show ((w.heap.modify b (onCells (putCells (Value.int .i64) 0 (sortI' l).toArray))))[b]? = _
        rw [Array.getElem?_modify, if_pos rfl, hb]
        simp only [Option.map_some, row, onCells]
        rw [putCells_int _ _ _ (by rw [hyl]; simp [intsV])]
      · intro j hj
        show ((w.heap.modify b (onCells (putCells (Value.int .i64) 0 (sortI' l).toArray))))[j]? = _
        rw [Array.getElem?_modify, if_neg (Ne.symm hj)]
def sortN (l : List Nat) : List Nat := l.mergeSort fun x y => decide (x ≤ y)
theorem sortN_int (l : List Nat) : (l.map Int.ofNat).mergeSort (fun x y => decide (x ≤ y)) = (sortN l).map Int.ofNat := by
  unfold sortN
  rw [List.map_mergeSort (s := fun x y : Int => decide (x ≤ y))]
  intro a _ b _
  by_cases h : a ≤ b
  · rw [decide_eq_true h]; exact (decide_eq_true (Int.ofNat_le.2 h)).symm
  · rw [decide_eq_false h]; exact (decide_eq_false fun g => h (Int.ofNat_le.1 g)).symm
theorem natsV_ints (l : List Nat) : natsV l = intsV (l.map Int.ofNat) := by simp [natsV, intsV]
theorem sortN_spec (v : Value) (l : List Nat) (hsz : ¬ 16777216 < l.length) :
    Fn Tryz.prog 55 #[v] [ownN v l] (fun r Q => r = .tuple #[] ∧ Q = [ownN v (sortN l)]) := by
  have := sort_int sortI 3 v (l.map Int.ofNat) (by rw [List.length_map]; omega)
  rw [← natsV_ints, List.length_map] at this
  rw [show intsV (sortI' (l.map Int.ofNat)) = natsV (sortN l) by rw [natsV_ints, ← sortN_int]] at this
  have e : (sortN l).length = l.length := List.length_mergeSort l
  unfold ownN
  rw [e]
  exact this
end Go.Proofs.YtbconcohpfkncaaGreat
namespace Go.Proofs.YtbconcohpfkncaaGreat
open Go
/-- Those of a list that are not what stands ahead of them. -/
def compG {α : Type} [DecidableEq α] : α → List α → List α
  | _, [] => []
  | x, y :: r => if y = x then compG y r else y :: compG y r
def compL {α : Type} [DecidableEq α] : List α → List α
  | [] => []
  | x :: r => x :: compG x r
def lastG {α : Type} : α → List α → α
  | x, [] => x
  | _, z :: r => lastG z r
theorem lastG_snoc {α : Type} (y : α) : ∀ (r : List α) (x : α), lastG x (r ++ [y]) = y
  | [], _ => rfl
  | z :: r, _ => lastG_snoc y r z
theorem compG_snoc {α : Type} [DecidableEq α] (y : α) : ∀ (r : List α) (x : α), compG x (r ++ [y]) = compG x r ++ if y = lastG x r then [] else [y]
  | [], x => by
    show (if y = x then compG y [] else y :: compG y []) = [] ++ if y = x then [] else [y]
    by_cases h : y = x
    · rw [if_pos h, if_pos h]; rfl
    · rw [if_neg h, if_neg h]; rfl
  | z :: r, x => by
    show (if z = x then compG z (r ++ [y]) else z :: compG z (r ++ [y])) = (if z = x then compG z r else z :: compG z r) ++ if y = lastG z r then [] else [y]
    rw [compG_snoc y r z]
    by_cases h : z = x
    · rw [if_pos h, if_pos h]
    · rw [if_neg h, if_neg h, List.cons_append]
theorem compL_step {α : Type} [DecidableEq α] {l : List α} {i : Nat} {x y : α} (hx : l[i]? = some x) (hy : l[i + 1]? = some y) : compL (l.take (i + 1 + 1)) = compL (l.take (i + 1)) ++ if y = x then [] else [y] := by
  rw [take_snoc hy]
  have hlast : l.take (i + 1) = l.take i ++ [x] := take_snoc hx
  rw [hlast]
  cases l.take i with
  | nil =>
    show x :: compG x [y] = x :: compG x [] ++ _
    have := compG_snoc y [] x
    rw [List.nil_append] at this
    rw [this]; rfl
  | cons a r =>
    show a :: compG a ((r ++ [x]) ++ [y]) = (a :: compG a (r ++ [x])) ++ _
    rw [compG_snoc y (r ++ [x]) a, lastG_snoc]; rfl
theorem compL_one {α : Type} [DecidableEq α] {l : List α} (h : l.length ≤ 1) : compL l = l := by
  match l, h with
  | [], _ => rfl
  | [x], _ => rfl
  | _ :: _ :: _, h => simp at h
theorem eqArc (a b : ArD) : EqR Tryz.prog 10000 85 (arA a) (arA b) (decide (a = b)) := by
  have h1 : EqR Tryz.prog (9997 + 1 + 1) 72 (.agg (syVs a.sym).toArray) (.agg (syVs b.sym).toArray) ((a.sym.lab == b.sym.lab) && decide ((a.sym.num : Int) = (b.sym.num : Int))) :=
    EqR.struct (P := Tryz.prog) (d := 9998) (t := 72) (l := syVs a.sym) (l' := syVs b.sym) ⟨.bool a.sym.lab, .bool b.sym.lab, _, _, by decide, PartR.one rfl rfl, PartR.one rfl rfl, EqR.bool, ⟨i64 (a.sym.num : Nat), i64 (b.sym.num : Nat), _, true, by decide, PartR.one rfl rfl, PartR.one rfl rfl, EqR.int, rfl, (Bool.and_true _).symm⟩, rfl⟩
  have h : EqR Tryz.prog (9998 + 1 + 1) 85 (.agg (arVs a).toArray) (.agg (arVs b).toArray) (decide ((a.src : Int) = (b.src : Int)) && (((a.sym.lab == b.sym.lab) && decide ((a.sym.num : Int) = (b.sym.num : Int))) && decide ((a.dst : Int) = (b.dst : Int)))) :=
    EqR.struct (P := Tryz.prog) (d := 9999) (t := 85) (l := arVs a) (l' := arVs b) ⟨i64 (a.src : Nat), i64 (b.src : Nat), _, _, by decide, PartR.one rfl rfl, PartR.one rfl rfl, EqR.int, ⟨.agg (syVs a.sym).toArray, .agg (syVs b.sym).toArray, _, _, by decide, PartR.many rfl rfl, PartR.many rfl rfl, h1, ⟨i64 (a.dst : Nat), i64 (b.dst : Nat), _, true, by decide, PartR.one rfl rfl, PartR.one rfl rfl, EqR.int, rfl, (Bool.and_true _).symm⟩, rfl⟩, rfl⟩
  rwa [show (decide ((a.src : Int) = (b.src : Int)) && (((a.sym.lab == b.sym.lab) && decide ((a.sym.num : Int) = (b.sym.num : Int))) && decide ((a.dst : Int) = (b.dst : Int)))) = decide (a = b) by
    rw [Bool.eq_iff_iff]; simp only [Bool.and_eq_true, decide_eq_true_iff, beq_iff_eq]
    obtain ⟨p, ⟨l, n⟩, q⟩ := a
    obtain ⟨p2, ⟨l2, n2⟩, q2⟩ := b
    simp only [ArD.mk.injEq, SyD.mk.injEq]
    constructor
    · rintro ⟨h1, ⟨h2, h3⟩, h4⟩; exact ⟨by omega, ⟨h2, by omega⟩, by omega⟩
    · rintro ⟨h1, ⟨h2, h3⟩, h4⟩; exact ⟨by omega, ⟨h2, by omega⟩, by omega⟩] at h
abbrev ArsR (q : HP) (v : Value) (l : List ArD) : Prop := SlK q v l.length 4 (arsV l)
theorem ars_sl {q : HP} {v : Value} {l : List ArD} (hq : ArsR q v l) : ∃ a cap, v = .slice a l.length cap := let ⟨a, cap, h, _⟩ := hq; ⟨a, cap, h⟩
theorem row_arc {b : Nat} {ys : List ArD} {rst : List Value} {T : TypeId} {j : Nat} {y : ArD} (h : ys[j]? = some y) : ∀ i u, (arVs y)[i]? = some u → Rd (pt b (row (arsV ys ++ rst) T)) ⟨b, 0 + j * 4 + i, none⟩ u := fun i u hu =>
  Rd.row (by
    have hl := (List.getElem?_eq_some_iff.1 h).1
    have hi : i < 4 := (List.getElem?_eq_some_iff.1 hu).1
    rw [Nat.zero_add, List.getElem?_append_left (by rw [arsV_len]; omega)]
    unfold arsV
    rw [flatX_get (enc := arVs) (k := 4) (fun _ => rfl) h hi]
    exact hu)
theorem arsV_take (ys : List ArD) (i : Nat) : (arsV ys).take (i * 4) = arsV (ys.take i) := by
  by_cases h : i ≤ ys.length
  · have e : arsV ys = arsV (ys.take i) ++ arsV (ys.drop i) := by rw [← arsV_app, List.take_append_drop]
    rw [e, List.take_append_of_le_length (by rw [arsV_len, List.length_take]; omega), List.take_of_length_le (by rw [arsV_len, List.length_take]; omega)]
  · rw [List.take_of_length_le (by rw [arsV_len]; omega), List.take_of_length_le (by omega)]
theorem arsV_drop (ys : List ArD) (i : Nat) (h : i ≤ ys.length) : (arsV ys).drop (i * 4) = arsV (ys.drop i) := by
  have e : arsV ys = arsV (ys.take i) ++ arsV (ys.drop i) := by rw [← arsV_app, List.take_append_drop]
  rw [e, List.drop_append_of_le_length (by rw [arsV_len, List.length_take]; omega), List.drop_eq_nil_of_le (by rw [arsV_len, List.length_take]; omega), List.nil_append]
theorem row_arc_set {ys : List ArD} {rst : List Value} {i : Nat} {u : ArD} (h : i < ys.length) : (arsV ys ++ rst).take (0 + i * 4) ++ [i64 (u.src : Nat), .bool u.sym.lab, i64 (u.sym.num : Nat), i64 (u.dst : Nat)] ++ (arsV ys ++ rst).drop (0 + i * 4 + 4) = arsV (ys.set i u) ++ rst := by
  have hl := arsV_len ys
  rw [show 0 + i * 4 = i * 4 by omega, show i * 4 + 4 = (i + 1) * 4 by omega, List.take_append_of_le_length (by omega), List.drop_append_of_le_length (by omega), arsV_take, arsV_drop _ _ (by omega), List.set_eq_take_append_cons_drop, if_pos h, arsV_app]
  rw [show arsV (u :: ys.drop (i + 1)) = [i64 (u.src : Nat), .bool u.sym.lab, i64 (u.sym.num : Nat), i64 (u.dst : Nat)] ++ arsV (ys.drop (i + 1)) from rfl]
  simp
attribute [local irreducible] capN capM G GO GR GT Fn FnX FnV FnXV Dfr pt init exs pur sat own ImpS compL
set_option maxHeartbeats 8000000 in
theorem cloneA_spec (q : HP) (v : Value) (l : List ArD) (hq : ArsR q v l) (hl : ¬ 4294967296 < l.length) : Fn Tryz.prog 29 #[v] [q] (fun r Q => Q = [own 85 4 l.length r (arsV l), q]) := by
  have hsl := hq.sl
  obtain ⟨a, cap, rfl⟩ := ars_sl hq
  refine Fn.mk2 Tryz.func29 rfl rfl fun w0 F => ?_
  refine G.ownNil (T := 85) (sz := 4) ?_
  refine .seq (.region (.assign rfl rfl (.nil (kthen_n (.seq (.seq (.region (.move rfl rfl (.eqNilS rfl rfl (.nil (kthen_n ?_)))))))))))
  cases a with
  | none =>
    have hss : l = [] := by
      obtain ⟨a', cap', e, _, _, hr⟩ := hq
      injection e with e1 _ _
      subst e1
      cases l with
      | nil => rfl
      | cons s ss => obtain ⟨b, o, h, _⟩ := hr (by simp); cases h
    subst hss
    refine .condT rfl rfl (.seq (.region (.assign rfl rfl (.nil (kthen_n (.ret (kthen_r ?_)))))))
    refine KF2.r1 rfl (RV.t rfl) rfl (ImpS.sb ?_)
    exact .c .h (.c .h .r)
  | some a =>
    refine .condF rfl rfl (.skip (kthen_n (.seq (.region ?_))))
    refine GO.buildSlice0 rfl fun v5 => ?_
    refine .move rfl rfl ?_
    refine GO.appendFrom (m := l.length) (q := q) rfl rfl rfl Tk.h (Tk.t Tk.h) hsl (arsV_one _) ⟨by decide, rfl⟩ (by unfold maxLen; omega) (by omega) fun v7 => ?_
    rw [List.nil_append, Nat.zero_add l.length]
    refine .assign rfl rfl (.nil (kthen_n (.ret ?_)))
    refine KF2.r1 rfl (RV.t rfl) rfl (ImpS.sb ?_)
    exact .c .h (.c (.t .h) (.s .r))
set_option maxRecDepth 40000 in
set_option maxHeartbeats 32000000 in
theorem compactA_spec (v : Value) (l : List ArD) (hn : ¬ 4294967296 < l.length) : Fn Tryz.prog 56 #[v] [own 85 4 l.length v (arsV l)] (fun r Q => Q = [own 85 4 (compL l).length r (arsV (compL l))]) := by
  refine Fn.mk2 Tryz.func56 rfl rfl fun w0 F => ?_
  by_cases h2 : l.length < 2
  · have d0 : decide ((l.length : Int) < 2) = true := decide_eq_true (by omega)
    rw [compL_one (by omega)]
    (refine .seq (.region (.assign rfl rfl (.nil (kthen_n (.seq (.seq (.region (.move rfl rfl (.lenOwn rfl rfl .h (.lti rfl rfl rfl (.nil (kthen_n (.condT rfl (by assumption) (.seq (.region ?_))))))))))))))); refine .move rfl rfl (.assign rfl rfl (.nil (kthen_n (.ret (kthen_r ?_))))))
    refine KF2.r1 rfl (RV.t rfl) rfl (ImpS.sb ?_)
    exact .c .h .r
  have d0 : decide ((l.length : Int) < 2) = false := decide_eq_false (by omega)
  (refine .seq (.region (.assign rfl rfl (.nil (kthen_n (.seq (.seq (.region (.move rfl rfl (.lenOwn rfl rfl .h (.lti rfl rfl rfl (.nil (kthen_n (.condF rfl (by assumption) (.skip (kthen_n ?_))))))))))))))); refine .seq (.seq (.region (.assign rfl rfl (.nil (kthen_n (.block ?_)))))))
  refine G.own_open (F := F) Tk.h (fun _ h _ => ?_) (fun b cap rst hv g1 g2 g3 g4 => ?_)
  · exfalso; omega
  subst hv
  unfold maxLen at g3
  skip
  refine G.loopI (σ := Nat) (fun k => [(0, .slice (some ⟨b, 0, none⟩) l.length cap), (3, i64 ((k + 1 : Nat) : Int))]) (fun _ => pt b (row (arsV l ++ rst) 85) :: F) (fun k => k + 1 ≤ l.length ∧ compL (l.take (k + 1)) = l.take (k + 1)) (fun k => l.length - k) 0 ⟨by omega, compL_one (by rw [List.length_take]; omega)⟩ ?_ ?_ ?_
  · exact .c rfl rfl (.c rfl rfl .n)
  · refine ImpS.sb ?_
    exact .c .h .r
  rintro k ⟨hk, hU⟩
  refine .seq (.seq (.region (.move rfl rfl (.move rfl rfl (.lenS rfl rfl (.lti rfl rfl rfl (.nil (kthen_n ?_))))))))
  by_cases hlt : k + 1 < l.length
  · have d1 : decide (((k + 1 : Nat) : Int) < (l.length : Int)) = true := decide_eq_true (by omega)
    obtain ⟨x, hx⟩ : ∃ x, l[k]? = some x := ⟨_, List.getElem?_eq_getElem (by omega)⟩
    obtain ⟨y, hy⟩ : ∃ y, l[k + 1]? = some y := ⟨_, List.getElem?_eq_getElem hlt⟩
    have hst := compL_step hx hy
    have rx := row_arc (b := b) (rst := rst) (T := 85) hx
    have ry := row_arc (b := b) (rst := rst) (T := 85) hy
    refine .condT rfl (by assumption) (.skip (kthen_n (.seq (.block (.seq ?_)))))
    refine G.draw 10 (by kernel_rfl) ?_
    refine .step (fun _ => .move rfl rfl KQ.z) (.step (fun _ => .move rfl rfl KQ.z) (.step (fun _ => .idxS rfl rfl rfl ⟨rfl, by omega⟩ KQ.z) ?_))
    apply GQ.step; focus (intro Z; refine GO.loadM (vs := arVs y) rfl rfl rfl Tk.h rfl ry ?_; exact KQ.z)
    refine .step (fun _ => .move rfl rfl KQ.z) (.step (fun _ => .move rfl rfl KQ.z) (.step (fun _ => .subi rfl rfl rfl (by omega) KQ.z) ?_))
    apply GQ.step; focus (intro Z; refine GO.idxS (j := k) rfl rfl rfl ⟨by omega, by omega⟩ ?_; exact KQ.z)
    skip
    apply GQ.step; focus (intro Z; refine GO.loadM (vs := arVs x) rfl rfl rfl Tk.h rfl rx ?_; exact KQ.z)
    skip
    apply GQ.step; focus (intro Z; refine GO.eqlA (eqArc y x) rfl rfl rfl ?_; exact KQ.z)
    refine .nil ?_
    by_cases hxy : y = x
    · have d2 : decide (y = x) = true := decide_eq_true hxy
      rw [if_pos hxy, List.append_nil, hU] at hst
      refine .nil (kthen_n (.condT rfl (by assumption) (.seq (.region (.move rfl rfl (.move rfl rfl ?_))))))
      refine GO.sliceLo (l := k + 1) rfl rfl rfl ⟨rfl, by omega, by omega⟩ ?_
      refine .assign rfl rfl (.nil (kthen_n (.seq (.seq (.region (.assign rfl rfl (.nil (kthen_n (.block ?_)))))))))
      refine G.loopI (σ := Nat × Nat × List ArD) (fun z => [(0, .slice (some ⟨b, 0, none⟩) l.length cap), (3, i64 (z.1 : Nat)), (4, .slice (some ⟨b, 0 + (k + 1) * 4, none⟩) (l.length - (k + 1)) (cap - (k + 1))), (5, i64 ((z.2.1 + 1 : Nat) : Int))]) (fun z => pt b (row (arsV z.2.2 ++ rst) 85) :: F)
        (fun z => k + 1 + z.2.1 + 1 ≤ l.length ∧ z.2.2.length = l.length ∧ 1 ≤ z.1 ∧ z.1 ≤ k + 1 + z.2.1 ∧ z.2.2.drop (k + 1 + z.2.1) = l.drop (k + 1 + z.2.1) ∧ z.2.2.take z.1 = compL (l.take (k + 1 + z.2.1 + 1))) (fun z => l.length - z.2.1) (k + 1, 0, l) ⟨by dsimp only; omega, rfl, by dsimp only; omega, by dsimp only; omega, rfl, hst.symm⟩ ?_ ?_ ?_
      · exact .c rfl rfl (.c rfl rfl (.c rfl rfl (.c rfl rfl .n)))
      · refine ImpS.sb ?_
        exact .c .h .r
      clear hst rx ry hx hy hU
      rintro ⟨i, j, ys⟩ ⟨hj, hyl, hi1, hij, hdr, htk⟩
      dsimp only at hj hyl hi1 hij hdr htk ⊢
      refine .seq (.seq (.region (.move rfl rfl (.move rfl rfl (.lenS rfl rfl (.lti rfl rfl rfl (.nil (kthen_n ?_))))))))
      by_cases hlt3 : k + 1 + j + 1 < l.length
      · have d3 : decide (((j + 1 : Nat) : Int) < ((l.length - (k + 1) : Nat) : Int)) = true := decide_eq_true (by omega)
        obtain ⟨u, hu⟩ : ∃ u, l[k + 1 + j + 1]? = some u := ⟨_, List.getElem?_eq_getElem hlt3⟩
        obtain ⟨t, ht⟩ : ∃ t, l[k + 1 + j]? = some t := ⟨_, List.getElem?_eq_getElem (by omega)⟩
        have hst := compL_step ht hu
        have hat : ∀ m, k + 1 + j ≤ m → ys[m]? = l[m]? := fun m hm => by
          have := congrArg (fun l => l[m - (k + 1 + j)]?) hdr
          simp only [List.getElem?_drop] at this
          rwa [show k + 1 + j + (m - (k + 1 + j)) = m by omega] at this
        have hu' := hu
        have ht' := ht
        rw [← hat _ (by omega)] at hu' ht'
        have ru := row_arc (b := b) (rst := rst) (T := 85) hu'
        have rt := row_arc (b := b) (rst := rst) (T := 85) ht'
        rw [show 0 + (k + 1 + j + 1) * 4 = 0 + (k + 1) * 4 + (j + 1) * 4 by omega] at ru
        rw [show 0 + (k + 1 + j) * 4 = 0 + (k + 1) * 4 + j * 4 by omega] at rt
        have hdr1 : ys.drop (k + 1 + (j + 1)) = l.drop (k + 1 + (j + 1)) := by
          have := congrArg (fun l => l.drop 1) hdr
          simpa [List.drop_drop, Nat.add_assoc] using this
        refine .condT rfl (by assumption) (.skip (kthen_n (.seq (.block (.seq ?_)))))
        refine G.draw 10 (by kernel_rfl) ?_
        refine .step (fun _ => .move rfl rfl KQ.z) (.step (fun _ => .move rfl rfl KQ.z) (.step (fun _ => .idxS rfl rfl rfl ⟨rfl, by omega⟩ KQ.z) ?_))
        apply GQ.step; focus (intro Z; refine GO.loadM (vs := arVs u) rfl rfl rfl Tk.h rfl ru ?_; exact KQ.z)
        refine .step (fun _ => .move rfl rfl KQ.z) (.step (fun _ => .move rfl rfl KQ.z) (.step (fun _ => .subi rfl rfl rfl (by omega) KQ.z) ?_))
        apply GQ.step; focus (intro Z; refine GO.idxS (j := j) rfl rfl rfl ⟨by omega, by omega⟩ ?_; exact KQ.z)
        skip
        apply GQ.step; focus (intro Z; refine GO.loadM (vs := arVs t) rfl rfl rfl Tk.h rfl rt ?_; exact KQ.z)
        skip
        apply GQ.step; focus (intro Z; refine GO.neqA (eqArc u t) rfl rfl rfl ?_; exact KQ.z)
        refine .nil ?_
        by_cases hut : u = t
        · have d4 : (!decide (u = t)) = false := by rw [decide_eq_true hut]; rfl
          rw [d4]
          rw [if_pos hut, List.append_nil] at hst
          refine .nil (kthen_n (.condF rfl rfl (.skip (kblock_n (kthen_n (.region (.move rfl rfl (.addi rfl rfl rfl (by omega) (.assign rfl rfl (.nil (kthen_n ?_)))))))))))
          refine ⟨(i, j + 1, ys), ⟨by dsimp only; omega, hyl, hi1, by dsimp only; omega, hdr1, by dsimp only; rw [htk, ← hst]; rfl⟩, by dsimp only; omega, ?_, ImpS.sb ?_⟩
          · exact .c rfl rfl (.c rfl rfl (.c rfl rfl (.c rfl rfl .n)))
          · exact .c .h .r
        · have d4 : (!decide (u = t)) = true := by rw [decide_eq_false hut]; rfl
          rw [d4]
          rw [if_neg hut] at hst
          have hil : i < ys.length := by omega
          have hset := row_arc_set (rst := rst) (u := u) hil
          have hlen : (arsV ys).length = ys.length * 4 := arsV_len ys
          refine .nil (kthen_n (.condT rfl rfl (.seq (.region (.move rfl rfl (.move rfl rfl (.move rfl rfl (.move rfl rfl (.idxS rfl rfl rfl ⟨rfl, by omega⟩ ?_)))))))))
          refine GO.loadM (vs := [i64 (u.src : Nat), .bool u.sym.lab, i64 (u.sym.num : Nat), i64 (u.dst : Nat)]) rfl rfl rfl Tk.h rfl ru ?_
          refine .idxS rfl rfl rfl ⟨rfl, by omega⟩ ?_
          refine GO.storeG (l := arsV ys ++ rst) (vs := [i64 (u.src : Nat), .bool u.sym.lab, i64 (u.sym.num : Nat), i64 (u.dst : Nat)]) rfl rfl rfl rfl Tk.h (by rw [List.length_append]; simp only [List.length_cons, List.length_nil]; omega) (by simp [Value.oneCell', str]) ?_
          simp only [List.length_cons, List.length_nil, Nat.zero_add 1, Nat.reduceAdd]
          rw [hset]
          refine .nil (kthen_n (.region (.move rfl rfl (.addi rfl rfl rfl (by omega) (.assign rfl rfl (.nil (kblock_n (kthen_n (.region (.move rfl rfl (.addi rfl rfl rfl (by omega) (.assign rfl rfl (.nil (kthen_n ?_))))))))))))))
          refine ⟨(i + 1, j + 1, ys.set i u), ⟨by dsimp only; omega, by dsimp only; rw [List.length_set]; exact hyl, by dsimp only; omega, by dsimp only; omega, by dsimp only; rw [List.drop_set_of_lt (by omega)]; exact hdr1, ?_⟩, by dsimp only; omega, ?_, ImpS.sb ?_⟩
          · dsimp only
            rw [List.take_add_one, List.getElem?_set_self hil, List.take_set_of_le (Nat.le_refl _), htk]
            exact hst.symm
          · exact .c rfl rfl (.c rfl rfl (.c rfl rfl (.c rfl rfl .n)))
          · exact .c .h .r
      · have d3 : decide (((j + 1 : Nat) : Int) < ((l.length - (k + 1) : Nat) : Int)) = false := decide_eq_false (by omega)
        rw [List.take_of_length_le (show l.length ≤ k + 1 + j + 1 by omega)] at htk
        have hlen : (arsV ys).length = ys.length * 4 := arsV_len ys
        have hel : (arsV l).length = l.length * 4 := arsV_len l
        have htl : (ys.take i).length = i := by rw [List.length_take]; omega
        have hlen2 : (arsV (ys.take i)).length = (ys.take i).length * 4 := arsV_len _
        rw [List.length_append] at g4
        refine .condF rfl (by assumption) (.exit (kthen_x (kthen_x (kblock_x (kthen_n (.seq (.region (.move rfl rfl (.move rfl rfl ?_)))))))))
        refine GO.sliceLo (l := i) rfl rfl rfl ⟨rfl, by omega, by omega⟩ ?_
        refine GO.clear (l := arsV ys ++ rst) rfl Tk.h (by omega) (by rw [List.length_append]; simp only [List.length_cons, List.length_nil]; omega) (by simp [Value.oneCell']) fun vs hvs => ?_
        simp only [List.length_cons, List.length_nil] at hvs
        have e1 : (arsV ys ++ rst).take (0 + i * 4) = arsV (ys.take i) := by
          rw [Nat.zero_add, List.take_append_of_le_length (by omega), arsV_take]
        rw [e1, List.append_assoc]
        refine .nil (kthen_n (.seq (.region (.move rfl rfl (.move rfl rfl ?_)))))
        refine GO.sliceHi (l := i) rfl rfl rfl ⟨rfl, by omega⟩ ?_
        refine GO.ownShut (sz := 4) (n := i) (cap := cap) rfl (by rw [hlen2, htl]) (by omega) (by unfold maxLen; omega) (by rw [List.length_append, List.length_append, List.length_drop, List.length_append, hlen2, htl]; omega) ?_
        rw [htk] at htl ⊢
        rw [htl]
        refine .assign rfl rfl (.nil (kthen_n (.ret (kblock_r (kthen_r (kthen_r (kblock_r (kthen_r ?_))))))))
        refine KF2.r1 rfl (RV.t rfl) rfl (ImpS.sb ?_)
        exact .c .h .r
    · have d2 : decide (y = x) = false := decide_eq_false hxy
      rw [if_neg hxy, hU, ← take_snoc hy] at hst
      refine .nil (kthen_n (.condF rfl (by assumption) (.skip (kblock_n (kthen_n (.region (.move rfl rfl (.addi rfl rfl rfl (by omega) (.assign rfl rfl (.nil (kthen_n ?_)))))))))))
      refine ⟨k + 1, ⟨by omega, hst⟩, by omega, ?_, ImpS.sb ?_⟩
      · exact .c rfl rfl (.c rfl rfl .n)
      · exact .c .h .r
  · have d1 : decide (((k + 1 : Nat) : Int) < (l.length : Int)) = false := decide_eq_false (by omega)
    rw [List.take_of_length_le (by omega)] at hU
    rw [hU]
    refine .condF rfl (by assumption) (.exit (kthen_x (kthen_x (kblock_x (kthen_n (.seq (.region (.move rfl rfl (.assign rfl rfl (.nil (kthen_n (.ret ?_))))))))))))
    refine KF2.r1 rfl (RV.t rfl) rfl ?_
    refine ImpS.own (rest' := rst) rfl g1 g2 (by unfold maxLen; omega) g4 (ImpS.sb ?_)
    exact .c .h .r
end Go.Proofs.YtbconcohpfkncaaGreat
namespace Go.Proofs.YtbconcohpfkncaaGreat
open Go
abbrev leafF (ns ls : List (List UInt8)) : Nat → List UInt8 → SyD := fun k n => (symN ns ls ⟨k, n, 0⟩).1
abbrev symCell (b bt : Nat) : HP := pt b (row [ptrV bt] 61)
/-- All the bodies' parts put side by side. -/
def boxG (leaf : Nat → List UInt8 → SyD) (ts : List Tree) : PtD × GSt := gluK leaf 5 ts ⟨false, [], []⟩ ([], [])
def boxArcs (leaf : Nat → List UInt8 → SyD) (ts : List Tree) : List ArD := compL (sortB orderA ((boxG leaf ts).2.2 ++ joinA (boxG leaf ts).2.1 [0] (boxG leaf ts).1.first))
def boxFins (leaf : Nat → List UInt8 → SyD) (ts : List Tree) : List Nat := sortN ((boxG leaf ts).1.last ++ if (boxG leaf ts).1.emp = true then [0] else [])
def occT (ts : List Tree) : Nat := (ts.map fun t => occF (flat t)).sum
theorem occT_step {ts : List Tree} {i : Nat} {t : Tree} (h : ts[i]? = some t) : occT (ts.take (i + 1)) = occT (ts.take i) + occF (flat t) := by
  unfold occT; rw [take_snoc h, List.map_append, List.sum_append]; simp
theorem occT_le (ts : List Tree) (i : Nat) : occT (ts.take i) ≤ occT ts := by
  conv => rhs; rw [← List.take_append_drop i ts]
  unfold occT
  rw [List.map_append, List.sum_append]
  omega
attribute [local irreducible] capN capM G GO GR GT GW Fn FnX FnV FnXV Dfr pt init exs pur sat own ImpS natsV arsV sysV joinA gluT gluK flats nodesV numS posS symN occT tabL compL
set_option maxHeartbeats 8000000 in
theorem of1_spec (b2 bt mb : Nat) (vn vl : Value) (ns ls : List (List UInt8)) (m : NodeD) : FnV Tryz.prog (.func (.func 50) #[] #[ptrV b2]) [nodeA m] [symCell b2 bt, tabP bt mb vn vl, tabM mb ns ls] (fun r Q => r = syA (symN ns ls m).1 ∧ Q = [symCell b2 bt, tabP bt mb vn vl, tabM mb ns ls]) := by
  have hs := sym_spec bt mb vn vl ns ls m
  refine FnV.of (caps := [ptrV b2]) ?_
  refine Fn.mk2 Tryz.func50 rfl rfl fun w0 F => ?_
  (refine G.seq ?_; refine G.region ?_; refine GO.box rfl rfl rfl fun b2 => ?_; refine GO.alloc rfl fun b3 => ?_; refine GO.nil ?_; refine kthen_n ?_; refine G.seq ?_; refine G.region ?_; refine GO.load1 rfl rfl rfl (Tk.t (Tk.t Tk.h)) rfl ?_; refine GO.loadW rfl rfl rfl (Tk.t Tk.h) rfl ?_)
  refine GO.call2 rfl rfl rfl (hs) (Tks.c (Tk.t (Tk.t (Tk.t Tk.h))) (Tks.c (Tk.t (Tk.t (Tk.t Tk.h))) Tks.n)) ?_
  rintro _ _ ⟨rfl, rfl⟩
  (refine GO.move rfl rfl ?_; refine GO.extract rfl rfl rfl ?_; refine GO.extract rfl rfl rfl ?_; refine GO.alloc rfl fun b4 => ?_; refine GO.storeW rfl rfl Tk.h ⟨rfl, rfl⟩ (by simp [Value.oneCell']) ?_; refine GO.assign rfl rfl ?_; refine GO.nil ?_; refine kthen_n ?_; refine G.seq ?_; refine G.region ?_; refine GO.loadW rfl rfl rfl Tk.h rfl ?_; refine GO.storeW rfl rfl (Tk.t (Tk.t (Tk.t Tk.h))) ⟨rfl, rfl⟩ (by simp [Value.oneCell']) ?_; refine GO.nil ?_; refine kthen_n ?_; refine G.ret ?_)
  refine KF2.r1 rfl (RV.cW rfl rfl Tk.h rfl) ⟨rfl, rfl⟩ (ImpS.sb ?_)
  exact .c (.t (.t (.t (.t (.t .h))))) (.c (.t (.t .h)) (.c (.t (.t .h)) (.s (.s (.s .r)))))
end Go.Proofs.YtbconcohpfkncaaGreat
namespace Go.Proofs.YtbconcohpfkncaaGreat
open Go
/-- How the loop over the bodies stands. -/
structure OfS where
  i : Nat
  out : PtD
  st : GSt
  vs : Value
  va : Value
  vf : Value
  vl : Value
abbrev autoA (n : Nat) (vf va : Value) : Value := .agg #[i64 (n : Nat), vf, va]
abbrev autoP (b n : Nat) (vf va : Value) : HP := pt b (row [i64 (n : Nat), vf, va] 43)
theorem ImpS.openS {k H : List HP} : ImpS (star k :: H) (k ++ H) := fun l w s => by rw [List.append_assoc]; exact sat_flat.1 s
theorem nats_zero {q : HP} {v : Value} (h : Sl q v 1 1 [i64 0]) : NatsR q v [0] := h
attribute [local irreducible] capN capM G GO GR GT GW Fn FnX FnV FnXV Dfr pt init exs pur sat own ImpS natsV arsV sysV joinA gluT gluK flats nodesV numS posS symN occT tabL compL checkF occF
set_option maxRecDepth 40000 in
set_option maxHeartbeats 64000000 in
theorem of_spec (bt mb : Nat) (vn vl vv : Value) (ns ls : List (List UInt8)) (ts : List Tree) (vals : List Value) (z zz zb : HP) (hz : StrsR z vn ns) (hzz : Sl zz vv ts.length 1 vals) (hzb : BodsR zb vals (ts.map flat)) (hns : 0 < ns.length) (hnl : ¬ 1048576 < ns.length) (htl : ¬ 65536 < ts.length)
    (hok : ∀ t ∈ ts, okT t = true ∧ checkF (flat t) = 0 ∧ ¬ 2048 < (flat t).length ∧ ∀ m ∈ flat t, (symN ns ls m).2 ≠ 4) (hocc : ¬ 64 < occT ts) (hS : ¬ 1024 < (boxG (leafF ns ls) ts).2.1.length) (hA : ¬ 2147483648 < (boxG (leafF ns ls) ts).2.2.length) :
    Fn Tryz.prog 21 #[ptrV bt, vv] [tabP bt mb vn vl, tabM mb ns ls, z, zz, zb] (fun r Q => ∃ vf va, r = .tuple #[autoA ((boxG (leafF ns ls) ts).2.1.length + 1) vf va, i64 0] ∧ Q = [ownN vf (boxFins (leafF ns ls) ts), ownA va (boxArcs (leafF ns ls) ts), tabP bt mb vn vl, tabM mb ns ls, z, zz, zb]) := by
  have hrd : ∀ (i : Nat) (t : Tree), ts[i]? = some t → ∃ b o cap a c, vv = .slice (some ⟨b, o, none⟩) ts.length cap ∧ NodesR zb (.slice a (flat t).length c) (flat t) ∧ Rd zz ⟨b, o + i * 1, none⟩ (.slice a (flat t).length c) := fun i t h => by
    obtain ⟨w, h1, _, h3⟩ := hzb.2 i (flat t) (by rw [List.getElem?_map, h]; rfl)
    obtain ⟨a, cap, rfl, _, hr⟩ := hzz
    have hi := (List.getElem?_eq_some_iff.1 h).1
    obtain ⟨b, o, rfl, hr2⟩ := hr (by omega)
    have h4 := h3
    obtain ⟨aw, cw, rfl⟩ := nodes_sl h4
    exact ⟨b, o, cap, aw, cw, rfl, h3, by rw [Nat.mul_one]; exact hr2 _ _ h1⟩
  have hsym := fun m => sym_spec bt mb vn vl ns ls m
  have hcl := fun b2 m => of1_spec b2 bt mb vn vl ns ls m
  have hnm := tnames_spec bt mb vn vl ns z hz hnl
  obtain ⟨av, cv, rfl, _, _⟩ := hzz
  clear hzb
  unfold boxFins boxArcs
  refine Fn.mk2 Tryz.func21 rfl rfl fun w0 F => ?_
  have d0 : decide ((ns.length : Int) = 0) = false := decide_eq_false (by omega)
  refine .seq (.region (.box rfl rfl rfl fun b2 => .alloc rfl fun b4 => .assign rfl rfl (.nil (kthen_n (.seq (.seq (.region (.load1 rfl rfl rfl (.t .h) rfl (.eqNilP rfl rfl (.move rfl rfl (.gT rfl rfl rfl (.load1 rfl rfl rfl (.t .h) rfl (.gT rfl rfl rfl ?_)))))))))))))
  refine GO.call1 rfl rfl (hnm) (Tks.c (Tk.t (Tk.t Tk.h)) (Tks.c (Tk.t (Tk.t (Tk.t Tk.h))) Tks.n)) ?_
  rintro vnm _ rfl
  (refine .gT rfl rfl rfl (.lenOwn rfl rfl .h (.gT rfl rfl rfl (.eqi rfl rfl rfl (.pickF rfl rfl rfl (.nil (kthen_n (.condF rfl (by assumption) (.skip (kthen_n (.seq (.seq (.region (.move rfl rfl (.lenS rfl rfl (.move rfl rfl ?_))))))))))))))); refine .nil (kthen_n (.block ?_)))
  refine G.loopI (σ := Nat) (fun i => [(1, .slice av ts.length cv), (2, ptrV b2), (4, ptrV b4), (32, .slice av ts.length cv), (33, i64 (ts.length : Nat)), (34, i64 (i : Nat))]) (fun _ => symCell b2 bt :: pt b4 (row [i64 0, .slice none 0 0, .slice none 0 0] 43) :: tabP bt mb vn vl :: tabM mb ns ls :: z :: zz :: zb :: F) (fun i => i ≤ ts.length) (fun i => ts.length - i) 0 (Nat.zero_le _) ?_ ?_ ?_
  · exact .c rfl rfl (.c rfl rfl (.c rfl rfl (.c rfl rfl (.c rfl rfl (.c rfl rfl .n)))))
  · refine ImpS.sb ?_
    exact .c (.t (.t (.t (.t .h)))) (.c (.t (.t (.t .h))) (.c (.t .h) (.c (.t (.t .h)) (.c (.t .h) (.c (.t .h) (.c (.t .h) (.s .r)))))))
  · intro i hi
    (refine G.seq ?_; refine G.region ?_; refine GO.lti rfl rfl rfl ?_; refine GO.nil ?_; refine kthen_n ?_; refine G.seq ?_)
    by_cases hlt : i < ts.length
    · have d1 : decide ((i : Int) < (ts.length : Int)) = true := decide_eq_true (by omega)
      obtain ⟨t, ht⟩ : ∃ t, ts[i]? = some t := ⟨_, List.getElem?_eq_getElem hlt⟩
      obtain ⟨b, o, cap, at1, ct, e, hq, rt⟩ := hrd i t ht
      injection e with e _ e2
      subst e e2
      obtain ⟨_, hc0, hl0, _⟩ := hok t (List.mem_of_getElem? ht)
      have hck := check_spec zb _ (flat t) hq (by omega)
      rw [hc0] at hck
      refine .condT rfl (by assumption) (.skip (kthen_n (.seq (.block (.seq (.region (.idxS rfl rfl rfl ⟨rfl, by omega⟩ (.loadQ rfl rfl rfl (.t (.t (.t (.t (.t .h))))) (by assumption) (.assign rfl rfl (.nil (kthen_n (.seq (.region (.move rfl rfl ?_))))))))))))))
      refine GO.call1 rfl rfl (hck) (Tks.c (Tk.t (Tk.t (Tk.t (Tk.t (Tk.t (Tk.t Tk.h)))))) Tks.n) ?_
      rintro _ _ ⟨rfl, rfl⟩
      (refine .assign rfl rfl (.nil (kthen_n (.seq (.region (.move rfl rfl (.neF rfl rfl rfl rfl (.nil (kthen_n (.condF rfl rfl (.skip (kblock_n (kthen_n (.region (.addi rfl rfl rfl (by omega) (.move rfl rfl ?_))))))))))))))); refine .nil (kthen_n ?_))
      refine ⟨i + 1, hlt, by omega, ?_, ?_⟩
      · exact .c rfl rfl (.c rfl rfl (.c rfl rfl (.c rfl rfl (.c rfl rfl (.c rfl rfl .n)))))
      · refine ImpS.sb ?_
        exact .c (.t .h) (.c (.t .h) (.c (.t .h) (.c (.t .h) (.c (.t .h) (.c (.t .h) (.c .h .r))))))
    have d1 : decide ((i : Int) < (ts.length : Int)) = false := decide_eq_false (by omega)
    (refine .condF rfl (by assumption) (.exit (kthen_x (kthen_x (kblock_x (kthen_n (.seq (.region (.assign rfl rfl (.nil (kthen_n (.seq (.seq (.region (.move rfl rfl (.lenS rfl rfl ?_))))))))))))))); refine .move rfl rfl (.nil (kthen_n (.block ?_))))
    clear d1 hlt hi
    refine G.loopI (σ := Nat) (fun i => [(1, .slice av ts.length cv), (2, ptrV b2), (4, ptrV b4), (9, i64 (occT (ts.take i) : Nat)), (45, .slice av ts.length cv), (46, i64 (ts.length : Nat)), (47, i64 (i : Nat))]) (fun _ => symCell b2 bt :: pt b4 (row [i64 0, .slice none 0 0, .slice none 0 0] 43) :: tabP bt mb vn vl :: tabM mb ns ls :: z :: zz :: zb :: F) (fun i => i ≤ ts.length) (fun i => ts.length - i) 0 (Nat.zero_le _) ?_ ?_ ?_
    · rw [List.take_zero, show occT [] = 0 by unfold occT; rfl]
      exact .c rfl rfl (.c rfl rfl (.c rfl rfl (.c rfl rfl (.c rfl rfl (.c rfl rfl (.c rfl rfl .n))))))
    · refine ImpS.sb ?_
      exact .c .h (.c .h (.c .h (.c .h (.c .h (.c .h (.c .h .r))))))
    intro i hi
    (refine G.seq ?_; refine G.region ?_; refine GO.lti rfl rfl rfl ?_; refine GO.nil ?_; refine kthen_n ?_; refine G.seq ?_)
    by_cases hlt : i < ts.length
    · have d1 : decide ((i : Int) < (ts.length : Int)) = true := decide_eq_true (by omega)
      obtain ⟨t, ht⟩ : ∃ t, ts[i]? = some t := ⟨_, List.getElem?_eq_getElem hlt⟩
      obtain ⟨b, o, cap, at1, ct, e, hq, rt⟩ := hrd i t ht
      injection e with e _ e2
      subst e e2
      obtain ⟨_, _, hl0, hn4⟩ := hok t (List.mem_of_getElem? ht)
      have hoc := Occ_spec zb _ (flat t) hq (by omega)
      have hst := occT_step ht
      have hle := occT_le ts (i + 1)
      have hrn : ∀ (j : Nat) (m : NodeD), (flat t)[j]? = some m → _ := fun j m h => nodes_rd hq h
      generalize flat t = bd at *
      (refine .condT rfl (by assumption) (.skip (kthen_n (.seq (.block (.seq (.region (.idxS rfl rfl rfl ⟨rfl, by omega⟩ (.loadQ rfl rfl rfl (.t (.t (.t (.t (.t .h))))) (by assumption) (.assign rfl rfl (.nil (kthen_n (.seq (.seq (.region (.move rfl rfl ?_))))))))))))))); refine .lenS rfl rfl (.move rfl rfl (.nil (kthen_n (.block ?_)))))
      refine G.loopI (σ := Nat) (fun j => [(1, .slice (some ⟨b, o, none⟩) ts.length cv), (2, ptrV b2), (4, ptrV b4), (9, i64 (occT (ts.take i) : Nat)), (11, .slice at1 bd.length ct), (45, .slice (some ⟨b, o, none⟩) ts.length cv), (46, i64 (ts.length : Nat)), (47, i64 (i : Nat)), (51, .slice at1 bd.length ct), (52, i64 (bd.length : Nat)), (53, i64 (j : Nat))]) (fun _ => symCell b2 bt :: pt b4 (row [i64 0, .slice none 0 0, .slice none 0 0] 43) :: tabP bt mb vn vl :: tabM mb ns ls :: z :: zz :: zb :: F) (fun j => j ≤ bd.length) (fun j => bd.length - j) 0 (Nat.zero_le _) ?_ ?_ ?_
      · exact .c rfl rfl (.c rfl rfl (.c rfl rfl (.c rfl rfl (.c rfl rfl (.c rfl rfl (.c rfl rfl (.c rfl rfl (.c rfl rfl (.c rfl rfl (.c rfl rfl .n))))))))))
      · refine ImpS.sb ?_
        exact .c .h (.c .h (.c .h (.c .h (.c .h (.c .h (.c .h .r))))))
      intro j hj
      clear d1
      (refine G.seq ?_; refine G.region ?_; refine GO.lti rfl rfl rfl ?_; refine GO.nil ?_; refine kthen_n ?_; refine G.seq ?_)
      by_cases hlt2 : j < bd.length
      · have d1 : decide ((j : Int) < (bd.length : Int)) = true := decide_eq_true (by omega)
        obtain ⟨m, hm⟩ : ∃ m, bd[j]? = some m := ⟨_, List.getElem?_eq_getElem hlt2⟩
        obtain ⟨bm, om, cap3, e, _, rm⟩ := hrn j m hm
        injection e with e _ e2
        subst e e2
        have hm4 := hn4 m (List.mem_of_getElem? hm)
        have d4 : decide (((symN ns ls m).2 : Int) = 4) = false := decide_eq_false (by omega)
        (refine G.condT rfl (by assumption) ?_; refine G.skip ?_; refine kthen_n ?_; refine G.seq ?_; refine G.block ?_; refine G.seq ?_; refine G.region ?_; refine GO.idxS rfl rfl rfl ⟨rfl, by omega⟩ ?_)
        refine GO.loadM (vs := [i64 (m.kind : Nat), str m.name, i64 (m.kids : Nat)]) rfl rfl rfl (Tk.t (Tk.t (Tk.t (Tk.t (Tk.t (Tk.t Tk.h)))))) rfl rm ?_
        (refine GO.alloc rfl fun b13 => ?_; refine GO.storeW rfl rfl Tk.h ⟨rfl, rfl⟩ (by simp [Value.oneCell']) ?_; refine GO.nil ?_; refine kthen_n ?_; refine G.seq ?_; refine G.region ?_; refine GO.load1 rfl rfl rfl (Tk.t Tk.h) rfl ?_; refine GO.loadW rfl rfl rfl Tk.h rfl ?_)
        refine GO.call2 rfl rfl rfl (hsym m) (Tks.c (Tk.t (Tk.t (Tk.t Tk.h))) (Tks.c (Tk.t (Tk.t (Tk.t Tk.h))) Tks.n)) ?_
        rintro _ _ ⟨rfl, rfl⟩
        (refine GO.move rfl rfl (GO.extract rfl rfl rfl (GO.extract rfl rfl rfl (GO.alloc rfl fun b14 => ?_))); refine GO.storeW rfl rfl Tk.h ⟨rfl, rfl⟩ (by simp [Value.oneCell']) ?_; refine GO.assign rfl rfl (GO.nil (kthen_n (G.seq (G.region (GO.move rfl rfl (GO.eqi rfl rfl rfl (GO.nil (kthen_n ?_)))))))); refine G.condF rfl (by assumption) ?_; refine G.skip (kblock_n (kthen_n (G.region ?_))); refine GO.addi rfl rfl rfl (by omega) ?_; refine GO.move rfl rfl (GO.nil (kthen_n ?_)))
        refine ⟨j + 1, hlt2, by omega, ?_, ?_⟩
        · exact .c rfl rfl (.c rfl rfl (.c rfl rfl (.c rfl rfl (.c rfl rfl (.c rfl rfl (.c rfl rfl (.c rfl rfl (.c rfl rfl (.c rfl rfl (.c rfl rfl .n))))))))))
        · refine ImpS.sb ?_
          exact .c (.t (.t (.t (.t .h)))) (.c (.t (.t (.t (.t .h)))) (.c (.t .h) (.c (.t .h) (.c (.t (.t .h)) (.c (.t (.t .h)) (.c (.t (.t .h)) (.s (.s .r))))))))
      have d1 : decide ((j : Int) < (bd.length : Int)) = false := decide_eq_false (by omega)
      refine .condF rfl (by assumption) (.exit (kthen_x (kthen_x (kblock_x (kthen_n (.region (.move rfl rfl (.move rfl rfl ?_))))))))
      refine GO.call1 rfl rfl (hoc) (Tks.c (Tk.t (Tk.t (Tk.t (Tk.t (Tk.t (Tk.t Tk.h)))))) Tks.n) ?_
      rintro _ _ ⟨rfl, rfl⟩
      refine .addi rfl rfl rfl (by omega) (.assign rfl rfl (.nil (kblock_n (kthen_n (.region (.addi rfl rfl rfl (by omega) (.move rfl rfl (.nil (kthen_n ?_)))))))))
      refine ⟨i + 1, hlt, by omega, ?_, ?_⟩
      · rw [hst]
        exact .c rfl rfl (.c rfl rfl (.c rfl rfl (.c rfl rfl (.c rfl rfl (.c rfl rfl (.c rfl rfl .n))))))
      · refine ImpS.sb ?_
        exact .c (.t .h) (.c (.t .h) (.c (.t .h) (.c (.t .h) (.c (.t .h) (.c (.t .h) (.c .h .r))))))
    have d1 : decide ((i : Int) < (ts.length : Int)) = false := decide_eq_false (by omega)
    rw [List.take_of_length_le (by omega)]
    have d9 : decide ((64 : Int) < (occT ts : Int)) = false := decide_eq_false (by omega)
    (refine G.condF rfl (by assumption) ?_; refine G.exit (kthen_x (kthen_x (kblock_x (kthen_n (G.seq (G.seq (G.region (GO.move rfl rfl (GO.gti rfl rfl rfl (GO.nil (kthen_n ?_))))))))))); refine G.condF rfl (by assumption) ?_; refine G.skip (kthen_n (G.seq (G.region (GO.build0 rfl (GO.box rfl rfl rfl fun b77 => GO.assign rfl rfl (GO.nil (kthen_n (G.seq (G.region (GO.build0 rfl (GO.alloc rfl fun b17 => ?_))))))))))); refine GO.storeW rfl rfl Tk.h ⟨rfl, rfl⟩ (by simp [Value.oneCell']) ?_; refine GO.nil (kthen_n (G.seq (G.seq (G.region (GO.move rfl rfl (GO.lenS rfl rfl (GO.move rfl rfl (GO.nil (kthen_n (G.block ?_)))))))))))
    refine G.ownNil (T := 3) (sz := 1) ?_
    refine G.ownNil (T := 3) (sz := 1) ?_
    refine G.ownNil (T := 72) (sz := 2) ?_
    refine G.ownNil (T := 85) (sz := 4) ?_
    generalize hfin0 : boxG (leafF ns ls) ts = fin at *
    unfold boxG at hfin0
    refine G.loopI (σ := OfS) (fun x => [(1, .slice av ts.length cv), (2, ptrV b2), (4, ptrV b4), (16, ptrV b77), (17, ptrV b17), (79, .slice av ts.length cv), (80, i64 (ts.length : Nat)), (81, i64 (x.i : Nat))]) (fun x => star [symCell b2 bt, tabP bt mb vn vl, tabM mb ns ls] :: pt b17 (row [.bool x.out.emp, x.vf, x.vl] 121) :: ownN x.vf x.out.first :: ownN x.vl x.out.last :: mkP b77 x.vs x.va :: ownS x.vs x.st.1 :: ownA x.va x.st.2 :: pt b4 (row [i64 0, .slice none 0 0, .slice none 0 0] 43) :: z :: zz :: zb :: F)
      (fun x => x.i ≤ ts.length ∧ gluK (leafF ns ls) 5 (ts.drop x.i) x.out x.st = fin ∧ PtB 0 x.st.1.length x.out) (fun x => ts.length - x.i) ⟨0, ⟨false, [], []⟩, ([], []), .slice none 0 0, .slice none 0 0, .slice none 0 0, .slice none 0 0⟩ ⟨Nat.zero_le _, hfin0, PtB.nil⟩ ?_ ?_ ?_
    · exact .c rfl rfl (.c rfl rfl (.c rfl rfl (.c rfl rfl (.c rfl rfl (.c rfl rfl (.c rfl rfl (.c rfl rfl .n)))))))
    · dsimp only
      rw [show ∀ v, ownN v [] = own 3 1 0 v [] from fun v => by unfold ownN natsV; rfl, show ∀ v, ownS v [] = own 72 2 0 v [] from fun v => by unfold ownS sysV; rfl, show ∀ v, ownA v [] = own 85 4 0 v [] from fun v => by unfold ownA arsV; rfl]
      refine ImpS.flat (ImpS.sb ?_)
      ((refine Sb.c (Tk.t (Tk.t (Tk.t (Tk.t (Tk.t (Tk.t Tk.h)))))) ?_; refine Sb.c (Tk.t (Tk.t (Tk.t (Tk.t (Tk.t (Tk.t (Tk.t Tk.h))))))) ?_; refine Sb.c (Tk.t (Tk.t (Tk.t (Tk.t (Tk.t (Tk.t (Tk.t Tk.h))))))) ?_; refine Sb.c (Tk.t (Tk.t (Tk.t (Tk.t Tk.h)))) ?_; refine Sb.c (Tk.t (Tk.t Tk.h)) ?_; refine Sb.c (Tk.t (Tk.t Tk.h)) ?_; refine Sb.c (Tk.t (Tk.t Tk.h)) ?_; refine Sb.c (Tk.t Tk.h) ?_; refine Sb.c Tk.h ?_; refine Sb.c Tk.h ?_; refine Sb.c Tk.h ?_; refine Sb.c Tk.h ?_; refine Sb.c Tk.h ?_); (exact Sb.r))
    clear hi hlt d1
    clear hfin0
    rintro ⟨i, out, st, vs, va, uf, ul⟩ ⟨hi, hfin, hB⟩
    dsimp only at hi hfin hB ⊢
    generalize hg : star [symCell b2 bt, tabP bt mb vn vl, tabM mb ns ls] = g
    (refine G.seq ?_; refine G.region ?_; refine GO.lti rfl rfl rfl ?_; refine GO.nil ?_; refine kthen_n ?_; refine G.seq ?_)
    by_cases hlt : i < ts.length
    · have d1 : decide ((i : Int) < (ts.length : Int)) = true := decide_eq_true (by omega)
      obtain ⟨t, ht⟩ : ∃ t, ts[i]? = some t := ⟨_, List.getElem?_eq_getElem hlt⟩
      obtain ⟨b, o, cap, at1, ct, e, hq, rt⟩ := hrd i t ht
      injection e with e _ e2
      subst e e2
      obtain ⟨hok1, _, hl0, _⟩ := hok t (List.mem_of_getElem? ht)
      have htree := tree_spec (leafF ns ls) (.func (.func 50) #[] #[ptrV b2]) g (fun m hm => by
        have := FnV.one (R := fun r => r = syA (symN ns ls m).1) (hcl b2 m)
        rw [hg] at this
        rwa [show (symN ns ls m).1 = leafF ns ls m.kind m.name by unfold leafF symN; rfl] at this) b77 zb (flat t).length t [] (.slice at1 (flat t).length ct) vs va st hok1 (Nat.le_refl _) (by rw [List.append_nil]; exact hq) (by rw [List.append_nil]; omega)
      have hB1 := gluT_B (leafF ns ls) t st
      rw [drop_at ht, gluK, if_neg (by decide)] at hfin
      generalize hkid1 : gluT (leafF ns ls) t st = kid at *
      obtain ⟨kp, S2, A2⟩ := kid
      dsimp only at htree hB1 hfin
      obtain ⟨_, g1, g2⟩ := gluK_B (leafF ns ls) 5 (ts.drop (i + 1)) (altP out kp) (S2, A2) 0 (hB.alt hB1.1)
      rw [hfin] at g1 g2
      dsimp only at g1 g2
      have htree := htree (by omega) (by omega)
      have hb0 := hB.nf; have hb1 := hB.nl; have hb2 := hB1.1.nf; have hb3 := hB1.1.nl; have hb4 := hB1.1.le
      (refine G.condT rfl (by assumption) ?_; refine G.skip ?_; refine kthen_n ?_; refine G.seq ?_; refine G.block ?_; refine G.seq ?_; refine G.region ?_; refine GO.idxS rfl rfl rfl ⟨rfl, by omega⟩ ?_; refine GO.loadQ rfl rfl rfl (Tk.t (Tk.t (Tk.t (Tk.t (Tk.t (Tk.t (Tk.t (Tk.t (Tk.t Tk.h))))))))) (by assumption) ?_; refine GO.assign rfl rfl ?_; refine GO.nil ?_; refine kthen_n ?_; refine G.seq ?_; refine G.region ?_; refine GO.move rfl rfl ?_; refine GO.move rfl rfl ?_; refine GO.makeFunc1 rfl rfl ?_)
      refine GO.call3 rfl rfl rfl rfl (htree) (Tks.c (Tk.t (Tk.t (Tk.t (Tk.t Tk.h)))) (Tks.c (Tk.t (Tk.t (Tk.t (Tk.t Tk.h)))) (Tks.c (Tk.t (Tk.t (Tk.t (Tk.t Tk.h)))) (Tks.c (Tk.t (Tk.t (Tk.t (Tk.t (Tk.t (Tk.t (Tk.t Tk.h))))))) (Tks.c Tk.h Tks.n))))) ?_
      rintro _ _ ⟨vs2, va2, kvf, kvl, w2, z2, hkf, hkl, _, rfl, rfl⟩
      dsimp only at hkf hkl ⊢
      refine GO.ownRd (v := uf) (Tk.t (Tk.t (Tk.t (Tk.t (Tk.t (Tk.t (Tk.t Tk.h))))))) fun qa hqa => ?_
      refine GO.ownRd (v := ul) (Tk.t (Tk.t (Tk.t (Tk.t (Tk.t (Tk.t (Tk.t (Tk.t Tk.h)))))))) fun qb hqb => ?_
      have hqa' : NatsR qa uf out.first := hqa
      have hqb' : NatsR qb ul out.last := hqb
      refine GO.merge (x := qa) (y := qb) (Tks.c (Tk.t Tk.h) (Tks.c Tk.h Tks.n)) ?_
      have hqa' := hqa'.sup (Sup.left qa qb)
      have hqb' := hqb'.sup (Sup.right qa qb)
      generalize star [qa, qb] = q3 at *
      refine GO.merge (x := q3) (y := z2) (Tks.c Tk.h (Tks.c (Tk.t (Tk.t (Tk.t Tk.h))) Tks.n)) ?_
      have hqa' := hqa'.sup (Sup.left q3 z2)
      have hqb' := hqb'.sup (Sup.left q3 z2)
      have hkf := hkf.sup (Sup.right q3 z2)
      have hkl := hkl.sup (Sup.right q3 z2)
      generalize star [q3, z2] = z3 at *
      clear hqa hqb
      have halt := alt_spec uf ul kvf kvl out kp z3 hqa' hqb' hkf hkl (by omega) (by omega) (by omega) (by omega)
      obtain ⟨xa, ca, rfl⟩ := nats_sl hqa'
      obtain ⟨xb, cb, rfl⟩ := nats_sl hqb'
      obtain ⟨ya, da, rfl⟩ := nats_sl hkf
      obtain ⟨yb, db, rfl⟩ := nats_sl hkl
      (refine GO.move rfl rfl ?_; refine GO.extract rfl rfl rfl ?_; refine GO.extract rfl rfl rfl ?_; refine GO.alloc rfl fun b20 => ?_; refine GO.storeW rfl rfl Tk.h ⟨rfl, rfl⟩ (by simp [Value.oneCell']) ?_; refine GO.assign rfl rfl ?_; refine GO.nil ?_; refine kthen_n ?_; refine G.region ?_; refine GO.loadW rfl rfl rfl (Tk.t (Tk.t (Tk.t (Tk.t (Tk.t (Tk.t (Tk.t Tk.h))))))) rfl ?_; refine GO.loadW rfl rfl rfl Tk.h rfl ?_)
      refine GO.call2 rfl rfl rfl (halt) (Tks.c (Tk.t Tk.h) Tks.n) ?_
      rintro _ _ ⟨uf3, ul3, rfl, rfl⟩
      refine GO.ownOne (v := uf3) Tk.h fun h1 => ?_
      refine GO.ownOne (v := ul3) (Tk.t Tk.h) fun h2 => ?_
      refine GO.storeW rfl rfl (Tk.t (Tk.t (Tk.t (Tk.t (Tk.t (Tk.t (Tk.t (Tk.t (Tk.t Tk.h))))))))) ⟨rfl, rfl⟩ (by simp [Value.oneCell']; exact ⟨h1, h2⟩) ?_
      refine .nil (kblock_n (kthen_n (.region (.addi rfl rfl rfl (by omega) (.move rfl rfl (.nil (kthen_n ?_)))))))
      refine ⟨⟨i + 1, altP out kp, (S2, A2), vs2, va2, uf3, ul3⟩, ⟨hlt, hfin, hB.alt hB1.1⟩, by dsimp only; omega, ?_, ?_⟩
      · exact .c rfl rfl (.c rfl rfl (.c rfl rfl (.c rfl rfl (.c rfl rfl (.c rfl rfl (.c rfl rfl (.c rfl rfl .n)))))))
      · refine ImpS.sb ?_
        exact .c (.t (.t (.t (.t (.t (.t (.t (.t (.t .h))))))))) (.c .h (.c .h (.c .h (.c (.t (.t .h)) (.c (.t (.t .h)) (.c (.t (.t .h)) (.c (.t (.t (.t .h))) (.c (.t (.t (.t .h))) (.c (.t (.t (.t .h))) (.c (.t (.t .h)) (.s (.s .r))))))))))))
    · have d1 : decide ((i : Int) < (ts.length : Int)) = false := decide_eq_false (by omega)
      rw [List.drop_eq_nil_of_le (by omega), gluK] at hfin
      subst hfin
      obtain ⟨oe, of, ol⟩ := out
      obtain ⟨S1, A1⟩ := st
      have hb0 := hB.nf; have hb1 := hB.nl
      have hb2 := hB.fst
      dsimp only at hS hA hb0 hb1 hb2 ⊢
      have hlen : ¬ 4294967296 < (A1 ++ joinA S1 [0] of).length := by rw [List.length_append, joinA_len, List.length_cons, List.length_nil]; omega
      refine .condF rfl (by assumption) (.exit (kthen_x (kthen_x (kblock_x (kthen_n (.seq (.region (.move rfl rfl ?_))))))))
      refine GO.buildSlice1 (n := 1) rfl rfl (fun v hv => by rw [List.mem_singleton.1 hv]; rfl) rfl ⟨by decide, by decide⟩ fun bs3 => ?_
      refine GO.ownIn (n := 1) (sz := 1) Tk.h rfl (by decide) ?_
      refine GO.ownRd (n := 1) (sz := 1) Tk.h fun qa hqa => ?_
      have hqa := nats_zero hqa
      refine GO.ownRd (v := uf) (Tk.t (Tk.t (Tk.t Tk.h))) fun qb hqb => ?_
      have hqb' : NatsR qb uf of := hqb
      refine GO.merge (x := qa) (y := qb) (Tks.c (Tk.t Tk.h) (Tks.c Tk.h Tks.n)) ?_
      have hqa := hqa.sup (Sup.left qa qb)
      have hqb' := hqb'.sup (Sup.right qa qb)
      generalize star [qa, qb] = q3 at *
      clear hqb
      refine GO.ownSl (v := vs) (Tk.t (Tk.t (Tk.t (Tk.t (Tk.t Tk.h))))) fun hsl => ?_
      have hjn := mjoin_spec b77 vs va _ uf S1 A1 [0] of (ownS vs S1) q3 hsl hqa hqb' hb2 (by omega) (by show ¬ 1048576 < 1; decide) (by omega) (by rw [List.length_cons, List.length_nil]; omega)
      obtain ⟨xs, cs, rfl, _, _⟩ := hsl
      refine .fieldAddr rfl rfl (.load1 rfl rfl rfl (.t (.t .h)) rfl ?_)
      refine GO.call3 rfl rfl rfl rfl (hjn) (Tks.c (Tk.t (Tk.t (Tk.t (Tk.t Tk.h)))) (Tks.c (Tk.t (Tk.t (Tk.t (Tk.t Tk.h)))) (Tks.c (Tk.t (Tk.t (Tk.t (Tk.t Tk.h)))) (Tks.c Tk.h Tks.n)))) ?_
      rintro _ _ ⟨va9, rfl⟩
      refine .nil (kthen_n (.seq (.region (.move rfl rfl (.nilCheck rfl rfl (.fieldAddr rfl rfl (.load1 rfl rfl rfl .h rfl ?_)))))))
      refine GO.call2 rfl rfl rfl (sortFA_spec va9 (A1 ++ joinA S1 [0] of) hlen) (Tks.c (Tk.t (Tk.t Tk.h)) Tks.n) ?_
      rintro _ _ ⟨rfl, rfl⟩
      rw [show (A1 ++ joinA S1 [0] of).length = (sortB orderA (A1 ++ joinA S1 [0] of)).length from (List.length_mergeSort _).symm]
      refine .nil (kthen_n (.seq (.region (.fieldAddr rfl rfl (.load1 rfl rfl rfl (.t (.t (.t (.t (.t .h))))) rfl (.assign rfl rfl (.nil (kthen_n (.seq (.seq (.region (.fieldAddr rfl rfl (.load1 rfl rfl rfl (.t (.t (.t (.t (.t .h))))) rfl (.nil (kthen_n ?_)))))))))))))))
      cases oe
      · refine .condF rfl rfl (.skip (kthen_n (.seq (.region (.move rfl rfl ?_)))))
        rw [if_neg (by decide), List.append_nil]
        have hls := sortN_spec ul ol (by omega)
        skip
        refine GO.call1 rfl rfl (hls) (Tks.c (Tk.t (Tk.t (Tk.t (Tk.t (Tk.t (Tk.t Tk.h)))))) Tks.n) ?_
        rintro _ _ ⟨rfl, rfl⟩
        refine GO.ownShp (v := ul) Tk.h fun x6 c6 e6 => ?_
        subst e6
        refine .nil (kthen_n (.seq ?_))
        refine G.drawT 13 6144 [mkP b77 (.slice xs S1.length cs) va9, ownS (.slice xs S1.length cs) S1] (own 85 4 (sortB orderA (A1 ++ joinA S1 [0] of)).length va9 (arsV (sortB orderA (A1 ++ joinA S1 [0] of))) :: ownN (.slice x6 (sortN ol).length c6) (sortN ol) :: g :: pt b4 (row [i64 0, .slice none 0 0, .slice none 0 0] 43) :: z :: zz :: zb :: F) (by kernel_rfl) (keys_of rfl) (ImpS.sb (.c (.t (.t .h)) (.c (.t (.t .h)) (.c (.t .h) (.c .h (.c (.t .h) (.c (.t (.t .h)) (.c (.t (.t .h)) (.c (.t (.t .h)) (.c (.t (.t .h)) (.s (.s .r)))))))))))) ?_
        refine .step rfl (fun _ => .move rfl rfl KQ.z) (.step rfl (fun _ => .nilCheck rfl rfl KQ.z) (.step rfl (fun _ => .fieldAddr rfl rfl KQ.z) (.step rfl (fun _ => .load1 rfl rfl rfl .h rfl KQ.z) (.step rfl (fun _ => .lenS rfl rfl KQ.z) (.step rfl (fun _ => .addi rfl rfl rfl (by omega) KQ.z) (.step rfl (fun _ => .move rfl rfl KQ.z) (.step rfl (fun _ => .move rfl rfl KQ.z) (.step rfl (fun _ => .nilCheck rfl rfl KQ.z) (.step rfl (fun _ => .fieldAddr rfl rfl KQ.z) (.step rfl (fun _ => .load1 rfl rfl rfl .h rfl KQ.z) (.skip rfl (.skip rfl (.nil ?_)))))))))))))
        repeat refine GT.skip rfl ?_
        refine GT.step rfl ?_
        refine GO.call1 rfl rfl (compactA_spec va9 (sortB orderA (A1 ++ joinA S1 [0] of)) (by rw [List.length_mergeSort]; exact hlen)) (Tks.c (Tk.t (Tk.t Tk.h)) Tks.n) ?_
        rintro v5 _ rfl
        refine GO.ownShp Tk.h fun x5 c5 e5 => ?_
        subst e5
        refine GO.nil ⟨rfl, _, own 85 4 (compL (sortB orderA (A1 ++ joinA S1 [0] of))).length (.slice x5 (compL (sortB orderA (A1 ++ joinA S1 [0] of))).length c5) (arsV (compL (sortB orderA (A1 ++ joinA S1 [0] of)))) :: ownN (.slice x6 (sortN ol).length c6) (sortN ol) :: g :: pt b4 (row [i64 0, .slice none 0 0, .slice none 0 0] 43) :: z :: zz :: zb :: F, rfl, ImpS.sb (.c (.t .h) (.c (.t .h) (.c .h (.c .h (.c .h (.c .h (.c .h (.c .h (.c .h .r))))))))), ?_⟩
        repeat refine GT.skip rfl ?_
        refine GT.step rfl ?_
        refine GO.build3 rfl rfl rfl rfl rfl ?_
        refine GO.nil ⟨rfl, _, _, rfl, ImpS.refl, ?_⟩
        repeat refine GT.skip rfl ?_
        refine GT.nil ?_
        subst hg
        refine GO.storeW (vs := [.int .i64 ((S1.length : Int) + 1), .slice x6 (sortN ol).length c6, .slice x5 (compL (sortB orderA (A1 ++ joinA S1 [0] of))).length c5]) rfl rfl (Tk.t (Tk.t (Tk.t (Tk.t (Tk.t Tk.h))))) ⟨rfl, rfl⟩ (by simp [Value.oneCell']) ?_
        refine .assign rfl rfl (.nil (kthen_n (.ret ?_)))
        refine KF2.r2 rfl (RV.cW rfl rfl Tk.h rfl) (RV.t rfl) ⟨.slice x6 (sortN ol).length c6, .slice x5 (compL (sortB orderA (A1 ++ joinA S1 [0] of))).length c5, rfl, rfl⟩ (ImpS.trans (ImpS.sb (M := star [symCell b2 bt, tabP bt mb vn vl, tabM mb ns ls] :: ownN (.slice x6 (sortN ol).length c6) (sortN ol) :: own 85 4 (compL (sortB orderA (A1 ++ joinA S1 [0] of))).length (.slice x5 (compL (sortB orderA (A1 ++ joinA S1 [0] of))).length c5) (arsV (compL (sortB orderA (A1 ++ joinA S1 [0] of)))) :: z :: zz :: zb :: F) (.c (.t (.t (.t (.t (.t .h))))) (.c (.t (.t (.t (.t .h)))) (.c (.t (.t (.t .h))) (.c (.t (.t (.t .h))) (.c (.t (.t (.t .h))) (.c (.t (.t (.t .h))) (.s (.s (.s .r)))))))))) (ImpS.trans ImpS.openS (ImpS.sb (.c (.t (.t (.t .h))) (.c (.t (.t (.t .h))) (.c (.t .h) (.c (.t .h) (.c (.t .h) (.c (.t .h) (.c (.t .h) (.s .r)))))))))))
      · refine .condT rfl rfl (.region (.move rfl rfl ?_))
        refine GO.buildSlice1 (n := 1) rfl rfl (fun v hv => by rw [List.mem_singleton.1 hv]; rfl) rfl ⟨by decide, by decide⟩ fun bs8 => ?_
        refine GO.appendOwn (m := 1) (news := [i64 0]) rfl rfl rfl (Tk.t (Tk.t (Tk.t (Tk.t (Tk.t (Tk.t (Tk.t Tk.h))))))) Tk.h rfl (by simp [Value.oneCell']) ⟨by decide, rfl⟩ Nat.one_pos (by unfold maxLen; omega) (by omega) fun v8 => ?_
        rw [if_pos rfl]
        have hls := sortN_spec v8 (ol ++ [0]) (by rw [List.length_append, List.length_cons, List.length_nil]; omega)
        unfold ownN at hls
        rw [List.length_append, natsV_app, List.length_cons, List.length_nil, show natsV [0] = [i64 0] by unfold natsV; rfl] at hls
        refine .assign rfl rfl (.nil (kthen_n (.seq (.region (.move rfl rfl ?_)))))
        refine GO.call1 rfl rfl (hls) (Tks.c Tk.h Tks.n) ?_
        rintro _ _ ⟨rfl, rfl⟩
        rw [show own 3 1 (sortN (ol ++ [0])).length v8 (natsV (sortN (ol ++ [0]))) = ownN v8 (sortN (ol ++ [0])) from rfl]
        refine GO.ownShp (v := v8) Tk.h fun x6 c6 e6 => ?_
        subst e6
        refine .nil (kthen_n (.seq ?_))
        refine G.drawT 13 6144 [mkP b77 (.slice xs S1.length cs) va9, ownS (.slice xs S1.length cs) S1] (own 85 4 (sortB orderA (A1 ++ joinA S1 [0] of)).length va9 (arsV (sortB orderA (A1 ++ joinA S1 [0] of))) :: ownN (.slice x6 (sortN (ol ++ [0])).length c6) (sortN (ol ++ [0])) :: g :: pt b4 (row [i64 0, .slice none 0 0, .slice none 0 0] 43) :: z :: zz :: zb :: F) (by kernel_rfl) (keys_of rfl) (ImpS.sb (.c (.t (.t (.t .h))) (.c (.t (.t (.t .h))) (.c (.t (.t .h)) (.c .h (.c (.t (.t .h)) (.c (.t (.t (.t .h))) (.c (.t (.t (.t .h))) (.c (.t (.t (.t .h))) (.c (.t (.t (.t .h))) (.s (.s (.s .r))))))))))))) ?_
        refine .step rfl (fun _ => .move rfl rfl KQ.z) (.step rfl (fun _ => .nilCheck rfl rfl KQ.z) (.step rfl (fun _ => .fieldAddr rfl rfl KQ.z) (.step rfl (fun _ => .load1 rfl rfl rfl .h rfl KQ.z) (.step rfl (fun _ => .lenS rfl rfl KQ.z) (.step rfl (fun _ => .addi rfl rfl rfl (by omega) KQ.z) (.step rfl (fun _ => .move rfl rfl KQ.z) (.step rfl (fun _ => .move rfl rfl KQ.z) (.step rfl (fun _ => .nilCheck rfl rfl KQ.z) (.step rfl (fun _ => .fieldAddr rfl rfl KQ.z) (.step rfl (fun _ => .load1 rfl rfl rfl .h rfl KQ.z) (.skip rfl (.skip rfl (.nil ?_)))))))))))))
        repeat refine GT.skip rfl ?_
        refine GT.step rfl ?_
        refine GO.call1 rfl rfl (compactA_spec va9 (sortB orderA (A1 ++ joinA S1 [0] of)) (by rw [List.length_mergeSort]; exact hlen)) (Tks.c (Tk.t (Tk.t Tk.h)) Tks.n) ?_
        rintro v5 _ rfl
        refine GO.ownShp Tk.h fun x5 c5 e5 => ?_
        subst e5
        refine GO.nil ⟨rfl, _, own 85 4 (compL (sortB orderA (A1 ++ joinA S1 [0] of))).length (.slice x5 (compL (sortB orderA (A1 ++ joinA S1 [0] of))).length c5) (arsV (compL (sortB orderA (A1 ++ joinA S1 [0] of)))) :: ownN (.slice x6 (sortN (ol ++ [0])).length c6) (sortN (ol ++ [0])) :: g :: pt b4 (row [i64 0, .slice none 0 0, .slice none 0 0] 43) :: z :: zz :: zb :: F, rfl, ImpS.sb (.c (.t .h) (.c (.t .h) (.c .h (.c .h (.c .h (.c .h (.c .h (.c .h (.c .h .r))))))))), ?_⟩
        repeat refine GT.skip rfl ?_
        refine GT.step rfl ?_
        refine GO.build3 rfl rfl rfl rfl rfl ?_
        refine GO.nil ⟨rfl, _, _, rfl, ImpS.refl, ?_⟩
        repeat refine GT.skip rfl ?_
        refine GT.nil ?_
        subst hg
        refine GO.storeW (vs := [.int .i64 ((S1.length : Int) + 1), .slice x6 (sortN (ol ++ [0])).length c6, .slice x5 (compL (sortB orderA (A1 ++ joinA S1 [0] of))).length c5]) rfl rfl (Tk.t (Tk.t (Tk.t (Tk.t (Tk.t Tk.h))))) ⟨rfl, rfl⟩ (by simp [Value.oneCell']) ?_
        refine .assign rfl rfl (.nil (kthen_n (.ret ?_)))
        refine KF2.r2 rfl (RV.cW rfl rfl Tk.h rfl) (RV.t rfl) ⟨.slice x6 (sortN (ol ++ [0])).length c6, .slice x5 (compL (sortB orderA (A1 ++ joinA S1 [0] of))).length c5, rfl, rfl⟩ (ImpS.trans (ImpS.sb (M := star [symCell b2 bt, tabP bt mb vn vl, tabM mb ns ls] :: ownN (.slice x6 (sortN (ol ++ [0])).length c6) (sortN (ol ++ [0])) :: own 85 4 (compL (sortB orderA (A1 ++ joinA S1 [0] of))).length (.slice x5 (compL (sortB orderA (A1 ++ joinA S1 [0] of))).length c5) (arsV (compL (sortB orderA (A1 ++ joinA S1 [0] of)))) :: z :: zz :: zb :: F) (.c (.t (.t (.t (.t (.t .h))))) (.c (.t (.t (.t (.t .h)))) (.c (.t (.t (.t .h))) (.c (.t (.t (.t .h))) (.c (.t (.t (.t .h))) (.c (.t (.t (.t .h))) (.s (.s (.s .r)))))))))) (ImpS.trans ImpS.openS (ImpS.sb (.c (.t (.t (.t .h))) (.c (.t (.t (.t .h))) (.c (.t .h) (.c (.t .h) (.c (.t .h) (.c (.t .h) (.c (.t .h) (.s .r)))))))))))
end Go.Proofs.YtbconcohpfkncaaGreat
namespace Go.Proofs.YtbconcohpfkncaaGreat
open Go
theorem ars_rd {q : HP} {v : Value} {l : List ArD} {i : Nat} {x : ArD} (hq : Sl q v l.length 4 (arsV l)) (h : l[i]? = some x) : ∃ b o cap, v = .slice (some ⟨b, o, none⟩) l.length cap ∧ ∀ j u, (arVs x)[j]? = some u → Rd q ⟨b, o + i * 4 + j, none⟩ u := by
  obtain ⟨a, cap, rfl, _, hr⟩ := hq
  have hi := (List.getElem?_eq_some_iff.1 h).1
  obtain ⟨b, o, rfl, hr2⟩ := hr (by omega)
  refine ⟨b, o, cap, rfl, fun j u hu => ?_⟩
  have hj : j < 4 := (List.getElem?_eq_some_iff.1 hu).1
  rw [Nat.add_assoc]
  exact hr2 _ _ (by unfold arsV; rw [flatX_get (enc := arVs) (k := 4) (fun _ => rfl) h hj]; exact hu)
/-- An automaton that may be. -/
structure AutoOK (n : Nat) (fs : List Nat) (xs : List ArD) : Prop where
  n1 : 1 ≤ n
  n65 : n ≤ 65
  fin : ∀ q ∈ fs, q < n
  rise : ∀ (i x y : Nat), fs[i]? = some x → fs[i + 1]? = some y → x < y
  arc : ∀ x ∈ xs, x.src < n ∧ x.dst < n
  ord : ∀ (i : Nat) (x y : ArD), xs[i]? = some x → xs[i + 1]? = some y → orderA x y < 0
attribute [local irreducible] capN capM G GO GR GT GW Fn FnX FnV FnXV Dfr pt init exs pur sat own ImpS natsV arsV sysV joinA orderA
set_option maxHeartbeats 8000000 in
theorem check1_spec (b1 n q : Nat) (vf va : Value) (h : q < n) : FnV Tryz.prog (.func (.func 62) #[] #[ptrV b1]) [i64 (q : Nat)] [autoP b1 n vf va] (fun r Q => r = .bool true ∧ Q = [autoP b1 n vf va]) := by
  have d1 : decide ((0 : Int) ≤ (q : Int)) = true := decide_eq_true (by omega)
  have d2 : decide ((q : Int) < (n : Int)) = true := decide_eq_true (by omega)
  refine FnV.of (caps := [ptrV b1]) ?_
  refine Fn.mk2 Tryz.func62 rfl rfl fun w0 F => ?_
  (refine .seq (.region (.assign rfl rfl (.nil (kthen_n (.seq (.region (.move rfl rfl (.gei rfl rfl rfl (.move rfl rfl (.gT rfl rfl rfl (.move rfl rfl (.gT rfl rfl rfl (.fieldAddr rfl rfl (.gT rfl rfl rfl (.load1 rfl rfl rfl .h rfl ?_))))))))))))))); refine .gT rfl rfl rfl (.lti rfl rfl rfl (.pickT rfl rfl rfl (.assign rfl rfl (.nil (kthen_n (.ret ?_)))))))
  refine KF2.r1 rfl (RV.t rfl) ⟨by rw [d2], rfl⟩ (ImpS.sb ?_)
  exact .c .h .r
set_option maxRecDepth 40000 in
set_option maxHeartbeats 32000000 in
theorem check_auto (n : Nat) (vf va : Value) (fs : List Nat) (xs : List ArD) (z : HP) (hf : NatsR z vf fs) (ha : Sl z va xs.length 4 (arsV xs)) (hok : AutoOK n fs xs) (hfl : ¬ 1048576 < fs.length) (hal : ¬ 4294967296 < xs.length) : Fn Tryz.prog 30 #[autoA n vf va] [z] (fun r Q => r = i64 0 ∧ Q = [z]) := by
  have hrf : ∀ i x, fs[i]? = some x → _ := fun i x h => nats_rd hf h
  have hra : ∀ (i : Nat) (x : ArD), xs[i]? = some x → _ := fun i x h => ars_rd ha h
  obtain ⟨af, cf, rfl⟩ := nats_sl hf
  obtain ⟨aa, ca, rfl, _, _⟩ := ha
  have hn1 := hok.n1; have hn2 := hok.n65
  have d1 : decide ((1 : Int) ≤ (n : Int)) = true := decide_eq_true (by omega)
  have d2 : decide ((n : Int) ≤ 65) = true := decide_eq_true (by omega)
  refine Fn.mk2 Tryz.func30 rfl rfl fun w0 F => ?_
  have hc := fun (q : Nat) (h : q < n) b1 => check1_spec b1 n q (.slice af fs.length cf) (.slice aa xs.length ca) h
  (refine .seq (.region (.box rfl rfl rfl fun b1 => .assign rfl rfl (.nil (kthen_n (.seq (.region (.makeFunc1 rfl rfl (.assign rfl rfl (.nil (kthen_n (.seq (.region (.fieldAddr rfl rfl (.load1 rfl rfl rfl .h rfl ?_)))))))))))))); refine .gei rfl rfl rfl (.move rfl rfl (.gT rfl rfl (by assumption) (.fieldAddr rfl rfl (.gT rfl rfl (by assumption) (.load1 rfl rfl rfl .h rfl (.gT rfl rfl (by assumption) (.lei rfl rfl rfl (.pickTa rfl rfl (by assumption) rfl (.assign rfl rfl (.nil (kthen_n (.seq (.seq (.region (.fieldAddr rfl rfl ?_))))))))))))))); refine .load1 rfl rfl rfl .h rfl (.lenS rfl rfl (.move rfl rfl (.nil (kthen_n (.block ?_))))))
  refine G.loopI (σ := Nat) (fun i => [(1, ptrV b1), (3, .func (.func 62) #[] #[ptrV b1]), (4, .bool true), (19, .slice af fs.length cf), (20, i64 (fs.length : Nat)), (21, i64 (i : Nat))]) (fun _ => autoP b1 n (.slice af fs.length cf) (.slice aa xs.length ca) :: z :: F) (fun i => i ≤ fs.length) (fun i => fs.length - i) 0 (Nat.zero_le _) ?_ ?_ ?_
  · rw [d2]
    exact .c rfl rfl (.c rfl rfl (.c rfl rfl (.c rfl rfl (.c rfl rfl (.c rfl rfl .n)))))
  · refine ImpS.sb ?_
    exact .c .h (.c .h .r)
  clear d1 d2
  intro i hi
  (refine G.seq ?_; refine G.region ?_; refine GO.lti rfl rfl rfl ?_; refine GO.nil ?_; refine kthen_n ?_; refine G.seq ?_)
  by_cases hlt : i < fs.length
  · have d1 : decide ((i : Int) < (fs.length : Int)) = true := decide_eq_true (by omega)
    obtain ⟨x, hx⟩ : ∃ x, fs[i]? = some x := ⟨_, List.getElem?_eq_getElem hlt⟩
    obtain ⟨b, o, cap, e, rx⟩ := hrf i x hx
    injection e with e _ e2
    subst e e2
    have hcx := hc x (hok.fin x (List.mem_of_getElem? hx)) b1
    cases i with
    | zero =>
      (refine .condT rfl (by assumption) (.skip (kthen_n (.seq (.block (.seq (.region (.move rfl rfl (.idxS rfl rfl rfl ⟨rfl, by omega⟩ (.loadQ rfl rfl rfl (.t .h) (by assumption) (.assign rfl rfl (.assign rfl rfl (.nil (kthen_n (.region (.move rfl rfl ?_))))))))))))))); refine .move rfl rfl (.gT rfl rfl rfl (.move rfl rfl (.gT rfl rfl rfl (.move rfl rfl (.gT rfl rfl rfl ?_))))))
      refine GO.callV1 rfl rfl rfl hcx (Tks.c Tk.h Tks.n) ?_
      rintro _ _ ⟨rfl, rfl⟩
      (refine .pickT rfl rfl rfl (.move rfl rfl (.gT rfl rfl rfl (.move rfl rfl (.gT rfl rfl rfl (.eqT rfl rfl rfl rfl (.gT rfl rfl rfl (.move rfl rfl (.gF rfl rfl rfl rfl (.gF rfl rfl rfl rfl (.gF rfl rfl rfl rfl (.gF rfl rfl rfl rfl (.gF rfl rfl rfl rfl (.gF rfl rfl rfl rfl (.gF rfl rfl rfl rfl (.gF rfl rfl rfl rfl ?_))))))))))))))); refine .gT rfl rfl rfl (.pickT rfl rfl rfl (.pickT rfl rfl rfl (.assign rfl rfl (.nil (kblock_n (kthen_n (.region (.addi rfl rfl rfl (by omega) (.move rfl rfl (.nil (kthen_n ?_))))))))))))
      refine ⟨1, hlt, by omega, ?_, ?_⟩
      · exact .c rfl rfl (.c rfl rfl (.c rfl rfl (.c rfl rfl (.c rfl rfl (.c rfl rfl .n)))))
      · refine ImpS.sb ?_
        exact .c .h (.c .h .r)
    | succ i =>
      obtain ⟨y, hy⟩ : ∃ y, fs[i]? = some y := ⟨_, List.getElem?_eq_getElem (by omega)⟩
      obtain ⟨b2, o2, cap2, e, ry⟩ := hrf i y hy
      injection e with e _ e2
      injection e with e
      injection e with e3 e4 _
      subst e3 e4 e2
      have hlt2 := hok.rise i y x hy hx
      have d2 : decide (((i + 1 : Nat) : Int) = 0) = false := decide_eq_false (by omega)
      have d3 : decide ((y : Int) < (x : Int)) = true := decide_eq_true (by omega)
      (refine .condT rfl (by assumption) (.skip (kthen_n (.seq (.block (.seq (.region (.move rfl rfl (.idxS rfl rfl rfl ⟨rfl, by omega⟩ (.loadQ rfl rfl rfl (.t .h) (by assumption) (.assign rfl rfl (.assign rfl rfl (.nil (kthen_n (.region (.move rfl rfl ?_))))))))))))))); refine .move rfl rfl (.gT rfl rfl rfl (.move rfl rfl (.gT rfl rfl rfl (.move rfl rfl (.gT rfl rfl rfl ?_))))))
      refine GO.callV1 rfl rfl rfl hcx (Tks.c Tk.h Tks.n) ?_
      rintro _ _ ⟨rfl, rfl⟩
      (refine .pickT rfl rfl rfl (.move rfl rfl (.gT rfl rfl rfl (.move rfl rfl (.gT rfl rfl rfl (.eqi rfl rfl rfl (.gT rfl rfl rfl (.move rfl rfl (.gT rfl rfl rfl (.fieldAddr rfl rfl (.gT rfl rfl rfl (.load1 rfl rfl rfl .h rfl (.gT rfl rfl rfl (.move rfl rfl (.gT rfl rfl rfl (.subi rfl rfl rfl (by omega) ?_))))))))))))))); refine .gT rfl rfl rfl ?_)
      refine GO.idxS (j := i) rfl rfl rfl ⟨by omega, by omega⟩ ?_
      (refine .gT rfl rfl rfl (.loadQ rfl rfl rfl (.t .h) (by assumption) (.gT rfl rfl rfl (.move rfl rfl (.gT rfl rfl rfl (.lti rfl rfl rfl (.gT rfl rfl rfl (.pickF rfl rfl rfl (.pickT rfl rfl rfl (.assign rfl rfl (.nil (kblock_n (kthen_n (.region (.addi rfl rfl rfl (by omega) (.move rfl rfl ?_))))))))))))))); refine .nil (kthen_n ?_))
      rw [d3]
      refine ⟨i + 1 + 1, hlt, by omega, ?_, ?_⟩
      · exact .c rfl rfl (.c rfl rfl (.c rfl rfl (.c rfl rfl (.c rfl rfl (.c rfl rfl .n)))))
      · refine ImpS.sb ?_
        exact .c .h (.c .h .r)
  · have d1 : decide ((i : Int) < (fs.length : Int)) = false := decide_eq_false (by omega)
    refine .condF rfl (by assumption) (.exit (kthen_x (kthen_x (kblock_x (kthen_n (.seq (.seq (.region (.fieldAddr rfl rfl (.load1 rfl rfl rfl .h rfl (.lenS rfl rfl (.move rfl rfl (.nil (kthen_n (.block ?_)))))))))))))))
    clear hlt hi d1
    refine G.loopI (σ := Nat) (fun i => [(1, ptrV b1), (3, .func (.func 62) #[] #[ptrV b1]), (4, .bool true), (48, .slice aa xs.length ca), (49, i64 (xs.length : Nat)), (50, i64 (i : Nat))]) (fun _ => autoP b1 n (.slice af fs.length cf) (.slice aa xs.length ca) :: z :: F) (fun i => i ≤ xs.length) (fun i => xs.length - i) 0 (Nat.zero_le _) ?_ ?_ ?_
    · exact .c rfl rfl (.c rfl rfl (.c rfl rfl (.c rfl rfl (.c rfl rfl (.c rfl rfl .n)))))
    · refine ImpS.sb ?_
      exact .c .h (.c .h .r)
    intro i hi
    (refine G.seq ?_; refine G.region ?_; refine GO.lti rfl rfl rfl ?_; refine GO.nil ?_; refine kthen_n ?_; refine G.seq ?_)
    by_cases hlt : i < xs.length
    · have d1 : decide ((i : Int) < (xs.length : Int)) = true := decide_eq_true (by omega)
      obtain ⟨x, hx⟩ : ∃ x, xs[i]? = some x := ⟨_, List.getElem?_eq_getElem hlt⟩
      obtain ⟨b, o, cap, e, rx⟩ := hra i x hx
      injection e with e _ e2
      subst e e2
      have harc := hok.arc x (List.mem_of_getElem? hx)
      have hc1 := hc x.src harc.1 b1
      have hc2 := hc x.dst harc.2 b1
      have d5 : decide ((0 : Int) ≤ (x.sym.num : Int)) = true := decide_eq_true (by omega)
      cases i with
      | zero =>
        (refine G.condT rfl (by assumption) ?_; refine G.skip ?_; refine kthen_n ?_; refine G.seq ?_; refine G.block ?_; refine G.seq ?_; refine G.region ?_; refine GO.move rfl rfl ?_; refine GO.idxS rfl rfl rfl ⟨rfl, by omega⟩ ?_)
        refine GO.loadM (vs := arVs x) rfl rfl rfl (Tk.t Tk.h) rfl rx ?_
        (refine GO.alloc rfl fun b8 => ?_; refine GO.assign rfl rfl ?_; refine GO.storeW rfl rfl Tk.h ⟨rfl, rfl⟩ (by simp [Value.oneCell']) ?_; refine GO.nil ?_; refine kthen_n ?_)
        refine G.draw 34 (by kernel_rfl) ?_
        refine .step (fun _ => .move rfl rfl KQ.z) (.step (fun _ => .move rfl rfl KQ.z) (.step (fun _ => .gT rfl rfl rfl (.move rfl rfl KQ.z)) (.step (fun _ => .gT rfl rfl rfl (.fieldAddr rfl rfl KQ.z)) (.step (fun _ => .gT rfl rfl rfl (.load1 rfl rfl rfl .h rfl KQ.z)) ?_))))
        apply GQ.step; focus (intro Z; refine GO.gT rfl rfl rfl ?_; refine GO.callV1 rfl rfl rfl hc1 (Tks.c (Tk.t Tk.h) Tks.n) ?_; rintro _ _ ⟨rfl, rfl⟩; refine GO.nil (KQ.s ?_); ((refine Sb.c (Tk.t Tk.h) ?_; refine Sb.c Tk.h ?_; refine Sb.c Tk.h ?_); (exact Sb.r)))
        refine .step (fun _ => .pickT rfl rfl rfl KQ.z) (.step (fun _ => .move rfl rfl KQ.z) (.step (fun _ => .gT rfl rfl rfl (.move rfl rfl KQ.z)) (.step (fun _ => .gT rfl rfl rfl (.fieldAddr rfl rfl KQ.z)) (.step (fun _ => .gT rfl rfl rfl (.load1 rfl rfl rfl .h rfl KQ.z)) ?_))))
        apply GQ.step; focus (intro Z; refine GO.gT rfl rfl rfl ?_; refine GO.callV1 rfl rfl rfl hc2 (Tks.c (Tk.t Tk.h) Tks.n) ?_; rintro _ _ ⟨rfl, rfl⟩; refine GO.nil (KQ.s ?_); ((refine Sb.c (Tk.t Tk.h) ?_; refine Sb.c Tk.h ?_; refine Sb.c Tk.h ?_); (exact Sb.r)))
        (refine .step (fun _ => .pickT rfl rfl rfl KQ.z) (.step (fun _ => .move rfl rfl KQ.z) (.step (fun _ => .gT rfl rfl rfl (.fieldAddr rfl rfl KQ.z)) (.step (fun _ => .gT rfl rfl rfl (.fieldAddr rfl rfl KQ.z)) (.step (fun _ => .gT rfl rfl rfl (.load1 rfl rfl rfl .h rfl KQ.z)) (.step (fun _ => .gT rfl rfl rfl (.gei rfl rfl rfl KQ.z)) (.step (fun _ => .pickT rfl rfl rfl KQ.z) (.step (fun _ => .move rfl rfl KQ.z) (.step (fun _ => .gT rfl rfl rfl (.move rfl rfl KQ.z)) (.step (fun _ => .gT rfl rfl rfl (.eqT rfl rfl rfl rfl KQ.z)) (.step (fun _ => .gT rfl rfl rfl (.move rfl rfl KQ.z)) (.step (fun _ => .gF rfl rfl rfl rfl KQ.z) (.step (fun _ => .gF rfl rfl rfl rfl KQ.z) (.step (fun _ => .gF rfl rfl rfl rfl KQ.z) (.step (fun _ => .gF rfl rfl rfl rfl KQ.z) (.step (fun _ => .gF rfl rfl rfl rfl KQ.z) ?_))))))))))))))); refine .step (fun _ => .gF rfl rfl rfl rfl KQ.z) (.step (fun _ => .gF rfl rfl rfl rfl KQ.z) (.step (fun _ => .gF rfl rfl rfl rfl KQ.z) (.step (fun _ => .gF rfl rfl rfl rfl KQ.z) (.step (fun _ => .gT rfl rfl rfl (.pickT rfl rfl rfl KQ.z)) (.step (fun _ => .pickT rfl rfl rfl KQ.z) (.nil ?_)))))))
        refine .assign rfl rfl (.nil (kblock_n (kthen_n (.region (.addi rfl rfl rfl (by omega) (.move rfl rfl (.nil (kthen_n ?_))))))))
        refine ⟨1, hlt, by omega, ?_, ?_⟩
        · exact .c rfl rfl (.c rfl rfl (.c rfl rfl (.c rfl rfl (.c rfl rfl (.c rfl rfl .n)))))
        · refine ImpS.sb ?_
          ((refine Sb.c (Tk.t Tk.h) ?_; refine Sb.c (Tk.t Tk.h) ?_); (refine Sb.s ?_; exact Sb.r))
      | succ i =>
        obtain ⟨y, hy⟩ : ∃ y, xs[i]? = some y := ⟨_, List.getElem?_eq_getElem (by omega)⟩
        obtain ⟨b2, o2, cap2, e, ry⟩ := hra i y hy
        injection e with e _ e2
        injection e with e
        injection e with e3 e4 _
        subst e3 e4 e2
        have d2 : decide (((i + 1 : Nat) : Int) = 0) = false := decide_eq_false (by omega)
        have d3 : decide (orderA y x < 0) = true := decide_eq_true (hok.ord i y x hy hx)
        (refine G.condT rfl (by assumption) ?_; refine G.skip ?_; refine kthen_n ?_; refine G.seq ?_; refine G.block ?_; refine G.seq ?_; refine G.region ?_; refine GO.move rfl rfl ?_; refine GO.idxS rfl rfl rfl ⟨rfl, by omega⟩ ?_)
        refine GO.loadM (vs := arVs x) rfl rfl rfl (Tk.t Tk.h) rfl rx ?_
        (refine GO.alloc rfl fun b8 => ?_; refine GO.assign rfl rfl ?_; refine GO.storeW rfl rfl Tk.h ⟨rfl, rfl⟩ (by simp [Value.oneCell']) ?_; refine GO.nil ?_; refine kthen_n ?_)
        refine G.draw 34 (by kernel_rfl) ?_
        refine .step (fun _ => .move rfl rfl KQ.z) (.step (fun _ => .move rfl rfl KQ.z) (.step (fun _ => .gT rfl rfl rfl (.move rfl rfl KQ.z)) (.step (fun _ => .gT rfl rfl rfl (.fieldAddr rfl rfl KQ.z)) (.step (fun _ => .gT rfl rfl rfl (.load1 rfl rfl rfl .h rfl KQ.z)) ?_))))
        apply GQ.step; focus (intro Z; refine GO.gT rfl rfl rfl ?_; refine GO.callV1 rfl rfl rfl hc1 (Tks.c (Tk.t Tk.h) Tks.n) ?_; rintro _ _ ⟨rfl, rfl⟩; refine GO.nil (KQ.s ?_); ((refine Sb.c (Tk.t Tk.h) ?_; refine Sb.c Tk.h ?_; refine Sb.c Tk.h ?_); (exact Sb.r)))
        refine .step (fun _ => .pickT rfl rfl rfl KQ.z) (.step (fun _ => .move rfl rfl KQ.z) (.step (fun _ => .gT rfl rfl rfl (.move rfl rfl KQ.z)) (.step (fun _ => .gT rfl rfl rfl (.fieldAddr rfl rfl KQ.z)) (.step (fun _ => .gT rfl rfl rfl (.load1 rfl rfl rfl .h rfl KQ.z)) ?_))))
        apply GQ.step; focus (intro Z; refine GO.gT rfl rfl rfl ?_; refine GO.callV1 rfl rfl rfl hc2 (Tks.c (Tk.t Tk.h) Tks.n) ?_; rintro _ _ ⟨rfl, rfl⟩; refine GO.nil (KQ.s ?_); ((refine Sb.c (Tk.t Tk.h) ?_; refine Sb.c Tk.h ?_; refine Sb.c Tk.h ?_); (exact Sb.r)))
        refine .step (fun _ => .pickT rfl rfl rfl KQ.z) (.step (fun _ => .move rfl rfl KQ.z) (.step (fun _ => .gT rfl rfl rfl (.fieldAddr rfl rfl KQ.z)) (.step (fun _ => .gT rfl rfl rfl (.fieldAddr rfl rfl KQ.z)) (.step (fun _ => .gT rfl rfl rfl (.load1 rfl rfl rfl .h rfl KQ.z)) (.step (fun _ => .gT rfl rfl rfl (.gei rfl rfl rfl KQ.z)) (.step (fun _ => .pickT rfl rfl rfl KQ.z) (.step (fun _ => .move rfl rfl KQ.z) (.step (fun _ => .gT rfl rfl rfl (.move rfl rfl KQ.z)) (.step (fun _ => .gT rfl rfl rfl (.eqi rfl rfl rfl KQ.z)) (.step (fun _ => .gT rfl rfl rfl (.move rfl rfl KQ.z)) (.step (fun _ => .gT rfl rfl rfl (.fieldAddr rfl rfl KQ.z)) (.step (fun _ => .gT rfl rfl rfl (.load1 rfl rfl rfl (.t .h) rfl KQ.z)) (.step (fun _ => .gT rfl rfl rfl (.move rfl rfl KQ.z)) (.step (fun _ => .gT rfl rfl rfl (.subi rfl rfl rfl (by omega) KQ.z)) ?_))))))))))))))
        apply GQ.step; focus (intro Z; refine GO.gT rfl rfl d2 ?_; refine GO.idxS (j := i) rfl rfl rfl ⟨by omega, by omega⟩ ?_; exact KQ.z)
        skip
        apply GQ.step; focus (intro Z; refine GO.gT rfl rfl d2 ?_; refine GO.loadM (vs := arVs y) rfl rfl rfl (Tk.t (Tk.t Tk.h)) rfl ry ?_; exact KQ.z)
        refine .step (fun _ => .gT rfl rfl rfl (.loadW rfl rfl rfl .h rfl KQ.z)) ?_
        apply GQ.step; focus (intro Z; refine GO.gT rfl rfl d2 ?_; refine GO.call2 rfl rfl rfl (orderA_spec y x) Tks.n ?_; rintro _ _ ⟨rfl, rfl⟩; refine GO.nil (KQ.s ?_); ((refine Sb.c Tk.h ?_; refine Sb.c Tk.h ?_; refine Sb.c Tk.h ?_); (exact Sb.r)))
        refine .step (fun _ => .gT rfl rfl rfl (.lti rfl rfl rfl KQ.z)) (.step (fun _ => .gT rfl rfl rfl (.pickF rfl rfl rfl KQ.z)) (.step (fun _ => .pickT rfl rfl rfl KQ.z) (.nil ?_)))
        refine .assign rfl rfl (.nil (kblock_n (kthen_n (.region (.addi rfl rfl rfl (by omega) (.move rfl rfl (.nil (kthen_n ?_))))))))
        rw [d3]
        refine ⟨i + 1 + 1, hlt, by omega, ?_, ?_⟩
        · exact .c rfl rfl (.c rfl rfl (.c rfl rfl (.c rfl rfl (.c rfl rfl (.c rfl rfl .n)))))
        · refine ImpS.sb ?_
          ((refine Sb.c (Tk.t Tk.h) ?_; refine Sb.c (Tk.t Tk.h) ?_); (refine Sb.s ?_; exact Sb.r))
    · have d1 : decide ((i : Int) < (xs.length : Int)) = false := decide_eq_false (by omega)
      (refine .condF rfl (by assumption) (.exit (kthen_x (kthen_x (kblock_x (kthen_n (.seq (.seq (.region (.move rfl rfl (.not rfl rfl (.nil (kthen_n (.condF rfl rfl (.skip (kthen_n ?_))))))))))))))); refine .seq (.region (.assign rfl rfl (.nil (kthen_n (.ret ?_))))))
      refine KF2.r1 rfl (RV.t rfl) ⟨rfl, rfl⟩ (ImpS.sb ?_)
      exact .c (.t .h) (.s .r)
end Go.Proofs.YtbconcohpfkncaaGreat
namespace Go.Proofs.YtbconcohpfkncaaGreat
open Go
/-- The states to which arcs lead. -/
def stepA (xs : List ArD) (s : SyD) (a : Nat → Bool) : Nat → Bool := fun q => xs.any fun x => a x.src && decide (x.sym = s) && decide (x.dst = q)
theorem stepA_snoc {xs : List ArD} {i : Nat} {x : ArD} (h : xs[i]? = some x) (s : SyD) (a : Nat → Bool) : stepA (xs.take (i + 1)) s a = if (a x.src && decide (x.sym = s)) = true then upd (stepA (xs.take i) s a) x.dst true else stepA (xs.take i) s a := by
  funext q
  unfold stepA
  rw [take_snoc h, List.any_append]
  by_cases e : (a x.src && decide (x.sym = s)) = true
  · rw [if_pos e]
    unfold upd
    by_cases e2 : q = x.dst
    · rw [if_pos e2, e2]; simp [e]
    · rw [if_neg e2]; simp [e, Ne.symm e2]
  · rw [if_neg e]
    have : (a x.src && decide (x.sym = s)) = false := by simpa using e
    simp [this]
theorem eqSym (a b : SyD) : EqR Tryz.prog 10000 72 (syA a) (syA b) (decide (a = b)) := by
  have h : EqR Tryz.prog (9998 + 1 + 1) 72 (.agg (syVs a).toArray) (.agg (syVs b).toArray) ((a.lab == b.lab) && decide ((a.num : Int) = (b.num : Int))) :=
    EqR.struct (P := Tryz.prog) (d := 9999) (t := 72) (l := syVs a) (l' := syVs b) ⟨.bool a.lab, .bool b.lab, _, _, by decide, PartR.one rfl rfl, PartR.one rfl rfl, EqR.bool, ⟨i64 (a.num : Nat), i64 (b.num : Nat), _, true, by decide, PartR.one rfl rfl, PartR.one rfl rfl, EqR.int, rfl, (Bool.and_true _).symm⟩, rfl⟩
  rwa [show ((a.lab == b.lab) && decide ((a.num : Int) = (b.num : Int))) = decide (a = b) by
    rw [Bool.eq_iff_iff]; simp only [Bool.and_eq_true, decide_eq_true_iff, beq_iff_eq]
    obtain ⟨l, n⟩ := a
    obtain ⟨l2, n2⟩ := b
    simp only [SyD.mk.injEq]
    exact ⟨fun ⟨h1, h2⟩ => ⟨h1, by omega⟩, fun ⟨h1, h2⟩ => ⟨h1, by omega⟩⟩] at h
attribute [local irreducible] capN capM G GO GR GT GW Fn FnX FnV FnXV Dfr pt init exs pur sat own ImpS natsV arsV sysV joinA orderA stepA
set_option maxRecDepth 40000 in
set_option maxHeartbeats 32000000 in
theorem step_spec (n : Nat) (vf va : Value) (xs : List ArD) (z : HP) (bs : Nat) (a : Nat → Bool) (s : SyD) (ha : Sl z va xs.length 4 (arsV xs)) (hn : 1 ≤ n ∧ n ≤ 65) (hok : ∀ x ∈ xs, x.src < n ∧ x.dst < n) (hvf : vf.oneCell' = true) (hal : ¬ 4294967296 < xs.length) :
    Fn Tryz.prog 31 #[autoA n vf va, setV bs n, syA s] [setP bs a n, z] (fun r Q => ∃ b, r = setV b n ∧ Q = [setP b (stepA xs s a) n, setP bs a n, z]) := by
  have hra : ∀ (i : Nat) (x : ArD), xs[i]? = some x → _ := fun i x h => ars_rd ha h
  obtain ⟨aa, ca, rfl, _, _⟩ := ha
  refine Fn.mk2 Tryz.func31 rfl rfl fun w0 F => ?_
  refine .seq (.region (.box rfl rfl rfl fun b3 => .box rfl rfl rfl fun b5 => .assign rfl rfl (.nil (kthen_n (.seq (.region (.fieldAddr rfl rfl (.load1 rfl rfl rfl (.t .h) rfl ?_))))))))
  refine GO.make1 (n := n) rfl rfl rfl ⟨rfl, rfl⟩ ⟨by omega, by omega⟩ fun b7 => ?_
  rw [zero_set]
  refine .assign rfl rfl (.nil (kthen_n (.seq (.seq (.region (.fieldAddr rfl rfl (.load1 rfl rfl rfl (.t (.t .h)) rfl (.lenS rfl rfl (.move rfl rfl (.nil (kthen_n (.block ?_))))))))))))
  refine G.loopI (σ := Nat) (fun i => [(1, setV bs n), (3, ptrV b3), (5, ptrV b5), (7, setV b7 n), (14, .slice aa xs.length ca), (15, i64 (xs.length : Nat)), (16, i64 (i : Nat))]) (fun i => setP b7 (stepA (xs.take i) s a) n :: pt b5 (row (syVs s) 72) :: pt b3 (row [i64 (n : Nat), vf, .slice aa xs.length ca] 43) :: setP bs a n :: z :: F) (fun i => i ≤ xs.length) (fun i => xs.length - i) 0 (Nat.zero_le _) ?_ ?_ ?_
  · exact .c rfl rfl (.c rfl rfl (.c rfl rfl (.c rfl rfl (.c rfl rfl (.c rfl rfl (.c rfl rfl .n))))))
  · rw [List.take_zero, show stepA [] s a = fun _ => false by unfold stepA; rfl]
    refine ImpS.sb ?_
    exact .c .h (.c .h (.c .h (.c .h (.c .h .r))))
  intro i hi
  (refine G.seq ?_; refine G.region ?_; refine GO.lti rfl rfl rfl ?_; refine GO.nil ?_; refine kthen_n ?_; refine G.seq ?_)
  by_cases hlt : i < xs.length
  · have d1 : decide ((i : Int) < (xs.length : Int)) = true := decide_eq_true (by omega)
    obtain ⟨x, hx⟩ : ∃ x, xs[i]? = some x := ⟨_, List.getElem?_eq_getElem hlt⟩
    obtain ⟨b, o, cap, e, rx⟩ := hra i x hx
    injection e with e _ e2
    subst e e2
    have harc := hok x (List.mem_of_getElem? hx)
    have hst := stepA_snoc hx s a
    have ra : Rd (setP bs a n) ⟨bs, 0 + x.src * 1, none⟩ (.bool (a x.src)) := Rd.row (by rw [Nat.zero_add, Nat.mul_one]; exact rowV_get harc.1)
    (refine G.condT rfl (by assumption) ?_; refine G.skip ?_; refine kthen_n ?_; refine G.seq ?_; refine G.block ?_; refine G.seq ?_; refine G.region ?_; refine GO.idxS rfl rfl rfl ⟨rfl, by omega⟩ ?_)
    refine GO.loadM (vs := arVs x) rfl rfl rfl (Tk.t (Tk.t (Tk.t (Tk.t Tk.h)))) rfl rx ?_
    (refine GO.alloc rfl fun b9 => ?_; refine GO.storeW rfl rfl Tk.h ⟨rfl, rfl⟩ (by simp [Value.oneCell']) ?_; refine GO.nil ?_; refine kthen_n ?_; refine G.seq ?_; refine G.region ?_; refine GO.move rfl rfl ?_; refine GO.fieldAddr rfl rfl ?_; refine GO.load1 rfl rfl rfl Tk.h rfl ?_; refine GO.idxS rfl rfl rfl ⟨rfl, by omega⟩ ?_; refine GO.loadQ rfl rfl rfl (Tk.t (Tk.t (Tk.t (Tk.t Tk.h)))) (by assumption) ?_; refine GO.move rfl rfl ?_)
    cases hax : a x.src
    · rw [hax, Bool.false_and, if_neg (by decide)] at hst
      rw [hax] at ra
      refine .gF rfl rfl rfl rfl (.gF rfl rfl rfl rfl (.gF rfl rfl rfl rfl (.gF rfl rfl rfl rfl (.pickF rfl rfl rfl (.nil (kthen_n (.condF rfl rfl (.skip (kblock_n (kthen_n (.region (.addi rfl rfl rfl (by omega) (.move rfl rfl (.nil (kthen_n ?_)))))))))))))))
      refine ⟨i + 1, hlt, by omega, ?_, ?_⟩
      · exact .c rfl rfl (.c rfl rfl (.c rfl rfl (.c rfl rfl (.c rfl rfl (.c rfl rfl (.c rfl rfl .n))))))
      · rw [hst]
        refine ImpS.sb ?_
        exact .c (.t .h) (.c (.t .h) (.c (.t .h) (.c (.t .h) (.c (.t .h) (.s .r)))))
    · rw [hax, Bool.true_and] at hst
      rw [hax] at ra
      refine .gT rfl rfl rfl (.fieldAddr rfl rfl (.gT rfl rfl rfl ?_))
      refine GO.load2 (u1 := .bool x.sym.lab) (u2 := i64 (x.sym.num : Nat)) rfl rfl rfl Tk.h (Rd.row rfl) (Rd.row rfl) ?_
      refine .gT rfl rfl rfl (.loadW rfl rfl rfl (.t (.t .h)) rfl (.gT rfl rfl rfl ?_))
      refine GO.eqlA (eqSym x.sym s) rfl rfl rfl ?_
      refine .pickT rfl rfl rfl (.nil (kthen_n ?_))
      cases hd : decide (x.sym = s)
      · rw [hd, if_neg (by decide)] at hst
        refine .condF rfl rfl (.skip (kblock_n (kthen_n (.region (.addi rfl rfl rfl (by omega) (.move rfl rfl (.nil (kthen_n ?_))))))))
        refine ⟨i + 1, hlt, by omega, ?_, ?_⟩
        · exact .c rfl rfl (.c rfl rfl (.c rfl rfl (.c rfl rfl (.c rfl rfl (.c rfl rfl (.c rfl rfl .n))))))
        · rw [hst]
          refine ImpS.sb ?_
          exact .c (.t .h) (.c (.t .h) (.c (.t .h) (.c (.t .h) (.c (.t .h) (.s .r)))))
      · rw [hd, if_pos rfl] at hst
        refine .condT rfl rfl (.region (.move rfl rfl (.fieldAddr rfl rfl (.load1 rfl rfl rfl .h rfl (.idxS rfl rfl rfl ⟨rfl, by omega⟩ ?_)))))
        refine GO.store1 rfl rfl rfl (Tk.t Tk.h) (set_lt (n := n) (i := x.dst) harc.2) ?_
        rw [rowV_set]
        refine .nil (kblock_n (kthen_n (.region (.addi rfl rfl rfl (by omega) (.move rfl rfl (.nil (kthen_n ?_)))))))
        refine ⟨i + 1, hlt, by omega, ?_, ?_⟩
        · exact .c rfl rfl (.c rfl rfl (.c rfl rfl (.c rfl rfl (.c rfl rfl (.c rfl rfl (.c rfl rfl .n))))))
        · rw [hst]
          refine ImpS.sb ?_
          exact .c .h (.c (.t .h) (.c (.t .h) (.c (.t .h) (.c (.t .h) (.s .r)))))
  · have d1 : decide ((i : Int) < (xs.length : Int)) = false := decide_eq_false (by omega)
    rw [List.take_of_length_le (by omega)]
    refine .condF rfl (by assumption) (.exit (kthen_x (kthen_x (kblock_x (kthen_n (.seq (.region (.move rfl rfl (.assign rfl rfl (.nil (kthen_n (.ret ?_))))))))))))
    refine KF2.r1 rfl (RV.t rfl) ⟨b7, rfl, rfl⟩ (ImpS.sb ?_)
    exact .c .h (.c (.t (.t .h)) (.c (.t (.t .h)) (.s (.s .r))))
end Go.Proofs.YtbconcohpfkncaaGreat
namespace Go.Proofs.YtbconcohpfkncaaGreat
open Go
attribute [local irreducible] capN capM G GO GR GT GW Fn FnX FnV FnXV Dfr pt init exs pur sat own ImpS natsV arsV sysV joinA orderA stepA
set_option maxHeartbeats 8000000 in
theorem idxI_spec (q : HP) (v : Value) (g : HP) (l : List Nat) (y : Value) (p : Nat → Bool) (hq : NatsR q v l) (hl : ¬ 1048576 < l.length) (hy : ∀ m ∈ l, FnV Tryz.prog y [i64 (m : Nat)] [g] (fun r Q => r = .bool (p m) ∧ Q = [g])) :
    Fn Tryz.prog 63 #[v, y] [q, g] (fun r Q => ∃ n : Int, r = .int .i64 n ∧ decide (0 ≤ n) = l.any p ∧ Q = [q, g]) := by
  have hrd : ∀ i m, l[i]? = some m → _ := fun i m h => nats_rd hq h
  obtain ⟨a, cap, rfl⟩ := nats_sl hq
  generalize hres : l.any p = res
  refine Fn.mk2 Tryz.func63 rfl rfl fun w0 F => ?_
  refine .seq (.region (.assign rfl rfl (.nil (kthen_n (.seq (.seq (.region (.move rfl rfl (.lenS rfl rfl (.move rfl rfl (.nil (kthen_n (.block ?_)))))))))))))
  refine G.loopI (σ := Nat) (fun i => [(0, .slice a l.length cap), (1, y), (6, .slice a l.length cap), (7, i64 (l.length : Nat)), (8, i64 (i : Nat))]) (fun _ => q :: g :: F) (fun i => i ≤ l.length ∧ (l.drop i).any p = res) (fun i => l.length - i) 0 ⟨Nat.zero_le _, hres⟩ ?_ ?_ ?_
  · exact .c rfl rfl (.c rfl rfl (.c rfl rfl (.c rfl rfl (.c rfl rfl .n))))
  · refine ImpS.sb ?_
    exact .c .h (.c .h .r)
  clear hres
  rintro i ⟨hi, hp⟩
  (refine G.seq ?_; refine G.region ?_; refine GO.lti rfl rfl rfl ?_; refine GO.nil ?_; refine kthen_n ?_; refine G.seq ?_)
  by_cases hlt : i < l.length
  · have d1 : decide ((i : Int) < (l.length : Int)) = true := decide_eq_true (by omega)
    obtain ⟨m, hm⟩ : ∃ m, l[i]? = some m := ⟨_, List.getElem?_eq_getElem hlt⟩
    obtain ⟨b, o, cap2, e, rm⟩ := hrd i m hm
    injection e with e _ e2
    subst e e2
    rw [any_drop hm] at hp
    have hym := hy m (List.mem_of_getElem? hm)
    (refine .condT rfl (by assumption) (.skip (kthen_n (.seq (.block (.seq (.region (.move rfl rfl (.assign rfl rfl (.nil (kthen_n (.seq (.region (.move rfl rfl (.move rfl rfl (.move rfl rfl ?_))))))))))))))); refine .idxS rfl rfl rfl ⟨rfl, by omega⟩ (.loadQ rfl rfl rfl .h (by assumption) ?_))
    refine GO.callV1 rfl rfl rfl hym (Tks.c (Tk.t Tk.h) Tks.n) ?_
    rintro _ _ ⟨rfl, rfl⟩
    cases hpm : p m
    · rw [hpm, Bool.false_or] at hp
      refine .nil (kthen_n (.condF rfl rfl (.skip (kblock_n (kthen_n (.region (.addi rfl rfl rfl (by omega) (.move rfl rfl (.nil (kthen_n ?_))))))))))
      refine ⟨i + 1, ⟨hlt, hp⟩, by omega, ?_, ImpS.sb ?_⟩
      · exact .c rfl rfl (.c rfl rfl (.c rfl rfl (.c rfl rfl (.c rfl rfl .n))))
      · exact .c (.t .h) (.c .h .r)
    · rw [hpm, Bool.true_or] at hp
      refine .nil (kthen_n (.condT rfl rfl (.seq (.region (.move rfl rfl (.assign rfl rfl (.nil (kthen_n (.ret (kblock_r (kthen_r (kthen_r (kblock_r (kthen_r ?_))))))))))))))
      refine KF2.r1 rfl (RV.t rfl) ⟨_, rfl, by rw [← hp]; exact decide_eq_true (by omega), rfl⟩ (ImpS.sb ?_)
      exact .c (.t .h) (.c .h .r)
  · have d1 : decide ((i : Int) < (l.length : Int)) = false := decide_eq_false (by omega)
    rw [List.drop_eq_nil_of_le (by omega)] at hp
    refine .condF rfl (by assumption) (.exit (kthen_x (kthen_x (kblock_x (kthen_n (.seq (.region (.assign rfl rfl (.nil (kthen_n (.ret ?_)))))))))))
    refine KF2.r1 rfl (RV.t rfl) ⟨_, rfl, by rw [← hp]; rfl, rfl⟩ (ImpS.sb ?_)
    exact .c .h (.c .h .r)
set_option maxHeartbeats 8000000 in
theorem hasI_spec (q : HP) (v : Value) (g : HP) (l : List Nat) (y : Value) (p : Nat → Bool) (hq : NatsR q v l) (hl : ¬ 1048576 < l.length) (hy : ∀ m ∈ l, FnV Tryz.prog y [i64 (m : Nat)] [g] (fun r Q => r = .bool (p m) ∧ Q = [g])) :
    Fn Tryz.prog 32 #[v, y] [q, g] (fun r Q => r = .bool (l.any p) ∧ Q = [q, g]) := by
  refine Fn.mk2 Tryz.func32 rfl rfl fun w0 F => ?_
  refine .seq (.region (.assign rfl rfl (.nil (kthen_n (.seq (.region (.move rfl rfl (.move rfl rfl ?_))))))))
  refine GO.call2 rfl rfl rfl (idxI_spec q v g l y p hq hl hy) (Tks.c Tk.h (Tks.c Tk.h Tks.n)) ?_
  rintro _ _ ⟨n, rfl, hn, rfl⟩
  rw [← hn]
  refine .gei rfl rfl rfl (.assign rfl rfl (.nil (kthen_n (.ret ?_))))
  refine KF2.r1 rfl (RV.t rfl) ⟨rfl, rfl⟩ (ImpS.sb ?_)
  exact .c .h (.c .h .r)
set_option maxHeartbeats 8000000 in
theorem has1_spec (b6 b n q : Nat) (a : Nat → Bool) (hq : q < n) : FnV Tryz.prog (.func (.func 33) #[] #[ptrV b6]) [i64 (q : Nat)] [star [pt b6 (row [setV b n] 80), setP b a n]] (fun r Q => r = .bool (a q) ∧ Q = [star [pt b6 (row [setV b n] 80), setP b a n]]) := by
  refine FnV.one (R := fun r => r = .bool (a q)) ?_
  have ra : Rd (setP b a n) ⟨b, 0 + q * 1, none⟩ (.bool (a q)) := Rd.row (by rw [Nat.zero_add, Nat.mul_one]; exact rowV_get hq)
  refine FnV.of (caps := [ptrV b6]) ?_
  refine Fn.mk2 Tryz.func33 rfl rfl fun w0 F => ?_
  refine .seq (.region (.assign rfl rfl (.nil (kthen_n (.seq (.region (.load1 rfl rfl rfl .h rfl (.move rfl rfl (.idxS rfl rfl rfl ⟨rfl, by omega⟩ (.load1 rfl rfl rfl (.t .h) (rowV_get1 (by assumption)) (.assign rfl rfl (.nil (kthen_n (.ret ?_))))))))))))))
  refine KF2.r1 rfl (RV.t rfl) ⟨rfl, rfl⟩ (ImpS.sb ?_)
  exact .c .h (.c .h .r)
/-- The states to which a word leads. -/
def runA (xs : List ArD) (w : List SyD) (a : Nat → Bool) : Nat → Bool := w.foldl (fun a s => stepA xs s a) a
theorem runA_snoc {xs : List ArD} {w : List SyD} {i : Nat} {s : SyD} (h : w[i]? = some s) (a : Nat → Bool) : runA xs (w.take (i + 1)) a = stepA xs s (runA xs (w.take i) a) := by
  unfold runA; rw [take_snoc h, List.foldl_append]; rfl
theorem boolsV_set0 {n : Nat} : (boolsV (fun _ => false) n).set (0 + 0 * 1) (.bool true) = boolsV (fun q => decide (q = 0)) n := by
  rw [rowV_set]
  refine rowV_same fun i _ => ?_
  unfold upd
  by_cases h : i = 0
  · rw [if_pos h, decide_eq_true h]
  · rw [if_neg h, decide_eq_false h]
attribute [local irreducible] runA
set_option maxRecDepth 40000 in
set_option maxHeartbeats 32000000 in
theorem has_spec (n : Nat) (vf va vw : Value) (fs : List Nat) (xs : List ArD) (w : List SyD) (z zw : HP) (hf : NatsR z vf fs) (ha : Sl z va xs.length 4 (arsV xs)) (hw : Sl zw vw w.length 2 (sysV w)) (hok : AutoOK n fs xs) (hfl : ¬ 1048576 < fs.length) (hal : ¬ 4294967296 < xs.length) (hwl : ¬ 64 < w.length) :
    Fn Tryz.prog 12 #[autoA n vf va, vw] [z, zw] (fun r Q => r = .tuple #[.bool (fs.any (runA xs w fun q => decide (q = 0))), i64 0] ∧ Q = [z, zw]) := by
  have hck := check_auto n vf va fs xs z hf ha hok hfl hal
  have hst := fun bs a s => step_spec n vf va xs z bs a s ha ⟨hok.n1, hok.n65⟩ hok.arc (nats_one hf) hal
  have hrw : ∀ k, 0 < k ∧ k ≤ w.length → _ := fun k h => sys_rd hw h
  have hn1 := hok.n1; have hn2 := hok.n65
  have hff := hf
  obtain ⟨af, cf, rfl⟩ := nats_sl hff
  clear hff
  obtain ⟨aa, ca, rfl, _, _⟩ := ha
  obtain ⟨aw, cw, rfl, _, _⟩ := hw
  refine Fn.mk2 Tryz.func12 rfl rfl fun w0 F => ?_
  have d1 : decide ((64 : Int) < (w.length : Int)) = false := decide_eq_false (by omega)
  refine .seq (.region (.box rfl rfl rfl fun b2 => .assign rfl rfl (.assign rfl rfl (.nil (kthen_n (.seq (.block (.seq (.region (.loadW rfl rfl rfl .h rfl ?_))))))))))
  refine GO.call1 rfl rfl (hck) (Tks.c (Tk.t Tk.h) Tks.n) ?_
  rintro _ _ ⟨rfl, rfl⟩
  (refine .neF rfl rfl rfl rfl (.assign rfl rfl (.nil (kthen_n (.condF rfl rfl (.seq (.region (.move rfl rfl (.lenS rfl rfl (.gti rfl rfl rfl (.assign rfl rfl (.nil (kthen_n (.condF rfl (by assumption) (.skip (kblock_n ?_))))))))))))))); refine kthen_n (.seq (.region (.fieldAddr rfl rfl (.load1 rfl rfl rfl (.t .h) rfl ?_)))))
  refine GO.make1 (n := n) rfl rfl rfl ⟨rfl, rfl⟩ ⟨by omega, by omega⟩ fun b7 => ?_
  rw [zero_set]
  refine .alloc rfl fun b6 => .store1 rfl rfl rfl .h (by decide) (.nil (kthen_n (.seq (.region (.load1 rfl rfl rfl .h rfl ?_)))))
  refine GO.idxS (j := 0) rfl rfl rfl ⟨by omega, by omega⟩ ?_
  refine GO.store1 rfl rfl rfl (Tk.t Tk.h) (set_lt (n := n) (i := 0) (by omega)) ?_
  rw [boolsV_set0]
  refine .nil (kthen_n (.seq (.seq (.region (.move rfl rfl (.lenS rfl rfl (.move rfl rfl (.nil (kthen_n (.block ?_))))))))))
  refine G.loopI (σ := Nat × Nat) (fun x => [(2, ptrV b2), (6, ptrV b6), (22, .slice aw w.length cw), (23, i64 (w.length : Nat)), (24, i64 (x.1 : Nat))]) (fun x => pt b6 (row [setV x.2 n] 80) :: setP x.2 (runA xs (w.take x.1) fun q => decide (q = 0)) n :: autoP b2 n (.slice af fs.length cf) (.slice aa xs.length ca) :: z :: zw :: F) (fun x => x.1 ≤ w.length) (fun x => w.length - x.1) (0, b7) (Nat.zero_le _) ?_ ?_ ?_
  · exact .c rfl rfl (.c rfl rfl (.c rfl rfl (.c rfl rfl (.c rfl rfl .n))))
  · dsimp only
    rw [List.take_zero, show runA xs [] (fun q => decide (q = 0)) = fun q => decide (q = 0) by unfold runA; rfl]
    refine ImpS.sb ?_
    ((refine Sb.c (Tk.t Tk.h) ?_; refine Sb.c Tk.h ?_; refine Sb.c (Tk.t Tk.h) ?_; refine Sb.c Tk.h ?_; refine Sb.c Tk.h ?_); (exact Sb.r))
  clear d1
  rintro ⟨i, bc⟩ hi
  dsimp only at hi ⊢
  (refine G.seq ?_; refine G.region ?_; refine GO.lti rfl rfl rfl ?_; refine GO.nil ?_; refine kthen_n ?_; refine G.seq ?_)
  by_cases hlt : i < w.length
  · have d1 : decide ((i : Int) < (w.length : Int)) = true := decide_eq_true (by omega)
    obtain ⟨s, hs⟩ : ∃ s, w[i]? = some s := ⟨_, List.getElem?_eq_getElem hlt⟩
    have hsa : symAt w (i + 1) = s := by unfold symAt; rw [Nat.add_sub_cancel, hs]; rfl
    obtain ⟨b, o, cap, e, r1, r2⟩ := hrw (i + 1) ⟨by omega, by omega⟩
    injection e with e _ e2
    subst e e2
    rw [hsa, Nat.add_sub_cancel] at r1 r2
    have hsn := runA_snoc (xs := xs) hs fun q => decide (q = 0)
    (refine G.condT rfl (by assumption) ?_; refine G.skip ?_; refine kthen_n ?_; refine G.seq ?_; refine G.block ?_; refine G.seq ?_; refine G.region ?_; refine GO.idxS rfl rfl rfl ⟨rfl, by omega⟩ ?_; refine GO.load2 rfl rfl rfl (Tk.t (Tk.t (Tk.t (Tk.t Tk.h)))) (by assumption) (by assumption) ?_; refine GO.alloc rfl fun b8 => ?_; refine GO.storeW rfl rfl Tk.h ⟨rfl, rfl⟩ (by simp [Value.oneCell']) ?_; refine GO.nil ?_; refine kthen_n ?_; refine G.region ?_; refine GO.loadW rfl rfl rfl (Tk.t (Tk.t (Tk.t Tk.h))) rfl ?_; refine GO.load1 rfl rfl rfl (Tk.t Tk.h) rfl ?_; refine GO.loadW rfl rfl rfl Tk.h rfl ?_)
    refine GO.call3 rfl rfl rfl rfl (hst bc (runA xs (w.take i) fun q => decide (q = 0)) s) (Tks.c (Tk.t (Tk.t Tk.h)) (Tks.c (Tk.t (Tk.t (Tk.t Tk.h))) Tks.n)) ?_
    rintro _ _ ⟨b9, rfl, rfl⟩
    refine .store1 rfl rfl rfl (.t (.t (.t (.t .h)))) (by simp) (.nil (kblock_n (kthen_n (.region (.addi rfl rfl rfl (by omega) (.move rfl rfl (.nil (kthen_n ?_))))))))
    refine ⟨(i + 1, b9), hlt, by dsimp only; omega, ?_, ?_⟩
    · exact .c rfl rfl (.c rfl rfl (.c rfl rfl (.c rfl rfl (.c rfl rfl .n))))
    · dsimp only
      rw [hsn]
      refine ImpS.sb ?_
      exact .c .h (.c .h (.c (.t (.t (.t .h))) (.c (.t .h) (.c (.t (.t .h)) (.s (.s .r))))))
  · have d1 : decide ((i : Int) < (w.length : Int)) = false := decide_eq_false (by omega)
    rw [List.take_of_length_le (by omega)]
    have h1 := fun q (hq : q ∈ fs) => has1_spec b6 bc n q (runA xs w fun q => decide (q = 0)) (hok.fin q hq)
    have hh := hasI_spec z _ (star [pt b6 (row [setV bc n] 80), setP bc (runA xs w fun q => decide (q = 0)) n]) fs (.func (.func 33) #[] #[ptrV b6]) (runA xs w fun q => decide (q = 0)) hf hfl h1
    refine .condF rfl (by assumption) (.exit (kthen_x (kthen_x (kblock_x (kthen_n (.seq (.region (.fieldAddr rfl rfl (.load1 rfl rfl rfl (.t (.t .h)) rfl (.makeFunc1 rfl rfl ?_))))))))))
    refine GO.merge (x := pt b6 (row [setV bc n] 80)) (y := setP bc (runA xs w fun q => decide (q = 0)) n) (Tks.c Tk.h (Tks.c Tk.h Tks.n)) ?_
    skip
    refine GO.call2 rfl rfl rfl (hh) (Tks.c (Tk.t (Tk.t Tk.h)) (Tks.c Tk.h Tks.n)) ?_
    rintro _ _ ⟨rfl, rfl⟩
    refine .assign rfl rfl (.assign rfl rfl (.nil (kthen_n (.ret ?_))))
    refine KF2.r2 rfl (RV.t rfl) (RV.t rfl) ⟨rfl, rfl⟩ (ImpS.sb ?_)
    exact .c .h (.c (.t (.t .h)) (.s (.s .r)))
end Go.Proofs.YtbconcohpfkncaaGreat
namespace Go.Proofs.YtbconcohpfkncaaGreat
open Go
section
variable {α β : Type} {f : α → β} {K : α → Prop}
/-- The words of Q are the words of P, symbol by symbol; all of known symbols. -/
def Img (f : α → β) (K : α → Prop) (P : List α → Prop) (Q : List β → Prop) : Prop := (∀ w, P w → (∀ x ∈ w, K x) ∧ Q (w.map f)) ∧ ∀ v, Q v → ∃ w, v = w.map f ∧ P w
theorem Img.nil : Img f K (fun w => w = []) (fun v => v = []) := ⟨fun w h => by subst h; exact ⟨fun x hx => (by cases hx), rfl⟩, fun v h => ⟨[], by rw [h]; rfl, rfl⟩⟩
theorem Img.no : Img f K (fun _ => False) (fun _ => False) := ⟨fun _ h => h.elim, fun _ h => h.elim⟩
theorem Img.one {a : α} {b : β} (hk : K a) (h : f a = b) : Img f K (fun w => w = [a]) (fun v => v = [b]) :=
  ⟨fun w e => by subst e; exact ⟨fun x hx => by rw [List.mem_singleton.1 hx]; exact hk, by rw [List.map_cons, h]; rfl⟩, fun v e => ⟨[a], by rw [e, List.map_cons, h]; rfl, rfl⟩⟩
theorem Img.or {P P' : List α → Prop} {Q Q' : List β → Prop} (h : Img f K P Q) (k : Img f K P' Q') : Img f K (fun w => P w ∨ P' w) (fun v => Q v ∨ Q' v) :=
  ⟨fun w e => e.elim (fun e => ⟨(h.1 w e).1, .inl (h.1 w e).2⟩) fun e => ⟨(k.1 w e).1, .inr (k.1 w e).2⟩,
    fun v e => e.elim (fun e => let ⟨w, a, b⟩ := h.2 v e; ⟨w, a, .inl b⟩) fun e => let ⟨w, a, b⟩ := k.2 v e; ⟨w, a, .inr b⟩⟩
theorem Img.seq {P P' : List α → Prop} {Q Q' : List β → Prop} (h : Img f K P Q) (k : Img f K P' Q') : Img f K (fun w => ∃ u v, w = u ++ v ∧ P u ∧ P' v) (fun w => ∃ u v, w = u ++ v ∧ Q u ∧ Q' v) := by
  constructor
  · rintro w ⟨u, v, rfl, h1, h2⟩
    obtain ⟨a1, b1⟩ := h.1 u h1
    obtain ⟨a2, b2⟩ := k.1 v h2
    exact ⟨fun x hx => (List.mem_append.1 hx).elim (a1 x) (a2 x), u.map f, v.map f, List.map_append, b1, b2⟩
  · rintro w ⟨u, v, rfl, h1, h2⟩
    obtain ⟨u', rfl, a1⟩ := h.2 u h1
    obtain ⟨v', rfl, a2⟩ := k.2 v h2
    exact ⟨u' ++ v', List.map_append.symm, u', v', rfl, a1, a2⟩
theorem Img.many {P : List α → Prop} {Q : List β → Prop} (h : Img f K P Q) : Img f K (Many P) (Many Q) := by
  constructor
  · intro w m
    induction m with
    | nil => exact ⟨fun x hx => (by cases hx), .nil⟩
    | cons p _ ih =>
      obtain ⟨a, b⟩ := h.1 _ p
      exact ⟨fun x hx => (List.mem_append.1 hx).elim (a x) (ih.1 x), by rw [List.map_append]; exact .cons b ih.2⟩
  · intro w m
    induction m with
    | nil => exact ⟨[], rfl, .nil⟩
    | cons p _ ih =>
      obtain ⟨u, rfl, a⟩ := h.2 _ p
      obtain ⟨v, rfl, b⟩ := ih
      exact ⟨u ++ v, List.map_append.symm, .cons a b⟩
theorem Img.plus {P : List α → Prop} {Q : List β → Prop} (h : Img f K P Q) : Img f K (Plus P) (Plus Q) := h.seq h.many
variable {la : Nat → List UInt8 → α} {lb : Nat → List UInt8 → β}
theorem Img.seqs : ∀ {ts : List Tree}, (∀ t ∈ ts, Img f K (Lg la t) (Lg lb t)) → Img f K (LgS la ts) (LgS lb ts)
  | [], _ => by
    rw [show LgS la [] = fun w => w = [] by funext w; rw [LgS], show LgS lb [] = fun w => w = [] by funext w; rw [LgS]]
    exact Img.nil
  | t :: ts, h => by
    rw [show LgS la (t :: ts) = fun w => ∃ u v, w = u ++ v ∧ Lg la t u ∧ LgS la ts v by funext w; rw [LgS], show LgS lb (t :: ts) = fun w => ∃ u v, w = u ++ v ∧ Lg lb t u ∧ LgS lb ts v by funext w; rw [LgS]]
    exact (h t (by simp)).seq (Img.seqs fun u hu => h u (by simp [hu]))
theorem Img.alts : ∀ {ts : List Tree}, (∀ t ∈ ts, Img f K (Lg la t) (Lg lb t)) → Img f K (LgA la ts) (LgA lb ts)
  | [], _ => by
    rw [show LgA la [] = fun _ => False by funext w; rw [LgA], show LgA lb [] = fun _ => False by funext w; rw [LgA]]
    exact Img.no
  | t :: ts, h => by
    rw [show LgA la (t :: ts) = fun w => Lg la t w ∨ LgA la ts w by funext w; rw [LgA], show LgA lb (t :: ts) = fun w => Lg lb t w ∨ LgA lb ts w by funext w; rw [LgA]]
    exact (h t (by simp)).or (Img.alts fun u hu => h u (by simp [hu]))
theorem flats_mem : ∀ {ts : List Tree} {t : Tree} {m : NodeD}, t ∈ ts → m ∈ flat t → m ∈ flats ts
  | u :: ts, t, m, ht, hm => by
    rw [flats, List.mem_append]
    rcases List.mem_cons.1 ht with rfl | ht
    · exact .inl hm
    · exact .inr (flats_mem ht hm)
theorem Img.tree (t : Tree) : (∀ m ∈ flat t, m.kind = 2 ∨ m.kind = 3 → K (la m.kind m.name) ∧ f (la m.kind m.name) = lb m.kind m.name) → Img f K (Lg la t) (Lg lb t) := by
  refine Tree.ind (p := fun t => (∀ m ∈ flat t, m.kind = 2 ∨ m.kind = 3 → K (la m.kind m.name) ∧ f (la m.kind m.name) = lb m.kind m.name) → Img f K (Lg la t) (Lg lb t)) (fun t ih => ?_) t
  intro h
  have hk : ∀ u ∈ t.kids, Img f K (Lg la u) (Lg lb u) := fun u hu => ih u hu fun m hm => h m (by rw [flat_eq]; exact List.mem_cons_of_mem _ (flats_mem hu hm))
  have hr := h ⟨t.kind, t.name, t.kids.length⟩ (by rw [flat_eq]; exact List.mem_cons_self ..)
  clear ih h
  obtain ⟨k, n, ts⟩ := t
  change ∀ u ∈ ts, _ at hk
  change k = 2 ∨ k = 3 → K (la k n) ∧ f (la k n) = lb k n at hr
  have e := fun {γ : Type} (l : Nat → List UInt8 → γ) => show Lg l (.node k n ts) = fun w => if k = 1 then w = [] else if k = 2 ∨ k = 3 then w = [l k n] else if k = 4 then LgS l ts w else if k = 5 then LgA l ts w else if k = 6 then Many (LgA l ts) w else if k = 7 then Plus (LgA l ts) w else w = [] ∨ LgA l ts w by funext w; rw [Lg]
  rw [e la, e lb]
  by_cases h1 : k = 1
  · simp only [if_pos h1]; exact Img.nil
  simp only [if_neg h1]
  by_cases h2 : k = 2 ∨ k = 3
  · simp only [if_pos h2]; exact Img.one (hr h2).1 (hr h2).2
  simp only [if_neg h2]
  by_cases h4 : k = 4
  · simp only [if_pos h4]; exact Img.seqs hk
  simp only [if_neg h4]
  by_cases h5 : k = 5
  · simp only [if_pos h5]; exact Img.alts hk
  simp only [if_neg h5]
  by_cases h6 : k = 6
  · simp only [if_pos h6]; exact (Img.alts hk).many
  simp only [if_neg h6]
  by_cases h7 : k = 7
  · simp only [if_pos h7]; exact (Img.alts hk).plus
  simp only [if_neg h7]
  exact Img.nil.or (Img.alts hk)
theorem map_inj {inj : ∀ x y, K x → K y → f x = f y → x = y} : ∀ {u v : List α}, (∀ x ∈ u, K x) → (∀ x ∈ v, K x) → u.map f = v.map f → u = v
  | [], [], _, _, _ => rfl
  | [], y :: v, _, _, h => by cases h
  | x :: u, [], _, _, h => by cases h
  | x :: u, y :: v, hu, hv, h => by
    rw [List.map_cons, List.map_cons, List.cons.injEq] at h
    rw [inj x y (hu x (by simp)) (hv y (by simp)) h.1, map_inj (inj := inj) (fun a ha => hu a (by simp [ha])) (fun a ha => hv a (by simp [ha])) h.2]
theorem Img.iff {P : List α → Prop} {Q : List β → Prop} (h : Img f K P Q) (inj : ∀ x y, K x → K y → f x = f y → x = y) {w : List α} (hw : ∀ x ∈ w, K x) : P w ↔ Q (w.map f) :=
  ⟨fun p => (h.1 w p).2, fun q => by
    obtain ⟨u, e, p⟩ := h.2 _ q
    rw [map_inj (inj := inj) hw (h.1 u p).1 e]
    exact p⟩
end
end Go.Proofs.YtbconcohpfkncaaGreat
namespace Go.Proofs.YtbconcohpfkncaaGreat
open Go
section
variable {α : Type} [DecidableEq α] {cf : α → α → Int}
omit [DecidableEq α] in theorem sortB_mem {l : List α} {x : α} : x ∈ sortB cf l ↔ x ∈ l := (List.mergeSort_perm l _).mem_iff
theorem compG_mem : ∀ (r : List α) (x y : α), y ∈ x :: compG x r ↔ y ∈ x :: r
  | [], _, _ => Iff.rfl
  | z :: r, x, y => by
    simp only [compG]
    split
    · rename_i h
      subst h
      rw [compG_mem r z y]
      simp only [List.mem_cons]
      constructor
      · rintro (h | h)
        · exact .inl h
        · exact .inr (.inr h)
      · rintro (h | h | h)
        · exact .inl h
        · exact .inl h
        · exact .inr h
    · rw [List.mem_cons, compG_mem r z y, List.mem_cons (a := y) (b := x)]
theorem compL_mem {l : List α} {y : α} : y ∈ compL l ↔ y ∈ l := by
  cases l with
  | nil => exact Iff.rfl
  | cons x r => exact compG_mem r x y
theorem compG_pair (h : TOrd cf) : ∀ (r : List α) (x : α), ((x :: r).Pairwise fun x y => ¬ cf y x < 0) → (x :: compG x r).Pairwise fun x y => cf x y < 0
  | [], _, _ => List.pairwise_singleton _ _
  | z :: r, x, hp => by
    have h1 := List.pairwise_cons.1 hp
    simp only [compG]
    split
    · rename_i e
      subst e
      exact compG_pair h r z h1.2
    · rename_i e
      have ih := compG_pair h r z h1.2
      refine List.pairwise_cons.2 ⟨fun y hy => ?_, ih⟩
      have hzx := h1.1 z (by simp)
      have a1 := h.anti x z
      have hxz : cf x z < 0 := by
        by_cases h0 : cf x z = 0
        · exact absurd (h.eq _ _ h0).symm e
        · omega
      rcases List.mem_cons.1 hy with rfl | hy
      · exact hxz
      · exact h.trans _ _ _ hxz ((List.pairwise_cons.1 ih).1 y hy)
theorem compL_pair (h : TOrd cf) (l : List α) : (compL (sortB cf l)).Pairwise fun x y => cf x y < 0 := by
  have hs : (sortB cf l).Pairwise fun x y => ¬ cf y x < 0 := by
    have := List.pairwise_mergeSort (le := fun x y => !(Go.Proofs.ltOf cf) y x) (fun a b c h1 h2 => by
      simp only [Go.Proofs.ltOf, Bool.not_eq_true', decide_eq_false_iff_not] at h1 h2 ⊢
      intro h3
      have a1 := h.anti a b
      have a2 := h.anti b c
      by_cases e1 : cf a b = 0
      · rw [h.eq a b e1] at h3; exact h2 h3
      by_cases e2 : cf b c = 0
      · rw [← h.eq b c e2] at h3; exact h1 h3
      exact h1 (h.trans b c a (by omega) h3)) (fun a b => by
      simp only [Go.Proofs.ltOf, Bool.or_eq_true, Bool.not_eq_true', decide_eq_false_iff_not]
      have := h.anti a b
      omega) l
    refine this.imp fun {a b} h1 => ?_
    simpa [Go.Proofs.ltOf] using h1
  cases hc : sortB cf l with
  | nil => exact .nil
  | cons x r => rw [hc] at hs; exact compG_pair h r x hs
end
theorem sortN_mem {l : List Nat} {x : Nat} : x ∈ sortN l ↔ x ∈ l := (List.mergeSort_perm l _).mem_iff
theorem pair_next {α : Type} {R : α → α → Prop} {l : List α} (h : l.Pairwise R) {i : Nat} {x y : α} (hx : l[i]? = some x) (hy : l[i + 1]? = some y) : R x y := by
  obtain ⟨h1, e1⟩ := List.getElem?_eq_some_iff.1 hx
  obtain ⟨h2, e2⟩ := List.getElem?_eq_some_iff.1 hy
  have := List.pairwise_iff_getElem.1 h i (i + 1) h1 h2 (by omega)
  rwa [e1, e2] at this
theorem sortN_rise {l : List Nat} (h : l.Nodup) {i x y : Nat} (hx : (sortN l)[i]? = some x) (hy : (sortN l)[i + 1]? = some y) : x < y := by
  have h1 : (sortN l).Pairwise fun a b => a ≤ b := by
    have := List.pairwise_mergeSort (le := fun (x y : Nat) => decide (x ≤ y)) (fun a b c h1 h2 => by simp only [decide_eq_true_eq] at *; omega) (fun a b => by simp only [Bool.or_eq_true, decide_eq_true_eq]; omega) l
    exact this.imp fun {a b} h => of_decide_eq_true h
  have h2 : (sortN l).Nodup := (List.mergeSort_perm l _).nodup_iff.2 h
  have a1 := pair_next h1 hx hy
  have a2 : x ≠ y := pair_next h2 hx hy
  omega
/-! ## Ways -/
theorem stepA_iff {xs : List ArD} {s : SyD} {a : Nat → Bool} {q : Nat} : stepA xs s a q = true ↔ ∃ x ∈ xs, a x.src = true ∧ x.sym = s ∧ x.dst = q := by
  unfold stepA
  rw [List.any_eq_true]
  constructor
  · rintro ⟨x, h1, h2⟩
    rw [Bool.and_eq_true, Bool.and_eq_true] at h2
    exact ⟨x, h1, h2.1.1, of_decide_eq_true h2.1.2, of_decide_eq_true h2.2⟩
  · rintro ⟨x, h1, h2, h3, h4⟩
    exact ⟨x, h1, by rw [h2, decide_eq_true h3, decide_eq_true h4]; rfl⟩
theorem runA_iff {xs : List ArD} : ∀ (w : List SyD) (a : Nat → Bool) (q : Nat), runA xs w a q = true ↔ ∃ p, a p = true ∧ Pth xs p w q
  | [], a, q => ⟨fun h => ⟨q, h, rfl⟩, fun ⟨p, h, e⟩ => by cases e; exact h⟩
  | s :: w, a, q => by
    have ih := runA_iff (xs := xs) w (stepA xs s a) q
    rw [show runA xs (s :: w) a = runA xs w (stepA xs s a) by unfold runA; rfl, ih]
    constructor
    · rintro ⟨p, h, k⟩
      obtain ⟨x, h1, h2, h3, h4⟩ := stepA_iff.1 h
      exact ⟨x.src, h2, x, h1, rfl, h3, by rw [h4]; exact k⟩
    · rintro ⟨p, h, x, h1, h2, h3, h4⟩
      exact ⟨x.dst, stepA_iff.2 ⟨x, h1, by rw [h2]; exact h, h3, rfl⟩, h4⟩
theorem pth_congr {A B : List ArD} (h : ∀ x, x ∈ A ↔ x ∈ B) {u : List SyD} {p q : Nat} : Pth A p u q ↔ Pth B p u q := ⟨pth_sub fun x hx => (h x).1 hx, pth_sub fun x hx => (h x).2 hx⟩
/-- With arcs from the state ahead of all to the beginnings: what is taken from there. -/
theorem acc_front {S : List SyD} {hi : Nat} {A : List ArD} {pt : PtD} (h : GOK S 0 hi A pt) (w : List SyD) : Acc S A pt w ↔ ∃ q, (q ∈ pt.last ∨ (q = 0 ∧ pt.emp = true)) ∧ Pth (A ++ joinA S [0] pt.first) 0 w q := by
  have stay : ∀ (u : List SyD) (p q : Nat), 0 < p → Pth (A ++ joinA S [0] pt.first) p u q → Pth A p u q ∧ 0 < q := by
    intro u
    induction u with
    | nil => rintro p q hp rfl; exact ⟨rfl, hp⟩
    | cons s u ih =>
      rintro p q hp ⟨x, h1, h2, h3, h4⟩
      rcases List.mem_append.1 h1 with h1 | h1
      · have := h.arc x h1
        obtain ⟨a, b⟩ := ih x.dst q this.2.1.1 h4
        exact ⟨⟨x, h1, h2, h3, a⟩, b⟩
      · have := (mem_join.1 h1).1
        rw [List.mem_singleton] at this
        omega
  constructor
  · rintro (⟨rfl, he⟩ | ⟨f, hf, l, hl, v, rfl, hp⟩)
    · exact ⟨0, .inr ⟨rfl, he⟩, rfl⟩
    · exact ⟨l, .inl hl, ⟨0, symAt S f, f⟩, List.mem_append.2 (.inr (mem_join.2 ⟨List.mem_singleton.2 rfl, hf, rfl⟩)), rfl, rfl, pth_sub (fun x hx => List.mem_append.2 (.inl hx)) hp⟩
  · rintro ⟨q, hq, hp⟩
    cases w with
    | nil =>
      have hp : 0 = q := hp
      subst hp
      rcases hq with hq | hq
      · have := h.lst 0 hq; omega
      · exact .inl ⟨rfl, hq.2⟩
    | cons s v =>
      obtain ⟨x, h1, h2, h3, h4⟩ := hp
      rcases List.mem_append.1 h1 with h1 | h1
      · have := h.arc x h1; omega
      · obtain ⟨j1, j2, j3⟩ := mem_join.1 h1
        have := h.fst _ j2
        obtain ⟨a, b⟩ := stay v x.dst q this.1 h4
        rcases hq with hq | hq
        · exact .inr ⟨x.dst, j2, q, hq, v, by rw [← h3, j3], a⟩
        · omega
section
variable {leaf : Nat → List UInt8 → SyD} {ts : List Tree}
theorem box_gok (hok : ∀ t ∈ ts, okT t = true) : (boxG leaf ts).2.1.length = leavesTs ts ∧ GOK (boxG leaf ts).2.1 0 (leavesTs ts) (boxG leaf ts).2.2 (boxG leaf ts).1 ∧ ∀ w, LgA leaf ts w ↔ Acc (boxG leaf ts).2.1 (boxG leaf ts).2.2 (boxG leaf ts).1 w := by
  obtain ⟨ext, new, h1, h2, h3⟩ := gluK_alt (leaf := leaf) (k := 5) (by decide) ts (fun t ht st => glu_tree t (hok t ht) st) ⟨false, [], []⟩ (fun _ => False) [] [] ([], []) 0 rfl (fun S r hS => none_ok)
  obtain ⟨h4, h5⟩ := h3 ext [] (by rw [List.append_nil]; rfl)
  have e : (boxG leaf ts).2 = (ext, new) := h1
  rw [e]
  dsimp only
  refine ⟨h2, ?_, fun w => ?_⟩
  · have := h4
    rw [List.nil_append, show (([], []) : GSt).1.length + leavesTs ts = leavesTs ts from Nat.zero_add _] at this
    exact this
  · have := h5 w
    rw [List.nil_append, false_or] at this
    exact this
theorem arcs_mem {x : ArD} : x ∈ boxArcs leaf ts ↔ x ∈ (boxG leaf ts).2.2 ++ joinA (boxG leaf ts).2.1 [0] (boxG leaf ts).1.first := by
  unfold boxArcs
  rw [compL_mem, sortB_mem]
theorem fins_mem {q : Nat} : q ∈ boxFins leaf ts ↔ q ∈ (boxG leaf ts).1.last ∨ (q = 0 ∧ (boxG leaf ts).1.emp = true) := by
  unfold boxFins
  rw [sortN_mem, List.mem_append]
  refine or_congr Iff.rfl ?_
  split
  · rename_i h; rw [List.mem_singleton]; exact ⟨fun e => ⟨e, h⟩, fun e => e.1⟩
  · rename_i h; exact ⟨fun e => (by cases e), fun e => absurd e.2 h⟩
/-- The box takes just the words of the bodies. -/
theorem box_takes (hok : ∀ t ∈ ts, okT t = true) (w : List SyD) : ((boxFins leaf ts).any (runA (boxArcs leaf ts) w fun q => decide (q = 0))) = true ↔ LgA leaf ts w := by
  obtain ⟨_, h2, h3⟩ := box_gok (leaf := leaf) hok
  rw [h3, acc_front h2, List.any_eq_true]
  constructor
  · rintro ⟨q, h4, h5⟩
    obtain ⟨p, h6, h7⟩ := (runA_iff _ _ _).1 h5
    rw [of_decide_eq_true h6] at h7
    exact ⟨q, fins_mem.1 h4, (pth_congr fun x => arcs_mem).1 h7⟩
  · rintro ⟨q, h4, h5⟩
    exact ⟨q, fins_mem.2 h4, (runA_iff _ _ _).2 ⟨0, decide_eq_true rfl, (pth_congr fun x => arcs_mem).2 h5⟩⟩
theorem box_ok (hok : ∀ t ∈ ts, okT t = true) (h64 : leavesTs ts ≤ 64) : AutoOK ((boxG leaf ts).2.1.length + 1) (boxFins leaf ts) (boxArcs leaf ts) := by
  obtain ⟨h1, h2, _⟩ := box_gok (leaf := leaf) hok
  rw [h1]
  refine ⟨by omega, by omega, fun q hq => ?_, fun i x y hx hy => ?_, fun x hx => ?_, fun i x y hx hy => ?_⟩
  · rcases fins_mem.1 hq with h | h
    · have := h2.lst q h; omega
    · omega
  · unfold boxFins at hx hy
    refine sortN_rise ?_ hx hy
    split
    · refine List.nodup_append.2 ⟨h2.nl, by simp, fun a ha b hb e => ?_⟩
      have := h2.lst a ha
      rw [List.mem_singleton] at hb
      omega
    · rw [List.append_nil]; exact h2.nl
  · rcases List.mem_append.1 (arcs_mem.1 hx) with h | h
    · have := h2.arc x h; omega
    · obtain ⟨j1, j2, _⟩ := mem_join.1 h
      have := h2.fst _ j2
      rw [List.mem_singleton] at j1
      omega
  · unfold boxArcs at hx hy
    exact pair_next (compL_pair orderA_ord _) hx hy
end
end Go.Proofs.YtbconcohpfkncaaGreat
namespace Go.Proofs.YtbconcohpfkncaaGreat
open Go
section
variable (leaf : Nat → List UInt8 → SyD)
theorem join_cap {S : List SyD} {a b : List Nat} (ha : a.length ≤ 64) (hb : b.length ≤ 64) : (joinA S a b).length ≤ 4096 := by
  rw [joinA_len]; exact Nat.mul_le_mul ha hb
mutual
theorem gluT_A : ∀ (t : Tree) (st : GSt), (gluT leaf t st).2.1.length ≤ 64 → (gluT leaf t st).2.2.length + 4096 ≤ st.2.length + (flat t).length * 8192
  | .node k n ts, st, h64 => by
    have h := gluK_A k ts ⟨decide (k = 1) || decide (k = 4), [], []⟩ st st.1.length PtB.nil
    have hB := gluK_B leaf k ts ⟨decide (k = 1) || decide (k = 4), [], []⟩ st st.1.length PtB.nil
    rw [flat, List.length_cons]
    rw [gluT] at h64 ⊢
    by_cases h23 : k = 2 ∨ k = 3
    · rw [if_pos h23]
      show st.2.length + 4096 ≤ _
      omega
    · rw [if_neg h23] at h64 ⊢
      generalize gluK leaf k ts ⟨decide (k = 1) || decide (k = 4), [], []⟩ st = x at *
      obtain ⟨p, s, a⟩ := x
      dsimp only at h hB h64 ⊢
      by_cases h67 : k = 6 ∨ k = 7
      · rw [if_pos h67] at h64 ⊢
        dsimp only at h64 ⊢
        have h := h h64
        have b1 := hB.1.nf; have b2 := hB.1.nl
        have := join_cap (S := s) (a := p.last) (b := p.first) (by omega) (by omega)
        rw [List.length_append]
        omega
      · rw [if_neg h67] at h64 ⊢
        have h := h h64
        dsimp only
        omega
theorem gluK_A (k : Nat) : ∀ (ts : List Tree) (out : PtD) (st : GSt) (lo : Nat), PtB lo st.1.length out → (gluK leaf k ts out st).2.1.length ≤ 64 → (gluK leaf k ts out st).2.2.length ≤ st.2.length + (flats ts).length * 8192
  | [], out, st, lo, h, h64 => by rw [gluK, flats]; exact Nat.le_add_right _ _
  | t :: ts, out, st, lo, h, h64 => by
    obtain ⟨h1, h2⟩ := gluT_B leaf t st
    have hT := gluT_A t st
    have h0 := h1.le
    rw [flats, List.length_append]
    rw [gluK] at h64 ⊢
    by_cases h4 : k = 4
    · rw [if_pos h4] at h64 ⊢
      obtain ⟨_, h5, _⟩ := gluK_B leaf k ts (seqP out (gluT leaf t st).1) ((gluT leaf t st).2.1, (gluT leaf t st).2.2 ++ joinA (gluT leaf t st).2.1 out.last (gluT leaf t st).1.first) lo (h.seq h1)
      have h3 := gluK_A k ts (seqP out (gluT leaf t st).1) ((gluT leaf t st).2.1, (gluT leaf t st).2.2 ++ joinA (gluT leaf t st).2.1 out.last (gluT leaf t st).1.first) lo (h.seq h1) h64
      dsimp only at h5 h3
      have hT := hT (by omega)
      have b1 := h.nl; have b2 := h1.nf
      have := join_cap (S := (gluT leaf t st).2.1) (a := out.last) (b := (gluT leaf t st).1.first) (by omega) (by omega)
      rw [List.length_append] at h3
      omega
    · rw [if_neg h4] at h64 ⊢
      obtain ⟨_, h5, _⟩ := gluK_B leaf k ts (altP out (gluT leaf t st).1) (gluT leaf t st).2 lo (h.alt h1)
      have h3 := gluK_A k ts (altP out (gluT leaf t st).1) (gluT leaf t st).2 lo (h.alt h1) h64
      have hT := hT (by omega)
      omega
end
end
end Go.Proofs.YtbconcohpfkncaaGreat
namespace Go.Proofs.YtbconcohpfkncaaGreat
open Go
/-! ## Occurrences -/
def leafK (m : NodeD) : Bool := decide (m.kind = 2 ∨ m.kind = 3)
theorem namesL_cnt : ∀ (i : Nat) (l : List NodeD), (namesL i l).length = (l.filter leafK).length
  | _, [] => rfl
  | i, m :: r => by
    have ih := namesL_cnt (i + 1) r
    unfold namesL
    rw [List.filter_cons]
    by_cases h : m.kind = 2 ∨ m.kind = 3
    · rw [if_pos h, if_pos (show leafK m = true from decide_eq_true h), List.length_cons, List.length_cons, ih]
    · rw [if_neg h, if_neg (show ¬ leafK m = true by unfold leafK; rw [decide_eq_true_eq]; exact h), ih]
theorem occF_app (a b : List NodeD) : occF (a ++ b) = occF a + occF b := by
  unfold occF
  rw [namesL_cnt, namesL_cnt, namesL_cnt, List.filter_append, List.length_append]
theorem occF_cons (m : NodeD) (r : List NodeD) : occF (m :: r) = (if m.kind = 2 ∨ m.kind = 3 then 1 else 0) + occF r := by
  unfold occF
  rw [namesL_cnt, namesL_cnt, List.filter_cons]
  by_cases h : m.kind = 2 ∨ m.kind = 3
  · rw [if_pos h, if_pos (show leafK m = true from decide_eq_true h), List.length_cons, Nat.add_comm]
  · rw [if_neg h, if_neg (show ¬ leafK m = true by unfold leafK; rw [decide_eq_true_eq]; exact h), Nat.zero_add]
mutual
theorem leaves_occ : ∀ t : Tree, okT t = true → leavesT t = occF (flat t)
  | .node k n ts, h => by
    rw [okT, Bool.and_eq_true] at h
    rw [leavesT, flat, occF_cons]
    by_cases h2 : k = 2 ∨ k = 3
    · rw [if_pos h2, if_pos h2]
      have h0 : ts = [] := by
        rcases mayN_cases h.1 with ⟨e, _, c⟩ | ⟨e, c, _⟩ | ⟨e, c, _⟩ | ⟨e, _, c⟩ | ⟨e, _, c⟩
        · exact List.length_eq_zero_iff.1 c
        · exact List.length_eq_zero_iff.1 c
        · exact List.length_eq_zero_iff.1 c
        · have e : k = 4 ∨ k = 5 := e; omega
        · have e : k = 6 ∨ k = 7 ∨ k = 8 := e; omega
      subst h0
      rw [flats]; rfl
    · rw [if_neg h2, if_neg h2, Nat.zero_add]
      exact leaves_occs ts h.2
theorem leaves_occs : ∀ ts : List Tree, okTs ts = true → leavesTs ts = occF (flats ts)
  | [], _ => by rw [leavesTs, flats]; rfl
  | t :: ts, h => by
    rw [okTs, Bool.and_eq_true] at h
    rw [leavesTs, flats, occF_app, leaves_occ t h.1, leaves_occs ts h.2]
end
theorem flat_may (t : Tree) : okT t = true → ∀ m ∈ flat t, mayN m = true := by
  refine Tree.ind (p := fun t => okT t = true → ∀ m ∈ flat t, mayN m = true) (fun t ih => ?_) t
  intro h m hm
  rw [okT_eq, Bool.and_eq_true] at h
  rw [flat_eq] at hm
  rcases List.mem_cons.1 hm with rfl | hm
  · exact h.1
  · have : ∀ ts : List Tree, (∀ u ∈ ts, ∀ m ∈ flat u, mayN m = true) → ∀ m ∈ flats ts, mayN m = true := by
      intro ts
      induction ts with
      | nil => intro _ m hm; rw [flats] at hm; cases hm
      | cons u us ihu =>
        intro hu m hm
        rw [flats, List.mem_append] at hm
        rcases hm with hm | hm
        · exact hu u (by simp) m hm
        · exact ihu (fun x hx => hu x (by simp [hx])) m hm
    exact this t.kids (fun u hu => ih u hu (okTs_mem h.2 hu)) m hm
/-! ## Grammars that may be -/
theorem headed_up {n : List UInt8} (h : headedF n = true) : namedF n upperB = true := by
  unfold headedF at h
  obtain ⟨_, t, h1, h2, _⟩ := checkF_ok (of_decide_eq_true h)
  rw [okT_eq, Bool.and_eq_true] at h2
  rw [flat_eq] at h1
  injection h1 with h1 _
  rw [h1] at h2
  have := h2.1
  unfold mayN at this
  simpa using this
structure GramOK (g : List RuleD) : Prop where
  len : 0 < g.length ∧ g.length ≤ 64
  head : ∀ r ∈ g, namedF r.head upperB = true
  body : ∀ r ∈ g, checkF r.body = 0
  nts : (headsF g).length ≤ 16
  lbl : (namesF g 3).length ≤ 16
  occ : occG g ≤ 64
  miss : missF g = 0
theorem gram_ok {g : List RuleD} (h : checkG g = 0) : GramOK g := by
  unfold checkG quesF at h
  rw [firstE_cons] at h
  split at h
  · cases h
  rename_i a1
  rw [firstE_cons] at h
  split at h
  · cases h
  rename_i a2
  rw [firstE_cons] at h
  split at h
  · cases h
  rename_i a3
  rw [firstE_cons] at h
  split at h
  · cases h
  rename_i a4
  rw [firstE_cons] at h
  split at h
  · cases h
  rename_i a5
  rw [firstE_cons] at h
  split at h
  · cases h
  rw [firstE_cons] at h
  split at h
  · cases h
  rename_i a7
  rw [firstE_cons] at h
  split at h
  · cases h
  rename_i a8
  have a8 : (textGF g).2 = true := by simpa using a8
  simp only [Bool.or_eq_true, decide_eq_true_eq, not_or] at a1 a3 a4 a5 a7
  unfold textGF at a8
  split at a8
  · rename_i hok
    unfold okG at hok
    rw [List.all_eq_true] at hok
    refine ⟨by omega, fun r hr => ?_, fun r hr => of_decide_eq_true (hok r hr), by omega, by omega, by omega, by omega⟩
    have hbad : badR r = false := by
      cases hb : badR r with
      | false => rfl
      | true => exact absurd (List.any_eq_true.2 ⟨r, hr, hb⟩) a2
    unfold badR at hbad
    rw [Bool.or_eq_false_iff] at hbad
    exact headed_up (by simpa using hbad.1)
  · cases a8
theorem GramOK.tree {g : List RuleD} (h : GramOK g) {r : RuleD} (hr : r ∈ g) : okT (treeL r.body) = true ∧ flat (treeL r.body) = r.body ∧ ¬ 2048 < r.body.length := by
  obtain ⟨h1, t, h2, h3, _⟩ := checkF_ok (h.body r hr)
  rw [← h2, treeL_flat]
  exact ⟨h3, rfl, by rw [h2]; exact h1⟩
/-! ## Places of names -/
theorem posS_some {s : List UInt8} : ∀ {l : List (List UInt8)} {j : Nat}, posS l s = some j → l[j]? = some s
  | [], j, h => by cases h
  | x :: l, j, h => by
    change (if s = x then some 0 else (posS l s).map (· + 1)) = some j at h
    by_cases e : s = x
    · rw [if_pos e] at h; cases h; rw [e]; rfl
    · rw [if_neg e] at h
      cases hp : posS l s with
      | none => rw [hp] at h; cases h
      | some k => rw [hp] at h; cases h; show l[k]? = some s; exact posS_some hp
theorem posS_has {s : List UInt8} {l : List (List UInt8)} (h : s ∈ l) : ∃ j, posS l s = some j := by
  induction l with
  | nil => cases h
  | cons x l ih =>
    show ∃ j, (if s = x then some 0 else (posS l s).map (· + 1)) = some j
    by_cases e : s = x
    · exact ⟨0, if_pos e⟩
    · rw [if_neg e]
      obtain ⟨j, hj⟩ := ih ((List.mem_cons.1 h).resolve_left e)
      exact ⟨j + 1, by rw [hj]; rfl⟩
/-- A text as a symbol. -/
def wsym (ns ls : List (List UInt8)) (s : List UInt8) : SyD := match posS ns s with
  | some j => ⟨false, j⟩
  | none => match posS ls s with
    | some j => ⟨true, j⟩
    | none => ⟨false, 0⟩
theorem wsym_inj {ns ls : List (List UInt8)} (x y : List UInt8) (hx : x ∈ ns ∨ x ∈ ls) (hy : y ∈ ns ∨ y ∈ ls) (h : wsym ns ls x = wsym ns ls y) : x = y := by
  unfold wsym at h
  cases px : posS ns x with
  | some j =>
    rw [px] at h
    cases py : posS ns y with
    | some k =>
      rw [py] at h
      cases h
      exact Option.some.inj ((posS_some px).symm.trans (posS_some py))
    | none =>
      rw [py] at h
      have hy2 : y ∈ ls := hy.resolve_left fun e => by obtain ⟨k, hk⟩ := posS_has e; rw [py] at hk; cases hk
      obtain ⟨k, hk⟩ := posS_has hy2
      rw [hk] at h
      cases h
  | none =>
    have hx2 : x ∈ ls := hx.resolve_left fun e => by obtain ⟨k, hk⟩ := posS_has e; rw [px] at hk; cases hk
    obtain ⟨j, hj⟩ := posS_has hx2
    rw [px, hj] at h
    cases py : posS ns y with
    | some k => rw [py] at h; cases h
    | none =>
      rw [py] at h
      have hy2 : y ∈ ls := hy.resolve_left fun e => by obtain ⟨k, hk⟩ := posS_has e; rw [py] at hk; cases hk
      obtain ⟨k, hk⟩ := posS_has hy2
      rw [hk] at h
      cases h
      exact Option.some.inj ((posS_some hj).symm.trans (posS_some hk))
/-! ## A grammar's names and labels -/
structure TabOK (g : List RuleD) (ns ls : List (List UInt8)) : Prop where
  gr : GramOK g
  hd : ns = headsF g
  nd : ns.Nodup
  ld : ls.Nodup
  nts : ∀ r ∈ g, ∀ m ∈ r.body, m.kind = 2 → m.name ∈ ns
  lbs : ∀ r ∈ g, ∀ m ∈ r.body, m.kind = 3 → m.name ∈ ls
  lbe : ∀ s ∈ ls, ∃ r ∈ g, ∃ m ∈ r.body, m.kind = 3 ∧ m.name = s
  up : ∀ s ∈ ns, namedF s upperB = true
  low : ∀ s ∈ ls, namedF s lowerB = true
  ll : ls.length ≤ 16
theorem up_low {s : List UInt8} (h : namedF s upperB = true) (k : namedF s lowerB = true) : False := by
  unfold namedF at h k
  cases s with
  | nil => cases h
  | cons b r =>
    simp only [Bool.and_eq_true] at h k
    have h1 := h.2.1
    have h2 := k.2.1
    unfold upperB at h1
    unfold lowerB at h2
    rw [Bool.and_eq_true, decide_eq_true_eq, decide_eq_true_eq] at h1 h2
    omega
theorem TabOK.apart {g : List RuleD} {ns ls : List (List UInt8)} (h : TabOK g ns ls) {s : List UInt8} (h1 : s ∈ ns) (h2 : s ∈ ls) : False := up_low (h.up s h1) (h.low s h2)
theorem tab_ok {g : List RuleD} (h : checkG g = 0) {ss : List (List UInt8)} (hs : FinK (namesF g 3) ss) : TabOK g (headsF g) (sortL ss) := by
  have hg := gram_ok h
  obtain ⟨h1, h2⟩ := heads_ok g
  have hl : ∀ s, s ∈ sortL ss ↔ ∃ r ∈ g, ∃ m ∈ r.body, m.kind = 3 ∧ m.name = s := fun s => by
    rw [mem_sortL, hs.2, (names_ok g 3).2]
  have hlen := hist_len hs.1 fun k hk => (hs.2 k).1 hk
  refine ⟨hg, rfl, h1, sortL_nodup hs.1, fun r hr m hm hk => ?_, fun r hr m hm hk => (hl _).2 ⟨r, hr, m, hm, hk, rfl⟩, fun s hsm => (hl s).1 hsm, fun s hsm => ?_, fun s hsm => ?_, ?_⟩
  · obtain ⟨x, hx, e⟩ := miss_ok hg.miss hr hm hk
    rw [← e]
    exact (h2 _).2 ⟨x, hx, rfl⟩
  · obtain ⟨r, hr, e⟩ := (h2 s).1 hsm
    rw [← e]
    exact hg.head r hr
  · obtain ⟨r, hr, m, hm, hk, e⟩ := (hl s).1 hsm
    obtain ⟨t1, t2, _⟩ := hg.tree hr
    have := flat_may _ t1 m (by rw [t2]; exact hm)
    unfold mayN at this
    rw [if_neg (by omega), if_neg (by omega), if_pos hk, Bool.and_eq_true] at this
    rw [← e]
    exact this.2
  · have := hg.lbl
    rw [List.length_mergeSort]
    omega
/-- The trees of a head's bodies. -/
def treesG (head : List UInt8) (g : List RuleD) : List Tree := (bodiesG head g).map treeL
section
variable {g : List RuleD} {ns ls : List (List UInt8)}
theorem bodies_mem {head : List UInt8} {b : List NodeD} (h : b ∈ bodiesG head g) : ∃ r ∈ g, r.head = head ∧ r.body = b := by
  unfold bodiesG at h
  obtain ⟨r, hr, e⟩ := List.mem_map.1 h
  rw [List.mem_filter] at hr
  exact ⟨r, hr.1, of_decide_eq_true hr.2, e⟩
theorem trees_mem (h : TabOK g ns ls) {head : List UInt8} {t : Tree} (ht : t ∈ treesG head g) : ∃ r ∈ g, r.head = head ∧ flat t = r.body ∧ okT t = true := by
  unfold treesG at ht
  obtain ⟨b, hb, rfl⟩ := List.mem_map.1 ht
  obtain ⟨r, hr, h1, rfl⟩ := bodies_mem hb
  obtain ⟨t1, t2, _⟩ := h.gr.tree hr
  exact ⟨r, hr, h1, t2, t1⟩
theorem trees_flat (h : TabOK g ns ls) (head : List UInt8) : (treesG head g).map flat = bodiesG head g := by
  unfold treesG
  rw [List.map_map]
  conv => rhs; rw [← List.map_id (bodiesG head g)]
  refine List.map_congr_left fun b hb => ?_
  obtain ⟨r, hr, _, rfl⟩ := bodies_mem hb
  exact (h.gr.tree hr).2.1
theorem sum_filter {α : Type} (f : α → Nat) (p : α → Bool) : ∀ l : List α, ((l.filter p).map f).sum ≤ (l.map f).sum
  | [] => Nat.le_refl _
  | x :: l => by
    have := sum_filter f p l
    rw [List.filter_cons]
    split
    · rw [List.map_cons, List.map_cons, List.sum_cons, List.sum_cons]; omega
    · rw [List.map_cons, List.sum_cons]; omega
theorem occG_sum (g : List RuleD) : occG g = (g.map fun r => occF r.body).sum := by
  have : ∀ (l : List RuleD) (n : Nat), l.foldl (fun n r => n + occF r.body) n = n + (l.map fun r => occF r.body).sum := by
    intro l
    induction l with
    | nil => intro n; rfl
    | cons r l ih => intro n; rw [List.foldl_cons, ih, List.map_cons, List.sum_cons, Nat.add_assoc]
  unfold occG
  rw [this, Nat.zero_add]
theorem trees_occ (h : TabOK g ns ls) (head : List UInt8) : occT (treesG head g) ≤ 64 := by
  have h1 : occT (treesG head g) = ((bodiesG head g).map occF).sum := by
    unfold occT
    rw [← trees_flat h head, List.map_map]
    rfl
  have h2 := sum_filter (fun r => occF (RuleD.body r)) (fun r => decide (r.head = head)) g
  have h3 := occG_sum g
  have h4 := h.gr.occ
  rw [h1]
  unfold bodiesG
  rw [List.map_map]
  exact Nat.le_trans h2 (by omega)
theorem trees_leaves (h : TabOK g ns ls) (head : List UInt8) : leavesTs (treesG head g) = occT (treesG head g) := by
  have : ∀ ts : List Tree, (∀ t ∈ ts, okT t = true) → leavesTs ts = occT ts := by
    intro ts
    induction ts with
    | nil => intro _; rw [leavesTs]; rfl
    | cons t ts ih =>
      intro ht
      rw [leavesTs, ih fun u hu => ht u (by simp [hu]), leaves_occ t (ht t (by simp))]
      unfold occT
      rw [List.map_cons, List.sum_cons]
  exact this _ fun t ht => let ⟨_, _, _, _, e⟩ := trees_mem h ht; e
theorem numberF_has {b : Bool} {s : List UInt8} (h : s ∈ (if b = true then ls else ns)) : ∃ j, posS (if b = true then ls else ns) s = some j ∧ numberF ns ls b s = (j, 0) := by
  obtain ⟨j, hj⟩ := posS_has h
  exact ⟨j, hj, by unfold numberF; rw [hj]⟩
/-- A leaf's symbol is its name's. -/
theorem leaf_sym (h : TabOK g ns ls) {r : RuleD} (hr : r ∈ g) {m : NodeD} (hm : m ∈ r.body) (hk : m.kind = 2 ∨ m.kind = 3) : (m.name ∈ ns ∨ m.name ∈ ls) ∧ wsym ns ls m.name = leafF ns ls m.kind m.name := by
  rcases hk with hk | hk
  · have hn := h.nts r hr m hm hk
    refine ⟨.inl hn, ?_⟩
    obtain ⟨j, h1, h2⟩ := numberF_has (b := false) (ns := ns) (ls := ls) (s := m.name) hn
    unfold leafF symN wsym
    rw [if_neg (by show ¬ m.kind = 3; omega), if_pos hk, h2, if_pos rfl]
    rw [if_neg (by decide)] at h1
    rw [h1]
  · have hl := h.lbs r hr m hm hk
    refine ⟨.inr hl, ?_⟩
    obtain ⟨j, h1, h2⟩ := numberF_has (b := true) (ns := ns) (ls := ls) (s := m.name) hl
    unfold leafF symN wsym
    rw [if_pos hk, h2, if_pos rfl]
    rw [if_pos rfl] at h1
    rw [posS_none fun e => h.apart e hl, h1]
theorem sym_there (h : TabOK g ns ls) {r : RuleD} (hr : r ∈ g) {m : NodeD} (hm : m ∈ r.body) : (symN ns ls m).2 ≠ 4 := by
  unfold symN
  by_cases h3 : m.kind = 3
  · obtain ⟨j, h1, h2⟩ := numberF_has (b := true) (ns := ns) (ls := ls) (s := m.name) (h.lbs r hr m hm h3)
    rw [if_pos h3, h2, if_pos rfl]; exact Nat.noConfusion
  · rw [if_neg h3]
    by_cases h2 : m.kind = 2
    · obtain ⟨j, h1, h2'⟩ := numberF_has (b := false) (ns := ns) (ls := ls) (s := m.name) (h.nts r hr m hm h2)
      rw [if_pos h2, h2', if_pos rfl]; exact Nat.noConfusion
    · rw [if_neg h2]; decide
theorem trees_img (h : TabOK g ns ls) (head : List UInt8) : Img (wsym ns ls) (fun s => s ∈ ns ∨ s ∈ ls) (LgA nm (treesG head g)) (LgA (leafF ns ls) (treesG head g)) :=
  Img.alts fun t ht => Img.tree t fun m hm hk => by
    obtain ⟨r, hr, _, e, _⟩ := trees_mem h ht
    exact leaf_sym h hr (by rw [← e]; exact hm) hk
theorem trees_arcs (h : TabOK g ns ls) (head : List UInt8) : ¬ 1024 < (boxG (leafF ns ls) (treesG head g)).2.1.length ∧ ¬ 2147483648 < (boxG (leafF ns ls) (treesG head g)).2.2.length := by
  have hl := (box_gok (leaf := leafF ns ls) (ts := treesG head g) fun t ht => let ⟨_, _, _, _, e⟩ := trees_mem h ht; e).1
  rw [trees_leaves h] at hl
  have h64 := trees_occ h head
  refine ⟨by omega, ?_⟩
  have hA := gluK_A (leafF ns ls) 5 (treesG head g) ⟨false, [], []⟩ ([], []) 0 PtB.nil (by unfold boxG at hl; omega)
  have hfl : (flats (treesG head g)).length ≤ 64 * 2048 := by
    have : ∀ (l : List RuleD), (∀ r ∈ l, r ∈ g) → (flats ((l.map RuleD.body).map treeL)).length ≤ l.length * 2048 := by
      intro l
      induction l with
      | nil => intro _; rw [List.map_nil, List.map_nil, flats]; exact Nat.le_refl _
      | cons r l ih =>
        intro hr
        have h1 := ih fun x hx => hr x (by simp [hx])
        obtain ⟨_, t2, t3⟩ := h.gr.tree (hr r (by simp))
        rw [List.map_cons, List.map_cons, flats, List.length_append, t2, List.length_cons]
        omega
    have h1 := this (g.filter fun r => decide (r.head = head)) fun r hr => (List.mem_filter.1 hr).1
    have h2 := List.length_filter_le (fun r => decide (RuleD.head r = head)) g
    have h3 := h.gr.len
    unfold treesG bodiesG
    exact Nat.le_trans h1 (Nat.mul_le_mul_right _ (by omega))
  unfold boxG
  rw [show (([], []) : GSt).2.length = 0 from rfl, Nat.zero_add] at hA
  generalize (flats (treesG head g)).length = x at *
  generalize (gluK (leafF ns ls) 5 (treesG head g) ⟨false, [], []⟩ ([], [])).2.2.length = y at *
  clear hl h64
  omega
end
end Go.Proofs.YtbconcohpfkncaaGreat
namespace Go.Proofs.YtbconcohpfkncaaGreat
open Go
/-- A box, and its first state. -/
structure PaD where
  n : Nat
  fins : List Nat
  arcs : List ArD
  first : Nat
abbrev paVs (p : PaD) (vf va : Value) : List Value := [i64 (p.n : Nat), vf, va, i64 (p.first : Nat)]
/-- Boxes' cells; what they lead to is readable in z. -/
def PartsR (z : HP) (cells : List Value) (ps : List PaD) : Prop := cells.length = ps.length * 4 ∧ ∀ (i : Nat) (p : PaD), ps[i]? = some p → ∃ vf va, NatsR z vf p.fins ∧ ArsR z va p.arcs ∧ ∀ j u, (paVs p vf va)[j]? = some u → cells[i * 4 + j]? = some u
theorem PartsR.nil (z : HP) : PartsR z [] [] := ⟨rfl, fun i b h => by simp at h⟩
theorem PartsR.sup {z z' : HP} (hs : Sup z z') {cells : List Value} {ps : List PaD} (h : PartsR z cells ps) : PartsR z' cells ps := ⟨h.1, fun i p hp => let ⟨vf, va, h1, h2, h3⟩ := h.2 i p hp; ⟨vf, va, h1.sup hs, h2.sup hs, h3⟩⟩
theorem PartsR.snoc {z : HP} {cells : List Value} {ps : List PaD} {p : PaD} {vf va : Value} (h : PartsR z cells ps) (h1 : NatsR z vf p.fins) (h2 : ArsR z va p.arcs) : PartsR z (cells ++ paVs p vf va) (ps ++ [p]) := by
  refine ⟨by rw [List.length_append, List.length_append, h.1, Nat.add_mul]; rfl, fun i c hc => ?_⟩
  by_cases hi : i < ps.length
  · rw [List.getElem?_append_left hi] at hc
    obtain ⟨uf, ua, k1, k2, k3⟩ := h.2 i c hc
    refine ⟨uf, ua, k1, k2, fun j u hu => ?_⟩
    have hj : j < 4 := (List.getElem?_eq_some_iff.1 hu).1
    rw [List.getElem?_append_left (by rw [h.1]; omega)]
    exact k3 j u hu
  · rw [List.getElem?_append_right (by omega)] at hc
    have : i - ps.length = 0 := by
      have := (List.getElem?_eq_some_iff.1 hc).1
      simp at this
      omega
    rw [this] at hc
    cases hc
    refine ⟨vf, va, h1, h2, fun j u hu => ?_⟩
    rw [List.getElem?_append_right (by rw [h.1]; omega), h.1, show i * 4 + j - ps.length * 4 = j by omega]
    exact hu
theorem PartsR.one {z : HP} {cells : List Value} {ps : List PaD} (h : PartsR z cells ps) : ∀ w ∈ cells, w.oneCell' = true := by
  intro w hw
  obtain ⟨i, hi⟩ := List.getElem?_of_mem hw
  have hl := (List.getElem?_eq_some_iff.1 hi).1
  rw [h.1] at hl
  obtain ⟨vf, va, h1, h2, h3⟩ := h.2 (i / 4) _ (List.getElem?_eq_getElem (by omega))
  have e : i / 4 * 4 + i % 4 = i := by omega
  have h4 : i % 4 < 4 := by omega
  have h5 := h3 (i % 4) _ (List.getElem?_eq_getElem (by show i % 4 < 4; exact h4))
  rw [e, hi] at h5
  cases h5
  generalize i % 4 = j at *
  match j, h4 with
  | 0, _ => rfl
  | 1, _ => exact nats_one h1
  | 2, _ => exact h2.one
  | 3, _ => rfl
/-- A machine in memory. -/
abbrev machP (bm bt : Nat) (vp : Value) (st : Nat) : HP := pt bm (row [ptrV bt, vp, i64 (st : Nat)] 66)
attribute [local irreducible] capN capM G GO GR GT GW Fn FnX FnV FnXV Dfr pt init exs pur sat own ImpS natsV arsV sysV
set_option maxHeartbeats 8000000 in
theorem rthere_spec (bm bt : Nat) (vp : Value) (st : Nat) : Fn Tryz.prog 22 #[ptrV bm] [machP bm bt vp st] (fun r Q => r = .bool true ∧ Q = [machP bm bt vp st]) := by
  refine Fn.mk2 Tryz.func22 rfl rfl fun w0 F => ?_
  (refine .seq (.region (.assign rfl rfl (.nil (kthen_n (.seq (.region (.move rfl rfl (.neqNilP rfl rfl (.move rfl rfl (.gT rfl rfl rfl (.move rfl rfl (.gT rfl rfl rfl (.nilCheck rfl rfl (.gT rfl rfl rfl (.fieldAddr rfl rfl ?_))))))))))))))); refine .gT rfl rfl rfl (.load1 rfl rfl rfl .h rfl (.gT rfl rfl rfl (.neqNilP rfl rfl (.pickT rfl rfl rfl (.assign rfl rfl (.nil (kthen_n (.ret ?_)))))))))
  refine KF2.r1 rfl (RV.t rfl) ⟨rfl, rfl⟩ (ImpS.sb ?_)
  exact .c .h .r
set_option maxHeartbeats 8000000 in
theorem rnames_spec (bm bt mb : Nat) (vp vn vl : Value) (st : Nat) (ns : List (List UInt8)) (q : HP) (hq : StrsR q vn ns) (hl : ¬ 1048576 < ns.length) : Fn Tryz.prog 7 #[ptrV bm] [machP bm bt vp st, tabP bt mb vn vl, q] (fun r Q => Q = [own 9 1 ns.length r (strsV ns), machP bm bt vp st, tabP bt mb vn vl, q]) := by
  have hn := tnames_spec bt mb vn vl ns q hq hl
  refine Fn.mk2 Tryz.func7 rfl rfl fun w0 F => ?_
  refine .seq (.region (.assign rfl rfl (.nil (kthen_n (.seq (.seq (.region (.move rfl rfl ?_))))))))
  refine GO.call1 rfl rfl (rthere_spec bm bt vp st) (Tks.c Tk.h Tks.n) ?_
  rintro _ _ ⟨rfl, rfl⟩
  refine .not rfl rfl (.nil (kthen_n (.condF rfl rfl (.skip (kthen_n (.seq (.region (.move rfl rfl (.nilCheck rfl rfl (.fieldAddr rfl rfl (.load1 rfl rfl rfl .h rfl ?_)))))))))))
  refine GO.call1 rfl rfl (hn) (Tks.c (Tk.t Tk.h) (Tks.c (Tk.t Tk.h) Tks.n)) ?_
  rintro r _ rfl
  refine .assign rfl rfl (.nil (kthen_n (.ret ?_)))
  refine KF2.r1 rfl (RV.t rfl) rfl (ImpS.sb ?_)
  exact .c .h (.c (.t (.t .h)) (.c .h (.c .h .r)))
set_option maxHeartbeats 8000000 in
theorem rlabels_spec (bm bt mb : Nat) (vp vn vl : Value) (st : Nat) (ls : List (List UInt8)) (q : HP) (hq : StrsR q vl ls) (hl : ¬ 1048576 < ls.length) : Fn Tryz.prog 23 #[ptrV bm] [machP bm bt vp st, tabP bt mb vn vl, q] (fun r Q => Q = [own 9 1 ls.length r (strsV ls), machP bm bt vp st, tabP bt mb vn vl, q]) := by
  have hn := tlabels_spec bt mb vn vl ls q hq hl
  refine Fn.mk2 Tryz.func23 rfl rfl fun w0 F => ?_
  refine .seq (.region (.assign rfl rfl (.nil (kthen_n (.seq (.seq (.region (.move rfl rfl ?_))))))))
  refine GO.call1 rfl rfl (rthere_spec bm bt vp st) (Tks.c Tk.h Tks.n) ?_
  rintro _ _ ⟨rfl, rfl⟩
  refine .not rfl rfl (.nil (kthen_n (.condF rfl rfl (.skip (kthen_n (.seq (.region (.move rfl rfl (.nilCheck rfl rfl (.fieldAddr rfl rfl (.load1 rfl rfl rfl .h rfl ?_)))))))))))
  refine GO.call1 rfl rfl (hn) (Tks.c (Tk.t Tk.h) (Tks.c (Tk.t Tk.h) Tks.n)) ?_
  rintro r _ rfl
  refine .assign rfl rfl (.nil (kthen_n (.ret ?_)))
  refine KF2.r1 rfl (RV.t rfl) rfl (ImpS.sb ?_)
  exact .c .h (.c (.t (.t .h)) (.c .h (.c .h .r)))
set_option maxHeartbeats 8000000 in
theorem rstates_spec (bm bt : Nat) (vp : Value) (st : Nat) : Fn Tryz.prog 18 #[ptrV bm] [machP bm bt vp st] (fun r Q => r = i64 (st : Nat) ∧ Q = [machP bm bt vp st]) := by
  refine Fn.mk2 Tryz.func18 rfl rfl fun w0 F => ?_
  refine .seq (.region (.assign rfl rfl (.nil (kthen_n (.seq (.seq (.region (.move rfl rfl ?_))))))))
  refine GO.call1 rfl rfl (rthere_spec bm bt vp st) (Tks.c Tk.h Tks.n) ?_
  rintro _ _ ⟨rfl, rfl⟩
  refine .not rfl rfl (.nil (kthen_n (.condF rfl rfl (.skip (kthen_n (.seq (.region (.move rfl rfl (.nilCheck rfl rfl (.fieldAddr rfl rfl (.load1 rfl rfl rfl .h rfl (.assign rfl rfl (.nil (kthen_n (.ret ?_)))))))))))))))
  refine KF2.r1 rfl (RV.t rfl) ⟨rfl, rfl⟩ (ImpS.sb ?_)
  exact .c .h .r
set_option maxRecDepth 40000 in
set_option maxHeartbeats 16000000 in
theorem auto_spec (bm bt : Nat) (vp : Value) (st : Nat) (cells : List Value) (ps : List PaD) (z : HP) (j : Nat) (p : PaD) (hz : Sl z vp ps.length 4 cells) (hP : PartsR z cells ps) (hj : ps[j]? = some p) (hl : ¬ 1024 < ps.length) (hf : ¬ 65536 < p.fins.length) (ha : ¬ 4294967296 < p.arcs.length) :
    Fn Tryz.prog 11 #[ptrV bm, i64 (j : Nat)] [machP bm bt vp st, z] (fun r Q => ∃ vf va, r = .tuple #[autoA p.n vf va, i64 0] ∧ Q = [ownN vf p.fins, ownA va p.arcs, machP bm bt vp st, z]) := by
  obtain ⟨vf, va, hvf, hva, hc⟩ := hP.2 j p hj
  have hlt := (List.getElem?_eq_some_iff.1 hj).1
  obtain ⟨ap, cp, rfl, _, hr⟩ := hz
  obtain ⟨b, o, rfl, hr2⟩ := hr (by omega)
  have rp : ∀ i u, [i64 (p.n : Nat), vf, va][i]? = some u → Rd z ⟨b, o + j * 4 + 0 + i, none⟩ u := fun i u hu => by
    have hi : i < 3 := (List.getElem?_eq_some_iff.1 hu).1
    rw [Nat.add_zero, Nat.add_assoc]
    refine hr2 _ _ (hc i u ?_)
    match i, hi with
    | 0, _ => exact hu
    | 1, _ => exact hu
    | 2, _ => exact hu
  have hcf := cloneI_spec z vf p.fins hvf (by omega)
  have hca := cloneA_spec z va p.arcs hva (by omega)
  have o1 := nats_one hvf; have o2 := hva.one
  have d1 : decide ((j : Int) < 0) = false := decide_eq_false (by omega)
  have d2 : decide ((ps.length : Int) ≤ (j : Int)) = false := decide_eq_false (by omega)
  refine Fn.mk2 Tryz.func11 rfl rfl fun w0 F => ?_
  refine .seq (.region (.alloc rfl fun b4 => .assign rfl rfl (.nil (kthen_n (.seq (.block (.seq (.region (.move rfl rfl ?_)))))))))
  refine GO.call1 rfl rfl (rthere_spec bm bt (.slice (some ⟨b, o, none⟩) ps.length cp) st) (Tks.c (Tk.t Tk.h) Tks.n) ?_
  rintro _ _ ⟨rfl, rfl⟩
  (refine .not rfl rfl (.assign rfl rfl (.nil (kthen_n (.condF rfl rfl (.seq (.region (.move rfl rfl (.lti rfl rfl rfl (.move rfl rfl (.gT rfl rfl rfl (.move rfl rfl (.gT rfl rfl rfl (.move rfl rfl (.gT rfl rfl rfl (.nilCheck rfl rfl ?_))))))))))))))); refine .gT rfl rfl rfl (.fieldAddr rfl rfl (.gT rfl rfl rfl (.load1 rfl rfl rfl .h rfl (.gT rfl rfl rfl (.lenS rfl rfl (.gT rfl rfl rfl (.gei rfl rfl rfl (.pickF rfl rfl rfl (.assign rfl rfl (.nil (kthen_n (.condF rfl (by assumption) (.skip (kblock_n (kthen_n ?_))))))))))))))); refine .seq (.region (.move rfl rfl (.nilCheck rfl rfl (.fieldAddr rfl rfl (.load1 rfl rfl rfl .h rfl (.move rfl rfl (.idxS rfl rfl rfl ⟨rfl, by omega⟩ (.fieldAddr rfl rfl ?_)))))))))
  refine GO.loadM (vs := [i64 (p.n : Nat), vf, va]) rfl rfl rfl (Tk.t (Tk.t Tk.h)) rfl rp ?_
  refine .alloc rfl fun b6 => ?_
  refine GO.storeW (vs := [i64 (p.n : Nat), vf, va]) rfl rfl Tk.h ⟨rfl, rfl⟩ (by simp [Value.oneCell']; exact ⟨o1, o2⟩) ?_
  refine .nil (kthen_n (.seq ?_))
  refine G.drawT 8 144 [autoP b6 p.n vf va] (pt b4 (row [i64 0, .slice none 0 0, .slice none 0 0] 43) :: machP bm bt (.slice (some ⟨b, o, none⟩) ps.length cp) st :: z :: F) (by kernel_rfl) (keys_of rfl) (ImpS.sb (.c .h (.c (.t .h) (.c .h (.c .h .r))))) ?_
  refine .step rfl (fun _ => .fieldAddr rfl rfl KQ.z) (.step rfl (fun _ => .load1 rfl rfl rfl .h rfl KQ.z) (.step rfl (fun _ => .fieldAddr rfl rfl KQ.z) (.step rfl (fun _ => .load1 rfl rfl rfl .h rfl KQ.z) (.skip rfl (.step rfl (fun _ => .fieldAddr rfl rfl KQ.z) (.step rfl (fun _ => .load1 rfl rfl rfl .h rfl KQ.z) (.skip rfl (.nil ?_))))))))
  repeat refine GT.skip rfl ?_
  refine GT.step rfl ?_
  refine GO.call1 rfl rfl (hcf) (Tks.c (Tk.t (Tk.t (Tk.t Tk.h))) Tks.n) ?_
  rintro v37 _ rfl
  refine GO.ownShp Tk.h fun x5 c5 e5 => ?_
  subst e5
  refine GO.nil ⟨rfl, _, ownN (.slice x5 p.fins.length c5) p.fins :: pt b4 (row [i64 0, .slice none 0 0, .slice none 0 0] 43) :: machP bm bt (.slice (some ⟨b, o, none⟩) ps.length cp) st :: z :: F, rfl, ImpS.sb (.c (.t (.t .h)) (.c .h (.c (.t .h) (.c (.t .h) (.c .h .r))))), ?_⟩
  repeat refine GT.skip rfl ?_
  refine GT.step rfl ?_
  refine GO.call1 rfl rfl (hca) (Tks.c (Tk.t (Tk.t (Tk.t (Tk.t Tk.h)))) Tks.n) ?_
  rintro v40 _ rfl
  refine GO.ownShp Tk.h fun x6 c6 e6 => ?_
  subst e6
  refine GO.nil ⟨rfl, _, ownA (.slice x6 p.arcs.length c6) p.arcs :: ownN (.slice x5 p.fins.length c5) p.fins :: pt b4 (row [i64 0, .slice none 0 0, .slice none 0 0] 43) :: machP bm bt (.slice (some ⟨b, o, none⟩) ps.length cp) st :: z :: F, rfl, ImpS.sb (.c (.t (.t .h)) (.c .h (.c (.t .h) (.c (.t .h) (.c (.t .h) (.c .h .r)))))), ?_⟩
  repeat refine GT.skip rfl ?_
  refine GT.nil ?_
  refine GO.build3 rfl rfl rfl rfl rfl ?_
  refine GO.storeW (vs := [i64 (p.n : Nat), .slice x5 p.fins.length c5, .slice x6 p.arcs.length c6]) rfl rfl (Tk.t (Tk.t (Tk.t Tk.h))) ⟨rfl, rfl⟩ (by simp [Value.oneCell']) ?_
  refine .assign rfl rfl (.nil (kthen_n (.ret ?_)))
  refine KF2.r2 rfl (RV.cW rfl rfl Tk.h rfl) (RV.t rfl) ⟨_, _, rfl, rfl⟩ (ImpS.sb ?_)
  exact .c (.t (.t (.t .h))) (.c (.t (.t .h)) (.c (.t (.t .h)) (.c (.t (.t .h)) (.s (.s .r)))))
end Go.Proofs.YtbconcohpfkncaaGreat
namespace Go.Proofs.YtbconcohpfkncaaGreat
open Go
section
variable (leaf : Nat → List UInt8 → SyD) (g : List RuleD)
def sizeG (s : List UInt8) : Nat := (boxG leaf (treesG s g)).2.1.length + 1
def boxPa (s : List UInt8) (k : Nat) : PaD := ⟨sizeG leaf g s, boxFins leaf (treesG s g), boxArcs leaf (treesG s g), k⟩
/-- The machine's boxes. -/
def partsF : Nat → List (List UInt8) → List PaD
  | _, [] => []
  | k, s :: r => boxPa leaf g s k :: partsF (k + sizeG leaf g s) r
def statesG (l : List (List UInt8)) : Nat := (l.map (sizeG leaf g)).sum
theorem partsF_snoc (s : List UInt8) : ∀ (l : List (List UInt8)) (k : Nat), partsF leaf g k (l ++ [s]) = partsF leaf g k l ++ [boxPa leaf g s (k + statesG leaf g l)]
  | [], k => rfl
  | x :: l, k => by
    show boxPa leaf g x k :: partsF leaf g (k + sizeG leaf g x) (l ++ [s]) = boxPa leaf g x k :: (partsF leaf g (k + sizeG leaf g x) l ++ _)
    rw [partsF_snoc s l]
    unfold statesG
    rw [List.map_cons, List.sum_cons, Nat.add_assoc]
theorem partsF_len : ∀ (l : List (List UInt8)) (k : Nat), (partsF leaf g k l).length = l.length
  | [], _ => rfl
  | x :: l, k => by show (partsF leaf g _ l).length + 1 = _; rw [partsF_len l]; rfl
theorem partsF_get : ∀ (l : List (List UInt8)) (k i : Nat) (s : List UInt8), l[i]? = some s → ∃ f, (partsF leaf g k l)[i]? = some (boxPa leaf g s f)
  | x :: l, k, 0, s, h => by cases h; exact ⟨k, rfl⟩
  | x :: l, k, i + 1, s, h => partsF_get l (k + sizeG leaf g x) i s h
theorem statesG_snoc {l : List (List UInt8)} {i : Nat} {s : List UInt8} (h : l[i]? = some s) : statesG leaf g (l.take (i + 1)) = statesG leaf g (l.take i) + sizeG leaf g s := by
  unfold statesG
  rw [take_snoc h, List.map_append, List.sum_append]
  simp
end
theorem sizeG_le {g : List RuleD} {ns ls : List (List UInt8)} (h : TabOK g ns ls) (s : List UInt8) : sizeG (leafF ns ls) g s ≤ 65 := by
  have := (box_gok (leaf := leafF ns ls) (ts := treesG s g) fun t ht => let ⟨_, _, _, _, e⟩ := trees_mem h ht; e).1
  have h2 := trees_leaves h s
  have h3 := trees_occ h s
  unfold sizeG
  omega
theorem statesG_le {g : List RuleD} {ns ls : List (List UInt8)} (h : TabOK g ns ls) : ∀ l : List (List UInt8), statesG (leafF ns ls) g l ≤ l.length * 65
  | [] => Nat.le_refl _
  | s :: l => by
    have h1 := statesG_le h l
    have h2 := sizeG_le h s
    unfold statesG at h1 ⊢
    rw [List.map_cons, List.sum_cons, List.length_cons]
    omega
theorem trees_len (s : List UInt8) (g : List RuleD) : (treesG s g).length = (bodiesG s g).length := by unfold treesG; rw [List.length_map]
theorem trees_fit {g : List RuleD} {ns ls : List (List UInt8)} (h : TabOK g ns ls) (s : List UInt8) : ∀ t ∈ treesG s g, okT t = true ∧ checkF (flat t) = 0 ∧ ¬ 2048 < (flat t).length ∧ ∀ m ∈ flat t, (symN ns ls m).2 ≠ 4 := fun t ht => by
  obtain ⟨r, hr, _, e, k⟩ := trees_mem h ht
  rw [e]
  exact ⟨k, h.gr.body r hr, (h.gr.tree hr).2.2, fun m hm => sym_there h hr hm⟩
/-- A machine: what its piece z holds. -/
structure MachR (z : HP) (g : List RuleD) (ns ls : List (List UInt8)) (vn vl vp : Value) (cells : List Value) : Prop where
  tab : TabOK g ns ls
  vn : StrsR z vn ns
  vl : StrsR z vl ls
  vp : Sl z vp ns.length 4 cells
  parts : PartsR z cells (partsF (leafF ns ls) g 0 ns)
theorem built_mach (b : Nat) : Tryz.prog.built 66 [(0, ptrV b)] = some [ptrV b, .slice none 0 0, i64 0].toArray := by kernel_rfl
attribute [local irreducible] capN capM G GO GR GT GW Fn FnX FnV FnXV Dfr pt init exs pur sat own ImpS natsV arsV sysV headsF namesF checkG boxG boxFins boxArcs treesG bodiesG partsF statesG sizeG mapB tabL
set_option maxRecDepth 40000 in
set_option maxHeartbeats 32000000 in
theorem rsmNew_spec (q : HP) (v : Value) (g : List RuleD) (hq : RulesR q v g) (hf : FitG g) (hc : checkG g = 0) :
    Fn Tryz.prog 6 #[v] [q] (fun r Q => ∃ bm bt mb vn vl vp ls cells z, MachR z g (headsF g) ls vn vl vp cells ∧ r = .tuple #[ptrV bm, i64 0] ∧ Q = [machP bm bt vp (statesG (leafF (headsF g) ls) g (headsF g)), tabP bt mb vn vl, tabM mb (headsF g) ls, z, q]) := by
  have hS := symsOf_spec q v g hq hf hc
  have hB := fun s => bodies_spec q v g s hq hf.len hf.body
  have htb := fun ss hs => tab_ok hc (ss := ss) hs
  have hn16 := (gram_ok hc).nts
  have hlen := (gram_ok hc).len
  obtain ⟨ag, cg, rfl⟩ := rules_sl hq
  generalize hns : headsF g = ns at *
  refine Fn.mk2 Tryz.func6 rfl rfl fun w0 F => ?_
  refine G.ownNil (T := 69) (sz := 4) ?_
  refine .seq (.region (.assign rfl rfl (.assign rfl rfl (.nil (kthen_n (.seq (.region (.move rfl rfl ?_))))))))
  refine GO.call1 rfl rfl (hS) (Tks.c (Tk.t Tk.h) Tks.n) ?_
  rintro _ _ ⟨bt, mb, vn, vl, ss, z, hss, hvn, hvl, rfl, rfl⟩
  have htab := htb ss hss
  clear htb
  generalize sortL ss = ls at *
  clear hss
  have hnm := tnames_spec bt mb vn vl ns z hvn (by omega)
  (refine .move rfl rfl (.extract rfl rfl rfl (.extract rfl rfl rfl (.assign rfl rfl (.assign rfl rfl (.nil (kthen_n (.seq (.seq (.region (.move rfl rfl (.neF rfl rfl rfl rfl (.nil (kthen_n (.condF rfl rfl (.skip ?_))))))))))))))); refine kthen_n (.seq (.region (.move rfl rfl ?_))))
  refine GO.buildPart1 (built_mach bt) rfl rfl ?_
  refine .box rfl rfl rfl fun b21 => .assign rfl rfl (.nil (kthen_n (.seq (.seq (.region (.move rfl rfl ?_))))))
  refine GO.call1 rfl rfl (hnm) (Tks.c (Tk.t Tk.h) (Tks.c (Tk.t (Tk.t Tk.h)) Tks.n)) ?_
  rintro vm _ rfl
  refine GO.ownRdK Tk.h fun zm hzm => ?_
  have hrn : ∀ i x, ns[i]? = some x → _ := fun i x h => strs_rd hzm h
  obtain ⟨am, cm, rfl⟩ := strsW_sl hzm
  refine .lenS rfl rfl (.move rfl rfl (.nil (kthen_n (.block ?_))))
  refine G.loopI (σ := Nat × Value × List Value × HP) (fun x => [(0, .slice ag g.length cg), (4, ptrV bt), (6, ptrV b21), (23, .slice am ns.length cm), (24, i64 (ns.length : Nat)), (25, i64 (x.1 : Nat))]) (fun x => machP b21 bt x.2.1 (statesG (leafF ns ls) g (ns.take x.1)) :: own 69 4 x.1 x.2.1 x.2.2.1 :: x.2.2.2 :: tabP bt mb vn vl :: tabM mb ns ls :: z :: zm :: q :: F)
    (fun x => x.1 ≤ ns.length ∧ PartsR x.2.2.2 x.2.2.1 (partsF (leafF ns ls) g 0 (ns.take x.1))) (fun x => ns.length - x.1) (0, .slice none 0 0, [], Go.Proofs.YtbconcohpfkncaaGreat.pur True) ⟨Nat.zero_le _, by rw [List.take_zero, show partsF (leafF ns ls) g 0 [] = [] by unfold partsF; rfl]; exact PartsR.nil _⟩ ?_ ?_ ?_
  · exact .c rfl rfl (.c rfl rfl (.c rfl rfl (.c rfl rfl (.c rfl rfl (.c rfl rfl .n)))))
  · rw [List.take_zero, show statesG (leafF ns ls) g [] = 0 by unfold statesG; rfl]
    refine ImpS.trans ImpS.tt (ImpS.sb ?_)
    exact .c (.t (.t (.t (.t .h)))) (.c (.t (.t (.t (.t (.t (.t .h)))))) (.c .h (.c (.t .h) (.c (.t (.t .h)) (.c (.t .h) (.c .h (.c .h .r)))))))
  rintro ⟨i, vp, cells, zc⟩ ⟨hi, hP⟩
  dsimp only at hi hP ⊢
  have hsl := statesG_le htab (ns.take i)
  rw [List.length_take] at hsl
  refine .seq (.region (.lti rfl rfl rfl (.nil (kthen_n (.seq ?_)))))
  by_cases hlt : i < ns.length
  · have d1 : decide ((i : Int) < (ns.length : Int)) = true := decide_eq_true (by omega)
    obtain ⟨s, hs⟩ : ∃ s, ns[i]? = some s := ⟨_, List.getElem?_eq_getElem hlt⟩
    obtain ⟨b, o, cap, e, _, rs⟩ := hrn i s hs
    injection e with e _ e2
    subst e e2
    have hsz := sizeG_le htab s
    have hss := statesG_snoc (leafF ns ls) g hs
    have hps := partsF_snoc (leafF ns ls) g s (ns.take i) 0
    rw [← take_snoc hs, Nat.zero_add] at hps
    (refine .condT rfl (by assumption) (.skip (kthen_n (.seq (.block (.seq (.region (.idxS rfl rfl rfl ⟨rfl, by omega⟩ (.loadQ rfl rfl rfl (.t (.t (.t (.t (.t (.t .h)))))) (by assumption) (.assign rfl rfl (.nil (kthen_n (.seq (.region (.move rfl rfl (.move rfl rfl ?_))))))))))))))); refine .move rfl rfl ?_)
    refine GO.call2 rfl rfl rfl (hB s) (Tks.c (Tk.t (Tk.t (Tk.t (Tk.t (Tk.t (Tk.t (Tk.t Tk.h))))))) Tks.n) ?_
    rintro vv _ ⟨vals, zb, hzb, rfl⟩
    refine GO.ownRd Tk.h fun zz hzz => ?_
    have hof := of_spec bt mb vn vl vv ns ls (treesG s g) vals z zz zb hvn (by rw [trees_len]; exact hzz) (by rw [trees_flat htab s]; exact hzb) (by omega) (by omega) (by have := bodiesG_len s g; rw [trees_len]; omega) (trees_fit htab s) (by have := trees_occ htab s; omega) (trees_arcs htab s).1 (trees_arcs htab s).2
    rw [show (boxG (leafF ns ls) (treesG s g)).2.1.length + 1 = sizeG (leafF ns ls) g s by unfold sizeG; rfl] at hof
    obtain ⟨av, cv, rfl, _, _⟩ := hzz
    skip
    refine GO.call2 rfl rfl rfl (hof) (Tks.c (Tk.t (Tk.t (Tk.t (Tk.t (Tk.t (Tk.t Tk.h)))))) (Tks.c (Tk.t (Tk.t (Tk.t (Tk.t (Tk.t (Tk.t Tk.h)))))) (Tks.c (Tk.t (Tk.t (Tk.t (Tk.t (Tk.t (Tk.t Tk.h)))))) (Tks.c Tk.h (Tks.c Tk.h Tks.n))))) ?_
    rintro _ _ ⟨vf, va, rfl, rfl⟩
    refine GO.ownRd (v := vf) Tk.h fun qa hqa => ?_
    refine GO.ownRdK (v := va) (Tk.t Tk.h) fun qb hqb => ?_
    have hqa' : NatsR qa vf (boxFins (leafF ns ls) (treesG s g)) := hqa
    have hqb' : ArsR qb va (boxArcs (leafF ns ls) (treesG s g)) := hqb
    refine GO.merge (x := qa) (y := qb) (Tks.c (Tk.t Tk.h) (Tks.c Tk.h Tks.n)) ?_
    have hqa' := hqa'.sup (Sup.left qa qb)
    have hqb' := hqb'.sup (Sup.right qa qb)
    generalize star [qa, qb] = q3 at *
    refine GO.merge (x := zc) (y := q3) (Tks.c (Tk.t (Tk.t (Tk.t (Tk.t (Tk.t (Tk.t (Tk.t (Tk.t (Tk.t Tk.h))))))))) (Tks.c Tk.h Tks.n)) ?_
    have hP := hP.sup (Sup.left zc q3)
    have hqa' := hqa'.sup (Sup.right zc q3)
    have hqb' := hqb'.sup (Sup.right zc q3)
    generalize star [zc, q3] = z3 at *
    clear hqa hqb
    have o1 := nats_one hqa'; have o2 := hqb'.one
    refine .move rfl rfl (.extract rfl rfl rfl (.extract rfl rfl rfl (.alloc rfl fun b9 => ?_)))
    refine GO.storeW (vs := [i64 (sizeG (leafF ns ls) g s : Nat), vf, va]) rfl rfl Tk.h ⟨rfl, rfl⟩ (by simp [Value.oneCell']; exact ⟨o1, o2⟩) ?_
    refine .assign rfl rfl (.nil (kthen_n (.seq (.seq (.region (.move rfl rfl (.neF rfl rfl rfl rfl (.nil (kthen_n (.condF rfl rfl (.skip (kthen_n (.seq ?_)))))))))))))
    refine G.drawT 15 6144 [machP b21 bt vp (statesG (leafF ns ls) g (ns.take i)), autoP b9 (sizeG (leafF ns ls) g s) vf va] (own 69 4 i vp cells :: z3 :: tabP bt mb vn vl :: tabM mb ns ls :: z :: zm :: q :: F) (by kernel_rfl) (keys_of rfl) (ImpS.sb (.c (.t (.t (.t (.t (.t (.t (.t (.t .h)))))))) (.c .h (.c (.t (.t (.t (.t (.t (.t (.t .h))))))) (.c .h (.c .h (.c .h (.c .h (.c (.t (.t (.t .h))) (.c (.t (.t .h)) (.s (.s .r)))))))))))) ?_
    refine .step rfl (fun _ => .move rfl rfl KQ.z) (.step rfl (fun _ => .move rfl rfl KQ.z) (.step rfl (fun _ => .nilCheck rfl rfl KQ.z) (.step rfl (fun _ => .fieldAddr rfl rfl KQ.z) (.step rfl (fun _ => .load1 rfl rfl rfl .h rfl KQ.z) (.step rfl (fun _ => .loadW rfl rfl rfl (.t .h) rfl KQ.z) (.step rfl (fun _ => .move rfl rfl KQ.z) (.step rfl (fun _ => .nilCheck rfl rfl KQ.z) (.step rfl (fun _ => .fieldAddr rfl rfl KQ.z) (.step rfl (fun _ => .load1 rfl rfl rfl .h rfl KQ.z) (.step rfl (fun _ => .build2 rfl rfl rfl rfl KQ.z) (.skip rfl (.skip rfl (.step rfl (fun _ => .nilCheck rfl rfl KQ.z) (.step rfl (fun _ => .fieldAddr rfl rfl KQ.z) (.nil ?_)))))))))))))))
    rw [show putParts [Value.agg #[i64 (sizeG (leafF ns ls) g s : Nat), vf, va], i64 (statesG (leafF ns ls) g (ns.take i) : Nat)] = paVs (boxPa (leafF ns ls) g s (statesG (leafF ns ls) g (ns.take i))) vf va from rfl]
    repeat refine GT.skip rfl ?_
    refine GT.step rfl ?_
    refine GO.buildSlice1 (n := 4) (v1 := .agg (paVs (boxPa (leafF ns ls) g s (statesG (leafF ns ls) g (ns.take i))) vf va).toArray) rfl rfl (fun v hv => by rw [List.mem_singleton.1 hv]; rfl) rfl ⟨by decide, by decide⟩ fun bs3 => ?_
    refine GO.nil ⟨rfl, _, pt bs3 (row (paVs (boxPa (leafF ns ls) g s (statesG (leafF ns ls) g (ns.take i))) vf va) 69) :: own 69 4 i vp cells :: z3 :: tabP bt mb vn vl :: tabM mb ns ls :: z :: zm :: q :: F, rfl, ImpS.sb (.c (.t .h) (.c (.t .h) (.c .h (.c .h (.c .h (.c .h (.c .h (.c .h (.c .h (.c .h .r)))))))))), ?_⟩
    repeat refine GT.skip rfl ?_
    refine GT.step rfl ?_
    refine GO.appendOwn (m := 1) (news := paVs (boxPa (leafF ns ls) g s (statesG (leafF ns ls) g (ns.take i))) vf va) rfl rfl rfl (Tk.t (Tk.t (Tk.t Tk.h))) (Tk.t (Tk.t Tk.h)) rfl (by simp [Value.oneCell']; exact ⟨o1, o2⟩) ⟨by decide, rfl⟩ Nat.one_pos (by unfold maxLen; omega) (by omega) fun v4 => ?_
    refine GO.ownOne (v := v4) Tk.h fun o4 => ?_
    refine GO.nil ⟨rfl, _, own 69 4 (i + 1) v4 (cells ++ paVs (boxPa (leafF ns ls) g s (statesG (leafF ns ls) g (ns.take i))) vf va) :: z3 :: tabP bt mb vn vl :: tabM mb ns ls :: z :: zm :: q :: F, rfl, ImpS.sb (.c (.t .h) (.c (.t .h) (.c .h (.c (.t .h) (.c (.t .h) (.c (.t .h) (.c (.t .h) (.c (.t .h) (.c (.t .h) (.s .r)))))))))), ?_⟩
    repeat refine GT.skip rfl ?_
    refine GT.nil ?_
    refine .store1 rfl rfl (by assumption) .h (by simp) (.nil (kthen_n ?_))
    refine G.draw 9 (by kernel_rfl) ?_
    refine .step (fun _ => .move rfl rfl KQ.z) (.step (fun _ => .nilCheck rfl rfl KQ.z) (.step (fun _ => .fieldAddr rfl rfl KQ.z) (.step (fun _ => .load1 rfl rfl rfl .h rfl KQ.z) (.step (fun _ => .fieldAddr rfl rfl KQ.z) (.step (fun _ => .load1 rfl rfl rfl (.t .h) rfl KQ.z) (.step (fun _ => .addi rfl rfl rfl (by omega) KQ.z) (.step (fun _ => .nilCheck rfl rfl KQ.z) (.step (fun _ => .fieldAddr rfl rfl KQ.z) (.nil ?_)))))))))
    refine .store1 rfl rfl rfl .h (by simp) (.nil (kblock_n (kthen_n (.region (.addi rfl rfl rfl (by omega) (.move rfl rfl (.nil (kthen_n ?_))))))))
    rw [show ((statesG (leafF ns ls) g (ns.take i) : Nat) : Int) + (sizeG (leafF ns ls) g s : Nat) = ((statesG (leafF ns ls) g (ns.take (i + 1)) : Nat) : Int) by rw [hss]; exact (Int.natCast_add _ _).symm]
    refine ⟨(i + 1, v4, cells ++ paVs (boxPa (leafF ns ls) g s (statesG (leafF ns ls) g (ns.take i))) vf va, z3), ⟨hlt, ?_⟩, by dsimp only; omega, ?_, ?_⟩
    · dsimp only
      rw [hps]
      refine hP.snoc ?_ ?_
      · rw [show (boxPa (leafF ns ls) g s (statesG (leafF ns ls) g (ns.take i))).fins = boxFins (leafF ns ls) (treesG s g) from rfl]; exact hqa'
      · rw [show (boxPa (leafF ns ls) g s (statesG (leafF ns ls) g (ns.take i))).arcs = boxArcs (leafF ns ls) (treesG s g) from rfl]; exact hqb'
    · exact .c rfl rfl (.c rfl rfl (.c rfl rfl (.c rfl rfl (.c rfl rfl (.c rfl rfl .n)))))
    · refine ImpS.sb ?_
      exact .c .h (.c (.t .h) (.c (.t .h) (.c (.t .h) (.c (.t .h) (.c (.t .h) (.c (.t .h) (.c (.t .h) (.s .r))))))))
  · have d1 : decide ((i : Int) < (ns.length : Int)) = false := decide_eq_false (by omega)
    have hin : i = ns.length := by omega
    subst hin
    rw [List.take_length] at hP ⊢
    refine G.ownRd (v := vp) (Tk.t Tk.h) fun zp hzp => ?_
    refine G.merge (x := zp) (y := zc) (Tks.c Tk.h (Tks.c (Tk.t Tk.h) Tks.n)) ?_
    have hzp := hzp.sup (Sup.left zp zc)
    have hP := hP.sup (Sup.right zp zc)
    generalize star [zp, zc] = z3 at *
    refine G.merge (x := z3) (y := z) (Tks.c Tk.h (Tks.c (Tk.t (Tk.t (Tk.t Tk.h))) Tks.n)) ?_
    have hzp := hzp.sup (Sup.left z3 z)
    have hP := hP.sup (Sup.left z3 z)
    have hvn := hvn.sup (Sup.right z3 z)
    have hvl := hvl.sup (Sup.right z3 z)
    generalize star [z3, z] = z4 at *
    refine .condF rfl (by assumption) (.exit (kthen_x (kthen_x (kblock_x (kthen_n (.seq (.region (.move rfl rfl (.assign rfl rfl (.assign rfl rfl (.nil (kthen_n (.ret ?_)))))))))))))
    refine KF2.r2 rfl (RV.t rfl) (RV.t rfl) ⟨b21, bt, mb, vn, vl, vp, ls, cells, z4, ⟨htab, hvn, hvl, hzp, hP⟩, rfl, rfl⟩ (ImpS.sb ?_)
    exact .c (.t .h) (.c (.t .h) (.c (.t .h) (.c .h (.c (.t .h) (.s .r)))))
end Go.Proofs.YtbconcohpfkncaaGreat
namespace Go.Proofs.YtbconcohpfkncaaGreat
open Go
def placeI (l : List (List UInt8)) (s : List UInt8) : Int := match posS l s with
  | some j => j
  | none => -1
theorem posS_at {s : List UInt8} : ∀ {l : List (List UInt8)} {i : Nat}, l[i]? = some s → s ∉ l.take i → posS l s = some i
  | x :: l, 0, h, _ => by
    cases h
    show (if s = s then some 0 else _) = _
    rw [if_pos rfl]
  | x :: l, i + 1, h, k => by
    rw [List.take_succ_cons, List.mem_cons, not_or] at k
    show (if s = x then some 0 else (posS l s).map (· + 1)) = _
    rw [if_neg k.1, posS_at (show l[i]? = some s from h) k.2]
    rfl
attribute [local irreducible] capN capM G GO GR GT GW Fn FnX FnV FnXV Dfr pt init exs pur sat own ImpS natsV arsV sysV posS
set_option maxHeartbeats 8000000 in
theorem lplace_spec (q : HP) (v : Value) (l : List (List UInt8)) (s : List UInt8) (hq : StrsR q v l) (hl : ¬ 1048576 < l.length) : Fn Tryz.prog 24 #[v, str s] [q] (fun r Q => r = .int .i64 (placeI l s) ∧ Q = [q]) := by
  have hrd : ∀ i x, l[i]? = some x → _ := fun i x h => strs_rd hq h
  obtain ⟨a, cap, rfl⟩ := strsW_sl hq
  clear hq
  refine Fn.mk2 Tryz.func24 rfl rfl fun w0 F => ?_
  refine .seq (.region (.assign rfl rfl (.nil (kthen_n (.seq (.seq (.region (.assign rfl rfl (.nil (kthen_n (.block ?_)))))))))))
  refine G.loopI (σ := Nat) (fun i => [(0, .slice a l.length cap), (1, str s), (5, i64 (i : Nat))]) (fun _ => q :: F) (fun i => i ≤ l.length ∧ s ∉ l.take i) (fun i => l.length - i) 0 ⟨Nat.zero_le _, by simp⟩ ?_ ?_ ?_
  · exact .c rfl rfl (.c rfl rfl (.c rfl rfl .n))
  · refine ImpS.sb ?_
    exact .c .h .r
  rintro i ⟨hi, hp⟩
  refine .seq (.seq (.region (.move rfl rfl (.move rfl rfl (.lenS rfl rfl (.lti rfl rfl rfl (.nil (kthen_n ?_))))))))
  by_cases hlt : i < l.length
  · have d1 : decide ((i : Int) < (l.length : Int)) = true := decide_eq_true (by omega)
    obtain ⟨x, hx⟩ : ∃ x, l[i]? = some x := ⟨_, List.getElem?_eq_getElem hlt⟩
    obtain ⟨b, o, cap2, e, _, rx⟩ := hrd i x hx
    injection e with e _ e2
    subst e e2
    by_cases hxs : x = s
    · have d2 : decide (x = s) = true := decide_eq_true hxs
      subst hxs
      have hres := posS_at hx hp
      (refine .condT rfl (by assumption) (.skip (kthen_n (.seq (.block (.seq (.region (.move rfl rfl (.move rfl rfl (.idxS rfl rfl rfl ⟨rfl, by omega⟩ (.loadQ rfl rfl rfl .h (by assumption) (.move rfl rfl (.binS rfl rfl rfl rfl (.nil (kthen_n (.condT rfl (by assumption) ?_))))))))))))))); refine .seq (.region (.move rfl rfl (.assign rfl rfl (.nil (kthen_n (.ret (kblock_r (kthen_r (kthen_r (kblock_r (kthen_r ?_))))))))))))
      refine KF2.r1 rfl (RV.t rfl) ⟨by unfold placeI; rw [hres], rfl⟩ (ImpS.sb ?_)
      exact .c .h .r
    · have d2 : decide (x = s) = false := decide_eq_false hxs
      (refine .condT rfl (by assumption) (.skip (kthen_n (.seq (.block (.seq (.region (.move rfl rfl (.move rfl rfl (.idxS rfl rfl rfl ⟨rfl, by omega⟩ (.loadQ rfl rfl rfl .h (by assumption) (.move rfl rfl (.binS rfl rfl rfl rfl (.nil (kthen_n (.condF rfl (by assumption) ?_))))))))))))))); refine .skip (kblock_n (kthen_n (.region (.move rfl rfl (.addi rfl rfl rfl (by omega) (.assign rfl rfl (.nil (kthen_n ?_)))))))))
      refine ⟨i + 1, ⟨hlt, by rw [take_snoc hx, List.mem_append, List.mem_singleton]; exact fun h => h.elim hp fun e => hxs e.symm⟩, by omega, ?_, ImpS.sb ?_⟩
      · exact .c rfl rfl (.c rfl rfl (.c rfl rfl .n))
      · exact .c .h .r
  · have d1 : decide ((i : Int) < (l.length : Int)) = false := decide_eq_false (by omega)
    rw [List.take_of_length_le (by omega)] at hp
    have hres := posS_none hp
    refine .condF rfl (by assumption) (.exit (kthen_x (kthen_x (kblock_x (kthen_n (.seq (.region (.assign rfl rfl (.nil (kthen_n (.ret ?_)))))))))))
    refine KF2.r1 rfl (RV.t rfl) ⟨by unfold placeI; rw [hres], rfl⟩ (ImpS.sb ?_)
    exact .c .h .r
end Go.Proofs.YtbconcohpfkncaaGreat
