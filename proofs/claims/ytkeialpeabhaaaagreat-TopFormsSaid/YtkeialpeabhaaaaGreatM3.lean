/-
  The law TopForms, part 3.
-/
import Derived.Test.YtkeialpeabhaaaaGreatM2
import Derived.MapKept
import Derived.Maps.RangeRun
import Derived.Test.YtkeialpeabhaaaaGreatLaS
import Derived.Shelf.Sort.Plain
namespace Go.Proofs.YtkeialpeabhaaaaGreat
open Go
set_option synthInstance.maxHeartbeats 0
set_option synthInstance.maxSize 100000
set_option maxHeartbeats 128000000
set_option maxRecDepth 40000
set_option linter.all false
section
def nD (k:Nat):List UInt8:=if k=5 then [32,124,32] else if k=4 then [32] else []
def rc (k:Nat):List UInt8:=if k=6 then [42] else if k=7 then [43] else if k=8 then [63] else []
def gQ (k j:Nat) (s:List UInt8):List UInt8:=if j=5∨(j=4∧k≠5) then [40]++s++[41] else s
mutual
def dm:Tree→List UInt8
 | .node k n ts=>if k=1 then [37] else if k=2∨k=3 then n else jP (nD k) (o8 k ts)++rc k
def o8 (k:Nat):List Tree→List (List UInt8)
 | []=>[]
 | t::ts=>gQ k t.kind (dm t)::o8 k ts
end
theorem o5 (k:Nat):∀ ts:List Tree,o8 k ts=ts.map fun t=>gQ k t.kind (dm t)
 | []=>by rw [o8];rfl
 | t::ts=>by rw [o8,o5 k ts];rfl
theorem o9 (t:Tree):dm t=if t.kind=1 then [37] else if t.kind=2∨t.kind=3 then t.name else jP (nD t.kind) (t.kids.map fun u=>gQ t.kind u.kind (dm u))++rc t.kind:=by
 cases t;rw [dm,o5];rfl
theorem rZ:∀ ts:List Tree,(ay ts).length=(ts.map fun t=>(flat t).length).sum
 | []=>by rw [ay];rfl
 | t::ts=>by rw [ay,List.length_append,rZ ts];rfl
theorem lX {t u:Tree} (h:u∈t.kids):(flat u).length < (flat t).length:=by
 rw [du t,List.length_cons,rZ]
 have:∀ ts:List Tree,u∈ts→(flat u).length≤(ts.map fun t=>(flat t).length).sum:=by
  intro ts
  induction ts with
  | nil=>intro h;cases h
  | cons x ts ih=>
   intro h
   rw [List.map_cons,List.sum_cons]
   rcases List.mem_cons.1 h with rfl | h
   ·omega
   ·have:=ih h;omega
 have:=this _ h
 omega
theorem l9 (t:Tree):okT t=(fq ⟨t.kind,t.name,t.kids.length⟩ && jq t.kids):=by cases t;rw [okT];rfl
theorem Tree.ind {p:Tree→Prop} (h:∀ t:Tree,(∀ u∈t.kids,p u)→p t) (t:Tree):p t:=by
 have:∀ n,∀ t:Tree,(flat t).length≤n→p t:=by
  intro n
  induction n with
  | zero=>intro t ht;have:=dF t;omega
  | succ n ih=>intro t ht;exact h t fun u hu=>ih u (by have:=lX hu;omega)
 exact this _ t (Nat.le_refl _)
theorem p4 {s:List UInt8} {f:UInt8→Bool} (h:cT s f=true):0 < s.length∧s.length≤16:=by
 match s,h with
 | b::r,h=>
  simp only [cT,Bool.and_eq_true,decide_eq_true_eq] at h
  exact ⟨by simp,h.1⟩
theorem eK {m:NodeD} (h:fq m=true):(m.kind=1∧m.name=[]∧m.kids=0)∨(m.kind=2∧m.kids=0∧cT m.name eI=true)∨(m.kind=3∧m.kids=0∧cT m.name ic=true)∨((m.kind=4∨m.kind=5)∧m.name=[]∧2≤m.kids)∨((m.kind=6∨m.kind=7∨m.kind=8)∧m.name=[]∧m.kids=1):=by
 unfold fq at h
 split at h
 ·simp only [Bool.and_eq_true,decide_eq_true_eq] at h;exact .inl ⟨by assumption,h⟩
 split at h
 ·simp only [Bool.and_eq_true,decide_eq_true_eq] at h;exact .inr (.inl ⟨by assumption,h⟩)
 split at h
 ·simp only [Bool.and_eq_true,decide_eq_true_eq] at h;exact .inr (.inr (.inl ⟨by assumption,h⟩))
 split at h
 ·simp only [Bool.and_eq_true,decide_eq_true_eq] at h;exact .inr (.inr (.inr (.inl ⟨by assumption,h⟩)))
 split at h
 ·simp only [Bool.and_eq_true,decide_eq_true_eq] at h;exact .inr (.inr (.inr (.inr ⟨by assumption,h⟩)))
 ·cases h
theorem Cu (k:Nat):(nD k).length≤3:=by
 unfold nD
 split
 ·decide
 split <;> decide
theorem Ay (k:Nat):(rc k).length≤1:=by
 unfold rc
 split
 ·decide
 split
 ·decide
 split <;> decide
theorem mc (k j:Nat) (s:List UInt8):s.length≤(gQ k j s).length∧(gQ k j s).length≤s.length+2:=by unfold gQ;split <;> simp <;> omega
theorem Bd (sep:List UInt8) (h:sep.length≤3) (l:List (List UInt8)):(jP sep l).length+3≤eU l+3 * l.length+(if l=[] then 3 else 0):=by
 cases l with
 | nil=>simp [jP]
 | cons x r=>
  rw [mF,if_neg (by simp),List.length_cons]
  have:=Nat.mul_le_mul_right r.length h
  omega
theorem zj {sep x:List UInt8} {r:List (List UInt8)} (h:0 < x.length):0 < (jP sep (x::r)).length:=by
 rw [mF];simp only [eU,List.map_cons,List.sum_cons];omega
theorem ki (t:Tree):okT t=true→0 < (dm t).length∧(dm t).length+5≤22 * (flat t).length:=by
 refine Tree.ind (p:=fun t=>okT t=true→0 < (dm t).length∧(dm t).length+5≤22 * (flat t).length) (fun t ih=>?_) t
 intro h
 rw [l9,Bool.and_eq_true] at h
 have hp:=dF t
 have hk:=fun u hu=>ih u hu (gu h.2 hu)
 rw [o9]
 rcases eK h.1 with ⟨h1,_,_⟩ | ⟨h1,_,h2⟩ | ⟨h1,_,h2⟩ | h3
 ·have h1':t.kind=1:=h1
  rw [if_pos h1']
  exact ⟨by decide,by show 1+5≤_;omega⟩
 ·have h1':t.kind=2:=h1
  rw [if_neg (by omega),if_pos (.inl h1')]
  have:=p4 h2
  dsimp only at this
  omega
 ·have h1':t.kind=3:=h1
  rw [if_neg (by omega),if_pos (.inr h1')]
  have:=p4 h2
  dsimp only at this
  omega
 ·have h3':4≤t.kind∧1≤t.kids.length:=by rcases h3 with ⟨h,_,h'⟩ | ⟨h,_,h'⟩ <;> dsimp only at h h' <;> omega
  rw [if_neg (by omega),if_neg (by omega),List.length_append]
  have hs:=Ay t.kind
  have hb:=Bd (nD t.kind) (Cu t.kind) (t.kids.map fun u=>gQ t.kind u.kind (dm u))
  have hsum:∀ ts:List Tree,(∀ u∈ts,0 < (dm u).length∧(dm u).length+5≤22 * (flat u).length)→eU (ts.map fun u=>gQ t.kind u.kind (dm u))+3 * ts.length≤22 * (ay ts).length:=by
   intro ts
   induction ts with
   | nil=>intro _;simp [eU]
   | cons x ts ih=>
    intro h
    have h1:=h x (by simp)
    have h2:=ih fun u hu=>h u (by simp [hu])
    have h3:=mc t.kind x.kind (dm x)
    rw [ay,List.length_append,List.map_cons,List.length_cons]
    simp only [eU,List.map_cons,List.sum_cons] at h2 ⊢
    omega
  have:=hsum _ hk
  have hf:(flat t).length=(ay t.kids).length+1:=by rw [du t,List.length_cons]
  have hpos:0 < (jP (nD t.kind) (t.kids.map fun u=>gQ t.kind u.kind (dm u))).length:=by
   cases hk2:t.kids with
   | nil=>rw [hk2] at h3';exact absurd h3'.2 (by decide)
   | cons x r=>
    rw [List.map_cons]
    refine zj ?_
    have:=hk x (by rw [hk2];simp)
    have:=mc t.kind x.kind (dm x)
    omega
  rw [List.length_map] at hb
  have hne:t.kids.map (fun u=>gQ t.kind u.kind (dm u))≠[]:=by intro h;have:=congrArg List.length h;rw [List.length_map] at this;simp at this;rw [this] at h3';exact absurd h3'.2 (by decide)
  rw [if_neg hne] at hb
  omega
attribute [local irreducible] G GO GR GT Fn FnX FnV FnXV Dfr pt init exs pur sat own ImpS fq
theorem yA (k:Nat):Fn Tryz.prog 214 #[i64 (k:Nat)] [] (fun r Q=>r=str (rc k)∧Q=[]):=by
 refine Fn.mk2 Tryz.func214 rfl rfl fun w0 F=>?_
 unfold rc
 apply Ru
 by_cases h6:k=6
 ·have c1:decide ((k:Int)=6)=true:=decide_eq_true (by omega)
  rw [if_pos h6]
  refine scT ?_
  exact kr1 rfl ⟨rfl,rfl⟩
 have c1:decide ((k:Int)=6)=false:=decide_eq_false (by omega)
 rw [if_neg h6]
 by_cases h7:k=7
 ·have c2:decide ((k:Int)=7)=true:=decide_eq_true (by omega)
  rw [if_pos h7]
  (refine scF ?_;refine scT ?_)
  exact kr1 rfl ⟨rfl,rfl⟩
 have c2:decide ((k:Int)=7)=false:=decide_eq_false (by omega)
 rw [if_neg h7]
 by_cases h8:k=8
 ·have c3:decide ((k:Int)=8)=true:=decide_eq_true (by omega)
  rw [if_pos h8]
  (refine scF ?_;refine scF ?_;refine scT ?_)
  exact kr1 rfl ⟨rfl,rfl⟩
 have c3:decide ((k:Int)=8)=false:=decide_eq_false (by omega)
 rw [if_neg h8]
 (refine scF ?_;refine scF ?_;refine scF ?_)
 exact kr1 rfl ⟨rfl,rfl⟩
end
section
attribute [local irreducible] G GO GR GT Fn FnX FnV FnXV Dfr pt init exs pur sat own ImpS fq
theorem qO (n:Nat):∀ (q:HP) (v:Value) (t:Tree),NodesR q v (flat t)→okT t=true→(flat t).length≤n→¬ 4096 < (flat t).length →
  Fn Tryz.prog 167 #[v] [q] (fun r Q=>r=str (dm t)∧Q=[q]):=by
 induction n with
 | zero=>intro q v t _ _ h;have:=dF t;omega
 | succ n ih=>
 intro q v t hq hok hn hb
 have h0:=du t
 have hlen:=ki t hok
 have hks:=rQ q v t hq (by omega)
 have hmay:=l9 t
 rw [hok] at hmay
 have hmay:=(Bool.and_eq_true _ _).mp hmay.symm
 have hkid:∀ u∈t.kids,okT u=true∧(flat u).length < (flat t).length:=fun u hu=>⟨gu hmay.2 hu,lX hu⟩
 have hm:=eK hmay.1
 dsimp only at hm
 obtain ⟨b,o,cap,rfl,hcap,rm⟩:=ee hq (i:=0) (m:=⟨t.kind,t.name,t.kids.length⟩) (by rw [h0];rfl)
 have hpos:=dF t
 rw [o9] at hlen ⊢
 generalize hk:t.kind=k at *
 refine Fn.mk2 Tryz.func167 rfl rfl fun w0 F=>?_
 (apply Ru;refine six ?_)
 refine GO.loadM (vs:=[i64 (k:Nat),str t.name,i64 (t.kids.length:Nat)]) rfl rfl rfl Tk.h rfl rm ?_
 (refine sal fun b3=>?_;apply Ru)
 by_cases h1:k=1
 ·have c1:decide ((k:Int)=1)=true:=decide_eq_true (by omega)
  rw [if_pos h1]
  refine scT ?_
  exact kr1 rfl ⟨rfl,rfl⟩
 have c1:decide ((k:Int)=1)=false:=decide_eq_false (by omega)
 rw [if_neg h1] at hlen ⊢
 by_cases h2:k=2
 ·have c2:decide ((k:Int)=2)=true:=decide_eq_true (by omega)
  rw [if_pos (.inl h2)]
  (refine scF ?_;refine scT ?_;refine scT ?_)
  exact kr1 rfl ⟨rfl,rfl⟩
 have c2:decide ((k:Int)=2)=false:=decide_eq_false (by omega)
 by_cases h3:k=3
 ·have c3:decide ((k:Int)=3)=true:=decide_eq_true (by omega)
  rw [if_pos (.inr h3)]
  (refine scF ?_;refine scF ?_;refine scT ?_)
  exact kr1 rfl ⟨rfl,rfl⟩
 have c3:decide ((k:Int)=3)=false:=decide_eq_false (by omega)
 rw [if_neg (by omega)] at hlen ⊢
 refine G.midB [(0,.slice (some ⟨b,o,none⟩) (flat t).length cap),(3,ah b3),(4,str (nD k))] (pt b3 (row [i64 (k:Nat),str t.name,i64 (t.kids.length:Nat)] 93)::q::F) ?_ ?_
 ·unfold nD
  (refine scF ?_;refine scF ?_;refine scF ?_)
  by_cases h5:k=5
  ·have c5:decide ((k:Int)=5)=true:=decide_eq_true (by omega)
   rw [if_pos h5]
   refine scT ?_
   refine ⟨?_,ImpS.sb ?_⟩
   ·exact SE rfl
   ·exact SB
  have c5:decide ((k:Int)=5)=false:=decide_eq_false (by omega)
  rw [if_neg h5]
  by_cases h4:k=4
  ·have c4:decide ((k:Int)=4)=true:=decide_eq_true (by omega)
   rw [if_pos h4]
   (refine scF ?_;refine scT ?_)
   refine ⟨?_,ImpS.sb ?_⟩
   ·exact SE rfl
   ·exact SB
  have c4:decide ((k:Int)=4)=false:=decide_eq_false (by omega)
  rw [if_neg h4]
  (refine scF ?_;refine scF ?_)
  refine ⟨?_,ImpS.sb ?_⟩
  ·exact SE rfl
  ·exact SB
 have hkn:1≤t.kids.length∧((nD k).length=0→t.kids.length=1):=by
  unfold nD
  rcases hm with h | h | h | ⟨h | h,_,h'⟩ | ⟨h,_,h'⟩
  ·omega
  ·omega
  ·omega
  ·rw [if_neg (by omega),if_pos h];exact ⟨by omega,fun h=>by cases h⟩
  ·rw [if_pos h];exact ⟨by omega,fun h=>by cases h⟩
  ·exact ⟨by omega,fun _=>h'⟩
 have hkl:t.kids.length < (flat t).length:=by rw [h0,List.length_cons];have:=j8 t.kids;omega
 clear h0 hm
 apply Ru
 refine scl (hks) ?_
 rintro r _ ⟨vals,hK,rfl⟩
 refine GO.ownRdK Tk.h fun qk hqk=>?_
 obtain ⟨ak,capk,rfl,hcapk,_,hkr⟩:=hqk
 obtain ⟨bk,ok,rfl,hkr2⟩:=hkr (by omega)
 generalize hps:t.kids.map (fun u=>gQ k u.kind (dm u))=ps at *
 have hpl:ps.length=t.kids.length:=by rw [← hps,List.length_map]
 have hpg:∀ j u,t.kids[j]?=some u→ps[j]?=some (gQ k u.kind (dm u)):=fun j u h=>by rw [← hps,List.getElem?_map,h];rfl
 have hpn:∀ x∈ps,0 < x.length:=fun x hx=>by
  rw [← hps] at hx
  obtain ⟨u,hu,rfl⟩:=List.mem_map.1 hx
  have:=ki u (hkid u hu).1
  have:=mc k u.kind (dm u)
  omega
 refine GO.ownNil (T:=9) (sz:=1) ?_
 apply Ru
 refine G.loopI (σ:=Nat × Value) (fun z=>[(0,.slice (some ⟨b,o,none⟩) (flat t).length cap),(3,ah b3),(4,str (nD k)),(5,z.2),(26,.slice (some ⟨bk,ok,none⟩) t.kids.length capk),(27,i64 (t.kids.length:Nat)),(28,i64 (z.1:Nat))]) (fun z=>own 9 1 z.1 z.2 (aI (ps.take z.1))::pt b3 (row [i64 (k:Nat),str t.name,i64 (t.kids.length:Nat)] 93)::qk::q::F) (fun z=>z.1≤t.kids.length) (fun z=>t.kids.length - z.1) (0,.slice none 0 0) (Nat.zero_le _) ?_ ?_ ?_
 ·exact SE rfl
 ·exact ImpS.sb (by ((refine Sb.c Tk.h ?_;exact SB);skip))
 rintro ⟨j,v5⟩ hj
 dsimp only at hj ⊢
 apply Ru
 by_cases hlt:j < t.kids.length
 ·have d1:decide ((j:Int) < (t.kids.length:Int))=true:=decide_eq_true (by omega)
  obtain ⟨u,hu⟩:∃ u,t.kids[j]?=some u:=⟨_,List.getElem?_eq_getElem hlt⟩
  obtain ⟨w,hw1,hw2,hw⟩:=hK.2 j u hlt hu
  obtain ⟨hku1,hku2⟩:=hkid u (List.mem_of_getElem? hu)
  have rk:Rd qk ⟨bk,ok+j * 1,none⟩ w:=by rw [Nat.mul_one];exact hkr2 j w hw1
  obtain ⟨bu,ou,cu,rfl,hcu,rmu⟩:=ee hw (i:=0) (m:=⟨u.kind,u.name,u.kids.length⟩) (by rw [du u];rfl)
  have ru:Rd q ⟨bu,ou+0 * 3+0,none⟩ (i64 (u.kind:Nat)):=rmu 0 _ rfl
  have hup:=dF u
  have hul:=ki u hku1
  have hT:aI (ps.take (j+1))=aI (ps.take j)++[str (gQ k u.kind (dm u))]:=by
   unfold aI
   rw [aG (hpg j u hu),List.map_append];rfl
  clear rmu
  (refine scT ?_;refine six ?_;refine sld (by assumption) ?_;apply Ru)
  refine scl (ih q (.slice (some ⟨bu,ou,none⟩) (flat u).length cu) u hw hku1 (by omega) (by omega)) ?_
  rintro _ _ ⟨rfl,rfl⟩
  unfold gQ at hT
  generalize dm u=s at *
  (apply Ru;refine six ?_;refine sld (by assumption) ?_;apply Ru)
  by_cases g5:u.kind=5
  ·have e5:decide ((u.kind:Int)=5)=true:=decide_eq_true (by omega)
   rw [if_pos (.inl g5)] at hT
   (refine sgF ?_;refine sgF ?_;refine sgF ?_;refine sgF ?_;refine sgF ?_;refine sgF ?_;refine sgF ?_;refine spT ?_)
   refine GO.strCat (a:=[40]) rfl rfl rfl (by rw [show [(40:UInt8)].length=1 from rfl];omega) ?_
   refine GO.strCat (b:=[41]) rfl rfl rfl (by rw [List.length_append,show [(40:UInt8)].length=1 from rfl,show [(41:UInt8)].length=1 from rfl];omega) ?_
   apply Ru
   refine GO.buildSlice1 (n:=1) rfl rfl (fun v hv=>by rw [List.mem_singleton.1 hv];rfl) rfl ⟨by decide,by decide⟩ fun bs=>?_
   refine GO.appendOwn (m:=1) (news:=[str ([40]++s++[41])]) rfl rfl rfl (Tk.t (Tk.t Tk.h)) Tk.h rfl (by simp [Value.oneCell',str]) ⟨by decide,rfl⟩ Nat.one_pos (by unfold maxLen;omega) (by omega) fun v6=>?_
   (apply Ru;refine sad ?_)
   refine ⟨(j+1,v6),hlt,by dsimp only;omega,?_,?_⟩
   ·exact SE rfl
   ·dsimp only
    rw [hT]
    exact ImpS.sb SB
  have e5:decide ((u.kind:Int)=5)=false:=decide_eq_false (by omega)
  by_cases g4:u.kind=4
  ·have e4:decide ((u.kind:Int)=4)=true:=decide_eq_true (by omega)
   by_cases h5:k=5
   ·have c5:decide ((k:Int)≠5)=false:=decide_eq_false (by omega)
    rw [if_neg (by omega)] at hT
    (refine sgT ?_;refine sgT ?_;refine six ?_;refine sgT ?_;refine sgT ?_;refine sld (by assumption) ?_;refine sgT ?_;refine sgT ?_;refine sgT ?_;refine sgT ?_;refine sgT ?_;refine sgT ?_;refine spT ?_;refine spF ?_;refine scF ?_)
    refine GO.buildSlice1 (n:=1) rfl rfl (fun v hv=>by rw [List.mem_singleton.1 hv];rfl) rfl ⟨by decide,by decide⟩ fun bs=>?_
    refine GO.appendOwn (m:=1) (news:=[str (s)]) rfl rfl rfl (Tk.t (Tk.t Tk.h)) Tk.h rfl (by simp [Value.oneCell',str]) ⟨by decide,rfl⟩ Nat.one_pos (by unfold maxLen;omega) (by omega) fun v6=>?_
    (apply Ru;refine sad ?_)
    refine ⟨(j+1,v6),hlt,by dsimp only;omega,?_,?_⟩
    ·exact SE rfl
    ·dsimp only
     rw [hT]
     exact ImpS.sb SB
   ·have c5:decide ((k:Int)≠5)=true:=decide_eq_true (by omega)
    rw [if_pos (.inr ⟨g4,h5⟩)] at hT
    (refine sgT ?_;refine sgT ?_;refine six ?_;refine sgT ?_;refine sgT ?_;refine sld (by assumption) ?_;refine sgT ?_;refine sgT ?_;refine sgT ?_;refine sgT ?_;refine sgT ?_;refine sgT ?_;refine spT ?_;refine spF ?_;refine scT ?_)
    refine GO.strCat (a:=[40]) rfl rfl rfl (by rw [show [(40:UInt8)].length=1 from rfl];omega) ?_
    refine GO.strCat (b:=[41]) rfl rfl rfl (by rw [List.length_append,show [(40:UInt8)].length=1 from rfl,show [(41:UInt8)].length=1 from rfl];omega) ?_
    apply Ru
    refine GO.buildSlice1 (n:=1) rfl rfl (fun v hv=>by rw [List.mem_singleton.1 hv];rfl) rfl ⟨by decide,by decide⟩ fun bs=>?_
    refine GO.appendOwn (m:=1) (news:=[str ([40]++s++[41])]) rfl rfl rfl (Tk.t (Tk.t Tk.h)) Tk.h rfl (by simp [Value.oneCell',str]) ⟨by decide,rfl⟩ Nat.one_pos (by unfold maxLen;omega) (by omega) fun v6=>?_
    (apply Ru;refine sad ?_)
    refine ⟨(j+1,v6),hlt,by dsimp only;omega,?_,?_⟩
    ·exact SE rfl
    ·dsimp only
     rw [hT]
     exact ImpS.sb SB
  ·have e4:decide ((u.kind:Int)=4)=false:=decide_eq_false (by omega)
   rw [if_neg (by omega)] at hT
   (refine sgT ?_;refine sgT ?_;refine six ?_;refine sgT ?_;refine sgT ?_;refine sld (by assumption) ?_;refine sgT ?_;refine sgT ?_;refine sgF ?_;refine sgF ?_;refine sgF ?_;refine sgT ?_;refine spF ?_;refine spF ?_)
   refine GO.buildSlice1 (n:=1) rfl rfl (fun v hv=>by rw [List.mem_singleton.1 hv];rfl) rfl ⟨by decide,by decide⟩ fun bs=>?_
   refine GO.appendOwn (m:=1) (news:=[str (s)]) rfl rfl rfl (Tk.t (Tk.t Tk.h)) Tk.h rfl (by simp [Value.oneCell',str]) ⟨by decide,rfl⟩ Nat.one_pos (by unfold maxLen;omega) (by omega) fun v6=>?_
   (apply Ru;refine sad ?_)
   refine ⟨(j+1,v6),hlt,by dsimp only;omega,?_,?_⟩
   ·exact SE rfl
   ·dsimp only
    rw [hT]
    exact ImpS.sb SB
 ·have d1:decide ((j:Int) < (t.kids.length:Int))=false:=decide_eq_false (by omega)
  obtain rfl:j=t.kids.length:=by omega
  rw [show ps.take t.kids.length=ps from List.take_of_length_le (by omega),← hpl]
  rw [← hpl] at d1
  refine G.ownRdK Tk.h fun qp hqp=>?_
  refine scF ?_
  rw [List.length_append] at hlen
  refine dr 7 ?_
  apply Ru
  apply GQ.step;focus (intro Z;refine scl (ze qp v5 (nD k) ps hqp hpn (by omega) (by omega)) ?_;rintro _ _ ⟨rfl,rfl⟩;refine GO.nil (KQ.s ?_);exact SB)
  apply Ru
  apply GQ.step;focus (intro Z;refine scl (yA k) ?_;rintro _ _ ⟨rfl,rfl⟩;refine GO.nil (KQ.s ?_);exact SB)
  apply GQ.step;focus (intro Z;refine GO.strCat rfl rfl rfl (by omega) ?_;exact KQ.z)
  apply Ru
  exact kr1 rfl ⟨rfl,rfl⟩
end
section
def az (l:List Nat):List Value:=l.map fun (n:Nat)=>i64 n
theorem dv (l:List Nat):(az l).length=l.length:=by simp [az]
theorem cK (l k:List Nat):az (l++k)=az l++az k:=by simp [az]
def yE:List Nat→List Nat
 | []=>[]
 | c::r=>wr c r
theorem GO.max2 {P:Program} {c:Cx} {A:Array Oper} {rest:List Oper} {K:aY} {L:Env} {H:List HP} {t:TypeId} {p:String} {e:Array Edge} {d:Nat} {x y:Operand} {kx ky:IntKind} {m n:Int} {ats:Array TypeId} (hN:Nat.blt d c.N=true) (hx:evl L x=some (.int kx m)) (hy:evl L y=some (.int ky n))
  (k:GO P c A rest K ((d,.int kx (max m n))::L) H):GO P c A (⟨some d,.call ⟨.builtin .max,#[x,y],ats⟩,t,p,e,none⟩::rest) K L H:=
 GO.val hN rfl (fun a w Y h _=>by
  have e1:(if m < n then n else m)=max m n:=by rw [Int.max_def];split <;> split <;> omega
  simp only [execOp,resolve,invoke,builtin]
  simp [Sem.run_bind,Result.andThen,h.eval hx,h.eval hy,run_max_int2,e1]) k
attribute [local irreducible] G GO GR GT Fn FnX FnV FnXV Dfr pt init exs pur sat own ImpS fq
theorem nc (q:HP) (v:Value) (l:List NodeD) (hq:NodesR q v l) (hl:¬ 4096 < l.length) (hks:∀ m∈l,¬ 1048576 < m.kids):Fn Tryz.prog 148 #[v] [q] (fun r Q=>r=i64 (ja l:Nat)∧Q=[q]):=by
 have hrd:∀ i m,l[i]?=some m→_:=fun i m h=>ee hq h
 obtain ⟨a,cap,rfl⟩:=aZ hq
 clear hq
 refine Fn.mk2 Tryz.func148 rfl rfl fun w0 F=>?_
 unfold ja
 generalize hfin:kz 0 [] l=fin
 refine G.ownNil (T:=3) (sz:=1) ?_
 apply Ru
 refine G.loopI (σ:=Nat × Nat × List Nat × Value) (fun z=>[(0,.slice a l.length cap),(3,i64 (z.2.1:Nat)),(4,z.2.2.2),(7,.slice a l.length cap),(8,i64 (l.length:Nat)),(9,i64 (z.1:Nat))]) (fun z=>own 3 1 z.2.2.1.length z.2.2.2 (az z.2.2.1.reverse)::q::F)
  (fun z=>z.1≤l.length∧kz z.2.1 z.2.2.1 (l.drop z.1)=fin∧z.2.2.1.length≤z.1∧z.2.1≤z.1∧(∀ c∈z.2.2.1,1≤c)∧∀ c∈z.2.2.1,¬ 1048576 < c) (fun z=>l.length - z.1) (0,0,[],.slice none 0 0) ⟨Nat.zero_le _,hfin,Nat.zero_le _,Nat.zero_le _,by simp,by simp⟩ ?_ ?_ ?_
 ·exact SE rfl
 ·exact ImpS.sb (by ((refine Sb.c Tk.h ?_;exact SB);skip))
 clear hfin
 rintro ⟨i,most,over,v4⟩ ⟨hi,hw,ho,hmi,hp1,hp2⟩
 dsimp only at hi hw ho hmi hp1 hp2 ⊢
 apply Ru
 by_cases hlt:i < l.length
 ·have d1:decide ((i:Int) < (l.length:Int))=true:=decide_eq_true (by omega)
  obtain ⟨m,hm⟩:∃ m,l[i]?=some m:=⟨_,List.getElem?_eq_getElem hlt⟩
  have hmk:=hks m (List.mem_of_getElem? hm)
  obtain ⟨b,o2,cap2,e,_,rm⟩:=hrd i m hm
  injection e with e _ e2
  subst e e2
  rw [dg hm,kz] at hw
  (refine scT ?_;refine six ?_)
  refine GO.loadM (vs:=[i64 (m.kind:Nat),str m.name,i64 (m.kids:Nat)]) rfl rfl rfl (Tk.t Tk.h) rfl rm ?_
  (refine sal fun b6=>?_;apply Ru;refine sad ?_)
  refine GO.max2 rfl rfl rfl ?_
  rw [show max (most:Int) ((over.length:Int)+1)=((max most (over.length+1):Nat):Int) by omega]
  generalize hmx:max most (over.length+1)=mx at hw ⊢
  apply Ru
  refine GO.buildSlice1 (n:=1) rfl rfl (fun v hv=>by rw [List.mem_singleton.1 hv];rfl) rfl ⟨by decide,by decide⟩ fun bs=>?_
  refine GO.appendOwn (m:=1) (news:=[i64 (m.kids:Nat)]) rfl rfl rfl (Tk.t (Tk.t Tk.h)) Tk.h rfl (by simp [Value.oneCell']) ⟨by decide,rfl⟩ Nat.one_pos (by unfold maxLen;omega) (by omega) fun v6=>?_
  apply Ru
  refine G.loopI (σ:=List Nat × Value) (fun z=>[(0,.slice (some ⟨b,o2,none⟩) l.length cap),(3,i64 (mx:Nat)),(4,z.2),(7,.slice (some ⟨b,o2,none⟩) l.length cap),(8,i64 (l.length:Nat)),(9,i64 (i:Nat))]) (fun z=>own 3 1 z.1.length z.2 (az z.1.reverse)::q::F)
   (fun z=>yE z.1=wr m.kids over∧z.1.length≤over.length+1∧(∀ c∈z.1.tail,1≤c)∧∀ c∈z.1,¬ 1048576 < c) (fun z=>z.1.length) (m.kids::over,v6) ⟨rfl,Nat.le_refl _,hp1,fun c hc=>by rcases List.mem_cons.1 hc with rfl | hc;exact hmk;exact hp2 c hc⟩ ?_ ?_ ?_
  ·exact SE rfl
  ·dsimp only
   rw [List.reverse_cons,cK]
   exact ImpS.sb (by ((refine Sb.c Tk.h ?_;exact SB);skip))
  rintro ⟨s,v7⟩ ⟨hs,hsl,hs1,hs2⟩
  dsimp only at hs hsl hs1 hs2 ⊢
  apply Ru
  cases s with
  | nil=>
   have d2:decide ((0:Int) < (([]:List Nat).length:Int))=false:=rfl
   rw [yE] at hs
   rw [← hs] at hw
   (refine GO.gF rfl rfl rfl rfl ?_;refine GO.gF rfl rfl rfl rfl ?_;refine GO.gF rfl rfl rfl rfl ?_;refine GO.gF rfl rfl rfl rfl ?_;refine GO.gF rfl rfl rfl rfl ?_;refine GO.gF rfl rfl rfl rfl ?_;refine GO.gF rfl rfl rfl rfl ?_;refine GO.pickF rfl rfl rfl ?_;apply Ru;refine sad ?_)
   refine ⟨(i+1,mx,[],v7),⟨hlt,hw,Nat.zero_le _,by dsimp only;omega,by simp,by simp⟩,by dsimp only;omega,?_,ImpS.sb ?_⟩
   ·exact SE rfl
   ·exact SB
  | cons c r=>
   have hcl:(c::r).length=r.length+1:=rfl
   have d2:decide ((0:Int) < ((c::r).length:Int))=true:=decide_eq_true (by omega)
   refine GO.ownForm (by omega) Tk.h fun b7 cap7 e7 hc7 _ _=>?_
   subst e7
   have r7:Rd (own 3 1 (c::r).length (.slice (some ⟨b7,0,none⟩) (c::r).length cap7) (az (c::r).reverse)) ⟨b7,0+r.length * 1,none⟩ (i64 (c:Nat)):=Rd.own (by
    rw [List.reverse_cons,cK,List.getElem?_append_right (by rw [dv,List.length_reverse];omega),dv,List.length_reverse,show 0+r.length * 1 - r.length=0 by omega];rfl)
   (refine sgT ?_;refine sgT ?_;refine sgT ?_;refine sgT ?_;refine ssu ?_;refine sgT ?_)
   refine GO.idxS (j:=r.length) rfl rfl rfl ⟨by omega,by omega⟩ ?_
   (refine sgT ?_;refine sld (by assumption) ?_;refine sgT ?_;refine spT ?_)
   cases c with
   | succ c=>
    have d3:decide (((c+1:Nat):Int)=0)=false:=decide_eq_false (by omega)
    rw [yE,wr] at hs
    rw [← hs] at hw
    (refine G.condF rfl rfl ?_;apply Ru;refine sad ?_)
    refine ⟨(i+1,mx,(c+1)::r,.slice (some ⟨b7,0,none⟩) ((c+1)::r).length cap7),⟨hlt,hw,by dsimp only;omega,by dsimp only;omega,fun d hd=>by rcases List.mem_cons.1 hd with rfl | hd;exact Nat.succ_pos _;exact hs1 d hd,hs2⟩,by dsimp only;omega,?_,ImpS.sb ?_⟩
    ·exact SE rfl
    ·exact SB
   | zero=>
    have d3:decide (((0:Nat):Int)=0)=true:=rfl
    have hcut:(az (0::r).reverse).take (r.length * 1)=az r.reverse:=by
     rw [List.reverse_cons,cK,List.take_append_of_le_length (by rw [dv,List.length_reverse];omega),List.take_of_length_le (by rw [dv,List.length_reverse];omega)]
    rw [yE] at hs
    (refine G.condT rfl rfl ?_;apply Ru;refine ssu ?_)
    refine GO.cutOwn (h:=r.length) rfl rfl rfl ⟨by omega,by omega⟩ Tk.h fun v8=>?_
    rw [hcut]
    clear hcut r7
    apply Ru
    cases r with
    | nil=>
     have d4:decide ((0:Int) < (([]:List Nat).length:Int))=false:=rfl
     (refine G.condF rfl rfl ?_;apply Ru)
     refine ⟨([],v8),⟨by rw [yE,← hs,wr],Nat.zero_le _,by simp,by simp⟩,by dsimp only;omega,?_,ImpS.sb ?_⟩
     ·exact SE rfl
     ·exact SB
    | cons c r=>
     have hcl2:(c::r).length=r.length+1:=rfl
     have d4:decide ((0:Int) < ((c::r).length:Int))=true:=decide_eq_true (by omega)
     have hc1:1≤c:=hs1 c (by simp)
     have hc2:¬ 1048576 < c:=hs2 c (by simp)
     refine G.ownForm (by omega) Tk.h fun b8 cap8 e8 hc8 _ _=>?_
     subst e8
     have r8:Rd (own 3 1 (c::r).length (.slice (some ⟨b8,0,none⟩) (c::r).length cap8) (az (c::r).reverse)) ⟨b8,0+r.length * 1,none⟩ (i64 (c:Nat)):=Rd.own (by
      rw [List.reverse_cons,cK,List.getElem?_append_right (by rw [dv,List.length_reverse];omega),dv,List.length_reverse,show 0+r.length * 1 - r.length=0 by omega];rfl)
     have hst:(az (c::r).reverse).take (0+r.length * 1)++[i64 ((c - 1:Nat):Int)]++(az (c::r).reverse).drop (0+r.length * 1+1)=az ((c - 1)::r).reverse:=by
      rw [List.reverse_cons,List.reverse_cons,cK,cK,show 0+r.length * 1=r.length by omega,List.take_append_of_le_length (by rw [dv,List.length_reverse];omega),List.take_of_length_le (by rw [dv,List.length_reverse];omega),List.drop_eq_nil_of_le (by rw [List.length_append,dv,dv,List.length_reverse];exact Nat.le_refl _),List.append_nil];rfl
     have hxl:(az (c::r).reverse).length=r.length+1:=by rw [dv,List.length_reverse,List.length_cons]
     have hci:((c:Int) - 1)=((c - 1:Nat):Int):=by omega
     (refine scT ?_;refine ssu ?_)
     refine GO.idxS (j:=r.length) rfl rfl rfl ⟨by omega,by omega⟩ ?_
     (refine sld (by assumption) ?_;refine ssu ?_)
     refine GO.idxS (j:=r.length) rfl rfl rfl ⟨by omega,by omega⟩ ?_
     rw [hci]
     refine GO.storeOwn (w0:=1) (vs:=[i64 ((c - 1:Nat):Int)]) rfl rfl rfl rfl Tk.h (by rw [hxl];omega) (by simp [Value.oneCell']) ?_
     rw [hst]
     clear hst r8
     apply Ru
     refine ⟨((c - 1)::r,.slice (some ⟨b8,0,none⟩) ((c - 1)::r).length cap8),⟨by rw [yE,← hs,wr],by dsimp only;rw [List.length_cons] at hsl ⊢;omega,fun d hd=>hs1 d (by simp only [List.tail_cons] at hd ⊢;exact List.mem_cons_of_mem _ hd),fun d hd=>by
      rcases List.mem_cons.1 hd with rfl | hd
      ·omega
      ·exact hs2 d (by simp [hd])⟩,by dsimp only;rw [List.length_cons,List.length_cons,List.length_cons];omega,?_,ImpS.sb ?_⟩
     ·exact SE rfl
     ·exact SB
 ·have d1:decide ((i:Int) < (l.length:Int))=false:=decide_eq_false (by omega)
  rw [List.drop_eq_nil_of_le (by omega),kz] at hw
  subst hw
  refine scF ?_
  exact kr1 rfl ⟨rfl,rfl⟩
end
section
def fP:List NodeD→List Tree
 | []=>[]
 | m::r=>.node m.kind m.name ((fP r).take m.kids)::(fP r).drop m.kids
def gj (l:List NodeD):Tree:=match fP l with
 | t::_=>t
 | []=>.node 0 [] []
theorem tW (t:Tree):∀ r,fP (flat t++r)=t::fP r:=by
 refine Tree.ind (p:=fun t=>∀ r,fP (flat t++r)=t::fP r) (fun t ih=>?_) t
 intro r
 have h:∀ ts:List Tree,(∀ u∈ts,∀ r,fP (flat u++r)=u::fP r)→fP (ay ts++r)=ts++fP r:=by
  intro ts
  induction ts with
  | nil=>intro _;rw [ay];rfl
  | cons u us ihu=>intro h;rw [ay,List.append_assoc,h u (by simp),ihu fun x hx=>h x (by simp [hx])];rfl
 rw [du,List.cons_append,fP,h _ ih]
 dsimp only
 rw [List.take_append_of_le_length (Nat.le_refl _),List.take_length,List.drop_append_of_le_length (Nat.le_refl _),List.drop_length]
 cases t;rfl
theorem bW (t:Tree):gj (flat t)=t:=by
 have:=tW t []
 rw [List.append_nil] at this
 unfold gj
 rw [this]
theorem s7 (t:Tree):∀ m∈flat t,m.kids < (flat t).length:=by
 refine Tree.ind (p:=fun t=>∀ m∈flat t,m.kids < (flat t).length) (fun t ih=>?_) t
 intro m hm
 rw [du] at hm
 rcases List.mem_cons.1 hm with rfl | hm
 ·rw [du t,List.length_cons]
  have:=j8 t.kids
  dsimp only
  omega
 ·have:∃ u∈t.kids,m∈flat u:=by
   revert hm
   generalize t.kids=ts
   induction ts with
   | nil=>intro h;rw [ay] at h;cases h
   | cons u us ihu=>
    intro h
    rw [ay] at h
    rcases List.mem_append.1 h with h | h
    ·exact ⟨u,by simp,h⟩
    ·obtain ⟨x,hx,hx2⟩:=ihu h
     exact ⟨x,by simp [hx],hx2⟩
  obtain ⟨u,hu,hu2⟩:=this
  have:=ih u hu m hu2
  have:=lX hu
  omega
def mM (t:Tree):Nat:=if 16 < ja (flat t) then 171 else if 2048 < (dm t).length then 174 else 0
def bq (l:List NodeD):Nat:=if 2048 < l.length then 3 else if iL l=true then mM (gj l) else 170
def gm (l:List NodeD):List UInt8:=if bq l=0 then dm (gj l) else []
def i8 (l:List NodeD):Nat:=if iL l=true then ja l else 0
attribute [local irreducible] G GO GR GT Fn FnX FnV FnXV Dfr pt init exs pur sat own ImpS fq
theorem tF (q:HP) (v:Value) (t:Tree) (hq:NodesR q v (flat t)) (hok:okT t=true) (hl:¬ 4096 < (flat t).length):Fn Tryz.prog 127 #[v] [q] (fun r Q=>r=i64 (mM t:Nat)∧Q=[q]):=by
 refine Fn.mk2 Tryz.func127 rfl rfl fun w0 F=>?_
 have hk:=s7 t
 have htl:=(ki t hok).2
 unfold mM
 apply Ru
 refine scl (nc q v (flat t) hq hl (fun m hm=>by have:=hk m hm;omega)) ?_
 rintro _ _ ⟨rfl,rfl⟩
 by_cases h:16 < ja (flat t)
 ·have d1:decide ((16:Int) < (ja (flat t):Int))=true:=decide_eq_true (by omega)
  rw [if_pos h]
  (apply Ru;refine scT ?_)
  exact kr1 rfl ⟨rfl,rfl⟩
 have d1:decide ((16:Int) < (ja (flat t):Int))=false:=decide_eq_false (by omega)
 rw [if_neg h]
 (apply Ru;refine scF ?_)
 refine scl (qO _ q v t hq hok (Nat.le_refl _) hl) ?_
 rintro _ _ ⟨rfl,rfl⟩
 by_cases h2:2048 < (dm t).length
 ·rw [if_pos h2]
  (apply Ru;refine scT ?_)
  rw [show decide ((2048:Int) < ((dm t).length:Int))=true from decide_eq_true (by omega)]
  exact kr1 rfl ⟨rfl,rfl⟩
 rw [if_neg h2]
 (apply Ru;refine scF ?_)
 rw [show decide ((2048:Int) < ((dm t).length:Int))=false from decide_eq_false (by omega)]
 exact kr1 rfl ⟨rfl,rfl⟩
theorem check_spec (q:HP) (v:Value) (l:List NodeD) (hq:NodesR q v l) (hl:¬ 1048576 < l.length):Fn Tryz.prog 59 #[v] [q] (fun r Q=>r=i64 (bq l:Nat)∧Q=[q]):=by
 obtain ⟨a,cap,rfl⟩:=aZ hq
 refine Fn.mk2 Tryz.func59 rfl rfl fun w0 F=>?_
 unfold bq
 apply Ru
 by_cases h:2048 < l.length
 ·rw [show decide ((2048:Int) < (l.length:Int))=true from decide_eq_true (by omega),if_pos h]
  apply Ru
  exact kr1 rfl ⟨rfl,rfl⟩
 rw [show decide ((2048:Int) < (l.length:Int))=false from decide_eq_false (by omega),if_neg h]
 apply Ru
 refine scl (nS q (.slice a l.length cap) l hq hl) ?_
 rintro _ _ ⟨rfl,rfl⟩
 cases hw:iL l
 ·rw [if_neg (by decide)]
  (apply Ru;refine G.condT rfl rfl ?_;apply Ru)
  exact kr1 rfl ⟨rfl,rfl⟩
 obtain ⟨t,rfl,hok⟩:=kU hw
 rw [if_pos rfl,bW]
 (apply Ru;refine G.condF rfl rfl ?_;apply Ru)
 refine scl (tF q (.slice a (flat t).length cap) t hq hok (by omega)) ?_
 rintro _ _ ⟨rfl,rfl⟩
 apply Ru
 exact kr1 rfl ⟨rfl,rfl⟩
theorem fy {l:List NodeD} (h:bq l=0):¬ 2048 < l.length∧∃ t,flat t=l∧okT t=true∧mM t=0:=by
 unfold bq at h
 split at h
 ·cases h
 split at h
 ·obtain ⟨t,rfl,hok⟩:=kU (by assumption)
  rw [bW] at h
  exact ⟨by assumption,t,rfl,hok,h⟩
 ·cases h
theorem wp (q:HP) (v:Value) (l:List NodeD) (hq:NodesR q v l) (hl:¬ 1048576 < l.length):Fn Tryz.prog 149 #[v] [q] (fun r Q=>r=.tuple #[str (gm l),i64 (bq l:Nat)]∧Q=[q]):=by
 refine Fn.mk2 Tryz.func149 rfl rfl fun w0 F=>?_
 unfold gm
 apply Ru
 refine scl (check_spec q v l hq hl) ?_
 rintro _ _ ⟨rfl,rfl⟩
 by_cases h:bq l=0
 ·have d1:decide ((bq l:Int)≠0)=false:=decide_eq_false (by omega)
  obtain ⟨hl2,t,rfl,hok,_⟩:=fy h
  rw [if_pos h,bW]
  (apply Ru;refine scF ?_)
  refine scl (qO _ q v t hq hok (Nat.le_refl _) (by omega)) ?_
  rintro _ _ ⟨rfl,rfl⟩
  rw [h]
  apply Ru
  exact kr2 rfl ⟨rfl,rfl⟩
 ·have d1:decide ((bq l:Int)≠0)=true:=decide_eq_true (by omega)
  rw [if_neg h]
  (apply Ru;refine scT ?_)
  exact kr2 rfl ⟨rfl,rfl⟩
theorem nA (q:HP) (v:Value) (l:List NodeD) (hq:NodesR q v l) (hl:¬ 4096 < l.length):Fn Tryz.prog 93 #[v] [q] (fun r Q=>r=i64 (i8 l:Nat)∧Q=[q]):=by
 refine Fn.mk2 Tryz.func93 rfl rfl fun w0 F=>?_
 unfold i8
 apply Ru
 refine scl (nS q v l hq (by omega)) ?_
 rintro _ _ ⟨rfl,rfl⟩
 cases hw:iL l
 ·rw [if_neg (by decide)]
  (apply Ru;refine G.condT rfl rfl ?_;apply Ru)
  exact kr1 rfl ⟨rfl,rfl⟩
 obtain ⟨t,rfl,hok⟩:=kU hw
 have hk:=s7 t
 rw [if_pos rfl]
 (apply Ru;refine G.condF rfl rfl ?_;apply Ru)
 refine scl (nc q v (flat t) hq hl (fun m hm=>by have:=hk m hm;omega)) ?_
 rintro _ _ ⟨rfl,rfl⟩
 apply Ru
 exact kr1 rfl ⟨rfl,rfl⟩
end
section
section
variable {α:Type}
inductive Many (P:List α→Prop):List α→Prop where
 | nil:Many P []
 | cons {u v:List α} (h:P u) (r:Many P v):Many P (u++v)
def kK (P:List α→Prop) (w:List α):Prop:=∃ u v,w=u++v∧P u∧Many P v
variable (leaf:Nat→List UInt8→α)
mutual
def Lg:Tree→List α→Prop
 | .node k n ts,w=>if k=1 then w=[] else if k=2∨k=3 then w=[leaf k n] else if k=4 then LgS ts w else if k=5 then LgA ts w else if k=6 then Many (LgA ts) w else if k=7 then kK (LgA ts) w else w=[]∨LgA ts w
def LgS:List Tree→List α→Prop
 | [],w=>w=[]
 | t::ts,w=>∃ u v,w=u++v∧Lg t u∧LgS ts v
def LgA:List Tree→List α→Prop
 | [],_=>False
 | t::ts,w=>Lg t w∨LgA ts w
end
end
section
variable {α:Type}
theorem uV {P:List α→Prop} {u v:List α} (h:Many P u) (k:Many P v):Many P (u++v):=by
 induction h with
 | nil=>exact k
 | cons h _ ih=>rw [List.append_assoc];exact .cons h ih
theorem uT {P:List α→Prop} {u:List α} (h:P u):Many P u:=by have:=Many.cons h .nil;rwa [List.append_nil] at this
theorem p5 {P:List α→Prop} {w:List α}:Many P w↔w=[]∨kK P w:=by
 constructor
 ·intro h
  cases h with
  | nil=>exact .inl rfl
  | cons h r=>exact .inr ⟨_,_,rfl,h,r⟩
 ·rintro (rfl | ⟨u,v,rfl,h,r⟩)
  ·exact .nil
  ·exact .cons h r
theorem yF {P:List α→Prop} {u v:List α} (h:kK P u) (k:P v):kK P (u++v):=by
 obtain ⟨a,b,rfl,h1,h2⟩:=h
 exact ⟨a,b++v,by rw [List.append_assoc],h1,uV h2 (uT k)⟩
theorem lC {P:List α→Prop} {u:List α} (h:P u):kK P u:=⟨u,[],by rw [List.append_nil],h,.nil⟩
def seg (w:List α) (i j:Nat):List α:=(w.drop i).take (j - i)
theorem AC (w:List α) (i:Nat):seg w i i=[]:=by unfold seg;rw [Nat.sub_self];rfl
theorem C6 (w:List α) {i m j:Nat} (h1:i≤m) (h2:m≤j):seg w i j=seg w i m++seg w m j:=by
 unfold seg
 have e:j - i=(m - i)+(j - m):=by omega
 rw [e,List.take_add,List.drop_drop,show i+(m - i)=m by omega]
theorem C5 {w:List α} {i:Nat} {x:α} (h:w[i]?=some x):seg w i (i+1)=[x]:=by
 obtain ⟨hlt,rfl⟩:=List.getElem?_eq_some_iff.1 h
 unfold seg
 rw [List.drop_eq_getElem_cons hlt,show i+1 - i=1 by omega]
 rfl
variable {P Q:List α→Prop} {w:List α} {a b c:Nat→Bool}
theorem zD {β:Type} {l:List β} {b c:β→Bool} (h:∀ i∈l,b i=true→c i=true):(l.filter b).length≤(l.filter c).length:=by
 induction l with
 | nil=>exact Nat.le_refl _
 | cons x l ih=>
  have h1:=ih fun i hi=>h i (by simp [hi])
  have h2:=h x (by simp)
  rw [List.filter_cons,List.filter_cons]
  cases hb:b x with
  | true=>rw [if_pos rfl,if_pos (h2 hb),List.length_cons,List.length_cons];omega
  | false=>rw [if_neg (by decide)];split <;> (try rw [List.length_cons]) <;> omega
theorem zC {β:Type} {l:List β} {b c:β→Bool} (h:∀ i∈l,b i=true→c i=true) {j:β} (hj:j∈l) (h1:b j=false) (h2:c j=true):(l.filter b).length < (l.filter c).length:=by
 induction l with
 | nil=>cases hj
 | cons x l ih=>
  have hl:=zD fun i (hi:i∈l)=>h i (by simp [hi])
  rw [List.filter_cons,List.filter_cons]
  rcases List.mem_cons.1 hj with rfl | hj
  ·rw [h1,if_neg (by decide),if_pos h2,List.length_cons];omega
  ·have:=ih (fun i hi=>h i (by simp [hi])) hj
   have h3:=h x (by simp)
   cases hb:b x with
   | true=>rw [if_pos rfl,if_pos (h3 hb),List.length_cons,List.length_cons];omega
   | false=>rw [if_neg (by decide)];split <;> (try rw [List.length_cons]) <;> omega
end
end
section
structure SyD where
 lab:Bool
 num:Nat
 deriving DecidableEq
structure ArD where
 src:Nat
 sym:SyD
 dst:Nat
 deriving DecidableEq
structure PtD where
 emp:Bool
 first:List Nat
 last:List Nat
def ce (S:List SyD) (q:Nat):SyD:=(S[q - 1]?).getD ⟨false,0⟩
def aH (S:List SyD) (last first:List Nat):List ArD:=last.flatMap fun p=>first.map fun q=>⟨p,ce S q,q⟩
abbrev GSt:=List SyD × List ArD
def ir (a b:PtD):PtD:=⟨a.emp && b.emp,a.first++(if a.emp=true then b.first else []),b.last++(if b.emp=true then a.last else [])⟩
def gP (a b:PtD):PtD:=⟨a.emp || b.emp,a.first++b.first,a.last++b.last⟩
section
variable (leaf:Nat→List UInt8→SyD)
mutual
def bC:Tree→GSt→PtD × GSt
 | .node k n ts,st=>if k=2∨k=3 then (⟨false,[st.1.length+1],[st.1.length+1]⟩,(st.1++[leaf k n],st.2)) else
   (⟨(bQ k ts ⟨decide (k=1) || decide (k=4),[],[]⟩ st).1.emp || (decide (k=6) || decide (k=8)),(bQ k ts ⟨decide (k=1) || decide (k=4),[],[]⟩ st).1.first,(bQ k ts ⟨decide (k=1) || decide (k=4),[],[]⟩ st).1.last⟩,
    if k=6∨k=7 then ((bQ k ts ⟨decide (k=1) || decide (k=4),[],[]⟩ st).2.1,(bQ k ts ⟨decide (k=1) || decide (k=4),[],[]⟩ st).2.2++aH (bQ k ts ⟨decide (k=1) || decide (k=4),[],[]⟩ st).2.1 (bQ k ts ⟨decide (k=1) || decide (k=4),[],[]⟩ st).1.last (bQ k ts ⟨decide (k=1) || decide (k=4),[],[]⟩ st).1.first) else (bQ k ts ⟨decide (k=1) || decide (k=4),[],[]⟩ st).2)
def bQ (k:Nat):List Tree→PtD→GSt→PtD × GSt
 | [],out,st=>(out,st)
 | t::ts,out,st=>if k=4 then bQ k ts (ir out (bC t st).1) ((bC t st).2.1,(bC t st).2.2++aH (bC t st).2.1 out.last (bC t st).1.first) else bQ k ts (gP out (bC t st).1) (bC t st).2
end
end
def Pth (A:List ArD):Nat→List SyD→Nat→Prop
 | p,[],q=>p=q
 | p,s::u,q=>∃ x∈A,x.src=p∧x.sym=s∧Pth A x.dst u q
theorem nH {A:List ArD}:∀ {u v:List SyD} {p q:Nat},Pth A p (u++v) q↔∃ m,Pth A p u m∧Pth A m v q
 | [],v,p,q=>⟨fun h=>⟨p,rfl,h⟩,fun ⟨_,rfl,h⟩=>h⟩
 | s::u,v,p,q=>by
  constructor
  ·rintro ⟨x,h1,h2,h3,h4⟩
   obtain ⟨m,h5,h6⟩:=nH.1 h4
   exact ⟨m,⟨x,h1,h2,h3,h5⟩,h6⟩
  ·rintro ⟨m,⟨x,h1,h2,h3,h5⟩,h6⟩
   exact ⟨x,h1,h2,h3,nH.2 ⟨m,h5,h6⟩⟩
theorem eG {A B:List ArD} (h:∀ x∈A,x∈B):∀ {u:List SyD} {p q:Nat},Pth A p u q→Pth B p u q
 | [],_,_,k=>k
 | _::_,_,_,⟨x,h1,h2,h3,h4⟩=>⟨x,h x h1,h2,h3,eG h h4⟩
def Acc (S:List SyD) (A:List ArD) (pt:PtD) (u:List SyD):Prop:=(u=[]∧pt.emp=true)∨∃ f∈pt.first,∃ l∈pt.last,∃ v,u=ce S f::v∧Pth A f v l
structure GOK (S:List SyD) (lo hi:Nat) (A:List ArD) (pt:PtD):Prop where
 le:lo≤hi
 fst:∀ q∈pt.first,lo < q∧q≤hi
 lst:∀ q∈pt.last,lo < q∧q≤hi
 nf:pt.first.Nodup
 nl:pt.last.Nodup
 arc:∀ x∈A,(lo < x.src∧x.src≤hi)∧(lo < x.dst∧x.dst≤hi)∧x.sym=ce S x.dst
theorem dw {S:List SyD} {l f:List Nat} {x:ArD}:x∈aH S l f↔x.src∈l∧x.dst∈f∧x.sym=ce S x.dst:=by
 unfold aH
 rw [List.mem_flatMap]
 constructor
 ·rintro ⟨p,hp,h⟩
  obtain ⟨q,hq,rfl⟩:=List.mem_map.1 h
  exact ⟨hp,hq,rfl⟩
 ·rintro ⟨h1,h2,h3⟩
  refine ⟨x.src,h1,List.mem_map.2 ⟨x.dst,h2,?_⟩⟩
  cases x
  dsimp only at h3 ⊢
  rw [h3]
section
variable {S:List SyD} {lo mid hi:Nat} {A B X:List ArD} {a b:PtD}
theorem mo (h:GOK S lo hi A a):∀ {u:List SyD} {p q:Nat},lo < p∧p≤hi→Pth A p u q→lo < q∧q≤hi
 | [],_,_,hp,k=>by rw [← k];exact hp
 | _::_,_,_,_,⟨x,h1,_,_,h4⟩=>mo h (h.arc x h1).2.1 h4
theorem iP (ha:GOK S lo mid A a) (hb:GOK S mid hi B b) (hX:∀ x∈X,x.src≤mid):∀ {u:List SyD} {p q:Nat},mid < p→Pth (A++B++X) p u q→Pth B p u q
 | [],_,_,_,k=>k
 | _::_,p,_,hp,⟨x,h1,h2,h3,h4⟩=>by
  rcases List.mem_append.1 h1 with h1 | h1
  ·rcases List.mem_append.1 h1 with h1 | h1
   ·have:=(ha.arc x h1).1;omega
   ·exact ⟨x,h1,h2,h3,iP ha hb hX (hb.arc x h1).2.1.1 h4⟩
  ·have:=hX x h1;omega
theorem mq (ha:GOK S lo mid A a) (hb:GOK S mid hi B b) (hX:∀ x∈X,x.src≤mid∧mid < x.dst):∀ {u:List SyD} {p q:Nat},p≤mid→Pth (A++B++X) p u q →
  Pth A p u q∨∃ u1 x u2,u=u1++x.sym::u2∧x∈X∧Pth A p u1 x.src∧Pth B x.dst u2 q
 | [],_,_,_,k=>.inl k
 | s::u,p,q,hp,⟨x,h1,h2,h3,h4⟩=>by
  rcases List.mem_append.1 h1 with h1 | h1
  ·rcases List.mem_append.1 h1 with h1 | h1
   ·rcases mq ha hb hX (ha.arc x h1).2.1.2 h4 with k | ⟨u1,y,u2,e,k1,k2,k3⟩
    ·exact .inl ⟨x,h1,h2,h3,k⟩
    ·exact .inr ⟨s::u1,y,u2,by rw [e];rfl,k1,⟨x,h1,h2,h3,k2⟩,k3⟩
   ·have:=(hb.arc x h1).1;omega
  ·have:=hX x h1
   exact .inr ⟨[],x,u,by rw [h3];rfl,h1,h2.symm,iP ha hb (fun y hy=>(hX y hy).1) this.2 h4⟩
theorem kw {l k:List Nat} (h1:l.Nodup) (h2:k.Nodup) (h:∀ x∈l,∀ y∈k,x≠y):(l++k).Nodup:=List.nodup_append.2 ⟨h1,h2,h⟩
theorem CO (ha:GOK S lo mid A a) (hb:GOK S mid hi B b):GOK S lo hi (A++B++aH S a.last b.first) (ir a b):=by
 have l1:=ha.le;have l2:=hb.le
 refine ⟨by omega,fun q hq=>?_,fun q hq=>?_,?_,?_,fun x hx=>?_⟩
 ·rcases List.mem_append.1 hq with hq | hq
  ·have:=ha.fst q hq;omega
  ·split at hq
   ·have:=hb.fst q hq;omega
   ·cases hq
 ·rcases List.mem_append.1 hq with hq | hq
  ·have:=hb.lst q hq;omega
  ·split at hq
   ·have:=ha.lst q hq;omega
   ·cases hq
 ·show (a.first++_).Nodup
  split
  ·exact kw ha.nf hb.nf fun x hx y hy e=>by have:=ha.fst x hx;have:=hb.fst y hy;omega
  ·rw [List.append_nil];exact ha.nf
 ·show (b.last++_).Nodup
  split
  ·exact kw hb.nl ha.nl fun x hx y hy e=>by have:=hb.lst x hx;have:=ha.lst y hy;omega
  ·rw [List.append_nil];exact hb.nl
 ·rcases List.mem_append.1 hx with hx | hx
  ·rcases List.mem_append.1 hx with hx | hx
   ·have:=ha.arc x hx;refine ⟨by omega,by omega,this.2.2⟩
   ·have:=hb.arc x hx;refine ⟨by omega,by omega,this.2.2⟩
  ·obtain ⟨h1,h2,h3⟩:=dw.1 hx
   have:=ha.lst _ h1;have:=hb.fst _ h2
   exact ⟨by omega,by omega,h3⟩
theorem C4 (ha:GOK S lo mid A a) (hb:GOK S mid hi B b) (w:List SyD):Acc S (A++B++aH S a.last b.first) (ir a b) w↔∃ u v,w=u++v∧Acc S A a u∧Acc S B b v:=by
 have hX:∀ x∈aH S a.last b.first,x.src≤mid∧mid < x.dst:=fun x hx=>by
  obtain ⟨h1,h2,_⟩:=dw.1 hx
  exact ⟨(ha.lst _ h1).2,(hb.fst _ h2).1⟩
 have sA:∀ x∈A,x∈A++B++aH S a.last b.first:=fun x hx=>by simp [hx]
 have sB:∀ x∈B,x∈A++B++aH S a.last b.first:=fun x hx=>by simp [hx]
 constructor
 ·rintro (⟨rfl,h⟩ | ⟨f,hf,l,hl,v,rfl,hp⟩)
  ·have h:(a.emp && b.emp)=true:=h
   rw [Bool.and_eq_true] at h
   exact ⟨[],[],rfl,.inl ⟨rfl,h.1⟩,.inl ⟨rfl,h.2⟩⟩
  ·have hf:f∈a.first++(if a.emp=true then b.first else []):=hf
   have hl:l∈b.last++(if b.emp=true then a.last else []):=hl
   rcases List.mem_append.1 hf with hf | hf
   ·have hfr:=ha.fst f hf
    rcases mq ha hb hX hfr.2 hp with k | ⟨u1,x,u2,rfl,k1,k2,k3⟩
    ·have hin:=mo ha hfr k
     rcases List.mem_append.1 hl with hl | hl
     ·have:=hb.lst l hl;omega
     ·split at hl
      ·rename_i he
       exact ⟨ce S f::v,[],by rw [List.append_nil],.inr ⟨f,hf,l,hl,v,rfl,k⟩,.inl ⟨rfl,he⟩⟩
      ·cases hl
    ·obtain ⟨j1,j2,j3⟩:=dw.1 k1
     have hin:=mo hb (hb.fst _ j2) k3
     rcases List.mem_append.1 hl with hl | hl
     ·exact ⟨ce S f::u1,x.sym::u2,rfl,.inr ⟨f,hf,_,j1,u1,rfl,k2⟩,.inr ⟨_,j2,l,hl,u2,by rw [j3],k3⟩⟩
     ·split at hl
      ·have:=ha.lst l hl;omega
      ·cases hl
   ·split at hf
    ·rename_i he
     have hfr:=hb.fst f hf
     have k:=iP ha hb (fun y hy=>(hX y hy).1) hfr.1 hp
     have hin:=mo hb hfr k
     rcases List.mem_append.1 hl with hl | hl
     ·exact ⟨[],ce S f::v,rfl,.inl ⟨rfl,he⟩,.inr ⟨f,hf,l,hl,v,rfl,k⟩⟩
     ·split at hl
      ·have:=ha.lst l hl;omega
      ·cases hl
    ·cases hf
 ·rintro ⟨u,v,rfl,h1 | ⟨f,hf,l,hl,u',rfl,hp⟩,h2 | ⟨f2,hf2,l2,hl2,v',rfl,hp2⟩⟩
  ·obtain ⟨rfl,h1⟩:=h1
   obtain ⟨rfl,h2⟩:=h2
   exact .inl ⟨rfl,by show (a.emp && b.emp)=true;rw [h1,h2];rfl⟩
  ·obtain ⟨rfl,h1⟩:=h1
   refine .inr ⟨f2,?_,l2,?_,v',rfl,eG sB hp2⟩
   ·show f2∈a.first++_
    rw [if_pos h1];simp [hf2]
   ·show l2∈b.last++_
    simp [hl2]
  ·obtain ⟨rfl,h2⟩:=h2
   refine .inr ⟨f,?_,l,?_,u',by rw [List.append_nil],eG sA hp⟩
   ·show f∈a.first++_
    simp [hf]
   ·show l∈b.last++_
    rw [if_pos h2];simp [hl]
  ·refine .inr ⟨f,?_,l2,?_,u'++ce S f2::v',rfl,nH.2 ⟨l,eG sA hp,⟨l,ce S f2,f2⟩,?_,rfl,rfl,eG sB hp2⟩⟩
   ·show f∈a.first++_
    simp [hf]
   ·show l2∈b.last++_
    simp [hl2]
   ·exact List.mem_append_right _ (dw.2 ⟨hl,hf2,rfl⟩)
theorem Db (ha:GOK S lo mid A a) (hb:GOK S mid hi B b):GOK S lo hi (A++B) (gP a b):=by
 have l1:=ha.le;have l2:=hb.le
 refine ⟨by omega,fun q hq=>?_,fun q hq=>?_,?_,?_,fun x hx=>?_⟩
 ·rcases List.mem_append.1 hq with hq | hq
  ·have:=ha.fst q hq;omega
  ·have:=hb.fst q hq;omega
 ·rcases List.mem_append.1 hq with hq | hq
  ·have:=ha.lst q hq;omega
  ·have:=hb.lst q hq;omega
 ·exact kw ha.nf hb.nf fun x hx y hy e=>by have:=ha.fst x hx;have:=hb.fst y hy;omega
 ·exact kw ha.nl hb.nl fun x hx y hy e=>by have:=ha.lst x hx;have:=hb.lst y hy;omega
 ·rcases List.mem_append.1 hx with hx | hx
  ·have:=ha.arc x hx;refine ⟨by omega,by omega,this.2.2⟩
  ·have:=hb.arc x hx;refine ⟨by omega,by omega,this.2.2⟩
theorem CB (ha:GOK S lo mid A a) (hb:GOK S mid hi B b) (w:List SyD):Acc S (A++B) (gP a b) w↔Acc S A a w∨Acc S B b w:=by
 have hX:∀ x∈([]:List ArD),x.src≤mid∧mid < x.dst:=fun x hx=>by cases hx
 have sA:∀ x∈A,x∈A++B:=fun x hx=>by simp [hx]
 have sB:∀ x∈B,x∈A++B:=fun x hx=>by simp [hx]
 constructor
 ·rintro (⟨rfl,h⟩ | ⟨f,hf,l,hl,v,rfl,hp⟩)
  ·have h:(a.emp || b.emp)=true:=h
   rw [Bool.or_eq_true] at h
   exact h.elim (fun h=>.inl (.inl ⟨rfl,h⟩)) (fun h=>.inr (.inl ⟨rfl,h⟩))
  ·rw [← List.append_nil (A++B)] at hp
   rcases List.mem_append.1 hf with hf | hf
   ·have hfr:=ha.fst f hf
    rcases mq ha hb hX hfr.2 hp with k | ⟨_,x,_,_,k1,_⟩
    ·have hin:=mo ha hfr k
     rcases List.mem_append.1 hl with hl | hl
     ·exact .inl (.inr ⟨f,hf,l,hl,v,rfl,k⟩)
     ·have:=hb.lst l hl;omega
    ·cases k1
   ·have hfr:=hb.fst f hf
    have k:=iP ha hb (fun y hy=>(hX y hy).1) hfr.1 hp
    have hin:=mo hb hfr k
    rcases List.mem_append.1 hl with hl | hl
    ·have:=ha.lst l hl;omega
    ·exact .inr (.inr ⟨f,hf,l,hl,v,rfl,k⟩)
 ·rintro ((⟨rfl,h⟩ | ⟨f,hf,l,hl,v,rfl,hp⟩) | (⟨rfl,h⟩ | ⟨f,hf,l,hl,v,rfl,hp⟩))
  ·exact .inl ⟨rfl,by show (a.emp || b.emp)=true;rw [h];rfl⟩
  ·exact .inr ⟨f,List.mem_append_left _ hf,l,List.mem_append_left _ hl,v,rfl,eG sA hp⟩
  ·exact .inl ⟨rfl,by show (a.emp || b.emp)=true;rw [h,Bool.or_true]⟩
  ·exact .inr ⟨f,List.mem_append_right _ hf,l,List.mem_append_right _ hl,v,rfl,eG sB hp⟩
theorem xG (ha:GOK S lo hi A a):GOK S lo hi (A++aH S a.last a.first) a:=by
 refine ⟨ha.le,ha.fst,ha.lst,ha.nf,ha.nl,fun x hx=>?_⟩
 rcases List.mem_append.1 hx with hx | hx
 ·exact ha.arc x hx
 ·obtain ⟨h1,h2,h3⟩:=dw.1 hx
  exact ⟨ha.lst _ h1,ha.fst _ h2,h3⟩
theorem um:∀ {u:List SyD} {p q:Nat},Pth (A++aH S a.last a.first) p u q→Pth A p u q∨∃ u1 x u2,u=u1++x.sym::u2∧x∈aH S a.last a.first∧Pth A p u1 x.src∧Pth (A++aH S a.last a.first) x.dst u2 q
 | [],_,_,k=>.inl k
 | s::u,p,q,⟨x,h1,h2,h3,h4⟩=>by
  rcases List.mem_append.1 h1 with h1 | h1
  ·rcases um h4 with k | ⟨u1,y,u2,e,k1,k2,k3⟩
   ·exact .inl ⟨x,h1,h2,h3,k⟩
   ·exact .inr ⟨s::u1,y,u2,by rw [e];rfl,k1,⟨x,h1,h2,h3,k2⟩,k3⟩
  ·exact .inr ⟨[],x,u,by rw [h3];rfl,h1,h2.symm,h4⟩
theorem mE:∀ (n:Nat) (f l:Nat) (v:List SyD),v.length≤n→f∈a.first→l∈a.last→Pth (A++aH S a.last a.first) f v l→kK (Acc S A a) (ce S f::v)
 | n,f,l,v,hn,hf,hl,hp=>by
  rcases um hp with k | ⟨u1,x,u2,rfl,k1,k2,k3⟩
  ·exact lC (.inr ⟨f,hf,l,hl,v,rfl,k⟩)
  ·obtain ⟨j1,j2,j3⟩:=dw.1 k1
   rw [List.length_append,List.length_cons] at hn
   cases n with
   | zero=>omega
   | succ n=>
    have ih:=mE n x.dst l u2 (by omega) j2 hl k3
    rw [← j3] at ih
    refine ⟨ce S f::u1,x.sym::u2,rfl,.inr ⟨f,hf,_,j1,u1,rfl,k2⟩,p5.2 (.inr ih)⟩
theorem rK {w:List SyD} (h:Many (Acc S A a) w):w=[]∨∃ f∈a.first,∃ l∈a.last,∃ v,w=ce S f::v∧Pth (A++aH S a.last a.first) f v l:=by
 have sA:∀ x∈A,x∈A++aH S a.last a.first:=fun x hx=>by simp [hx]
 induction h with
 | nil=>exact .inl rfl
 | cons h _ ih=>
  rcases h with ⟨rfl,_⟩ | ⟨f,hf,l,hl,v,rfl,hp⟩
  ·exact ih
  ·rcases ih with rfl | ⟨f2,hf2,l2,hl2,v2,rfl,hp2⟩
   ·exact .inr ⟨f,hf,l,hl,v,by rw [List.append_nil],eG sA hp⟩
   ·exact .inr ⟨f,hf,l2,hl2,v++ce S f2::v2,rfl,nH.2 ⟨l,eG sA hp,⟨l,ce S f2,f2⟩,List.mem_append_right _ (dw.2 ⟨hl,hf2,rfl⟩),rfl,rfl,hp2⟩⟩
theorem AL (w:List SyD):Acc S (A++aH S a.last a.first) a w↔kK (Acc S A a) w:=by
 constructor
 ·rintro (⟨rfl,h⟩ | ⟨f,hf,l,hl,v,rfl,hp⟩)
  ·exact lC (.inl ⟨rfl,h⟩)
  ·exact mE _ f l v (Nat.le_refl _) hf hl hp
 ·rintro ⟨u,v,rfl,h,r⟩
  rcases rK (.cons h r) with e | ⟨f,hf,l,hl,x,e,hp⟩
  ·rw [e]
   rcases h with ⟨rfl,he⟩ | ⟨_,_,_,_,_,rfl,_⟩
   ·exact .inl ⟨rfl,he⟩
   ·cases e
  ·rw [e];exact .inr ⟨f,hf,l,hl,x,rfl,hp⟩
theorem Ar (w:List SyD):Acc S (A++aH S a.last a.first) ⟨true,a.first,a.last⟩ w↔Many (Acc S A a) w:=by
 constructor
 ·rintro (⟨rfl,h⟩ | ⟨f,hf,l,hl,v,rfl,hp⟩)
  ·exact .nil
  ·exact p5.2 (.inr (mE _ f l v (Nat.le_refl _) hf hl hp))
 ·intro h
  rcases rK h with e | ⟨f,hf,l,hl,x,e,hp⟩
  ·exact .inl ⟨e,rfl⟩
  ·exact .inr ⟨f,hf,l,hl,x,e,hp⟩
theorem Ca (w:List SyD):Acc S A ⟨true,a.first,a.last⟩ w↔w=[]∨Acc S A a w:=by
 constructor
 ·rintro (⟨rfl,h⟩ | h)
  ·exact .inl rfl
  ·exact .inr (.inr h)
 ·rintro (rfl | ⟨rfl,h⟩ | h)
  ·exact .inl ⟨rfl,rfl⟩
  ·exact .inl ⟨rfl,rfl⟩
  ·exact .inr h
end
end
section
theorem ym {S r:List SyD} {q:Nat} (h:0 < q∧q≤S.length):ce (S++r) q=ce S q:=by
 unfold ce
 rw [List.getElem?_append_left (by omega)]
theorem rT {S r:List SyD} {l f:List Nat} (h:∀ q∈f,0 < q∧q≤S.length):aH (S++r) l f=aH S l f:=by
 unfold aH
 have:(fun p:Nat=>f.map fun q=>(⟨p,ce (S++r) q,q⟩:ArD))=fun p=>f.map fun q=>⟨p,ce S q,q⟩:=by
  funext p
  exact List.map_congr_left fun q hq=>by rw [ym (h q hq)]
 rw [this]
def w8 (P:List SyD→Prop) (n:Nat) (st:GSt) (pt:PtD) (st':GSt):Prop:=∃ ext new,st'=(st.1++ext,st.2++new)∧ext.length=n∧∀ S r,S=(st.1++ext)++r→GOK S st.1.length (st.1.length+n) new pt∧∀ w,P w↔Acc S new pt w
mutual
def es:Tree→Nat
 | .node k _ ts=>if k=2∨k=3 then 1 else be ts
def be:List Tree→Nat
 | []=>0
 | t::ts=>es t+be ts
end
section
variable {leaf:Nat→List UInt8→SyD}
theorem vr:∀ (ts:List Tree),(∀ t∈ts,∀ st,w8 (Lg leaf t) (es t) st (bC leaf t st).1 (bC leaf t st).2)→∀ (out:PtD) (P:List SyD→Prop) (base A:List ArD) (st:GSt) (lo:Nat),st.2=base++A →
  (∀ S r,S=st.1++r→GOK S lo st.1.length A out∧∀ w,P w↔Acc S A out w) →
  ∃ ext new,(bQ leaf 4 ts out st).2=(st.1++ext,st.2++new)∧ext.length=be ts∧∀ S r,S=(st.1++ext)++r→GOK S lo (st.1.length+be ts) (A++new) (bQ leaf 4 ts out st).1∧∀ w,(∃ u v,w=u++v∧P u∧LgS leaf ts v)↔Acc S (A++new) (bQ leaf 4 ts out st).1 w
 | [],_,out,P,base,A,st,lo,hb,hA=>by
  refine ⟨[],[],?_,?_,fun S r hS=>?_⟩
  ·rw [bQ,List.append_nil,List.append_nil]
  ·rw [be];rfl
  ·rw [bQ,be,List.append_nil]
   rw [List.append_nil] at hS
   obtain ⟨h1,h2⟩:=hA S r hS
   refine ⟨h1,fun w=>?_⟩
   rw [← h2 w]
   constructor
   ·rintro ⟨u,v,rfl,hu,hv⟩
    rw [LgS] at hv
    rw [hv,List.append_nil];exact hu
   ·intro hw
    exact ⟨w,[],by rw [List.append_nil],hw,by rw [LgS]⟩
 | t::ts,ht,out,P,base,A,st,lo,hb,hA=>by
  obtain ⟨e1,n1,h1,h2,h3⟩:=ht t (by simp) st
  rw [bQ,if_pos rfl,be,h1]
  have hA':∀ S r,S=(st.1++e1)++r→GOK S lo (st.1++e1).length (A++n1++aH (st.1++e1) out.last (bC leaf t st).1.first) (ir out (bC leaf t st).1)∧∀ w,(∃ u v,w=u++v∧P u∧Lg leaf t v)↔Acc S (A++n1++aH (st.1++e1) out.last (bC leaf t st).1.first) (ir out (bC leaf t st).1) w:=fun S r hS=>by
   obtain ⟨a1,a2⟩:=hA S (e1++r) (by rw [hS,List.append_assoc])
   obtain ⟨b1,b2⟩:=h3 S r hS
   have hlen:(st.1++e1).length=st.1.length+es t:=by rw [List.length_append,h2]
   have hj:aH (st.1++e1) out.last (bC leaf t st).1.first=aH S out.last (bC leaf t st).1.first:=by
    rw [hS]
    exact (rT fun q hq=>by have:=b1.fst q hq;omega).symm
   rw [hj,hlen]
   refine ⟨CO a1 b1,fun w=>?_⟩
   rw [C4 a1 b1]
   simp only [a2,b2]
  obtain ⟨e2,n2,k1,k2,k3⟩:=vr ts (fun x hx=>ht x (by simp [hx])) (ir out (bC leaf t st).1) (fun w=>∃ u v,w=u++v∧P u∧Lg leaf t v) base (A++n1++aH (st.1++e1) out.last (bC leaf t st).1.first) (st.1++e1,(st.2++n1)++aH (st.1++e1) out.last (bC leaf t st).1.first) lo (by dsimp only;rw [hb];simp only [List.append_assoc]) hA'
  refine ⟨e1++e2,n1++aH (st.1++e1) out.last (bC leaf t st).1.first++n2,?_,?_,fun S r hS=>?_⟩
  ·rw [k1];simp only [List.append_assoc]
  ·rw [List.length_append,h2,k2]
  ·obtain ⟨c1,c2⟩:=k3 S r (by rw [hS];simp only [List.append_assoc])
   have hl:(st.1++e1).length+be ts=st.1.length+(es t+be ts):=by rw [List.length_append,h2];omega
   dsimp only at c1 c2
   rw [hl] at c1
   have hap:A++(n1++aH (st.1++e1) out.last (bC leaf t st).1.first++n2)=A++n1++aH (st.1++e1) out.last (bC leaf t st).1.first++n2:=by simp only [List.append_assoc]
   rw [hap]
   refine ⟨c1,fun w=>?_⟩
   rw [← c2 w]
   constructor
   ·rintro ⟨u,v,rfl,hu,hv⟩
    rw [LgS] at hv
    obtain ⟨x,y,rfl,hx,hy⟩:=hv
    exact ⟨u++x,y,by rw [List.append_assoc],⟨u,x,rfl,hu,hx⟩,hy⟩
   ·rintro ⟨u,v,rfl,⟨x,y,rfl,hx,hy⟩,hv⟩
    exact ⟨x,y++v,by rw [List.append_assoc],hx,by rw [LgS];exact ⟨y,v,rfl,hy,hv⟩⟩
theorem pr {k:Nat} (hk:k≠4):∀ (ts:List Tree),(∀ t∈ts,∀ st,w8 (Lg leaf t) (es t) st (bC leaf t st).1 (bC leaf t st).2)→∀ (out:PtD) (P:List SyD→Prop) (base A:List ArD) (st:GSt) (lo:Nat),st.2=base++A →
  (∀ S r,S=st.1++r→GOK S lo st.1.length A out∧∀ w,P w↔Acc S A out w) →
  ∃ ext new,(bQ leaf k ts out st).2=(st.1++ext,st.2++new)∧ext.length=be ts∧∀ S r,S=(st.1++ext)++r→GOK S lo (st.1.length+be ts) (A++new) (bQ leaf k ts out st).1∧∀ w,(P w∨LgA leaf ts w)↔Acc S (A++new) (bQ leaf k ts out st).1 w
 | [],_,out,P,base,A,st,lo,hb,hA=>by
  refine ⟨[],[],?_,?_,fun S r hS=>?_⟩
  ·rw [bQ,List.append_nil,List.append_nil]
  ·rw [be];rfl
  ·rw [bQ,be,List.append_nil]
   rw [List.append_nil] at hS
   obtain ⟨h1,h2⟩:=hA S r hS
   refine ⟨h1,fun w=>?_⟩
   rw [← h2 w,LgA,or_false]
 | t::ts,ht,out,P,base,A,st,lo,hb,hA=>by
  obtain ⟨e1,n1,h1,h2,h3⟩:=ht t (by simp) st
  rw [bQ,if_neg hk,be,h1]
  have hA':∀ S r,S=(st.1++e1)++r→GOK S lo (st.1++e1).length (A++n1) (gP out (bC leaf t st).1)∧∀ w,(P w∨Lg leaf t w)↔Acc S (A++n1) (gP out (bC leaf t st).1) w:=fun S r hS=>by
   obtain ⟨a1,a2⟩:=hA S (e1++r) (by rw [hS,List.append_assoc])
   obtain ⟨b1,b2⟩:=h3 S r hS
   have hlen:(st.1++e1).length=st.1.length+es t:=by rw [List.length_append,h2]
   rw [hlen]
   refine ⟨Db a1 b1,fun w=>?_⟩
   rw [CB a1 b1,a2,b2]
  obtain ⟨e2,n2,k1,k2,k3⟩:=pr hk ts (fun x hx=>ht x (by simp [hx])) (gP out (bC leaf t st).1) (fun w=>P w∨Lg leaf t w) base (A++n1) (st.1++e1,st.2++n1) lo (by dsimp only;rw [hb];simp only [List.append_assoc]) hA'
  refine ⟨e1++e2,n1++n2,?_,?_,fun S r hS=>?_⟩
  ·rw [k1];simp only [List.append_assoc]
  ·rw [List.length_append,h2,k2]
  ·obtain ⟨c1,c2⟩:=k3 S r (by rw [hS];simp only [List.append_assoc])
   have hl:(st.1++e1).length+be ts=st.1.length+(es t+be ts):=by rw [List.length_append,h2];omega
   dsimp only at c1 c2
   rw [hl] at c1
   rw [← List.append_assoc]
   refine ⟨c1,fun w=>?_⟩
   rw [← c2 w,LgA,or_assoc]
theorem AP {S:List SyD} {n:Nat}:GOK S n n [] ⟨true,[],[]⟩∧∀ w,w=[]↔Acc S [] ⟨true,[],[]⟩ w:=by
 refine ⟨⟨Nat.le_refl _,fun q h=>(by cases h),fun q h=>(by cases h),.nil,.nil,fun x h=>(by cases h)⟩,fun w=>⟨fun h=>.inl ⟨h,rfl⟩,?_⟩⟩
 rintro (⟨h,_⟩ | ⟨f,hf,_⟩)
 ·exact h
 ·cases hf
theorem xE {S:List SyD} {n:Nat}:GOK S n n [] ⟨false,[],[]⟩∧∀ w,False↔Acc S [] ⟨false,[],[]⟩ w:=by
 refine ⟨⟨Nat.le_refl _,fun q h=>(by cases h),fun q h=>(by cases h),.nil,.nil,fun x h=>(by cases h)⟩,fun w=>⟨False.elim,?_⟩⟩
 rintro (⟨_,h⟩ | ⟨f,hf,_⟩)
 ·cases h
 ·cases hf
theorem j6 {P Q:List SyD→Prop} (h:∀ w,P w↔Q w) {w:List SyD} (m:Many P w):Many Q w:=by
 induction m with
 | nil=>exact .nil
 | cons p _ ih=>exact .cons ((h _).1 p) ih
theorem uU {P Q:List SyD→Prop} (h:∀ w,P w↔Q w) (w:List SyD):Many P w↔Many Q w:=⟨j6 h,j6 fun w=>(h w).symm⟩
theorem ws {P Q:List SyD→Prop} (h:∀ w,P w↔Q w) (w:List SyD):kK P w↔kK Q w:=
 ⟨fun ⟨u,v,e,p,m⟩=>⟨u,v,e,(h _).1 p,j6 h m⟩,fun ⟨u,v,e,p,m⟩=>⟨u,v,e,(h _).2 p,j6 (fun w=>(h w).symm) m⟩⟩
theorem Bk (t:Tree):okT t=true→∀ st,w8 (Lg leaf t) (es t) st (bC leaf t st).1 (bC leaf t st).2:=by
 refine Tree.ind (p:=fun t=>okT t=true→∀ st,w8 (Lg leaf t) (es t) st (bC leaf t st).1 (bC leaf t st).2) (fun t ih=>?_) t
 intro h st
 rw [l9,Bool.and_eq_true] at h
 have hk:∀ u∈t.kids,∀ st,w8 (Lg leaf u) (es u) st (bC leaf u st).1 (bC leaf u st).2:=fun u hu=>ih u hu (gu h.2 hu)
 have hm:=eK h.1
 clear ih h
 obtain ⟨k,n,ts⟩:=t
 change ∀ u∈ts,_ at hk
 have alt:=fun (h4:k≠4)=>pr h4 ts hk ⟨false,[],[]⟩ (fun _=>False) st.2 [] st st.1.length (by rw [List.append_nil]) (fun S r hS=>xE)
 rw [bC,es]
 rcases hm with ⟨h1,_,h3⟩ | ⟨h1,_,_⟩ | ⟨h1,_,_⟩ | ⟨h1,_,_⟩ | ⟨h1,_,_⟩
 ·have h1:k=1:=h1
  obtain rfl:ts=[]:=List.length_eq_zero_iff.1 h3
  subst h1
  rw [if_neg (by omega),if_neg (by omega),bQ,be]
  refine ⟨[],[],by rw [if_neg (by omega),List.append_nil,List.append_nil],rfl,fun S r hS=>?_⟩
  obtain ⟨a,b⟩:=AP (S:=S) (n:=st.1.length)
  exact ⟨a,fun w=>by rw [Lg,if_pos rfl];exact b w⟩
 ·have h1:k=2:=h1
  subst h1
  rw [if_pos (.inl rfl),if_pos (.inl rfl)]
  refine ⟨[leaf 2 n],[],by rw [List.append_nil],rfl,fun S r hS=>?_⟩
  have hs:ce S (st.1.length+1)=leaf 2 n:=by unfold ce;rw [hS,List.append_assoc,List.getElem?_append_right (by omega),show st.1.length+1 - 1 - st.1.length=0 by omega];rfl
  refine ⟨⟨by omega,fun q hq=>?_,fun q hq=>?_,by simp,by simp,fun x hx=>(by cases hx)⟩,fun w=>?_⟩
  ·rw [List.mem_singleton.1 hq];omega
  ·rw [List.mem_singleton.1 hq];omega
  ·rw [Lg,if_neg (by omega),if_pos (.inl rfl)]
   constructor
   ·rintro rfl
    exact .inr ⟨_,List.mem_singleton.2 rfl,_,List.mem_singleton.2 rfl,[],by rw [hs],rfl⟩
   ·rintro (⟨_,h⟩ | ⟨f,hf,l,hl,v,rfl,hp⟩)
    ·cases h
    ·rw [List.mem_singleton.1 hf,hs]
     cases v with
     | nil=>rfl
     | cons s v=>obtain ⟨x,hx,_⟩:=hp;cases hx
 ·have h1:k=3:=h1
  subst h1
  rw [if_pos (.inr rfl),if_pos (.inr rfl)]
  refine ⟨[leaf 3 n],[],by rw [List.append_nil],rfl,fun S r hS=>?_⟩
  have hs:ce S (st.1.length+1)=leaf 3 n:=by unfold ce;rw [hS,List.append_assoc,List.getElem?_append_right (by omega),show st.1.length+1 - 1 - st.1.length=0 by omega];rfl
  refine ⟨⟨by omega,fun q hq=>?_,fun q hq=>?_,by simp,by simp,fun x hx=>(by cases hx)⟩,fun w=>?_⟩
  ·rw [List.mem_singleton.1 hq];omega
  ·rw [List.mem_singleton.1 hq];omega
  ·rw [Lg,if_neg (by omega),if_pos (.inr rfl)]
   constructor
   ·rintro rfl
    exact .inr ⟨_,List.mem_singleton.2 rfl,_,List.mem_singleton.2 rfl,[],by rw [hs],rfl⟩
   ·rintro (⟨_,h⟩ | ⟨f,hf,l,hl,v,rfl,hp⟩)
    ·cases h
    ·rw [List.mem_singleton.1 hf,hs]
     cases v with
     | nil=>rfl
     | cons s v=>obtain ⟨x,hx,_⟩:=hp;cases hx
 ·have h1:k=4∨k=5:=h1
  rw [if_neg (by omega),if_neg (by omega)]
  rcases h1 with rfl | rfl
  ·obtain ⟨ext,new,g1,g2,g3⟩:=vr ts hk ⟨true,[],[]⟩ (fun w=>w=[]) st.2 [] st st.1.length (by rw [List.append_nil]) (fun S r hS=>AP)
   refine ⟨ext,new,by rw [if_neg (by omega)];exact g1,g2,fun S r hS=>?_⟩
   obtain ⟨c1,c2⟩:=g3 S r hS
   rw [List.nil_append] at c1 c2
   have e:(⟨(bQ leaf 4 ts ⟨decide (4=1) || decide (4=4),[],[]⟩ st).1.emp || (decide (4=6) || decide (4=8)),(bQ leaf 4 ts ⟨decide (4=1) || decide (4=4),[],[]⟩ st).1.first,(bQ leaf 4 ts ⟨decide (4=1) || decide (4=4),[],[]⟩ st).1.last⟩:PtD)=(bQ leaf 4 ts ⟨true,[],[]⟩ st).1:=by
    show (⟨(bQ leaf 4 ts ⟨true,[],[]⟩ st).1.emp || false,_,_⟩:PtD)=_
    rw [Bool.or_false]
    rfl
   rw [e]
   refine ⟨c1,fun w=>?_⟩
   rw [← c2 w,Lg,if_neg (by omega),if_neg (by omega),if_pos rfl]
   constructor
   ·intro h;exact ⟨[],w,rfl,rfl,h⟩
   ·rintro ⟨u,v,rfl,rfl,h⟩;exact h
  ·obtain ⟨ext,new,g1,g2,g3⟩:=alt (by omega)
   refine ⟨ext,new,by rw [if_neg (by omega)];exact g1,g2,fun S r hS=>?_⟩
   obtain ⟨c1,c2⟩:=g3 S r hS
   rw [List.nil_append] at c1 c2
   have e:(⟨(bQ leaf 5 ts ⟨decide (5=1) || decide (5=4),[],[]⟩ st).1.emp || (decide (5=6) || decide (5=8)),(bQ leaf 5 ts ⟨decide (5=1) || decide (5=4),[],[]⟩ st).1.first,(bQ leaf 5 ts ⟨decide (5=1) || decide (5=4),[],[]⟩ st).1.last⟩:PtD)=(bQ leaf 5 ts ⟨false,[],[]⟩ st).1:=by
    show (⟨(bQ leaf 5 ts ⟨false,[],[]⟩ st).1.emp || false,_,_⟩:PtD)=_
    rw [Bool.or_false]
    rfl
   rw [e]
   refine ⟨c1,fun w=>?_⟩
   rw [← c2 w,Lg,if_neg (by omega),if_neg (by omega),if_neg (by omega),if_pos rfl,false_or]
 ·have h1:k=6∨k=7∨k=8:=h1
  rw [if_neg (by omega),if_neg (by omega)]
  obtain ⟨ext,new,g1,g2,g3⟩:=alt (by omega)
  have ed:(decide (k=1) || decide (k=4))=false:=by rw [decide_eq_false (by omega),decide_eq_false (by omega)];rfl
  rw [ed]
  have hfst:∀ q∈(bQ leaf k ts ⟨false,[],[]⟩ st).1.first,0 < q∧q≤(st.1++ext).length:=fun q hq=>by
   have:=(g3 _ [] rfl).1.fst q hq
   rw [List.length_append,g2]
   omega
  generalize (bQ leaf k ts ⟨false,[],[]⟩ st).1=pt at *
  rw [g1]
  have hj:∀ S r,S=(st.1++ext)++r→aH (st.1++ext) pt.last pt.first=aH S pt.last pt.first:=fun S r hS=>by rw [hS,rT hfst]
  simp only [List.nil_append,false_or] at g3
  rcases h1 with rfl | rfl | rfl
  ·refine ⟨ext,new++aH (st.1++ext) pt.last pt.first,by rw [if_pos (.inl rfl)];simp only [List.append_assoc],g2,fun S r hS=>?_⟩
   obtain ⟨c1,c2⟩:=g3 S r hS
   rw [hj S r hS]
   have e:(⟨pt.emp || (decide (6=6) || decide (6=8)),pt.first,pt.last⟩:PtD)=⟨true,pt.first,pt.last⟩:=by show (⟨pt.emp || true,_,_⟩:PtD)=_;rw [Bool.or_true]
   rw [e]
   have lo:=xG c1
   refine ⟨⟨lo.le,lo.fst,lo.lst,lo.nf,lo.nl,lo.arc⟩,fun w=>?_⟩
   rw [Ar,Lg,if_neg (by omega),if_neg (by omega),if_neg (by omega),if_neg (by omega),if_pos rfl]
   exact uU c2 w
  ·refine ⟨ext,new++aH (st.1++ext) pt.last pt.first,by rw [if_pos (.inr rfl)];simp only [List.append_assoc],g2,fun S r hS=>?_⟩
   obtain ⟨c1,c2⟩:=g3 S r hS
   rw [hj S r hS]
   have e:(⟨pt.emp || (decide (7=6) || decide (7=8)),pt.first,pt.last⟩:PtD)=pt:=by show (⟨pt.emp || false,_,_⟩:PtD)=_;rw [Bool.or_false]
   rw [e]
   refine ⟨xG c1,fun w=>?_⟩
   rw [AL,Lg,if_neg (by omega),if_neg (by omega),if_neg (by omega),if_neg (by omega),if_neg (by omega),if_pos rfl]
   exact ws c2 w
  ·refine ⟨ext,new,by rw [if_neg (by omega)],g2,fun S r hS=>?_⟩
   obtain ⟨c1,c2⟩:=g3 S r hS
   have e:(⟨pt.emp || (decide (8=6) || decide (8=8)),pt.first,pt.last⟩:PtD)=⟨true,pt.first,pt.last⟩:=by show (⟨pt.emp || true,_,_⟩:PtD)=_;rw [Bool.or_true]
   rw [e]
   refine ⟨⟨c1.le,c1.fst,c1.lst,c1.nf,c1.nl,c1.arc⟩,fun w=>?_⟩
   rw [Ca,Lg,if_neg (by omega),if_neg (by omega),if_neg (by omega),if_neg (by omega),if_neg (by omega),if_neg (by omega),c2 w]
end
end
section
def cy:Nat→List NodeD→List (Nat × List UInt8)
 | _,[]=>[]
 | i,m::r=>if m.kind=2∨m.kind=3 then (i,m.name)::cy (i+1) r else cy (i+1) r
def dC (l:List NodeD):Nat:=(cy 0 l).length
def Cd (p:Nat × List UInt8):List Value:=[i64 (p.1:Nat),str p.2]
theorem mz:∀ (i:Nat) (l:List NodeD),(cy i l).length≤l.length
 | _,[]=>by simp [cy]
 | i,m::r=>by
  have:=mz (i+1) r
  unfold cy
  split
  ·rw [List.length_cons,List.length_cons];omega
  ·rw [List.length_cons];omega
attribute [local irreducible] G GO GR GT Fn FnX FnV FnXV Dfr pt init exs pur sat own ImpS fq
theorem nu (q:HP) (v:Value) (l:List NodeD) (hq:NodesR q v l) (hl:¬ 1048576 < l.length):Fn Tryz.prog 70 #[v] [q] (fun r Q=>Q=[own 93 3 l.length r (aO l),q]):=by
 have hsl:=hq.sl
 obtain ⟨a,cap,rfl⟩:=aZ hq
 refine Fn.mk2 Tryz.func70 rfl rfl fun w0 F=>?_
 refine G.ownNil (T:=93) (sz:=3) ?_
 apply Ru
 cases a with
 | none=>
  have hss:l=[]:=by
   obtain ⟨a',cap',e,_,_,hr⟩:=hq
   injection e with e1 _ _
   subst e1
   cases l with
   | nil=>rfl
   | cons s ss=>obtain ⟨b,o,h,_⟩:=hr (by simp);cases h
  subst hss
  (refine G.condT rfl rfl ?_;apply Ru)
  refine KF2.r1 rfl (RV.t rfl) rfl (ImpS.sb ?_)
  ((refine Sb.c Tk.h ?_;exact SB);skip)
 | some a=>
  (refine G.condF rfl rfl ?_;apply Ru)
  refine GO.buildSlice0 rfl fun v5=>?_
  apply Ru
  refine GO.appendFrom (m:=l.length) (q:=q) rfl rfl rfl Tk.h (Tk.t Tk.h) hsl (eJ _) ⟨by decide,rfl⟩ (by unfold maxLen;omega) (by omega) fun v7=>?_
  rw [List.nil_append,Nat.zero_add l.length]
  apply Ru
  refine KF2.r1 rfl (RV.t rfl) rfl (ImpS.sb ?_)
  exact SB
theorem xo (q:HP) (v:Value) (l:List NodeD) (hq:NodesR q v l) (hl:¬ 1048576 < l.length):Fn Tryz.prog 130 #[v] [q] (fun r Q=>∃ bx z w,NodesR z w l∧r=.func (.func 169) #[] #[ah bx]∧Q=[pt bx (row [w] 95),z,q]):=by
 obtain ⟨a,cap,rfl⟩:=aZ hq
 refine Fn.mk2 Tryz.func130 rfl rfl fun w0 F=>?_
 (apply Ru;refine sbx fun b1=>?_;apply Ru)
 refine scl (nu q (.slice a l.length cap) l hq hl) ?_
 rintro r _ rfl
 refine GO.ownRdK Tk.h fun z hz=>?_
 obtain ⟨a2,cap2,rfl⟩:=aZ hz
 apply Ru
 refine KF2.r1 rfl (RV.t rfl) ⟨_,z,_,hz,rfl,rfl⟩ (ImpS.sb ?_)
 exact SB
end
section
theorem uM (i:Nat) (m:NodeD) (r:List NodeD):cy i (m::r)=if m.kind=2∨m.kind=3 then (i,m.name)::cy (i+1) r else cy (i+1) r:=rfl
theorem uL {l:List NodeD} {j i:Nat} {p:Nat × List UInt8} {t:List (Nat × List UInt8)} (h:(cy 0 l).drop j=p::t):(cy 0 l)[j]?=some p∧(cy 0 l).drop (j+1)=t:=by
 have h1:(cy 0 l)[j]?=some p:=by
  have:=congrArg (·[0]?) h
  simpa [List.getElem?_drop] using this
 refine ⟨h1,?_⟩
 rw [dg h1] at h
 exact (List.cons.injEq _ _ _ _ ▸ h).2
attribute [local irreducible] G GO GR GT Fn FnX FnV FnXV Dfr pt init exs pur sat own ImpS fq
theorem uN (z:HP) (v:Value) (l:List NodeD) (hz:NodesR z v l) (hl:¬ 1048576 < l.length) (bx:Nat) (y:Value) (J S:Nat→HP)
  (hy:∀ i u,((cy 0 l).map Cd)[i]?=some u→FnV Tryz.prog y u [J i] (fun v Q=>(v=.bool true∧Q=[J (i+1)])∨(v=.bool false∧Q=[S i]))) :
  Fn Tryz.prog 169 #[y,ah bx] [J 0,pt bx (row [v] 95),z] (fun _ Q=>Q=[J (cy 0 l).length,pt bx (row [v] 95),z]∨∃ i,i < (cy 0 l).length∧Q=[S i,pt bx (row [v] 95),z]):=by
 have hrd:∀ i m,l[i]?=some m→_:=fun i m h=>ee hz h
 obtain ⟨a,cap,rfl⟩:=aZ hz
 refine Fn.mk2 Tryz.func169 rfl rfl fun w0 F=>?_
 apply Ru
 refine G.loopI (σ:=Nat × Nat) (fun s=>[(0,y),(1,ah bx),(5,.slice a l.length cap),(6,i64 (l.length:Nat)),(7,i64 (s.1:Nat))]) (fun s=>J s.2::pt bx (row [.slice a l.length cap] 95)::z::F) (fun s=>s.1≤l.length∧s.2≤(cy 0 l).length∧(cy 0 l).drop s.2=cy s.1 (l.drop s.1)) (fun s=>l.length - s.1) (0,0) ⟨Nat.zero_le _,Nat.zero_le _,rfl⟩ ?_ ?_ ?_
 ·exact SE rfl
 ·exact ImpS.sb SB
 rintro ⟨i,j⟩ ⟨hi,hj,hd⟩
 dsimp only at hi hj hd ⊢
 apply Ru
 by_cases hlt:i < l.length
 ·have d1:decide ((i:Int) < (l.length:Int))=true:=decide_eq_true (by omega)
  obtain ⟨m,hm⟩:∃ m,l[i]?=some m:=⟨_,List.getElem?_eq_getElem hlt⟩
  obtain ⟨b,o,cap2,e,_,rm⟩:=hrd i m hm
  injection e with e _ e2
  subst e e2
  rw [dg hm,uM] at hd
  (refine scT ?_;refine six ?_)
  refine GO.loadM (vs:=[i64 (m.kind:Nat),str m.name,i64 (m.kids:Nat)]) rfl rfl rfl (Tk.t (Tk.t Tk.h)) rfl rm ?_
  (refine sal fun b4=>?_;apply Ru)
  by_cases hk:m.kind=2∨m.kind=3
  ·rw [if_pos hk] at hd
   obtain ⟨h1,h2⟩:=uL (i:=i) hd
   have hyi:=hy j _ (by rw [List.getElem?_map,h1];rfl)
   have hjl:=(List.getElem?_eq_some_iff.1 h1).1
   rcases Decidable.em (m.kind=2) with hk2 | hk2
   ·have d2:decide ((m.kind:Int)=2)=true:=decide_eq_true (by omega)
    (refine sgF ?_;refine sgF ?_;refine sgF ?_;refine spT ?_)
    refine svl (hyi) ?_
    rintro _ _ (⟨rfl,rfl⟩ | ⟨rfl,rfl⟩)
    ·(apply Ru;refine G.condF rfl rfl ?_;apply Ru;refine sad ?_)
     refine ⟨(i+1,j+1),⟨hlt,hjl,h2⟩,by dsimp only;omega,?_,ImpS.sb ?_⟩
     ·exact SE rfl
     ·exact SB
    ·(apply Ru;refine G.condT rfl rfl ?_;apply Ru)
     refine KF2.r0 rfl (.inr ⟨j,hjl,rfl⟩) (ImpS.sb ?_)
     exact SB
   ·have d2:decide ((m.kind:Int)=2)=false:=decide_eq_false (by omega)
    have d3:decide ((m.kind:Int)=3)=true:=decide_eq_true (by omega)
    (refine sgT ?_;refine sgT ?_;refine sgT ?_;refine spF ?_;refine sgT ?_;refine sgT ?_;refine sgT ?_;refine sgT ?_;refine sgT ?_)
    refine svl (hyi) ?_
    rintro _ _ (⟨rfl,rfl⟩ | ⟨rfl,rfl⟩)
    ·(refine sgT ?_;refine spT ?_;refine G.condF rfl rfl ?_;apply Ru;refine sad ?_)
     refine ⟨(i+1,j+1),⟨hlt,hjl,h2⟩,by dsimp only;omega,?_,ImpS.sb ?_⟩
     ·exact SE rfl
     ·exact SB
    ·(refine sgT ?_;refine spT ?_;refine G.condT rfl rfl ?_;apply Ru)
     refine KF2.r0 rfl (.inr ⟨j,hjl,rfl⟩) (ImpS.sb ?_)
     exact SB
  ·rw [if_neg hk] at hd
   have d2:decide ((m.kind:Int)=2)=false:=decide_eq_false (by omega)
   have d3:decide ((m.kind:Int)=3)=false:=decide_eq_false (by omega)
   (refine sgT ?_;refine sgT ?_;refine sgT ?_;refine spF ?_;refine sgF ?_;refine sgF ?_;refine sgF ?_;refine sgF ?_;refine sgF ?_;refine sgF ?_;refine spF ?_;refine sad ?_)
   refine ⟨(i+1,j),⟨hlt,hj,hd⟩,by dsimp only;omega,?_,ImpS.sb ?_⟩
   ·exact SE rfl
   ·exact SB
 ·have d1:decide ((i:Int) < (l.length:Int))=false:=decide_eq_false (by omega)
  rw [List.drop_eq_nil_of_le (show l.length≤i by omega)] at hd
  have hjl:j=(cy 0 l).length:=by
   have:=congrArg List.length hd
   rw [List.length_drop] at this
   simp only [cy,List.length_nil] at this
   omega
  subst hjl
  refine scF ?_
  refine KF2.n0 rfl (.inl rfl) (ImpS.sb ?_)
  exact SB
theorem yV (z:HP) (v:Value) (l:List NodeD) (hz:NodesR z v l) (hl:¬ 1048576 < l.length) (bx:Nat):SeqOK Tryz.prog (.func (.func 169) #[] #[ah bx]) ((cy 0 l).map Cd) [] [pt bx (row [v] 95),z]:=
 SeqOK.of1 (caps:=#[ah bx]) fun y J S hy=>by rw [List.length_map];exact uN z v l hz hl bx y J S hy
theorem w6 (q:HP) (v:Value) (l:List NodeD) (hq:NodesR q v l) (hl:¬ 1048576 < l.length):Fn Tryz.prog 61 #[v] [q] (fun r Q=>r=i64 (dC l:Nat)∧Q=[q]):=by
 have hn:=mz 0 l
 unfold dC
 refine Fn.mk2 Tryz.func61 rfl rfl fun w0 F=>?_
 (apply Ru;refine sal fun b3=>?_;apply Ru)
 refine scl (xo q v l hq hl) ?_
 rintro _ _ ⟨bx,z,w,hz,rfl,rfl⟩
 apply Ru
 refine G.rangeF (F:=q::F) (psl:=[6,7]) (v:=.func (.func 169) #[] #[ah bx]) (xs:=(cy 0 l).map Cd) (Sh:=[]) (Gm:=[pt bx (row [w] 95),z])
  (fun i=>[pt b3 (row [i64 (i:Nat)] 3)])
  (fun _ _=>[pur False]) (fun _ h=>by cases h) rfl (fun u hu=>by obtain ⟨p,_,rfl⟩:=List.mem_map.1 hu;rfl) rfl (yV z w l hz hl bx) ?_ (fun lp Lr Lb w1 F1 i u hu=>?_) ?_ ?_
 ·(refine Tks.c (Tk.t (Tk.t (Tk.t Tk.h))) ?_;exact Tks.n)
 ·obtain ⟨m,hm,rfl⟩:∃ m,(cy 0 l)[i]?=some m∧u=Cd m:=by
   rw [List.getElem?_map] at hu
   cases hc:(cy 0 l)[i]? with
   | none=>simp [hc] at hu
   | some p=>simp [hc] at hu;exact ⟨p,rfl,hu.symm⟩
  have hil:=(List.getElem?_eq_some_iff.1 hm).1
  change G _ _ _ _ ((7,str m.2)::(6,i64 (m.1:Nat))::_) (pt b3 (row [i64 (i:Nat)] 3)::F1)
  apply Ru
  refine Bc ?_
  (apply Ru;refine GO.load1 rfl rfl rfl Tk.h rfl ?_;refine GO.addi rfl rfl rfl (by omega) ?_;apply Ru)
  refine zd (ImpS.sb ?_)
  ((refine Sb.c Tk.h ?_);(exact Sb.r))
 ·rw [List.length_map]
  apply Ru
  exact kr1 rfl ⟨rfl,rfl⟩
 ·intro i jc hi
  exact G.pur fun h=>h.elim
end
/-- A rule: its head,its body. -/
structure RuleD where
 head:List UInt8
 body:List NodeD
 deriving DecidableEq
def xw (m:MarkD):Bool:=decide ((m.kind:Int)≠5) && decide ((m.kind:Int)≠4)
def dO (ms:List MarkD) (k:Nat):Nat:=k+((ms.drop k).takeWhile xw).length
def il (ms:List MarkD) (e kd k:Nat):Except Nat (List UInt8 × Nat):=match ms[k]? with
 | some m=>if m.kind=kd then .ok (m.text,k+1) else .error m.place
 | none=>.error e
def pS (s:List UInt8) (ms:List MarkD) (e k:Nat):Except Nat (List NodeD × Nat):=
 match fW ((s.drop (au ms e k)).take (au ms e (dO ms k) - au ms e k)) with
 | (l,at',er)=>if er=0 then .ok (l,dO ms k) else if at'=au ms e (dO ms k) - au ms e k then .error (au ms e (dO ms k)) else .error (au ms e k+at')
def fV (s:List UInt8) (ms:List MarkD) (e k:Nat):Except Nat (RuleD × Nat):=match il ms e 1 k with
 | .error p=>.error p
 | .ok (h,k1)=>match il ms e 4 k1 with
  | .error p=>.error p
  | .ok (_,k2)=>match pS s ms e k2 with
   | .error p=>.error p
   | .ok (b,k3)=>match il ms e 5 k3 with
    | .error p=>.error p
    | .ok (_,k4)=>.ok (⟨h,b⟩,k4)
def dL (s:List UInt8) (ms:List MarkD) (e:Nat):Nat→List RuleD→Nat→Except Nat (List RuleD)
 | 0,out,_=>.ok out
 | f+1,out,k=>if out=[]∨k < ms.length then match fV s ms e k with
  | .error p=>.error p
  | .ok (r,k')=>dL s ms e f (out++[r]) k'
  else .ok out
def qh (s:List UInt8) (ms:List MarkD) (e:Nat):Prop:=∀ k k',k≤k'→au ms e k≤au ms e k'∧au ms e k'≤s.length
theorem AM (s:List UInt8):qh s (aj s) (cD s):=fun k k' h=>by
 refine ⟨?_,iU s k'⟩
 by_cases hk:k < (aj s).length
 ·have hpl:=iU s k
  obtain ⟨h1,h2⟩:=rg s (s.length+1) 0 k (s.length+1) (Nat.zero_le _) (by omega) hk (by omega)
  have h3:=kj s (s.length+1) (au (aj s) (cD s) k) (k' - k) hpl (by omega)
  change bz s (s.length+1) (au (aj s) (cD s) k)=(aj s).drop k at h1
  change bY s (s.length+1) (au (aj s) (cD s) k)=cD s at h2
  rw [h1,h2] at h3
  have:au ((aj s).drop k) (cD s) (k' - k)=au (aj s) (cD s) k':=by
   unfold au
   rw [List.getElem?_drop,show k+(k' - k)=k' by omega]
  rw [this] at h3
  exact h3.1
 ·rw [ep (by omega),ep (by omega)]
  exact Nat.le_refl _
theorem iq (ms:List MarkD) {k:Nat} (hk:k≤ms.length):k≤dO ms k∧dO ms k≤ms.length:=by
 unfold dO
 have:=List.IsPrefix.length_le (List.takeWhile_prefix xw (l:=ms.drop k))
 rw [List.length_drop] at this
 omega
theorem yp {ms:List MarkD} {k:Nat} (hk:ms.length≤k):dO ms k=k:=by
 unfold dO
 rw [List.drop_eq_nil_of_le hk];rfl
theorem Aq {ms:List MarkD} {k:Nat} {m:MarkD} (h:ms[k]?=some m):dO ms k=if xw m=true then dO ms (k+1) else k:=by
 unfold dO
 rw [dg h,List.takeWhile_cons]
 split
 ·rw [List.length_cons];omega
 ·rfl
theorem ez {ms:List MarkD} {e kd k:Nat} {t:List UInt8} {k':Nat} (h:il ms e kd k=.ok (t,k')):∃ m,ms[k]?=some m∧m.kind=kd∧t=m.text∧k'=k+1∧k'≤ms.length:=by
 unfold il at h
 split at h
 ·rename_i m hm
  split at h
  ·cases h
   have:=(List.getElem?_eq_some_iff.1 hm).1
   exact ⟨m,hm,by assumption,rfl,rfl,by omega⟩
  ·cases h
 ·cases h
theorem iI {s:List UInt8} {ms:List MarkD} {e k:Nat} {l:List NodeD} {k':Nat} (h:pS s ms e k=.ok (l,k')):k'=dO ms k∧∃ a,fW ((s.drop (au ms e k)).take (au ms e (dO ms k) - au ms e k))=(l,a,0):=by
 unfold pS at h
 split at h
 rename_i l' a er hr
 split at h
 ·rename_i h0
  cases h
  subst h0
  exact ⟨rfl,a,hr⟩
 ·split at h <;> cases h
theorem AH {s:List UInt8} {ms:List MarkD} {e k:Nat} {r:RuleD} {k':Nat} (h:fV s ms e k=.ok (r,k')) :
  ∃ k3,il ms e 1 k=.ok (r.head,k+1)∧(∃ t,il ms e 4 (k+1)=.ok (t,k+2))∧pS s ms e (k+2)=.ok (r.body,k3)∧(∃ t,il ms e 5 k3=.ok (t,k'))∧k3=dO ms (k+2)∧k'=k3+1∧k+2≤k3∧k'≤ms.length:=by
 unfold fV at h
 split at h
 ·cases h
 rename_i h0 k1 e1
 split at h
 ·cases h
 rename_i t2 k2 e2
 split at h
 ·cases h
 rename_i b k3 e3
 split at h
 ·cases h
 rename_i t4 k4 e4
 cases h
 obtain ⟨m1,g1,_,_,rfl,_⟩:=ez e1
 obtain ⟨m2,g2,_,_,rfl,h2⟩:=ez e2
 obtain ⟨rfl,_⟩:=iI e3
 obtain ⟨m4,g4,_,_,rfl,h4⟩:=ez e4
 exact ⟨_,e1,⟨_,e2⟩,e3,⟨_,e4⟩,rfl,rfl,(iq ms h2).1,h4⟩
section
abbrev rbP (br:Nat) (s:List UInt8) (v:Value) (e k:Nat):HP:=pt br (row [str s,v,i64 (k:Nat),i64 (e:Nat)] 58)
abbrev cR (i:Nat):Value:=.iface 51 (.agg [i64 (i:Nat)].toArray)
attribute [local irreducible] G GO GR GT Fn FnX FnV FnXV Dfr pt init exs pur sat own ImpS kAt au dO
theorem oN (q:HP) (v:Value) (ms:List MarkD) (hq:dN q v ms) (br e k:Nat) (s:List UInt8) (hk:k≤ms.length):Fn Tryz.prog 119 #[ah br] [rbP br s v e k,q] (fun r Q=>r=i64 (au ms e k:Nat)∧Q=[rbP br s v e k,q]):=by
 by_cases hlt:k < ms.length
 ·obtain ⟨m,hm⟩:∃ m,ms[k]?=some m:=⟨_,List.getElem?_eq_getElem hlt⟩
  obtain ⟨b,o,cap,rfl,_,r1,_⟩:=iy hq hm
  rw [iT hm]
  have e1:decide ((ms.length:Int)≤(k:Int))=false:=decide_eq_false (by omega)
  clear hq
  refine Fn.mk2 Tryz.func119 rfl rfl fun w0 F=>?_
  apply Ru
  refine dr 10 ?_
  apply Ru
  refine scF ?_
  refine dr 11 ?_
  (apply Ru;refine qix ?_;refine qld (by assumption) ?_;apply Ru)
  refine KF2.r1 rfl (RV.t rfl) ⟨rfl,rfl⟩ (ImpS.sb ?_)
  exact SB
 ·obtain rfl:k=ms.length:=by omega
  obtain ⟨a,cap,rfl⟩:=eA hq
  rw [ep (Nat.le_refl _)]
  have e1:decide ((ms.length:Int)≤(ms.length:Int))=true:=decide_eq_true (Int.le_refl _)
  clear hq
  refine Fn.mk2 Tryz.func119 rfl rfl fun w0 F=>?_
  apply Ru
  refine dr 10 ?_
  apply Ru
  refine scT ?_
  refine KF2.r1 rfl (RV.t rfl) ⟨rfl,rfl⟩ (ImpS.sb ?_)
  exact SB
theorem yh (q:HP) (v:Value) (ms:List MarkD) (hq:dN q v ms) (br e kd k:Nat) (s:List UInt8) (hk:k≤ms.length) (hl:¬ 1048576 < ms.length):FnX Tryz.prog 49 #[ah br,i64 (kd:Nat)] [rbP br s v e k,q]
  (fun r Q=>∃ t k',il ms e kd k=.ok (t,k')∧r=str t∧Q=[rbP br s v e k',q]) (fun x Q=>∃ p,il ms e kd k=.error p∧x=cR p∧Q=[]):=by
 have hpl:=oN q v ms hq br e k s hk
 by_cases hlt:k < ms.length
 ·obtain ⟨m,hm⟩:∃ m,ms[k]?=some m:=⟨_,List.getElem?_eq_getElem hlt⟩
  obtain ⟨b,o,cap,rfl,r0,_,r2⟩:=iy hq hm
  rw [iT hm] at hpl
  have e1:decide ((ms.length:Int)≤(k:Int))=false:=decide_eq_false (by omega)
  unfold il
  rw [hm]
  dsimp only
  clear hq
  refine FnX.mk Tryz.func49 rfl rfl fun w0 F=>?_
  apply Ru
  refine dr 25 ?_
  (apply Ru;refine qgT ?_;refine qgT ?_;refine qgT ?_;refine qgT ?_;refine qgT ?_;refine qgT ?_;refine qgT ?_;refine qgT ?_;(apply GQ.step;focus (intro Z;refine GO.gT rfl rfl (by assumption) ?_;refine GO.idxS rfl rfl rfl ⟨rfl,by omega⟩ ?_;exact KQ.z));refine qgT ?_;(apply GQ.step;focus (intro Z;refine GO.gT rfl rfl (by assumption) ?_;refine GO.loadQ rfl rfl rfl (Tk.t Tk.h) (by assumption) ?_;exact KQ.z));refine qgT ?_;refine qgT ?_;refine qpF ?_)
  by_cases hkd:m.kind=kd
  ·rw [if_pos hkd]
   have e2:decide ((m.kind:Int)≠(kd:Int))=false:=decide_eq_false (by omega)
   (refine scF ?_;refine sad ?_)
   refine dr 13 ?_
   (apply Ru;(apply GQ.step;focus (intro Z;refine GO.subi rfl rfl rfl (by omega) ?_;exact KQ.z)))
   apply GQ.step;focus (intro Z;refine GO.idxS (j:=k) rfl rfl rfl ⟨by omega,by omega⟩ ?_;exact KQ.z)
   (apply Ru;refine qld (by assumption) ?_;apply Ru)
   refine KFX.r1 rfl (RV.t rfl) ⟨_,_,rfl,rfl,rfl⟩ (ImpS.sb ?_)
   ((refine Sb.c Tk.h ?_;exact SB);skip)
  ·rw [if_neg hkd]
   have e2:decide ((m.kind:Int)≠(kd:Int))=true:=decide_eq_true (by omega)
   refine scT ?_
   refine scl (hpl) ?_
   rintro _ _ ⟨rfl,rfl⟩
   apply Ru
   refine GO.panic rfl ?_
   (repeat (first | refine aV ?_ | refine aM ?_ | refine kscope_p ?_))
   refine KFX.p (v:=cR m.place) ⟨m.place,rfl,rfl,rfl⟩ (ImpS.sb ?_)
   exact SB
 ·obtain rfl:k=ms.length:=by omega
  obtain ⟨a,cap,rfl⟩:=eA hq
  rw [ep (Nat.le_refl _)] at hpl
  have hte:il ms e kd ms.length=.error e:=by unfold il;rw [List.getElem?_eq_none (Nat.le_refl _)]
  rw [hte]
  have e1:decide ((ms.length:Int)≤(ms.length:Int))=true:=decide_eq_true (Int.le_refl _)
  clear hq
  refine FnX.mk Tryz.func49 rfl rfl fun w0 F=>?_
  apply Ru
  refine dr 25 ?_
  (apply Ru;refine qgF ?_;refine qgF ?_;refine qgF ?_;refine qgF ?_;refine qgF ?_;refine qgF ?_;refine qgF ?_;refine qgF ?_;refine qgF ?_;refine qgF ?_;refine qgF ?_;refine qgF ?_;refine qgF ?_;refine qpT ?_)
  refine scl (hpl) ?_
  rintro _ _ ⟨rfl,rfl⟩
  apply Ru
  refine GO.panic rfl ?_
  (repeat (first | refine aV ?_ | refine aM ?_ | refine kscope_p ?_))
  refine KFX.p (v:=cR e) ⟨e,rfl,rfl,rfl⟩ (ImpS.sb ?_)
  exact SB
end
section
theorem oJ (s:List UInt8):(fW s).2.1≤s.length:=by
 unfold fW
 split
 ·exact Nat.zero_le _
 ·split
  ·exact iU s _
  ·split
   ·exact iU s _
   ·exact Nat.zero_le _
attribute [local irreducible] G GO GR GT Fn FnX FnV FnXV Dfr pt init exs pur sat own ImpS kAt au dO fW
theorem zS (q:HP) (v:Value) (ms:List MarkD) (hq:dN q v ms) (br e k:Nat) (s:List UInt8) (hk:k≤ms.length) (hl:¬ 1048576 < ms.length) (hs:¬ 1048576 < s.length) (hpo:qh s ms e):FnX Tryz.prog 50 #[ah br] [rbP br s v e k,q]
  (fun r Q=>∃ l k',pS s ms e k=.ok (l,k')∧r.oneCell'=true∧Q=[own 93 3 l.length r (aO l),rbP br s v e k' ,q]) (fun x Q=>∃ p,pS s ms e k=.error p∧x=cR p∧Q=[]):=by
 have hpl:=fun k (hk:k≤ms.length)=>oN q v ms hq br e k s hk
 have hmr:∀ i m,ms[i]?=some m→_:=fun i m h=>iy hq h
 obtain ⟨am,cm,rfl⟩:=eA hq
 have hsl:=iq ms hk
 have hp1:=hpo k (dO ms k) hsl.1
 unfold pS
 clear hq hpo
 refine FnX.mk Tryz.func50 rfl rfl fun w0 F=>?_
 apply Ru
 refine scl (hpl k hk) ?_
 rintro _ _ ⟨rfl,rfl⟩
 apply Ru
 refine G.loopI (σ:=Nat) (fun i=>[(0,ah br),(3,i64 (au ms e k:Nat))]) (fun i=>rbP br s (.slice am ms.length cm) e i::q::F) (fun i=>i≤ms.length∧dO ms i=dO ms k) (fun i=>ms.length - i) k ⟨hk,rfl⟩ ?_ ?_ ?_
 ·exact SE rfl
 ·exact ImpS.sb SB
 rintro i ⟨hi,hst⟩
 dsimp only at hi hst ⊢
 by_cases hlt:i < ms.length
 ·obtain ⟨m,hm⟩:∃ m,ms[i]?=some m:=⟨_,List.getElem?_eq_getElem hlt⟩
  have e1:decide ((i:Int) < (ms.length:Int))=true:=decide_eq_true (by omega)
  have hgo:=Aq hm
  obtain ⟨b,o,cap,e0,r0,_,_⟩:=hmr i m hm
  injection e0 with e0 _ e2
  subst e0 e2
  unfold xw at hgo
  apply Ru
  refine dr 38 ?_
  (apply Ru;refine qgT ?_;refine qgT ?_;refine qgT ?_;refine qgT ?_;refine qgT ?_;refine qgT ?_;refine qgT ?_;refine qgT ?_;(apply GQ.step;focus (intro Z;refine GO.gT rfl rfl (by assumption) ?_;refine GO.idxS rfl rfl rfl ⟨rfl,by omega⟩ ?_;exact KQ.z));refine qgT ?_;(apply GQ.step;focus (intro Z;refine GO.gT rfl rfl (by assumption) ?_;refine GO.loadQ rfl rfl rfl (Tk.t Tk.h) (by assumption) ?_;exact KQ.z));refine qgT ?_;refine qpT ?_)
  cases e5:decide ((m.kind:Int)≠5)
  ·rw [e5,Bool.false_and,if_neg (by decide)] at hgo
   apply Ru
   have hik:dO ms k=i:=by rw [← hst,hgo]
   rw [hik] at hp1 ⊢
   have hpli:=hpl i hi
   clear hpl hst
   generalize hpk:au ms e k=pk at *
   generalize hpi:au ms e i=pi at *
   refine dr 8 ?_
   apply Ru
   apply GQ.step;focus (intro Z;refine scl (hpli) ?_;rintro _ _ ⟨rfl,rfl⟩;refine GO.nil (KQ.s ?_);exact SB)
   apply GQ.step;focus (intro Z;refine GO.strLH (a:=pk) (b:=pi) rfl rfl rfl rfl ⟨rfl,rfl,hp1.1,hp1.2⟩ ?_;exact KQ.z)
   apply Ru
   have hpcl:((s.drop pk).take (pi - pk)).length=pi - pk:=by rw [List.length_take,List.length_drop];omega
   generalize (s.drop pk).take (pi - pk)=piece at *
   have hra:=oJ piece
   refine scl (mn piece) ?_
   rintro _ _ ⟨w,rfl,hw1,rfl⟩
   generalize fW piece=z at *
   obtain ⟨l,a,er⟩:=z
   dsimp only at hra ⊢
   apply Ru
   by_cases her:er=0
   ·have d1:decide ((er:Int)≠0)=false:=decide_eq_false (by omega)
    rw [if_pos her]
    refine scF ?_
    exact kx1 rfl ⟨l,i,rfl,hw1,rfl⟩
   have d1:decide ((er:Int)≠0)=true:=decide_eq_true (by omega)
   rw [if_neg her]
   by_cases hat:a=pi - pk
   ·have d2:decide ((a:Int)=(piece.length:Int))=true:=decide_eq_true (by omega)
    rw [if_pos hat]
    (refine scT ?_;refine scT ?_)
    refine scl (hpli) ?_
    rintro _ _ ⟨rfl,rfl⟩
    apply Ru
    refine GO.panic rfl ?_
    (repeat (first | refine aV ?_ | refine aM ?_ | refine kscope_p ?_))
    refine KFX.p (v:=cR pi) ⟨pi,rfl,rfl,rfl⟩ (ImpS.sb ?_)
    exact SB
   ·have d2:decide ((a:Int)=(piece.length:Int))=false:=decide_eq_false (by omega)
    rw [if_neg hat]
    (refine scT ?_;refine scF ?_;refine sad ?_)
    refine GO.panic rfl ?_
    (repeat (first | refine aV ?_ | refine aM ?_ | refine kscope_p ?_))
    refine KFX.p (v:=cR (pk+a)) ⟨pk+a,rfl,rfl,rfl⟩ (ImpS.sb ?_)
    exact SB
  ·cases e4:decide ((m.kind:Int)≠4)
   ·rw [e5,e4,Bool.true_and,if_neg (by decide)] at hgo
    (apply Ru;(apply GQ.step;focus (intro Z;refine GO.gT rfl rfl rfl ?_;refine GO.idxS rfl rfl rfl ⟨rfl,by omega⟩ ?_;exact KQ.z));apply Ru;(apply GQ.step;focus (intro Z;refine GO.gT rfl rfl rfl ?_;refine GO.loadQ rfl rfl rfl (Tk.t Tk.h) (by assumption) ?_;exact KQ.z));apply Ru)
    refine scF ?_
    have hik:dO ms k=i:=by rw [← hst,hgo]
    rw [hik] at hp1 ⊢
    have hpli:=hpl i hi
    clear hpl hst
    generalize hpk:au ms e k=pk at *
    generalize hpi:au ms e i=pi at *
    refine dr 8 ?_
    apply Ru
    apply GQ.step;focus (intro Z;refine scl (hpli) ?_;rintro _ _ ⟨rfl,rfl⟩;refine GO.nil (KQ.s ?_);exact SB)
    apply GQ.step;focus (intro Z;refine GO.strLH (a:=pk) (b:=pi) rfl rfl rfl rfl ⟨rfl,rfl,hp1.1,hp1.2⟩ ?_;exact KQ.z)
    apply Ru
    have hpcl:((s.drop pk).take (pi - pk)).length=pi - pk:=by rw [List.length_take,List.length_drop];omega
    generalize (s.drop pk).take (pi - pk)=piece at *
    have hra:=oJ piece
    refine scl (mn piece) ?_
    rintro _ _ ⟨w,rfl,hw1,rfl⟩
    generalize fW piece=z at *
    obtain ⟨l,a,er⟩:=z
    dsimp only at hra ⊢
    apply Ru
    by_cases her:er=0
    ·have d1:decide ((er:Int)≠0)=false:=decide_eq_false (by omega)
     rw [if_pos her]
     refine scF ?_
     exact kx1 rfl ⟨l,i,rfl,hw1,rfl⟩
    have d1:decide ((er:Int)≠0)=true:=decide_eq_true (by omega)
    rw [if_neg her]
    by_cases hat:a=pi - pk
    ·have d2:decide ((a:Int)=(piece.length:Int))=true:=decide_eq_true (by omega)
     rw [if_pos hat]
     (refine scT ?_;refine scT ?_)
     refine scl (hpli) ?_
     rintro _ _ ⟨rfl,rfl⟩
     apply Ru
     refine GO.panic rfl ?_
     (repeat (first | refine aV ?_ | refine aM ?_ | refine kscope_p ?_))
     refine KFX.p (v:=cR pi) ⟨pi,rfl,rfl,rfl⟩ (ImpS.sb ?_)
     exact SB
    ·have d2:decide ((a:Int)=(piece.length:Int))=false:=decide_eq_false (by omega)
     rw [if_neg hat]
     (refine scT ?_;refine scF ?_;refine sad ?_)
     refine GO.panic rfl ?_
     (repeat (first | refine aV ?_ | refine aM ?_ | refine kscope_p ?_))
     refine KFX.p (v:=cR (pk+a)) ⟨pk+a,rfl,rfl,rfl⟩ (ImpS.sb ?_)
     exact SB
   ·rw [e5,e4,Bool.true_and,if_pos rfl] at hgo
    (apply Ru;(apply GQ.step;focus (intro Z;refine GO.gT rfl rfl rfl ?_;refine GO.idxS rfl rfl rfl ⟨rfl,by omega⟩ ?_;exact KQ.z));apply Ru;(apply GQ.step;focus (intro Z;refine GO.gT rfl rfl rfl ?_;refine GO.loadQ rfl rfl rfl (Tk.t Tk.h) (by assumption) ?_;exact KQ.z));apply Ru)
    (refine scT ?_;refine sad ?_)
    refine ⟨i+1,⟨hlt,by rw [← hgo];exact hst⟩,by omega,?_,ImpS.sb ?_⟩
    ·exact SE rfl
    ·((refine Sb.c Tk.h ?_;exact SB);skip)
 ·have e1:decide ((i:Int) < (ms.length:Int))=false:=decide_eq_false (by omega)
  have hie:=yp (ms:=ms) (k:=i) (by omega)
  apply Ru
  refine dr 38 ?_
  (apply Ru;refine qgF ?_;refine qgF ?_;refine qgF ?_;refine qgF ?_;refine qgF ?_;refine qgF ?_;refine qgF ?_;refine qgF ?_;refine qgF ?_;refine qgF ?_;refine qgF ?_;refine qgF ?_;refine qpF ?_)
  have hik:dO ms k=i:=by rw [← hst,hie]
  rw [hik] at hp1 ⊢
  have hpli:=hpl i hi
  clear hpl hst
  generalize hpk:au ms e k=pk at *
  generalize hpi:au ms e i=pi at *
  refine dr 8 ?_
  apply Ru
  apply GQ.step;focus (intro Z;refine scl (hpli) ?_;rintro _ _ ⟨rfl,rfl⟩;refine GO.nil (KQ.s ?_);exact SB)
  apply GQ.step;focus (intro Z;refine GO.strLH (a:=pk) (b:=pi) rfl rfl rfl rfl ⟨rfl,rfl,hp1.1,hp1.2⟩ ?_;exact KQ.z)
  apply Ru
  have hpcl:((s.drop pk).take (pi - pk)).length=pi - pk:=by rw [List.length_take,List.length_drop];omega
  generalize (s.drop pk).take (pi - pk)=piece at *
  have hra:=oJ piece
  refine scl (mn piece) ?_
  rintro _ _ ⟨w,rfl,hw1,rfl⟩
  generalize fW piece=z at *
  obtain ⟨l,a,er⟩:=z
  dsimp only at hra ⊢
  apply Ru
  by_cases her:er=0
  ·have d1:decide ((er:Int)≠0)=false:=decide_eq_false (by omega)
   rw [if_pos her]
   refine scF ?_
   exact kx1 rfl ⟨l,i,rfl,hw1,rfl⟩
  have d1:decide ((er:Int)≠0)=true:=decide_eq_true (by omega)
  rw [if_neg her]
  by_cases hat:a=pi - pk
  ·have d2:decide ((a:Int)=(piece.length:Int))=true:=decide_eq_true (by omega)
   rw [if_pos hat]
   (refine scT ?_;refine scT ?_)
   refine scl (hpli) ?_
   rintro _ _ ⟨rfl,rfl⟩
   apply Ru
   refine GO.panic rfl ?_
   (repeat (first | refine aV ?_ | refine aM ?_ | refine kscope_p ?_))
   refine KFX.p (v:=cR pi) ⟨pi,rfl,rfl,rfl⟩ (ImpS.sb ?_)
   exact SB
  ·have d2:decide ((a:Int)=(piece.length:Int))=false:=decide_eq_false (by omega)
   rw [if_neg hat]
   (refine scT ?_;refine scF ?_;refine sad ?_)
   refine GO.panic rfl ?_
   (repeat (first | refine aV ?_ | refine aM ?_ | refine kscope_p ?_))
   refine KFX.p (v:=cR (pk+a)) ⟨pk+a,rfl,rfl,rfl⟩ (ImpS.sb ?_)
   exact SB
end
section
theorem SlK.sup {q q':HP} (hs:Sup q q') {v:Value} {n sz:Nat} {l:List Value} (h:SlK q v n sz l):SlK q' v n sz l:=by
 obtain ⟨a,cap,rfl,hc,hl,hr⟩:=h
 exact ⟨a,cap,rfl,hc,hl,fun hn=>let ⟨b,o,e,hr⟩:=hr hn;⟨b,o,e,fun j u hj=>hs _ _ (hr j u hj)⟩⟩
def BodiesR (z:HP) (g:List RuleD) (vs:List Value):Prop:=vs.length=g.length * 2∧∀ i r,g[i]?=some r→vs[i * 2]?=some (str r.head)∧∃ w,vs[i * 2+1]?=some w∧w.oneCell'=true∧NodesR z w r.body
theorem BodiesR.nil (z:HP):BodiesR z [] []:=⟨rfl,fun i r h=>by simp at h⟩
theorem BodiesR.sup {z z':HP} (hs:Sup z z') {g:List RuleD} {vs:List Value} (h:BodiesR z g vs):BodiesR z' g vs:=
 ⟨h.1,fun i r hi=>let ⟨h1,w,h2,h3,h4⟩:=h.2 i r hi;⟨h1,w,h2,h3,h4.sup hs⟩⟩
theorem BodiesR.snoc {z:HP} {g:List RuleD} {vs:List Value} {r:RuleD} {w:Value} (h:BodiesR z g vs) (h1:w.oneCell'=true) (hw:NodesR z w r.body):BodiesR z (g++[r]) (vs++[str r.head,w]):=by
 refine ⟨by rw [List.length_append,List.length_append,h.1];simp only [List.length_cons,List.length_nil];omega,fun i x hi=>?_⟩
 by_cases hlt:i < g.length
 ·rw [List.getElem?_append_left hlt] at hi
  obtain ⟨e1,w',e2,e3,e4⟩:=h.2 i x hi
  exact ⟨by rw [List.getElem?_append_left (by rw [h.1];omega)];exact e1,w',by rw [List.getElem?_append_left (by rw [h.1];omega)];exact e2,e3,e4⟩
 ·rw [List.getElem?_append_right (by omega)] at hi
  have hi0:i=g.length:=by
   have:=(List.getElem?_eq_some_iff.1 hi).1
   simp only [List.length_cons,List.length_nil] at this
   omega
  subst hi0
  rw [Nat.sub_self] at hi
  cases hi
  exact ⟨by rw [List.getElem?_append_right (by rw [h.1];omega),h.1,Nat.sub_self];rfl,w,by rw [List.getElem?_append_right (by rw [h.1];omega),h.1,Nat.add_sub_cancel_left];rfl,h1,hw⟩
def RulesR (q:HP) (v:Value) (g:List RuleD):Prop:=∃ vs,BodiesR q g vs∧SlK q v g.length 2 vs
theorem mV {s:List UInt8} {ms:List MarkD} {e f k:Nat} {out:List RuleD} (h:out=[]∨k < ms.length):dL s ms e (f+1) out k=match fV s ms e k with
  | .error p=>.error p
  | .ok (r,k')=>dL s ms e f (out++[r]) k':=by
 rw [dL,if_pos h]
 try rfl
attribute [local irreducible] G GO GR GT Fn FnX FnV FnXV Dfr pt init exs pur sat own ImpS kAt au dO fW
theorem wl (q:HP) (v:Value) (ms:List MarkD) (hq:dN q v ms) (br e:Nat) (s:List UInt8) (hl:¬ 1048576 < ms.length) (hs:¬ 1048576 < s.length) (hpo:qh s ms e):FnX Tryz.prog 22 #[ah br] [rbP br s v e 0,q]
  (fun r Q=>∃ g z,dL s ms e (ms.length+1) [] 0=.ok g∧RulesR z r g∧Q=[z]) (fun x Q=>∃ p,dL s ms e (ms.length+1) [] 0=.error p∧x=cR p∧Q=[]):=by
 have htk:=fun kd k (hk:k≤ms.length)=>yh q v ms hq br e kd k s hk hl
 have hbd:=fun k (hk:k≤ms.length)=>zS q v ms hq br e k s hk hl hs hpo
 obtain ⟨am,cm,rfl⟩:=eA hq
 clear hq hpo
 generalize hres:dL s ms e (ms.length+1) [] 0=res
 refine FnX.mk Tryz.func22 rfl rfl fun w0 F=>?_
 refine G.ownNil (T:=97) (sz:=2) ?_
 refine G.imp (H':=pur True::_) (fun _ _ s=>bF.2 ⟨trivial,s⟩) ?_
 apply Ru
 refine G.loopI (σ:=Nat × List RuleD × List Value × Value × HP) (fun x=>[(0,ah br),(3,x.2.2.2.1)]) (fun x=>own 97 2 x.2.1.length x.2.2.2.1 x.2.2.1::x.2.2.2.2::rbP br s (.slice am ms.length cm) e x.1::q::F)
  (fun x=>x.1≤ms.length∧x.2.1.length≤x.1∧BodiesR x.2.2.2.2 x.2.1 x.2.2.1∧∃ f,ms.length - x.1 < f∧dL s ms e f x.2.1 x.1=res) (fun x=>ms.length - x.1) (0,[],[],.slice none 0 0,pur True) ⟨Nat.zero_le _,Nat.zero_le _,BodiesR.nil _,_,by dsimp only;omega,hres⟩ ?_ ?_ ?_
 ·exact SE rfl
 ·exact ImpS.sb SB
 clear hres
 rintro ⟨k,out,vs,v3,z⟩ ⟨hk,ho,hB,f,hf,hres⟩
 dsimp only at hk ho hB hf hres ⊢
 obtain ⟨f,rfl⟩:∃ g,f=g+1:=⟨f - 1,by omega⟩
 apply Ru
 refine dr 15 ?_
 apply Ru
 cases c1:decide ((out.length:Int)=0)
 ·cases c2:decide ((k:Int) < (ms.length:Int))
  ·have hc1:=of_decide_eq_false c1
   have hc2:=of_decide_eq_false c2
   rw [dL,if_neg (by rintro (h | h);rw [h] at hc1;exact hc1 rfl;omega)] at hres
   ((apply GQ.step;focus (intro Z;refine GO.gT rfl rfl rfl ?_;refine GO.move rfl rfl ?_;exact KQ.z));(apply GQ.step;focus (intro Z;refine GO.gT rfl rfl rfl ?_;refine GO.nilCheck rfl rfl ?_;exact KQ.z));(apply GQ.step;focus (intro Z;refine GO.gT rfl rfl rfl ?_;refine GO.fieldAddr rfl rfl ?_;exact KQ.z));(apply GQ.step;focus (intro Z;refine GO.gT rfl rfl rfl ?_;refine GO.load1 rfl rfl rfl (Tk.t (Tk.t Tk.h)) rfl ?_;exact KQ.z));(apply GQ.step;focus (intro Z;refine GO.gT rfl rfl rfl ?_;refine GO.move rfl rfl ?_;exact KQ.z));(apply GQ.step;focus (intro Z;refine GO.gT rfl rfl rfl ?_;refine GO.nilCheck rfl rfl ?_;exact KQ.z));(apply GQ.step;focus (intro Z;refine GO.gT rfl rfl rfl ?_;refine GO.fieldAddr rfl rfl ?_;exact KQ.z));(apply GQ.step;focus (intro Z;refine GO.gT rfl rfl rfl ?_;refine GO.load1 rfl rfl rfl (Tk.t (Tk.t Tk.h)) rfl ?_;exact KQ.z));(apply GQ.step;focus (intro Z;refine GO.gT rfl rfl rfl ?_;refine GO.lenS rfl rfl ?_;exact KQ.z));(apply GQ.step;focus (intro Z;refine GO.gT rfl rfl rfl ?_;refine GO.lti rfl rfl rfl ?_;exact KQ.z));(apply GQ.step;focus (intro Z;refine GO.pickF rfl rfl rfl ?_;exact KQ.z));refine GQ.nil ?_)
   refine GO.ownRdK Tk.h fun q2 hq2=>?_
   refine GO.merge (x:=q2) (y:=z) (Tks.c Tk.h (Tks.c Tk.h Tks.n)) ?_
   (apply Ru;refine scF ?_)
   exact kx1 rfl ⟨out,_,hres.symm,⟨vs,hB.sup (Sup.right _ _),hq2.sup (Sup.left _ _)⟩,rfl⟩
  ·have hc2:=of_decide_eq_true c2
   rw [mV (.inr (by omega))] at hres
   apply Ru
   refine scT ?_
   refine sxl (htk 1 k hk) ?_ ?_
   ·rintro _ _ ⟨p,hp,rfl,rfl⟩
    (repeat (first | refine aV ?_ | refine aM ?_ | refine kscope_p ?_))
    refine KFX.p (v:=cR p) ⟨p,by rw [← hres];unfold fV;rw [hp],rfl,rfl⟩ (ImpS.sb ?_)
    exact SB
   rintro _ _ ⟨t1,k1,h1,rfl,rfl⟩
   obtain ⟨m1,_,_,_,rfl,hk1⟩:=ez h1
   apply Ru
   refine sxl (htk 4 (k+1) hk1) ?_ ?_
   ·rintro _ _ ⟨p,hp,rfl,rfl⟩
    (repeat (first | refine aV ?_ | refine aM ?_ | refine kscope_p ?_))
    refine KFX.p (v:=cR p) ⟨p,by rw [← hres];unfold fV;rw [h1];dsimp only;rw [hp],rfl,rfl⟩ (ImpS.sb ?_)
    exact SB
   rintro _ _ ⟨t2,k2,h2,rfl,rfl⟩
   obtain ⟨m2,_,_,_,rfl,hk2⟩:=ez h2
   apply Ru
   refine sxl (hbd (k+1+1) hk2) ?_ ?_
   ·rintro _ _ ⟨p,hp,rfl,rfl⟩
    (repeat (first | refine aV ?_ | refine aM ?_ | refine kscope_p ?_))
    refine KFX.p (v:=cR p) ⟨p,by rw [← hres];unfold fV;rw [h1];dsimp only;rw [h2];dsimp only;rw [hp],rfl,rfl⟩ (ImpS.sb ?_)
    exact SB
   rintro r _ ⟨l,k3,h3,hr1,rfl⟩
   have hk3:k3≤ms.length:=by obtain ⟨rfl,_⟩:=iI h3;exact (iq ms hk2).2
   refine GO.ownRdK Tk.h fun q2 hq2=>?_
   obtain ⟨ar,cr,rfl⟩:=aZ hq2
   refine GO.merge (x:=q2) (y:=z) (Tks.c Tk.h (Tks.c (Tk.t (Tk.t (Tk.t Tk.h))) Tks.n)) ?_
   apply Ru
   refine sxl (htk 5 k3 hk3) ?_ ?_
   ·rintro _ _ ⟨p,hp,rfl,rfl⟩
    (repeat (first | refine aV ?_ | refine aM ?_ | refine kscope_p ?_))
    refine KFX.p (v:=cR p) ⟨p,by rw [← hres];unfold fV;rw [h1];dsimp only;rw [h2];dsimp only;rw [h3];dsimp only;rw [hp],rfl,rfl⟩ (ImpS.sb ?_)
    exact SB
   rintro _ _ ⟨t4,k4,h4,rfl,rfl⟩
   obtain ⟨m4,_,_,_,rfl,hk4⟩:=ez h4
   have hru:fV s ms e k=.ok (⟨t1,l⟩,k3+1):=by unfold fV;rw [h1];dsimp only;rw [h2];dsimp only;rw [h3];dsimp only;rw [h4]
   have hkk:k+2≤k3:=by obtain ⟨rfl,_⟩:=iI h3;exact (iq ms hk2).1
   rw [hru] at hres
   dsimp only at hres
   apply Ru
   refine GO.buildSlice1 (n:=2) rfl rfl (fun v hv=>by rw [List.mem_singleton.1 hv];rfl) rfl ⟨by decide,by decide⟩ fun bs=>?_
   refine GO.appendOwn (m:=1) (news:=[str t1,.slice ar l.length cr]) rfl rfl rfl (Tk.t (Tk.t (Tk.t (Tk.t Tk.h)))) Tk.h rfl (by simp [str,Value.oneCell']) ⟨by decide,rfl⟩ Nat.one_pos (by unfold maxLen;omega) (by omega) fun v5=>?_
   apply Ru
   refine ⟨(k3+1,out++[⟨t1,l⟩],vs++[str t1,.slice ar l.length cr],v5,aL [q2,z]),⟨hk4,by dsimp only;rw [List.length_append,List.length_cons,List.length_nil];omega,(hB.sup (Sup.right _ _)).snoc hr1 (hq2.sup (Sup.left _ _)),f,by dsimp only;omega,hres⟩,by dsimp only;omega,?_,?_⟩
   ·exact SE rfl
   ·dsimp only
    rw [List.length_append,List.length_cons,List.length_nil]
    exact ImpS.sb SB
 ·have hc1:=of_decide_eq_true c1
  rw [mV (.inl (List.length_eq_zero_iff.1 (by omega)))] at hres
  apply Ru
  refine sxl (htk 1 k hk) ?_ ?_
  ·rintro _ _ ⟨p,hp,rfl,rfl⟩
   (repeat (first | refine aV ?_ | refine aM ?_ | refine kscope_p ?_))
   refine KFX.p (v:=cR p) ⟨p,by rw [← hres];unfold fV;rw [hp],rfl,rfl⟩ (ImpS.sb ?_)
   exact SB
  rintro _ _ ⟨t1,k1,h1,rfl,rfl⟩
  obtain ⟨m1,_,_,_,rfl,hk1⟩:=ez h1
  apply Ru
  refine sxl (htk 4 (k+1) hk1) ?_ ?_
  ·rintro _ _ ⟨p,hp,rfl,rfl⟩
   (repeat (first | refine aV ?_ | refine aM ?_ | refine kscope_p ?_))
   refine KFX.p (v:=cR p) ⟨p,by rw [← hres];unfold fV;rw [h1];dsimp only;rw [hp],rfl,rfl⟩ (ImpS.sb ?_)
   exact SB
  rintro _ _ ⟨t2,k2,h2,rfl,rfl⟩
  obtain ⟨m2,_,_,_,rfl,hk2⟩:=ez h2
  apply Ru
  refine sxl (hbd (k+1+1) hk2) ?_ ?_
  ·rintro _ _ ⟨p,hp,rfl,rfl⟩
   (repeat (first | refine aV ?_ | refine aM ?_ | refine kscope_p ?_))
   refine KFX.p (v:=cR p) ⟨p,by rw [← hres];unfold fV;rw [h1];dsimp only;rw [h2];dsimp only;rw [hp],rfl,rfl⟩ (ImpS.sb ?_)
   exact SB
  rintro r _ ⟨l,k3,h3,hr1,rfl⟩
  have hk3:k3≤ms.length:=by obtain ⟨rfl,_⟩:=iI h3;exact (iq ms hk2).2
  refine GO.ownRdK Tk.h fun q2 hq2=>?_
  obtain ⟨ar,cr,rfl⟩:=aZ hq2
  refine GO.merge (x:=q2) (y:=z) (Tks.c Tk.h (Tks.c (Tk.t (Tk.t (Tk.t Tk.h))) Tks.n)) ?_
  apply Ru
  refine sxl (htk 5 k3 hk3) ?_ ?_
  ·rintro _ _ ⟨p,hp,rfl,rfl⟩
   (repeat (first | refine aV ?_ | refine aM ?_ | refine kscope_p ?_))
   refine KFX.p (v:=cR p) ⟨p,by rw [← hres];unfold fV;rw [h1];dsimp only;rw [h2];dsimp only;rw [h3];dsimp only;rw [hp],rfl,rfl⟩ (ImpS.sb ?_)
   exact SB
  rintro _ _ ⟨t4,k4,h4,rfl,rfl⟩
  obtain ⟨m4,_,_,_,rfl,hk4⟩:=ez h4
  have hru:fV s ms e k=.ok (⟨t1,l⟩,k3+1):=by unfold fV;rw [h1];dsimp only;rw [h2];dsimp only;rw [h3];dsimp only;rw [h4]
  have hkk:k+2≤k3:=by obtain ⟨rfl,_⟩:=iI h3;exact (iq ms hk2).1
  rw [hru] at hres
  dsimp only at hres
  apply Ru
  refine GO.buildSlice1 (n:=2) rfl rfl (fun v hv=>by rw [List.mem_singleton.1 hv];rfl) rfl ⟨by decide,by decide⟩ fun bs=>?_
  refine GO.appendOwn (m:=1) (news:=[str t1,.slice ar l.length cr]) rfl rfl rfl (Tk.t (Tk.t (Tk.t (Tk.t Tk.h)))) Tk.h rfl (by simp [str,Value.oneCell']) ⟨by decide,rfl⟩ Nat.one_pos (by unfold maxLen;omega) (by omega) fun v5=>?_
  apply Ru
  refine ⟨(k3+1,out++[⟨t1,l⟩],vs++[str t1,.slice ar l.length cr],v5,aL [q2,z]),⟨hk4,by dsimp only;rw [List.length_append,List.length_cons,List.length_nil];omega,(hB.sup (Sup.right _ _)).snoc hr1 (hq2.sup (Sup.left _ _)),f,by dsimp only;omega,hres⟩,by dsimp only;omega,?_,?_⟩
  ·exact SE rfl
  ·dsimp only
   rw [List.length_append,List.length_cons,List.length_nil]
   exact ImpS.sb SB
end
section
theorem bN {q:HP} {v:Value} {g:List RuleD} (hq:RulesR q v g):∃ a cap,v=.slice a g.length cap:=let ⟨_,_,a,cap,h,_⟩:=hq;⟨a,cap,h⟩
theorem fF {q:HP} {v:Value} {g:List RuleD} {i:Nat} {r:RuleD} (hq:RulesR q v g) (h:g[i]?=some r):∃ b o cap w,v=.slice (some ⟨b,o,none⟩) g.length cap∧g.length≤cap∧NodesR q w r.body ∧
  (∀ j u,[str r.head,w][j]?=some u→Rd q ⟨b,o+i * 2+j,none⟩ u):=by
 obtain ⟨vs,hB,a,cap,rfl,hcap,_,hr⟩:=hq
 have hi:=(List.getElem?_eq_some_iff.1 h).1
 obtain ⟨b,o,rfl,hr2⟩:=hr (by omega)
 obtain ⟨h1,w,h2,h3,h4⟩:=hB.2 i r h
 refine ⟨b,o,cap,w,rfl,hcap,h4,fun j u hu=>?_⟩
 rw [Nat.add_assoc]
 refine hr2 _ _ ?_
 match j,hu with
 | 0,hu=>cases hu;exact h1
 | 1,hu=>cases hu;exact h2
theorem q7 {α:Type} {l:List α} {p:α→Bool} {i:Nat} {x:α} (h:l[i]?=some x):(l.drop i).any p=(p x || (l.drop (i+1)).any p):=by rw [dg h,List.any_cons]
abbrev rH (m:NodeD):Value:=.agg (fS m).toArray
abbrev rj (r:RuleD) (w:Value):Value:=.agg [str r.head,w].toArray
attribute [local irreducible] G GO GR GT Fn FnX FnV FnXV Dfr pt init exs pur sat own ImpS
theorem zv (q:HP) (v:Value) (l:List NodeD) (y:Value) (p:NodeD→Bool) (hq:NodesR q v l) (hl:¬ 1048576 < l.length) (hy:∀ m,FnV Tryz.prog y [rH m] [] (fun r Q=>r=.bool (p m)∧Q=[])) :
  Fn Tryz.prog 122 #[v,y] [q] (fun r Q=>∃ n:Int,r=.int .i64 n∧decide (0≤n)=l.any p∧Q=[q]):=by
 have hrd:∀ i m,l[i]?=some m→_:=fun i m h=>ee hq h
 obtain ⟨a,cap,rfl⟩:=aZ hq
 generalize hres:l.any p=res
 refine Fn.mk2 Tryz.func122 rfl rfl fun w0 F=>?_
 apply Ru
 refine G.loopI (σ:=Nat) (fun i=>[(0,.slice a l.length cap),(1,y),(6,.slice a l.length cap),(7,i64 (l.length:Nat)),(8,i64 (i:Nat))]) (fun _=>q::F) (fun i=>i≤l.length∧(l.drop i).any p=res) (fun i=>l.length - i) 0 ⟨Nat.zero_le _,hres⟩ ?_ ?_ ?_
 ·exact SE rfl
 ·exact ImpS.sb SB
 clear hres
 rintro i ⟨hi,hp⟩
 apply Ru
 by_cases hlt:i < l.length
 ·have d1:decide ((i:Int) < (l.length:Int))=true:=decide_eq_true (by omega)
  obtain ⟨m,hm⟩:∃ m,l[i]?=some m:=⟨_,List.getElem?_eq_getElem hlt⟩
  obtain ⟨b,o,cap2,e,_,rm⟩:=hrd i m hm
  injection e with e _ e2
  subst e e2
  rw [q7 hm] at hp
  have hym:=hy m
  (refine scT ?_;refine six ?_)
  refine GO.loadM (vs:=fS m) rfl rfl rfl Tk.h rfl rm ?_
  refine svl (hym) ?_
  rintro _ _ ⟨rfl,rfl⟩
  cases hpm:p m
  ·rw [hpm,Bool.false_or] at hp
   (apply Ru;refine sad ?_)
   refine ⟨i+1,⟨hlt,hp⟩,by omega,?_,ImpS.sb ?_⟩
   ·exact SE rfl
   ·exact SB
  ·rw [hpm,Bool.true_or] at hp
   apply Ru
   exact kr1 rfl ⟨_,rfl,by rw [← hp];exact decide_eq_true (by omega),rfl⟩
 ·have d1:decide ((i:Int) < (l.length:Int))=false:=decide_eq_false (by omega)
  rw [List.drop_eq_nil_of_le (by omega)] at hp
  refine scF ?_
  exact kr1 rfl ⟨_,rfl,by rw [← hp];rfl,rfl⟩
theorem zy (q:HP) (v:Value) (l:List NodeD) (y:Value) (p:NodeD→Bool) (hq:NodesR q v l) (hl:¬ 1048576 < l.length) (hy:∀ m,FnV Tryz.prog y [rH m] [] (fun r Q=>r=.bool (p m)∧Q=[])) :
  Fn Tryz.prog 53 #[v,y] [q] (fun r Q=>r=.bool (l.any p)∧Q=[q]):=by
 refine Fn.mk2 Tryz.func53 rfl rfl fun w0 F=>?_
 apply Ru
 refine scl (zv q v l y p hq hl hy) ?_
 rintro _ _ ⟨n,rfl,hn,rfl⟩
 rw [← hn]
 apply Ru
 exact kr1 rfl ⟨rfl,rfl⟩
theorem zu (q:HP) (v:Value) (g:List RuleD) (y:Value) (p:RuleD→Bool) (hq:RulesR q v g) (hl:¬ 1048576 < g.length) (hy:∀ r∈g,∀ w,NodesR q w r.body→FnV Tryz.prog y [rj r w] [q] (fun x Q=>x=.bool (p r)∧Q=[q])) :
  Fn Tryz.prog 121 #[v,y] [q] (fun r Q=>∃ n:Int,r=.int .i64 n∧decide (0≤n)=g.any p∧Q=[q]):=by
 have hrd:∀ i r,g[i]?=some r→_:=fun i r h=>fF hq h
 obtain ⟨a,cap,rfl⟩:=bN hq
 generalize hres:g.any p=res
 refine Fn.mk2 Tryz.func121 rfl rfl fun w0 F=>?_
 apply Ru
 refine G.loopI (σ:=Nat) (fun i=>[(0,.slice a g.length cap),(1,y),(6,.slice a g.length cap),(7,i64 (g.length:Nat)),(8,i64 (i:Nat))]) (fun _=>q::F) (fun i=>i≤g.length∧(g.drop i).any p=res) (fun i=>g.length - i) 0 ⟨Nat.zero_le _,hres⟩ ?_ ?_ ?_
 ·exact SE rfl
 ·exact ImpS.sb SB
 clear hres
 rintro i ⟨hi,hp⟩
 apply Ru
 by_cases hlt:i < g.length
 ·have d1:decide ((i:Int) < (g.length:Int))=true:=decide_eq_true (by omega)
  obtain ⟨m,hm⟩:∃ m,g[i]?=some m:=⟨_,List.getElem?_eq_getElem hlt⟩
  obtain ⟨b,o,cap2,w,e,_,hw,rm⟩:=hrd i m hm
  injection e with e _ e2
  subst e e2
  rw [q7 hm] at hp
  have hym:=hy m (List.mem_of_getElem? hm) w hw
  obtain ⟨aw,cw,rfl⟩:=aZ hw
  (refine scT ?_;refine six ?_)
  refine GO.loadM (vs:=[str m.head,.slice aw m.body.length cw]) rfl rfl rfl Tk.h rfl rm ?_
  refine svl (hym) ?_
  rintro _ _ ⟨rfl,rfl⟩
  cases hpm:p m
  ·rw [hpm,Bool.false_or] at hp
   (apply Ru;refine sad ?_)
   refine ⟨i+1,⟨hlt,hp⟩,by omega,?_,ImpS.sb ?_⟩
   ·exact SE rfl
   ·exact SB
  ·rw [hpm,Bool.true_or] at hp
   apply Ru
   exact kr1 rfl ⟨_,rfl,by rw [← hp];exact decide_eq_true (by omega),rfl⟩
 ·have d1:decide ((i:Int) < (g.length:Int))=false:=decide_eq_false (by omega)
  rw [List.drop_eq_nil_of_le (by omega)] at hp
  refine scF ?_
  exact kr1 rfl ⟨_,rfl,by rw [← hp];rfl,rfl⟩
theorem rY (q:HP) (v:Value) (g:List RuleD) (y:Value) (p:RuleD→Bool) (hq:RulesR q v g) (hl:¬ 1048576 < g.length) (hy:∀ r∈g,∀ w,NodesR q w r.body→FnV Tryz.prog y [rj r w] [q] (fun x Q=>x=.bool (p r)∧Q=[q])) :
  Fn Tryz.prog 51 #[v,y] [q] (fun r Q=>r=.bool (g.any p)∧Q=[q]):=by
 refine Fn.mk2 Tryz.func51 rfl rfl fun w0 F=>?_
 apply Ru
 refine scl (zu q v g y p hq hl hy) ?_
 rintro _ _ ⟨n,rfl,hn,rfl⟩
 rw [← hn]
 apply Ru
 exact kr1 rfl ⟨rfl,rfl⟩
def xI (m:NodeD):Bool:=decide ((16:Int) < (m.name.length:Int))
def pb (r:RuleD):Bool:=decide ((16:Int) < (r.head.length:Int)) || r.body.any xI
theorem uW (m:NodeD):FnV Tryz.prog (.func (.func 54) #[] #[]) [rH m] [] (fun r Q=>r=.bool (xI m)∧Q=[]):=by
 refine FnV.of (caps:=[]) ?_
 refine Fn.mk2 Tryz.func54 rfl rfl fun w0 F=>?_
 unfold xI
 (apply Ru;refine sbx fun b1=>?_;apply Ru;refine GO.load1 rfl rfl rfl Tk.h rfl ?_;apply Ru)
 exact kr1 rfl ⟨rfl,rfl⟩
theorem wF (q:HP) (r:RuleD) (w:Value) (hw:NodesR q w r.body) (hl:¬ 1048576 < r.body.length):FnV Tryz.prog (.func (.func 52) #[] #[]) [rj r w] [q] (fun x Q=>x=.bool (pb r)∧Q=[q]):=by
 obtain ⟨aw,cw,rfl⟩:=aZ hw
 refine FnV.of (caps:=[]) ?_
 refine Fn.mk2 Tryz.func52 rfl rfl fun w0 F=>?_
 unfold pb
 (apply Ru;refine sbx fun b1=>?_;apply Ru)
 cases d:decide ((16:Int) < (r.head.length:Int))
 ·apply Ru
  refine scl (zy q _ r.body _ xI hw hl uW) ?_
  rintro _ _ ⟨rfl,rfl⟩
  apply Ru
  exact kr1 rfl ⟨rfl,rfl⟩
 ·apply Ru
  exact kr1 rfl ⟨rfl,rfl⟩
theorem z0 (q:HP) (v:Value) (g:List RuleD) (hq:RulesR q v g) (hl:¬ 1048576 < g.length) (hb:∀ r∈g,¬ 1048576 < r.body.length):Fn Tryz.prog 23 #[v] [q] (fun r Q=>r=.bool (g.any pb)∧Q=[q]):=by
 refine Fn.mk2 Tryz.func23 rfl rfl fun w0 F=>?_
 apply Ru
 refine scl (rY q v g _ pb hq hl (fun r hr w hw=>wF q r w hw (hb r hr))) ?_
 rintro _ _ ⟨rfl,rfl⟩
 apply Ru
 exact kr1 rfl ⟨rfl,rfl⟩
end
section
abbrev SN:=List UInt8 × Nat
def cV:List SN→List Nat→List MapEntry
 | (k,v)::l,b::bs=>{ key:=str k,val:=i64 (v:Nat),born:=b }::cV l bs
 | _,_=>[]
def cP (l:List SN) (bs:List Nat) (n:Nat):Obj:=.map (cV l bs).toArray n
def cU (b:Nat) (l:List SN):HP:=exs fun x:List Nat × Nat=>aL [pur (x.1.length=l.length∧(∀ c∈x.1,c < x.2)∧x.1.Nodup),pt b (cP l x.1 x.2)]
def kP (k:List UInt8):List SN→Nat→Option (Nat × Value)
 | [],_=>none
 | (a,v)::l,i=>if k=a then some (i,i64 (v:Nat)) else kP k l (i+1)
def jd (k:List UInt8):List SN→Nat
 | []=>0
 | (a,v)::l=>if k=a then v else jd k l
def fH (k:List UInt8) (v:Nat):List SN→List SN
 | []=>[(k,v)]
 | (a,u)::l=>if k=a then (k,v)::l else (a,u)::fH k v l
def fT (k:List UInt8):List SN→List SN
 | []=>[]
 | (a,u)::l=>if k=a then l else (a,u)::fT k l
theorem m5:∀ (l:List SN) (bs:List Nat),bs.length=l.length→(cV l bs).length=l.length
 | [],[],_=>rfl
 | (k,v)::l,b::bs,h=>by simp only [cV,List.length_cons] at h ⊢;rw [m5 l bs (by omega)]
theorem iG:∀ (l:List SN) (bs:List Nat),bs.length=l.length→(cV l bs).map (·.born)=bs
 | [],[],_=>rfl
 | (k,v)::l,b::bs,h=>by simp only [cV,List.length_cons,List.map_cons] at h ⊢;rw [iG l bs (by omega)]
theorem se (k:List UInt8) (v c:Nat):∀ (l:List SN) (bs:List Nat),bs.length=l.length→cV (l++[(k,v)]) (bs++[c])=cV l bs++[{ key:=str k,val:=i64 (v:Nat),born:=c }]
 | [],[],_=>rfl
 | (a,u)::l,b::bs,h=>by
  simp only [List.length_cons] at h
  simp only [List.cons_append,cV]
  rw [se k v c l bs (by omega)]
theorem eQ (k:List UInt8):∀ (l:List SN) (bs:List Nat) (i:Nat),bs.length=l.length→Instr.findNow .string (str k) (cV l bs) i=some (kP k l i)
 | [],[],_,_=>rfl
 | (a,v)::l,b::bs,i,h=>by
  simp only [List.length_cons] at h
  have ih:=eQ k l bs (i+1) (by omega)
  simp only [cV,Instr.findNow,kP]
  by_cases hk:k=a
  ·subst hk
   have:Instr.sameNow .string (str k) (str k)=some true:=by
    show some (_ == _)=_
    rw [(MapKept.bytes_beq _ _).2 rfl]
   rw [this,if_pos rfl]
  ·have:Instr.sameNow .string (str k) (str a)=some false:=by
    show some (_ == _)=_
    congr 1
    cases hb:((⟨k.toArray⟩:ByteArray) == ⟨a.toArray⟩) with
    | false=>rfl
    | true=>
     have:=(MapKept.bytes_beq _ _).1 hb
     injection this with this
     exact absurd (List.toArray_inj this) hk
   rw [this,if_neg hk]
   exact ih
theorem jh {k:List UInt8}:∀ {l:List SN} {i:Nat},kP k l i=none→jd k l=0∧(∀ v,fH k v l=l++[(k,v)])∧fT k l=l
 | [],_,_=>⟨rfl,fun _=>rfl,rfl⟩
 | (a,u)::l,i,h=>by
  simp only [kP] at h
  split at h
  ·cases h
  ·rename_i hk
   obtain ⟨h1,h2,h3⟩:=jh h
   simp only [jd,fH,fT,if_neg hk,h1,h2,h3,List.cons_append]
   exact ⟨trivial,fun _=>trivial,trivial⟩
theorem jg {k:List UInt8}:∀ {l:List SN} {bs:List Nat} {i j:Nat} {u:Value},bs.length=l.length→kP k l i=some (j,u)→∃ d,j=i+d∧d < l.length∧u=i64 (jd k l:Nat)∧(∃ e,(cV l bs)[d]?=some e∧e.key=str k) ∧
  (∀ v,cV (fH k v l) bs=(cV l bs).modify d fun e=>{ e with key:=str k,val:=i64 (v:Nat) })∧(∀ v,(fH k v l).length=l.length)∧cV (fT k l) (bs.eraseIdx d)=(cV l bs).eraseIdx d∧(fT k l).length+1=l.length
 | [],_,_,_,_,_,h=>by cases h
 | (a,v)::l,b::bs,i,j,u,hl,h=>by
  simp only [List.length_cons] at hl
  simp only [kP] at h
  split at h
  ·rename_i hk
   subst hk
   cases h
   refine ⟨0,rfl,by simp,by simp [jd],⟨_,rfl,rfl⟩,fun v=>by simp [fH,cV],fun v=>by simp [fH],by simp [fT,cV],by simp [fT]⟩
  ·rename_i hk
   obtain ⟨d,rfl,h1,h2,⟨e,h3,h4⟩,h5,h6,h7,h8⟩:=jg (bs:=bs) (by omega) h
   refine ⟨d+1,by omega,by simp;omega,by simp [jd,hk,h2],⟨e,by simpa [cV] using h3,h4⟩,fun v=>by simp [fH,hk,cV,h5],fun v=>by simp [fH,hk,h6],by simp [fT,hk,cV,h7],by simp [fT,hk,h8]⟩
class ZV (P:Program) (t:TypeId) (z:outParam Value):Prop where out:(P.info? t).bind (·.zero)=some z
theorem fE {P:Program} {t:TypeId} {z:Value} [h:ZV P t z] (w:World):(zeroValue t).run P w=.ok z w:=by
 have h1:=h.out
 cases hq:P.info? t with
 | none=>simp [hq] at h1
 | some i=>
  simp [hq] at h1
  simp [zeroValue,typeInfo,hq,h1]
section rules
variable {P:Program} {c:Cx} {A:Array Oper} {rest os:List Oper} {K:aY} {L:Env} {H F:List HP} {t:TypeId} {p:String} {e:Array Edge}
variable {d b:Nat} {x y u:Operand} {mt kt et:TypeId} {k:List UInt8} {l:List SN} {v:Nat}
theorem GO.mapOpen (tk:Tk (cU b l) H F) (k:∀ bs n,bs.length=l.length→(∀ c∈bs,c < n)→bs.Nodup→GO P c A os K L (pt b (cP l bs n)::F)):GO P c A os K L H:=
 GO.take tk (GO.exs fun x=>GO.flat (GO.pur fun h=>k x.1 x.2 h.1 h.2.1 h.2.2))
theorem j5 {bs:List Nat} {n:Nat} (h1:bs.length=l.length) (h2:∀ c∈bs,c < n) (h3:bs.Nodup) {H:List HP} {w:World} (s:sat (pt b (cP l bs n)::H) w):sat (cU b l::H) w:=by
 unfold cU
 exact cH.2 ⟨(bs,n),aJ.2 (bF.2 ⟨⟨h1,h2,h3⟩,s⟩)⟩
theorem GO.mapNew (hN:Nat.blt d c.N=true) (k:∀ b,GO P c A rest K ((d,.map (some b))::L) (cU b []::H)):GO P c A (⟨some d,.makeMap mt none,t,p,e,none⟩::rest) K L H:=
 GO.gen hN rfl (fun v H'=>∃ b,v=.map (some b)∧H'=cU b []::H)
  (fun a w Y h s=>⟨.map (some w.heap.size),w.alloc (cP [] [] 0),_,by
   simp only [execOp,Instr.makeMap,Option.map_none]
   simp [Result.andThen,cP,cV],Same.alloc w _,⟨w.heap.size,rfl,rfl⟩,j5 rfl (fun _ h=>by cases h) List.nodup_nil (bh s _)⟩) (by rintro _ _ ⟨b,rfl,rfl⟩;exact k b)
theorem GO.mapGet [hm:UL P mt (.map kt et)] [hk:UL P kt .string] [hz:ZV P et (i64 0)] (hN:Nat.blt d c.N=true) (hx:evl L x=some (.map (some b))) (hy:evl L y=some (str k)) (tk:Tk (cU b l) H F)
  (g:GO P c A rest K ((d,i64 (jd k l:Nat))::L) (cU b l::F)):GO P c A (⟨some d,.lookup mt x y false,t,p,e,none⟩::rest) K L H:=
 GO.mapOpen tk fun bs n h1 h2 h3=>GO.val hN rfl (fun a w Y h s=>by
  have hb:=aT s
  simp only [execOp,h.eval hx,h.eval hy,Instr.lookup]
  simp only [Sem.run_bind,run_underlying hm.out,Result.andThen_ok,MapKept.run_getObj_map hb,Sem.run_pure]
  simp only [MapKept.run_checkKey (P:=P) (w:=w) hk.out (k:=str k) trivial,MapKept.run_findKey hk.out (eQ k l bs 0 h1),Result.andThen_ok]
  cases hf:kP k l 0 with
  | none=>simp [fE,Result.andThen,(jh hf).1]
  | some q=>obtain ⟨i,v⟩:=q;obtain ⟨_,_,_,rfl,_⟩:=jg h1 hf;simp [Result.andThen]) (GO.imp (fun _ _ s=>j5 h1 h2 h3 s) g)
theorem GO.mapPut [hm:UL P mt (.map kt et)] [hk:UL P kt .string] (hx:evl L x=some (.map (some b))) (hy:evl L y=some (str k)) (hu:evl L u=some (i64 (v:Nat))) (tk:Tk (cU b l) H F)
  (g:GO P c A rest K L (cU b (fH k v l)::F)):GO P c A (⟨none,.mapUpdate mt x y u,t,p,e,none⟩::rest) K L H:=
 GO.mapOpen tk fun bs n h1 h2 h3=>GO.genS rfl (fun a w Y h s=>by
  have hb:=aT s
  have hlt:=(Array.getElem?_eq_some_iff.1 hb).1
  cases hf:kP k l 0 with
  | none=>
   obtain ⟨_,e2,_⟩:=jh hf
   refine ⟨{ w with heap:=w.heap.setIfInBounds b (cP (fH k v l) (bs++[n]) (n+1)) },?_,⟨rfl,rfl,rfl,by simp,Nat.le_refl _⟩,j5 (bs:=bs++[n]) (n:=n+1) (by rw [e2];simp [h1]) (fun c hc=>by
    rcases List.mem_append.1 hc with hc | hc
    ·have:=h2 c hc;omega
    ·simp at hc;omega) (List.nodup_append.2 ⟨h3,by simp,fun x hx y hy=>by simp at hy;subst hy;have:=h2 x hx;omega⟩) (bE s ?_ ?_)⟩
   ·simp only [execOp,h.eval hx,h.eval hy,h.eval hu,Instr.mapUpdate]
    simp only [Sem.run_bind,run_underlying hm.out,Result.andThen_ok,MapKept.run_getObj_map hb,MapKept.run_checkKey (P:=P) (w:=w) hk.out (k:=str k) trivial,MapKept.run_findKey hk.out (eQ k l bs 0 h1),hf]
    rw [MapKept.run_setObj_map _ hb]
    simp [Result.andThen,cP,e2,se k v n l bs h1]
   ·simp [hlt]
   ·intro j hj
    rw [Array.getElem?_setIfInBounds_ne (Ne.symm hj)]
  | some q=>
   obtain ⟨i,q⟩:=q
   obtain ⟨d,e0,_,_,⟨en,e3,e4⟩,e5,e6,_⟩:=jg h1 hf
   rw [Nat.zero_add] at e0
   subst e0
   refine ⟨{ w with heap:=w.heap.setIfInBounds b (cP (fH k v l) bs n) },?_,⟨rfl,rfl,rfl,by simp,Nat.le_refl _⟩,j5 (by rw [e6,h1]) h2 h3 (bE s ?_ ?_)⟩
   ·simp only [execOp,h.eval hx,h.eval hy,h.eval hu,Instr.mapUpdate]
    simp only [Sem.run_bind,run_underlying hm.out,Result.andThen_ok,MapKept.run_getObj_map hb,MapKept.run_checkKey (P:=P) (w:=w) hk.out (k:=str k) trivial,MapKept.run_findKey hk.out (eQ k l bs 0 h1),hf,List.getElem?_toArray,e3,Option.map_some,Option.getD_some,e4,MapKept.run_keyThatStays (d:=.string) (k:=str k) trivial]
    rw [MapKept.run_setObj_map _ hb]
    simp [Result.andThen,cP,e5]
   ·simp [hlt]
   ·intro j hj
    rw [Array.getElem?_setIfInBounds_ne (Ne.symm hj)]) g
theorem GO.mapLen {at1:TypeId} [hm:UL P at1 (.map kt et)] (hN:Nat.blt d c.N=true) (hx:evl L x=some (.map (some b))) (tk:Tk (cU b l) H F)
  (g:GO P c A rest K ((d,i64 (l.length:Nat))::L) (cU b l::F)):GO P c A (⟨some d,.call ⟨.builtin .len,#[x],#[at1]⟩,t,p,e,none⟩::rest) K L H:=
 GO.mapOpen tk fun bs n h1 h2 h3=>GO.val hN rfl (fun a w Y h s=>by
  have hb:=aT s
  simp only [execOp,resolve,invoke,builtin]
  simp [Sem.run_bind,Result.andThen,h.eval hx,Builtin.len_,MapKept.run_getObj_map hb,run_underlying hm.out,m5 l bs h1,goInt]) (GO.imp (fun _ _ s=>j5 h1 h2 h3 s) g)
theorem GO.mapDel {at1 at2:TypeId} [hm:UL P at1 (.map kt et)] [hk:UL P kt .string] (hx:evl L x=some (.map (some b))) (hy:evl L y=some (str k)) (tk:Tk (cU b l) H F)
  (g:GO P c A rest K L (cU b (fT k l)::F)):GO P c A (⟨none,.call ⟨.builtin .delete,#[x,y],#[at1,at2]⟩,t,p,e,none⟩::rest) K L H:=by
 refine GO.mapOpen tk fun bs n h1 h2 h3=>?_
 exact GO.gen0 rfl (fun _ H'=>H'=cU b (fT k l)::F)
  (fun a w Y h s=>by
   have hb:=aT s
   have hlt:=(Array.getElem?_eq_some_iff.1 hb).1
   cases hf:kP k l 0 with
   | none=>
    obtain ⟨_,_,e3⟩:=jh hf
    refine ⟨.tuple #[],{ w with heap:=w.heap.setIfInBounds b (cP (fT k l) bs n) },_,?_,⟨rfl,rfl,rfl,by simp,Nat.le_refl _⟩,rfl,j5 (bs:=bs) (n:=n) (by rw [e3,h1]) h2 h3 (bE s ?_ ?_)⟩
    ·simp only [execOp,resolve,invoke,builtin]
     simp only [List.map_toArray,List.map_cons,List.map_nil,Sem.run_bind,Result.andThen,Sem.run_pure,h.eval hx,h.eval hy]
     simp [Builtin.delete_,run_underlying hm.out,MapKept.run_getObj_map hb,MapKept.run_checkKey (P:=P) (w:=w) hk.out (k:=str k) trivial,MapKept.run_findKey hk.out (eQ k l bs 0 h1),hf,MapKept.run_setObj_map _ hb,Result.andThen,cP,e3]
    ·simp [hlt]
    ·intro j hj
     rw [Array.getElem?_setIfInBounds_ne (Ne.symm hj)]
   | some q=>
    obtain ⟨i,q⟩:=q
    obtain ⟨d,e0,e1,_,_,_,_,e7,e8⟩:=jg h1 hf
    rw [Nat.zero_add] at e0
    subst e0
    have hel:i < (cV l bs).length:=by rw [m5 l bs h1];exact e1
    refine ⟨.tuple #[],{ w with heap:=w.heap.setIfInBounds b (cP (fT k l) (bs.eraseIdx i) n) },_,?_,⟨rfl,rfl,rfl,by simp,Nat.le_refl _⟩,rfl,j5 (bs:=bs.eraseIdx i) (n:=n) (by rw [List.length_eraseIdx_of_lt (by omega)];omega) (fun c hc=>h2 c ((List.eraseIdx_sublist _ _).subset hc)) (List.Nodup.sublist (List.eraseIdx_sublist _ _) h3) (bE s ?_ ?_)⟩
    ·simp only [execOp,resolve,invoke,builtin]
     simp only [List.map_toArray,List.map_cons,List.map_nil,Sem.run_bind,Result.andThen,Sem.run_pure,h.eval hx,h.eval hy]
     simp [Builtin.delete_,run_underlying hm.out,MapKept.run_getObj_map hb,MapKept.run_checkKey (P:=P) (w:=w) hk.out (k:=str k) trivial,MapKept.run_findKey hk.out (eQ k l bs 0 h1),hf,MapKept.run_setObj_map _ hb,Result.andThen,cP,e7,Array.eraseIdxIfInBounds,hel]
    ·simp [hlt]
    ·intro j hj
     rw [Array.getElem?_setIfInBounds_ne (Ne.symm hj)])
  (by rintro _ _ rfl;exact g)
end rules
end
section
theorem nj {x:MapEntry}:∀ {L:List MapEntry},(L.map (·.born)).Nodup→x∈L→(L.filter fun y=>!(y.born == x.born)).length+1=L.length
 | [],_,h=>by cases h
 | a::L,hn,h=>by
  rw [List.map_cons,List.nodup_cons] at hn
  rcases List.mem_cons.1 h with rfl | h
  ·have:L.filter (fun y=>!(y.born == x.born))=L:=List.filter_eq_self.2 fun y hy=>by
    have:y.born≠x.born:=fun e=>hn.1 (by rw [← e];exact List.mem_map_of_mem hy)
    simp [this]
   rw [List.filter_cons_of_neg (by simp),this,List.length_cons]
  ·have hne:a.born≠x.born:=fun e=>hn.1 (by rw [e];exact List.mem_map_of_mem h)
   rw [List.filter_cons_of_pos (by simp [hne]),List.length_cons,List.length_cons,nj hn.2 h]
theorem z8 {L:List MapEntry} {seen:Array Nat} {x:MapEntry} (hn:(L.map (·.born)).Nodup) (hx:x∈(leftOf L.toArray seen).toList):(leftOf L.toArray (seen.push x.born)).size+1=(leftOf L.toArray seen).size:=by
 have e1:∀ s:Array Nat,(leftOf L.toArray s).toList=L.filter fun y=>!s.contains y.born:=fun s=>by unfold leftOf;simp
 have e2:∀ s:Array Nat,(leftOf L.toArray s).size=(L.filter fun y=>!s.contains y.born).length:=fun s=>by rw [← Array.length_toList,e1]
 rw [e1] at hx
 rw [e2,e2]
 have:(L.filter fun y=>!(seen.push x.born).contains y.born)=(L.filter fun y=>!seen.contains y.born).filter fun y=>!(y.born == x.born):=by
  rw [List.filter_filter]
  congr 1
  funext y
  rw [Array.contains_push]
  cases seen.contains y.born <;> cases h:(x.born == y.born) <;> cases h2:(y.born == x.born) <;> simp_all
 rw [this]
 exact nj (List.Nodup.sublist ((List.filter_sublist (p:=fun y:MapEntry=>!seen.contains y.born)).map _) hn) hx
theorem m0 {l:List SN}:∀ {bs:List Nat} {x:MapEntry},x∈cV l bs→∃ kv∈l,x.key=str kv.1∧x.val=i64 (kv.2:Nat):=by
 induction l with
 | nil=>intro bs x h;simp [cV] at h
 | cons a l ih=>
  intro bs x h
  cases bs with
  | nil=>simp [cV] at h
  | cons b bs=>
   simp only [cV] at h
   rcases List.mem_cons.1 h with rfl | h
   ·exact ⟨a,by simp,rfl,rfl⟩
   ·obtain ⟨kv,h1,h2⟩:=ih h
    exact ⟨kv,by simp [h1],h2⟩
structure ItD where
 bs:List Nat
 n:Nat
 since:Nat
 seen:Array Nat
 c0:Nat
def De (l:List SN) (k:Nat) (last:Option SN) (x:ItD):Prop:=
 x.bs.length=l.length∧(∀ c∈x.bs,c < x.since)∧x.bs.Nodup∧x.since≤x.c0∧x.since≤x.n∧(leftOf (cV l x.bs).toArray x.seen).size=k ∧
  ∀ kv,last=some kv→x.c0=x.n∧∃ e s,e∈cV l x.bs∧e.key=str kv.1∧e.val=i64 (kv.2:Nat)∧x.seen=Array.push s e.born
def dR (b r:Nat) (l:List SN) (k:Nat) (last:Option SN):HP:=exs fun x:ItD=>aL [pur (De l k last x),pt b (cP l x.bs x.n),pt r (.mapIter (some b) x.since x.seen x.c0)]
section rules
variable {P:Program} {c:Cx} {A:Array Oper} {rest os:List Oper} {K:aY} {L:Env} {H F:List HP} {t:TypeId} {p:String} {e:Array Edge}
variable {d b r k:Nat} {x y u:Operand} {mt kt et:TypeId} {l:List SN} {last:Option SN}
theorem xL {x:ItD} (h:De l k last x) {H:List HP} {w:World} (s:sat (pt r (.mapIter (some b) x.since x.seen x.c0)::pt b (cP l x.bs x.n)::H) w):sat (dR b r l k last::H) w:=by
 unfold dR
 exact cH.2 ⟨x,aJ.2 (bF.2 ⟨h,ai (List.Perm.swap _ _ _) s⟩)⟩
theorem GO.itOpen (tk:Tk (dR b r l k last) H F) (g:∀ x:ItD,De l k last x→GO P c A os K L (pt r (.mapIter (some b) x.since x.seen x.c0)::pt b (cP l x.bs x.n)::F)):GO P c A os K L H:=
 GO.take tk (GO.exs fun x=>GO.flat (GO.pur fun h=>GO.imp (fun _ _ s=>ai (List.Perm.swap _ _ _) s) (g x h)))
theorem GO.mapRange [hm:UL P mt (.map kt et)] (hN:Nat.blt d c.N=true) (hx:evl L x=some (.map (some b))) (tk:Tk (cU b l) H F)
  (g:∀ r,GO P c A rest K ((d,ah r)::L) (dR b r l l.length none::F)):GO P c A (⟨some d,.range mt x,t,p,e,none⟩::rest) K L H:=
 GO.mapOpen tk fun bs n h1 h2 h3=>GO.gen hN rfl (fun v H'=>∃ r,v=ah r∧H'=dR b r l l.length none::F)
  (fun a w Y h s=>by
   have hb:=aT s
   refine ⟨ah w.heap.size,w.alloc (.mapIter (some b) n #[] n),_,?_,Same.alloc w _,⟨w.heap.size,rfl,rfl⟩,xL (x:=⟨bs,n,n,#[],n⟩) ⟨h1,h2,h3,Nat.le_refl _,Nat.le_refl _,?_,fun kv h=>by cases h⟩ (bh s _)⟩
   ·simp only [execOp,h.eval hx,Sem.run_bind]
    have:=run_range_map (P:=P) w mt kt et b _ n hm.out hb
    simp [this,Result.andThen]
   ·simp [leftOf]
    rw [List.filter_eq_self.2 (fun _ _=>rfl),m5 l bs h1]) (by rintro _ _ ⟨r,rfl,rfl⟩;exact g r)
theorem GO.mapNext (hN:Nat.blt d c.N=true) (hx:evl L x=some (ah r)) (tk:Tk (dR b r l k last) H F)
  (g0:k=0→GO P c A rest K ((d,.tuple #[.bool false])::L) (dR b r l k last::F))
  (g1:∀ kv m,k=m+1→kv∈l→GO P c A rest K ((d,.tuple #[.bool true,str kv.1,i64 (kv.2:Nat)])::L) (dR b r l m (some kv)::F)):GO P c A (⟨some d,.next x false,t,p,e,none⟩::rest) K L H:=
 GO.itOpen tk fun z hz=>GO.gen hN rfl (fun v H'=>(k=0∧v=.tuple #[.bool false]∧H'=dR b r l k last::F)∨∃ kv m,k=m+1∧kv∈l∧v=.tuple #[.bool true,str kv.1,i64 (kv.2:Nat)]∧H'=dR b r l m (some kv)::F)
  (fun a w Y h s=>by
   have hr:=aT s
   have hb:=aT (ai (List.Perm.swap _ _ _) s)
   obtain ⟨h1,h2,h3,h4,h5,h6,h7⟩:=hz
   have hborn:=iG l z.bs h1
   rcases run_next_at (P:=P) w t r b z.since z.c0 z.seen _ z.n hr hb (fun x hx=>h2 _ (by rw [← hborn];exact List.mem_map_of_mem (by simpa using hx))) h4 with ⟨g0,hrun⟩ | ⟨en,he,w1,hal,hrun⟩
   ·refine ⟨_,w,_,?_,Same.refl w,.inl ⟨by omega,rfl,rfl⟩,xL (x:=z) ⟨h1,h2,h3,h4,h5,h6,h7⟩ s⟩
    simp only [execOp,h.eval hx,Sem.run_bind]
    simp [hrun,Result.andThen]
   ·obtain ⟨hem,_⟩:=mem_left he
    have hem':en∈cV l z.bs:=by simpa using hem
    obtain ⟨kv,hkv,hk1,hk2⟩:=m0 hem'
    have hp:=z8 (by rw [hborn];exact h3) he
    have hw1:Same w w1∧w1.heap=w.heap:=by
     rcases hal with rfl | rfl
     ·exact ⟨Same.refl _,rfl⟩
     ·exact ⟨Same.drawn _ (by omega),rfl⟩
    have hlt:=(Array.getElem?_eq_some_iff.1 hr).1
    refine ⟨.tuple #[.bool true,en.key,en.val],ChangeMaps.setBlock w1 r (.mapIter (some b) z.since (z.seen.push en.born) z.n),_,?_,hw1.1.trans ⟨rfl,rfl,rfl,by simp [ChangeMaps.setBlock],Nat.le_refl _⟩,.inr ⟨kv,(leftOf (cV l z.bs).toArray (z.seen.push en.born)).size,by omega,hkv,by rw [hk1,hk2],rfl⟩,
     xL (x:=⟨z.bs,z.n,z.since,z.seen.push en.born,z.n⟩) ⟨h1,h2,h3,h5,h5,rfl,fun kv' hkv'=>by cases hkv';exact ⟨rfl,en,z.seen,hem',hk1,hk2,rfl⟩⟩ (bE s ?_ ?_)⟩
    ·simp only [execOp,h.eval hx,Sem.run_bind]
     simp [hrun,Result.andThen]
    ·simp [ChangeMaps.setBlock,hw1.2,hlt]
    ·intro j hj
     simp only [ChangeMaps.setBlock,hw1.2]
     rw [Array.getElem?_setIfInBounds_ne (Ne.symm hj)])
  (by rintro _ _ (⟨h,rfl,rfl⟩ | ⟨kv,m,h,hkv,rfl,rfl⟩);exact g0 h;exact g1 kv m h hkv)
theorem GO.mapEntry {kv:SN} (hN:Nat.blt d c.N=true) (hx:evl L x=some (ah r)) (tk:Tk (dR b r l k (some kv)) H F)
  (g:GO P c A rest K ((d,.tuple #[str kv.1,i64 (kv.2:Nat)])::L) (dR b r l k (some kv)::F)):GO P c A (⟨some d,.entry x,t,p,e,none⟩::rest) K L H:=
 GO.itOpen tk fun z hz=>GO.val hN rfl (fun a w Y h s=>by
  have hr:=aT s
  have hb:=aT (ai (List.Perm.swap _ _ _) s)
  obtain ⟨h1,h2,h3,h4,h5,h6,h7⟩:=hz
  obtain ⟨h8,en,sn,h9,h10,h11,h12⟩:=h7 kv rfl
  rw [h12,h8] at hr
  have:=run_entry_at (P:=P) w r b z.since sn _ z.n en hr hb (by simpa using h9) (by simpa [iG l z.bs h1] using h3)
  simp only [execOp,h.eval hx,Sem.run_bind]
  simp [this,h10,h11,Result.andThen]) (GO.imp (fun _ _ s=>xL hz s) g)
end rules
end
section
instance:ZV Tryz.prog 3 (i64 0):=⟨by kernel_rfl⟩
def ef (kind:Nat) (acc:List SN) (m:NodeD):List SN:=if m.kind=kind then fH m.name (jd m.name acc+1) acc else acc
def gk (kind:Nat) (acc:List SN) (r:RuleD):List SN:=r.body.foldl (ef kind) acc
def bn (g:List RuleD) (kind:Nat):List SN:=g.foldl (gk kind) []
theorem vt (k k':List UInt8) (v:Nat):∀ l:List SN,jd k' (fH k v l)=if k'=k then v else jd k' l
 | []=>by simp [fH,jd]
 | (a,u)::l=>by
  have ih:=vt k k' v l
  simp only [fH]
  by_cases h:k=a
  ·subst h
   rw [if_pos rfl]
   simp only [jd]
   split <;> simp_all
  ·rw [if_neg h]
   simp only [jd,ih]
   by_cases h2:k'=a
   ·subst h2
    rw [if_pos rfl,if_neg (fun e=>h e.symm),if_pos rfl]
   ·rw [if_neg h2,if_neg h2]
theorem uP {kind N:Nat} {acc:List SN} (m:NodeD) (h:∀ k,jd k acc≤N):∀ k,jd k (ef kind acc m)≤N+1:=fun k=>by
 unfold ef
 have h1:=h k
 have h2:=h m.name
 split
 ·rw [vt];split <;> omega
 ·omega
theorem gG {α β:Type} {f:β→α→β} {l:List α} {i:Nat} {x:α} (h:l[i]?=some x) (acc:β):(l.drop i).foldl f acc=(l.drop (i+1)).foldl f (f acc x):=by rw [dg h,List.foldl_cons]
def bO (i:Nat):Nat:=i * 4096
theorem su (i:Nat):bO (i+1)=bO i+4096:=by unfold bO;omega
theorem kH {i:Nat} (h:¬ 4096 < i):¬ 16777216 < bO i:=by unfold bO;omega
attribute [local irreducible] bO G GO GR GT Fn FnX FnV FnXV Dfr pt init exs pur sat own ImpS cU
theorem lc (q:HP) (v:Value) (g:List RuleD) (kind:Nat) (hq:RulesR q v g) (hl:¬ 4096 < g.length) (hb:∀ r∈g,¬ 4096 < r.body.length):Fn Tryz.prog 125 #[v,i64 (kind:Nat)] [q] (fun r Q=>∃ b,r=.map (some b)∧Q=[cU b (bn g kind),q]):=by
 have hrd:∀ i r,g[i]?=some r→_:=fun i r h=>fF hq h
 obtain ⟨a,cap,rfl⟩:=bN hq
 clear hq
 unfold bn
 generalize hres:g.foldl (gk kind) []=res
 refine Fn.mk2 Tryz.func125 rfl rfl fun w0 F=>?_
 apply Ru
 refine GO.mapNew rfl fun mb=>?_
 apply Ru
 refine G.loopI (σ:=Nat × List SN) (fun z=>[(0,.slice a g.length cap),(1,i64 (kind:Nat)),(5,.map (some mb)),(11,.slice a g.length cap),(12,i64 (g.length:Nat)),(13,i64 (z.1:Nat))]) (fun z=>cU mb z.2::q::F) (fun z=>z.1≤g.length∧(g.drop z.1).foldl (gk kind) z.2=res∧∀ k,jd k z.2≤bO z.1) (fun z=>g.length - z.1) (0,[]) ⟨Nat.zero_le _,hres,fun k=>Nat.zero_le _⟩ ?_ ?_ ?_
 ·exact SE rfl
 ·exact ImpS.sb SB
 clear hres
 rintro ⟨i,acc⟩ ⟨hi,hp,hle⟩
 dsimp only at hi hp hle ⊢
 have hcs:=su i
 have hcl:=kH (i:=i) (by omega)
 apply Ru
 by_cases hlt:i < g.length
 ·have d1:decide ((i:Int) < (g.length:Int))=true:=decide_eq_true (by omega)
  obtain ⟨m,hm⟩:∃ m,g[i]?=some m:=⟨_,List.getElem?_eq_getElem hlt⟩
  have hbl:=hb m (List.mem_of_getElem? hm)
  obtain ⟨b,o,cap2,w,e,_,hw,rm⟩:=hrd i m hm
  injection e with e _ e2
  subst e e2
  rw [gG hm] at hp
  have hrdw:∀ i r,m.body[i]?=some r→_:=fun i r h=>ee hw h
  obtain ⟨aw,cw,rfl⟩:=aZ hw
  clear hrd hb
  (refine scT ?_;refine six ?_)
  refine GO.loadM (vs:=[str m.head,.slice aw m.body.length cw]) rfl rfl rfl (Tk.t Tk.h) rfl rm ?_
  (refine sal fun b7=>?_;apply Ru)
  unfold gk at hp
  generalize hrb:m.body.foldl (ef kind) acc=rb at hp
  refine G.loopI (σ:=Nat × List SN) (fun z=>[(0,.slice (some ⟨b,o,none⟩) g.length cap),(1,i64 (kind:Nat)),(5,.map (some mb)),(11,.slice (some ⟨b,o,none⟩) g.length cap),(12,i64 (g.length:Nat)),(13,i64 (i:Nat)),(18,.slice aw m.body.length cw),(19,i64 (m.body.length:Nat)),(20,i64 (z.1:Nat))]) (fun z=>cU mb z.2::q::F) (fun z=>z.1≤m.body.length∧(m.body.drop z.1).foldl (ef kind) z.2=rb∧∀ k,jd k z.2≤bO i+z.1) (fun z=>m.body.length - z.1) (0,acc) ⟨Nat.zero_le _,hrb,fun k=>by have:=hle k;dsimp only;omega⟩ ?_ ?_ ?_
  ·exact SE rfl
  ·exact ImpS.sb SB
  clear hrb hle
  rintro ⟨j,ac⟩ ⟨hj,hpj,hlj⟩
  dsimp only at hj hpj hlj ⊢
  apply Ru
  by_cases hjt:j < m.body.length
  ·have d2:decide ((j:Int) < (m.body.length:Int))=true:=decide_eq_true (by omega)
   obtain ⟨x,hx⟩:∃ x,m.body[j]?=some x:=⟨_,List.getElem?_eq_getElem hjt⟩
   obtain ⟨bx,ox,capx,e,_,rx⟩:=hrdw j x hx
   injection e with e _ e2
   subst e e2
   rw [gG hx] at hpj
   have hnx:=uP (kind:=kind) x hlj
   have hgx:=hlj x.name
   (refine scT ?_;refine six ?_)
   refine GO.loadM (vs:=[i64 (x.kind:Nat),str x.name,i64 (x.kids:Nat)]) rfl rfl rfl (Tk.t Tk.h) rfl rx ?_
   (refine sal fun b9=>?_;apply Ru)
   by_cases hk:x.kind=kind
   ·have d3:decide ((x.kind:Int)=(kind:Int))=true:=decide_eq_true (by omega)
    unfold ef at hpj hnx
    rw [if_pos hk] at hpj
    refine scT ?_
    refine GO.mapGet (k:=x.name) (l:=ac) rfl rfl rfl (Tk.t Tk.h) ?_
    refine sad ?_
    refine GO.mapPut (k:=x.name) (v:=jd x.name ac+1) (l:=ac) rfl rfl rfl Tk.h ?_
    (apply Ru;refine sad ?_)
    refine ⟨(j+1,fH x.name (jd x.name ac+1) ac),⟨hjt,hpj,fun k=>by have:=hnx k;rw [if_pos hk] at this;exact this⟩,by dsimp only;omega,?_,ImpS.sb ?_⟩
    ·exact SE rfl
    ·exact SB
   ·have d3:decide ((x.kind:Int)=(kind:Int))=false:=decide_eq_false (by omega)
    unfold ef at hpj
    rw [if_neg hk] at hpj
    (refine scF ?_;refine sad ?_)
    refine ⟨(j+1,ac),⟨hjt,hpj,fun k=>by have:=hlj k;dsimp only;omega⟩,by dsimp only;omega,?_,ImpS.sb ?_⟩
    ·exact SE rfl
    ·exact SB
  ·have d2:decide ((j:Int) < (m.body.length:Int))=false:=decide_eq_false (by omega)
   rw [List.drop_eq_nil_of_le (show m.body.length≤j by omega)] at hpj
   (refine scF ?_;refine sad ?_)
   refine ⟨(i+1,ac),⟨hlt,by rw [List.foldl_nil] at hpj;rw [hpj];exact hp,fun k=>by have:=hlj k;dsimp only;omega⟩,by dsimp only;omega,?_,ImpS.sb ?_⟩
   ·exact SE rfl
   ·exact SB
 ·have d1:decide ((i:Int) < (g.length:Int))=false:=decide_eq_false (by omega)
  rw [List.drop_eq_nil_of_le (by omega),List.foldl_nil] at hp
  subst hp
  refine scF ?_
  exact kr1 rfl ⟨mb,rfl,rfl⟩
end
section
def f9 (g:List RuleD):Nat:=(g.foldl (fun (acc:List SN) r=>fT r.head acc) (bn g 2)).length
def pp (l:List (List UInt8)) (s:List UInt8):Bool:=l.any fun x=>decide (s=x)
def eC (acc:List (List UInt8)) (r:RuleD):List (List UInt8):=if pp acc r.head=true then acc else acc++[r.head]
def aS (g:List RuleD):List (List UInt8):=g.foldl eC []
def mw (g:List RuleD):Nat:=g.foldl (fun n r=>n+dC r.body) 0
attribute [local irreducible] bO G GO GR GT Fn FnX FnV FnXV Dfr pt init exs pur sat own ImpS cU bn dC
theorem lI (q:HP) (v:Value) (g:List RuleD) (hq:RulesR q v g) (hl:¬ 4096 < g.length) (hb:∀ r∈g,¬ 4096 < r.body.length):Fn Tryz.prog 95 #[v] [q] (fun r Q=>r=i64 (f9 g:Nat)∧Q=[q]):=by
 have hrd:∀ i r,g[i]?=some r→_:=fun i r h=>fF hq h
 have hnm:=lc q v g 2 hq hl hb
 obtain ⟨a,cap,rfl⟩:=bN hq
 clear hq
 unfold f9
 generalize bn g 2=ns at *
 generalize hres:g.foldl (fun (acc:List SN) r=>fT r.head acc) ns=res
 refine Fn.mk2 Tryz.func95 rfl rfl fun w0 F=>?_
 apply Ru
 refine scl (hnm) ?_
 rintro _ _ ⟨mb,rfl,rfl⟩
 apply Ru
 refine G.loopI (σ:=Nat × List SN) (fun z=>[(0,.slice a g.length cap),(3,.map (some mb)),(8,.slice a g.length cap),(9,i64 (g.length:Nat)),(10,i64 (z.1:Nat))]) (fun z=>cU mb z.2::q::F) (fun z=>z.1≤g.length∧(g.drop z.1).foldl (fun (acc:List SN) r=>fT r.head acc) z.2=res) (fun z=>g.length - z.1) (0,ns) ⟨Nat.zero_le _,hres⟩ ?_ ?_ ?_
 ·exact SE rfl
 ·exact ImpS.sb SB
 clear hres
 rintro ⟨i,acc⟩ ⟨hi,hp⟩
 dsimp only at hi hp ⊢
 apply Ru
 by_cases hlt:i < g.length
 ·have d1:decide ((i:Int) < (g.length:Int))=true:=decide_eq_true (by omega)
  obtain ⟨m,hm⟩:∃ m,g[i]?=some m:=⟨_,List.getElem?_eq_getElem hlt⟩
  obtain ⟨b,o,cap2,w,e,_,hw,rm⟩:=hrd i m hm
  injection e with e _ e2
  subst e e2
  rw [gG hm] at hp
  obtain ⟨aw,cw,rfl⟩:=aZ hw
  (refine scT ?_;refine six ?_)
  refine GO.loadM (vs:=[str m.head,.slice aw m.body.length cw]) rfl rfl rfl (Tk.t Tk.h) rfl rm ?_
  (refine sal fun b5=>?_;apply Ru)
  refine GO.mapDel (k:=m.head) (l:=acc) rfl rfl (Tk.t Tk.h) ?_
  (apply Ru;refine sad ?_)
  refine ⟨(i+1,fT m.head acc),⟨hlt,hp⟩,by dsimp only;omega,?_,ImpS.sb ?_⟩
  ·exact SE rfl
  ·exact SB
 ·have d1:decide ((i:Int) < (g.length:Int))=false:=decide_eq_false (by omega)
  rw [List.drop_eq_nil_of_le (by omega),List.foldl_nil] at hp
  subst hp
  refine scF ?_
  refine GO.mapLen (l:=acc) rfl rfl Tk.h ?_
  apply Ru
  exact kr1 rfl ⟨rfl,rfl⟩
theorem wf {q:HP} {v:Value} {l:List (List UInt8)} {i:Nat} {x:List UInt8} (hq:Sl q v l.length 1 (aI l)) (h:l[i]?=some x):∃ b o cap,v=.slice (some ⟨b,o,none⟩) l.length cap∧Rd q ⟨b,o+i * 1,none⟩ (str x):=by
 obtain ⟨a,cap,rfl,_,hr⟩:=hq
 have hi:=(List.getElem?_eq_some_iff.1 h).1
 obtain ⟨b,o,rfl,hr2⟩:=hr (by omega)
 exact ⟨b,o,cap,rfl,by rw [Nat.mul_one];exact hr2 _ _ (qW h)⟩
theorem oh {q:HP} {v:Value} {l:List (List UInt8)} (hq:Sl q v l.length 1 (aI l)):∃ a cap,v=.slice a l.length cap:=let ⟨a,cap,h,_⟩:=hq;⟨a,cap,h⟩
theorem zt (q:HP) (v:Value) (l:List (List UInt8)) (s:List UInt8) (hq:Sl q v l.length 1 (aI l)) (hl:¬ 1048576 < l.length) :
  Fn Tryz.prog 145 #[v,str s] [q] (fun r Q=>∃ n:Int,r=.int .i64 n∧decide (0≤n)=pp l s∧Q=[q]):=by
 have hrd:∀ i m,l[i]?=some m→_:=fun i m h=>wf hq h
 obtain ⟨a,cap,rfl⟩:=oh hq
 unfold pp
 generalize hres:l.any (fun x=>decide (s=x))=res
 refine Fn.mk2 Tryz.func145 rfl rfl fun w0 F=>?_
 apply Ru
 refine G.loopI (σ:=Nat) (fun i=>[(0,.slice a l.length cap),(1,str s),(6,.slice a l.length cap),(7,i64 (l.length:Nat)),(8,i64 (i:Nat))]) (fun _=>q::F) (fun i=>i≤l.length∧(l.drop i).any (fun x=>decide (s=x))=res) (fun i=>l.length - i) 0 ⟨Nat.zero_le _,hres⟩ ?_ ?_ ?_
 ·exact SE rfl
 ·exact ImpS.sb SB
 clear hres
 rintro i ⟨hi,hp⟩
 apply Ru
 by_cases hlt:i < l.length
 ·have d1:decide ((i:Int) < (l.length:Int))=true:=decide_eq_true (by omega)
  obtain ⟨m,hm⟩:∃ m,l[i]?=some m:=⟨_,List.getElem?_eq_getElem hlt⟩
  obtain ⟨b,o,cap2,e,rm⟩:=hrd i m hm
  injection e with e _ e2
  subst e e2
  rw [q7 hm] at hp
  (refine scT ?_;refine six ?_;refine sld (by assumption) ?_;refine GO.binS rfl rfl rfl rfl ?_;apply Ru)
  by_cases hpm:s=m
  ·have d2:decide (s=m)=true:=decide_eq_true hpm
   rw [d2,Bool.true_or] at hp
   refine scT ?_
   exact kr1 rfl ⟨_,rfl,by rw [← hp];exact decide_eq_true (by omega),rfl⟩
  ·have d2:decide (s=m)=false:=decide_eq_false hpm
   rw [d2,Bool.false_or] at hp
   (refine scF ?_;refine sad ?_)
   refine ⟨i+1,⟨hlt,hp⟩,by omega,?_,ImpS.sb ?_⟩
   ·exact SE rfl
   ·exact SB
 ·have d1:decide ((i:Int) < (l.length:Int))=false:=decide_eq_false (by omega)
  rw [List.drop_eq_nil_of_le (by omega)] at hp
  refine scF ?_
  exact kr1 rfl ⟨_,rfl,by rw [← hp];rfl,rfl⟩
theorem rX (q:HP) (v:Value) (l:List (List UInt8)) (s:List UInt8) (hq:Sl q v l.length 1 (aI l)) (hl:¬ 1048576 < l.length) :
  Fn Tryz.prog 86 #[v,str s] [q] (fun r Q=>r=.bool (pp l s)∧Q=[q]):=by
 refine Fn.mk2 Tryz.func86 rfl rfl fun w0 F=>?_
 apply Ru
 refine scl (zt q v l s hq hl) ?_
 rintro _ _ ⟨n,rfl,hn,rfl⟩
 rw [← hn]
 apply Ru
 exact kr1 rfl ⟨rfl,rfl⟩
theorem qj (q:HP) (v:Value) (g:List RuleD) (hq:RulesR q v g) (hl:¬ 4096 < g.length):Fn Tryz.prog 55 #[v] [q] (fun r Q=>Q=[own 9 1 (aS g).length r (aI (aS g)),q]):=by
 have hrd:∀ i r,g[i]?=some r→_:=fun i r h=>fF hq h
 obtain ⟨a,cap,rfl⟩:=bN hq
 clear hq
 unfold aS
 generalize hres:g.foldl eC []=res
 refine Fn.mk2 Tryz.func55 rfl rfl fun w0 F=>?_
 refine G.ownNil (T:=9) (sz:=1) ?_
 apply Ru
 refine G.loopI (σ:=Nat × List (List UInt8) × Value) (fun z=>[(0,.slice a g.length cap),(3,z.2.2),(6,.slice a g.length cap),(7,i64 (g.length:Nat)),(8,i64 (z.1:Nat))]) (fun z=>own 9 1 z.2.1.length z.2.2 (aI z.2.1)::q::F) (fun z=>z.1≤g.length∧z.2.1.length≤z.1∧(g.drop z.1).foldl eC z.2.1=res) (fun z=>g.length - z.1) (0,[],.slice none 0 0) ⟨Nat.zero_le _,Nat.zero_le _,hres⟩ ?_ ?_ ?_
 ·exact SE rfl
 ·exact ImpS.sb (by ((refine Sb.c Tk.h ?_;exact SB);skip))
 clear hres
 rintro ⟨i,acc,v3⟩ ⟨hi,hla,hp⟩
 dsimp only at hi hla hp ⊢
 apply Ru
 by_cases hlt:i < g.length
 ·have d1:decide ((i:Int) < (g.length:Int))=true:=decide_eq_true (by omega)
  obtain ⟨m,hm⟩:∃ m,g[i]?=some m:=⟨_,List.getElem?_eq_getElem hlt⟩
  obtain ⟨b,o,cap2,w,e,_,hw,rm⟩:=hrd i m hm
  injection e with e _ e2
  subst e e2
  rw [gG hm] at hp
  obtain ⟨aw,cw,rfl⟩:=aZ hw
  (refine scT ?_;refine six ?_)
  refine GO.loadM (vs:=[str m.head,.slice aw m.body.length cw]) rfl rfl rfl (Tk.t Tk.h) rfl rm ?_
  (refine sal fun b5=>?_;apply Ru)
  refine GO.ownSl (n:=acc.length) (v:=v3) (xs:=aI acc) (Tk.t Tk.h) fun hsl=>?_
  refine scl (rX _ v3 acc m.head hsl (by omega)) ?_
  rintro _ _ ⟨rfl,rfl⟩
  unfold eC at hp
  cases hh:pp acc m.head
  ·rw [hh,if_neg (by decide)] at hp
   (apply Ru;refine G.condT rfl rfl ?_;apply Ru)
   refine GO.buildSlice1 (n:=1) rfl rfl (fun v hv=>by rw [List.mem_singleton.1 hv];rfl) rfl ⟨by decide,by decide⟩ fun bs=>?_
   refine GO.appendOwn (m:=1) (news:=[str m.head]) rfl rfl rfl (Tk.t Tk.h) Tk.h rfl (by simp [Value.oneCell',str]) ⟨by decide,rfl⟩ Nat.one_pos (by unfold maxLen;omega) (by omega) fun v6=>?_
   (apply Ru;refine sad ?_)
   refine ⟨(i+1,acc++[m.head],v6),⟨hlt,by dsimp only;rw [List.length_append,List.length_cons,List.length_nil];omega,hp⟩,by dsimp only;omega,?_,?_⟩
   ·exact SE rfl
   ·dsimp only
    rw [List.length_append,List.length_cons,List.length_nil,show aI (acc++[m.head])=aI acc++[str m.head] by simp [aI]]
    exact ImpS.sb SB
  ·rw [hh,if_pos rfl] at hp
   (apply Ru;refine G.condF rfl rfl ?_;apply Ru;refine sad ?_)
   refine ⟨(i+1,acc,v3),⟨hlt,by dsimp only;omega,hp⟩,by dsimp only;omega,?_,ImpS.sb ?_⟩
   ·exact SE rfl
   ·exact SB
 ·have d1:decide ((i:Int) < (g.length:Int))=false:=decide_eq_false (by omega)
  rw [List.drop_eq_nil_of_le (by omega),List.foldl_nil] at hp
  subst hp
  refine scF ?_
  exact kr1 rfl rfl
theorem Cc (l:List NodeD):dC l≤l.length:=by unfold dC;exact mz 0 l
theorem A6 (q:HP) (v:Value) (g:List RuleD) (hq:RulesR q v g) (hl:¬ 4096 < g.length) (hb:∀ r∈g,¬ 4096 < r.body.length):Fn Tryz.prog 98 #[v] [q] (fun r Q=>r=i64 (mw g:Nat)∧Q=[q]):=by
 have hrd:∀ i r,g[i]?=some r→_:=fun i r h=>fF hq h
 obtain ⟨a,cap,rfl⟩:=bN hq
 clear hq
 unfold mw
 generalize hres:g.foldl (fun n r=>n+dC r.body) 0=res
 refine Fn.mk2 Tryz.func98 rfl rfl fun w0 F=>?_
 apply Ru
 refine G.loopI (σ:=Nat × Nat) (fun z=>[(0,.slice a g.length cap),(3,i64 (z.2:Nat)),(6,.slice a g.length cap),(7,i64 (g.length:Nat)),(8,i64 (z.1:Nat))]) (fun z=>q::F) (fun z=>z.1≤g.length∧z.2≤bO z.1∧(g.drop z.1).foldl (fun n r=>n+dC r.body) z.2=res) (fun z=>g.length - z.1) (0,0) ⟨Nat.zero_le _,Nat.zero_le _,hres⟩ ?_ ?_ ?_
 ·exact SE rfl
 ·exact ImpS.sb SB
 clear hres
 rintro ⟨i,acc⟩ ⟨hi,hla,hp⟩
 dsimp only at hi hla hp ⊢
 have hcs:=su i
 have hcl:=kH (i:=i) (by omega)
 apply Ru
 by_cases hlt:i < g.length
 ·have d1:decide ((i:Int) < (g.length:Int))=true:=decide_eq_true (by omega)
  obtain ⟨m,hm⟩:∃ m,g[i]?=some m:=⟨_,List.getElem?_eq_getElem hlt⟩
  have hbl:=hb m (List.mem_of_getElem? hm)
  have hol:=Cc m.body
  obtain ⟨b,o,cap2,w,e,_,hw,rm⟩:=hrd i m hm
  injection e with e _ e2
  subst e e2
  rw [gG hm] at hp
  have hoc:=w6 q w m.body hw (by omega)
  obtain ⟨aw,cw,rfl⟩:=aZ hw
  (refine scT ?_;refine six ?_)
  refine GO.loadM (vs:=[str m.head,.slice aw m.body.length cw]) rfl rfl rfl Tk.h rfl rm ?_
  (refine sal fun b5=>?_;apply Ru)
  refine scl (hoc) ?_
  rintro _ _ ⟨rfl,rfl⟩
  (refine sad ?_;refine sad ?_)
  refine ⟨(i+1,acc+dC m.body),⟨hlt,by dsimp only;omega,hp⟩,by dsimp only;omega,?_,ImpS.sb ?_⟩
  ·exact SE rfl
  ·exact SB
 ·have d1:decide ((i:Int) < (g.length:Int))=false:=decide_eq_false (by omega)
  rw [List.drop_eq_nil_of_le (by omega),List.foldl_nil] at hp
  subst hp
  refine scF ?_
  exact kr1 rfl ⟨rfl,rfl⟩
end
section
open Go Go.Sort Go.Shelf Go.RowKit
theorem jy {l:List HP} {w:World} (h:sat l w) (os:Array Obj):sat l (grow w os):=oB h fun b o e=>by
 show (w.heap++os)[b]?=some o
 rw [Array.getElem?_append_left (Array.getElem?_eq_some_iff.1 e).1];exact e
theorem sR (ys:List (List UInt8)) (l rest:List Value) (h:ys.length=l.length):putCells encStr 0 ys.toArray (l++rest).toArray=(aI ys++rest).toArray:=by
 apply Array.ext_getElem?
 intro k
 simp only [putCells,Array.getElem?_mapIdx,List.getElem?_toArray,List.size_toArray]
 by_cases hk:k < ys.length
 ·rw [List.getElem?_append_left (by omega),List.getElem?_append_left (by simpa [aI] using hk),List.getElem?_eq_getElem (by omega),Option.map_some,if_pos ⟨by omega,by omega⟩,Nat.sub_zero,getElem!_pos ys.toArray k (by simpa using hk)]
  simp [aI,hk]
 ·have e1:(l++rest)[k]?=rest[k - ys.length]?:=by rw [List.getElem?_append_right (by omega),h]
  have e2:(aI ys++rest)[k]?=rest[k - ys.length]?:=by rw [List.getElem?_append_right (by simp [aI];omega)];simp [aI]
  rw [e1,e2]
  cases rest[k - ys.length]? with
  | none=>rfl
  | some y=>rw [Option.map_some,if_neg (by omega)]
abbrev dc (l:List (List UInt8)):List (List UInt8):=l.mergeSort fun x y=>decide (x≤y)
theorem Au {P:Program} {ρ:Ren} (L:Go.Proofs.Lays.n190 P ρ) (el:TypeId) (v:Value) (l:List (List UInt8)) (hsz:l.length < 4611686018427387904) :
  Fn P (ρ.f 190) #[v] [own el 1 l.length v (aI l)] (fun r Q=>r=.tuple #[]∧Q=[own el 1 l.length v (aI (dc l))]):=by
 intro F w s
 rcases bK s with ⟨rfl,h0,_,s2⟩ | ⟨b,cap,rest,rfl,g1,g2,g3,g4,s2⟩
 ·have hl:l=[]:=List.length_eq_zero_iff.1 h0
  subst hl
  refine callsIn_wide.2 ((Go.Proofs.Any.slices_Sort_string_none L none 0 w).mono ?_)
  rintro e w' ⟨rfl,rfl⟩
  exact ⟨_,_,rfl,Same.refl _,⟨rfl,rfl⟩,by rw [show dc []=[] from List.mergeSort_nil];exact s⟩
 ·have hb:=aT s2
  have hlt:=(Array.getElem?_eq_some_iff.1 hb).1
  have hH:Holds encStr w b 0 l.toArray:=by
   intro j hj
   have hj':j < l.length:=by simpa using hj
   constructor
   ·simp only [World.cell?,hb,row,Nat.zero_add,List.getElem?_toArray]
    rw [List.getElem?_append_left (by simpa [aI] using hj'),getElem!_pos l.toArray j hj]
    simp [aI,hj']
   ·simp [World.frozen?,hb,row]
  refine callsIn_wide.2 ((Go.Proofs.Any.slices_Sort_string L b 0 cap l w hH hlt hsz).mono ?_)
  rintro e w' ⟨rfl,m,os,rfl⟩
  have hyl:(dc l).length=l.length:=List.length_mergeSort l
  refine ⟨_,_,rfl,?_,⟨rfl,rfl⟩,?_⟩
  ·refine ⟨rfl,rfl,rfl,?_,?_⟩
   ·show w.heap.size≤(Array.append _ _).size
    simp [putRow,mapBlock]
   ·show w.drawn≤w.drawn+m
    omega
  ·refine jy (dM (rest:=rest) rfl (by rw [qV,hyl]) g2 g3 (by rw [List.length_append,qV] at g4 ⊢;rw [hyl];exact g4) (bE (w:=w) s2 ?_ ?_)) os
   ·show ((w.heap.modify b (onCells (putCells encStr 0 (dc l).toArray))))[b]?=_
    rw [Array.getElem?_modify,if_pos rfl,hb]
    simp only [Option.map_some,row,onCells]
    rw [sR _ _ _ (by rw [hyl];simp [aI])]
   ·intro j hj
    show ((w.heap.modify b (onCells (putCells encStr 0 (dc l).toArray))))[j]?=_
    rw [Array.getElem?_modify,if_neg (Ne.symm hj)]
theorem ov (v:Value) (l:List (List UInt8)) (hsz:¬ 16777216 < l.length) :
  Fn Tryz.prog 164 #[v] [own 9 1 l.length v (aI l)] (fun r Q=>r=.tuple #[]∧Q=[own 9 1 l.length v (aI (dc l))]):=
 Au sortS 9 v l (by omega)
end
/-- g hands to yield n times what Val tells (values,and pieces that go with them),till that says no more. J i: what memory has when i are over;X i: when yield has said no more at the i-th. -/
def A5 (P:Program) (g:Value) (n:Nat) (Val:Nat→List Value→List HP→Prop) (Sh Gm:List HP):Prop:=
 ∃ gf caps,g=.func (.func gf) #[] caps∧Cal P gf∧∀ (y:Value) (J X:Nat→HP),
  (∀ i u Y,i < n→Val i u Y→FnV P y u (J i::(Y++Sh)) (fun v Q=>(v=.bool true∧Q=J (i+1)::Sh)∨(v=.bool false∧Q=X i::Sh))) →
  Fn P gf (#[y]++caps) (J 0::(Sh++Gm)) (fun _ Q=>Q=J n::(Sh++Gm)∨∃ i,i < n∧Q=X i::(Sh++Gm))
theorem FnV.starY {P:Program} {y:Value} {u:List Value} {p s:HP} {J J' Y Sh:List HP} (h:FnV P y u ((p::(J++Y))++Sh) (fun v Q=>(v=.bool true∧Q=(p::J')++Sh)∨(v=.bool false∧Q=[s]++Sh))) :
  FnV P y u (aL (p::J)::(Y++Sh)) (fun v Q=>(v=.bool true∧Q=aL (p::J')::Sh)∨(v=.bool false∧Q=s::Sh)):=by
 obtain ⟨fn,caps,hv,h⟩:=h
 refine ⟨fn,caps,hv,fun F w s0=>?_⟩
 have s1:sat (((p::(J++Y))++Sh)++F) w:=by
  rw [List.cons_append] at s0
  have:=aJ.1 s0
  simpa only [List.cons_append,List.append_assoc] using this
 obtain ⟨nx,h1,h2⟩:=h F w s1
 refine ⟨nx,h1,h2.mono fun e w'=>?_⟩
 rintro ⟨v,Q,a,b,x | x,d⟩
 ·obtain ⟨rfl,rfl⟩:=x
  refine ⟨_,aL (p::J')::Sh,a,b,.inl ⟨rfl,rfl⟩,by rw [List.cons_append];exact aJ.2 (by simpa only [List.cons_append,List.append_assoc] using d)⟩
 ·obtain ⟨rfl,rfl⟩:=x
  exact ⟨_,s::Sh,a,b,.inr ⟨rfl,rfl⟩,d⟩
theorem G.rangeV {P:Program} {c:Cx} {K:aY} {L:Env} {H F:List HP} {g:Operand} {psl:List Nat} {x y:Code} {v:Value} {n:Nat} {Val:Nat→List Value→List HP→Prop} {Sh Gm:List HP} (J:Nat→List HP) (X:Nat→Code→List HP)
  (hX:∀ l0,c.r=some l0→∃ r0 X',c.X=pt l0 (.loop r0)::X') (hN:(psl.all fun p=>Nat.blt p c.N)=true) (hlen:∀ i u Y,i < n→Val i u Y→u.length=psl.length)
  (hg:evl L g=some v) (seq:A5 P v n Val Sh Gm) (tk:Tks (J 0++(Sh++Gm)) H F)
  (round:∀ l Lr Lb w0 F i u Y,i < n→Val i u Y→G P ⟨some l,c.N,w0,[pt l (.loop Lr)],[],false⟩ x (KA P ⟨some l,c.N,w0,[pt l (.loop Lb)],[],false⟩ y (KB (J (i+1)) (X i) Sh F)) (qF psl u L) ((J i++Y)++Sh++F))
  (done:K .normal L (J n++(Sh++Gm)++F))
  (stop:∀ i jc,i < n→G P c jc K L (X i jc++(Sh++Gm)++F)) (hnd:c.nd=false:=by rfl):G P c (.rangeFunc g psl.toArray x y) K L H:=by
 rintro a w ⟨h1,h2,ds,h3,h4,h5⟩
 obtain ⟨gf,caps,rfl,hcal,seq⟩:=seq
 have tk:H.Perm (J 0++(Sh++Gm)++F):=tk
 refine wpIn_rangeFunc fun fn _=>?_
 have hge:=h1.eval hg
 have main:∀ (l D:Nat) (ms:List Nat) (w1:World),(Instr.enterLoop fn a.tmps psl.toArray x y (fen c.r).round).run P w=.ok (l,ms.map dX) w1→Same w w1→((c.r.isSome || c.nd)=true→ms=[]) →
   sat (pt l (.loop (cC fn a.tmps psl.toArray x y D .ready none))::(H++(c.X++(ms++ds).map cA))) w1 →
   ∃ (l:Nat) (dX:List Deferred) (w₁:World) (d:Deferred) (w₁':World) (f:FuncId) (args:Array Value) (w₂:World),
   (Instr.enterLoop fn a.tmps psl.toArray x y (fen c.r).round).run P w=.ok (l,dX) w₁ ∧
   (resolve a.eval (rangeCall g l) 0).run P w₁=.ok d w₁' ∧
   (∀ f',Target.leads P w₁' d.target d.args=some f'→(fen c.r).fn f') ∧
   (invoke d.target d.args).run P w₁'=.ok (.enter f args) w₂ ∧
   ((fen c.r).depth.isSome=true→1≤0) ∧
   CallsIn (fen c.r) (0 - 1) P f args w₂ (rangePost (fen c.r) 0 P l (gK c K) { a with defers:=dX++a.defers }):=by
  intro l D ms w1 hent hsame hms hsat
  refine ⟨l,ms.map dX,w1,{ target:=.fn (.func gf) caps,args:=#[.func (.yield l) #[] #[]] },w1,gf,#[.func (.yield l) #[] #[]]++caps,w1,hent,?_,fun _ _=>trivial,?_,fun h=>by simp [fen,Fence.wide] at h,?_⟩
  ·have hcv:a.eval (.const (.func (.yield l) #[] #[]))=.func (.yield l) #[] #[]:=rfl
   simp [resolve,hge,Deferred.ofValue,hcv]
  ·simp [invoke,hcal.out]
  ·have hd2:ms.map dX++a.defers=(ms++ds).map dX++c.D:=by rw [h3,List.map_append,List.append_assoc]
   have hr2:(c.r.isSome || c.nd)=true→ms++ds=[]:=fun h=>by rw [hms h,h4 h];rfl
   have s0:sat (aL (pt l (.loop (cC fn a.tmps psl.toArray x y D .ready none))::J 0)::(Sh++Gm)++(F++(c.X++(ms++ds).map cA))) w1:=by
    rw [List.cons_append]
    refine aJ.2 (ai ?_ hsat)
    simp only [List.cons_append]
    refine List.Perm.cons _ ?_
    have:=List.Perm.append_right (c.X++(ms++ds).map cA) tk
    simpa only [List.append_assoc] using this
   have hc:=seq (.func (.yield l) #[] #[]) (fun i=>aL (pt l (.loop (cC fn a.tmps psl.toArray x y D .ready none))::J i)) (fun i=>Go.Proofs.YtkeialpeabhaaaaGreat.exs fun jc=>aL (pt l (.loop (cC fn a.tmps psl.toArray x y D .done (some jc)))::X i jc))
    (fun i u Y hi hu=>FnV.starY (FnV.yield (J:=J i++Y) (J':=J (i+1)) (X:=X i) hN (hlen i u Y hi hu) (fun ds=>h1.defs (ds:=ds)) (fun w0 F=>round l _ _ w0 F i u Y hi hu)))
   refine dA ((hc _ w1 s0).mono ?_)
   rintro en w2 ⟨r,Q,rfl,hsm,hQ,hq⟩
   rcases hQ with rfl | ⟨i,hi,rfl⟩
   ·rw [List.cons_append] at hq
    have hq:=aJ.1 hq
    have hl2:=aT hq
    refine ⟨none,_,run_endLoop hl2 (by simp [cC]),L,J n++(Sh++Gm)++F,⟨h1.defs,(h2.trans hsame).trans (hsm.trans (Same.putObj _ _ _)),ms++ds,hd2,hr2,?_⟩,done⟩
    have s5:=bE hq (World.putObj_heap_same (o:=.loop { (cC fn a.tmps psl.toArray x y D .ready none) with state:=.exhausted }) (Array.getElem?_eq_some_iff.1 hl2).1) (fun k hk=>World.putObj_heap_other hk)
    have:=cx (l:=[pt l _]) s5
    simpa using this
   ·obtain ⟨jc,hq⟩:=cH.1 (by simpa using hq)
    have hq:=aJ.1 hq
    have hl2:=aT hq
    refine ⟨some jc,_,run_endLoop hl2 (by simp [cC]),?_⟩
    refine stop i jc hi _ _ ⟨h1.defs,(h2.trans hsame).trans (hsm.trans (Same.putObj _ _ _)),ms++ds,hd2,hr2,?_⟩
    have s5:=bE hq (World.putObj_heap_same (o:=.loop { (cC fn a.tmps psl.toArray x y D .done (some jc)) with state:=.exhausted }) (Array.getElem?_eq_some_iff.1 hl2).1) (fun k hk=>World.putObj_heap_other hk)
    have:=cx (l:=[pt l _]) s5
    simpa using this
 cases hr:c.r with
 | none=>
  rw [hr] at main
  refine main (w.heap.size+1) w.heap.size [w.heap.size] _ (run_enterLoop_outer _ _ _ _ _) ((Same.alloc _ _).trans (Same.alloc _ _)) (fun h=>by simp [hnd] at h) ?_
  have s1:=bh h5 (.deferred (some []))
  have s2:=bh s1 (.loop (cC fn a.tmps psl.toArray x y w.heap.size .ready none))
  rw [World.size_alloc] at s2
  refine ai (List.Perm.cons _ ?_) s2
  simp only [List.cons_append,List.nil_append,List.map_cons]
  have e1:(cA w.heap.size::(H++(c.X++ds.map cA))).Perm (H++(cA w.heap.size::(c.X++ds.map cA))):=List.perm_middle.symm
  exact e1.trans (List.Perm.append_left H List.perm_middle.symm)
 | some l0=>
  obtain ⟨r0,X',hX'⟩:=hX l0 hr
  rw [hr] at main
  have hl0:w.heap[l0]?=some (.loop r0):=by
   rw [hX'] at h5
   have:sat (pt l0 (.loop r0)::(H++(X'++ds.map cA))) w:=ai (by simp only [List.cons_append];exact List.perm_middle) h5
   exact aT this
  refine main w.heap.size r0.defers [] _ (run_enterLoop_inner hl0 _ _ _ _ _) (Same.alloc _ _) (fun _=>rfl) ?_
  exact bh h5 _
section
theorem ImpS.itOut {b r k:Nat} {l:List SN} {last:Option SN} {H M:List HP} (h:ImpS H (dR b r l k last::M)):ImpS H (cU b l::M):=fun l' w s=>by
 have s1:=h l' w s
 unfold dR at s1
 obtain ⟨x,s1⟩:=cH.1 s1
 obtain ⟨⟨h1,h2,h3,h4,h5,_⟩,s1⟩:=bF.1 (aJ.1 s1)
 exact j5 h1 (fun c hc=>by have:=h2 c hc;omega) h3 (cx (l:=[pt r _]) (ai (List.Perm.swap _ _ _) s1))
attribute [local irreducible] bO G GO GR GT Fn FnX FnV FnXV Dfr pt init exs pur sat own ImpS cU dR bn dC
theorem wI (l:List SN) (mb bx:Nat) (y:Value) (J X:Nat→HP)
  (hy:∀ i u Y,i < l.length→(Y=[]∧∃ k,u=[str k])→FnV Tryz.prog y u (J i::(Y++[])) (fun v Q=>(v=.bool true∧Q=[J (i+1)])∨(v=.bool false∧Q=[X i]))) :
  Fn Tryz.prog 165 #[y,ah bx] [J 0,pt bx (row [.map (some mb)] 207),cU mb l] (fun _ Q=>Q=[J l.length,pt bx (row [.map (some mb)] 207),cU mb l]∨∃ i,i < l.length∧Q=[X i,pt bx (row [.map (some mb)] 207),cU mb l]):=by
 refine Fn.mk2 Tryz.func165 rfl rfl fun w0 F=>?_
 apply Ru
 refine GO.mapRange (l:=l) rfl rfl (Tk.t (Tk.t Tk.h)) fun r=>?_
 apply Ru
 refine G.loopI (σ:=Nat × Option SN) (fun z=>[(0,y),(1,ah bx),(5,ah r)]) (fun z=>dR mb r l (l.length - z.1) z.2::J z.1::pt bx (row [.map (some mb)] 207)::F) (fun z=>z.1≤l.length) (fun z=>l.length - z.1) (0,none) (Nat.zero_le _) ?_ ?_ ?_
 ·exact SE rfl
 ·exact ImpS.sb SB
 rintro ⟨i,last⟩ hi
 dsimp only at hi ⊢
 apply Ru
 refine GO.mapNext (l:=l) rfl rfl Tk.h (fun h0=>?_) (fun kv m hm hkv=>?_)
 ·obtain rfl:i=l.length:=by omega
  apply Ru
  refine KF2.n0 rfl (.inl rfl) (ImpS.trans (ImpS.itOut (b:=mb) (r:=r) (l:=l) (k:=l.length - l.length) (last:=last) (M:=J l.length::pt bx (row [.map (some mb)] 207)::F) (ImpS.sb ?_)) (ImpS.sb ?_))
  ·exact SB
  ·exact SB
 ·apply Ru
  refine GO.mapEntry (l:=l) rfl rfl Tk.h ?_
  apply Ru
  refine GO.callV1 rfl rfl rfl (hy i _ [] (by omega) ⟨rfl,kv.1,rfl⟩) (Tks.c (Tk.t Tk.h) Tks.n) ?_
  rintro _ _ (⟨rfl,rfl⟩ | ⟨rfl,rfl⟩)
  ·(apply Ru;refine G.condF rfl rfl ?_;apply Ru)
   refine ⟨(i+1,some kv),by dsimp only;omega,by dsimp only;omega,?_,?_⟩
   ·exact SE rfl
   ·dsimp only
    rw [show l.length - (i+1)=m by omega]
    exact ImpS.sb SB
  ·(apply Ru;refine G.condT rfl rfl ?_;apply Ru)
   refine KF2.r0 rfl (.inr ⟨i,by omega,rfl⟩) (ImpS.trans (ImpS.itOut (b:=mb) (r:=r) (l:=l) (k:=m) (last:=some kv) (M:=X i::pt bx (row [.map (some mb)] 207)::F) (ImpS.sb ?_)) (ImpS.sb ?_))
   ·exact SB
   ·exact SB
theorem Ba (l:List SN) (mb bx:Nat):A5 Tryz.prog (.func (.func 165) #[] #[ah bx]) l.length (fun _ u Y=>Y=[]∧∃ k,u=[str k]) [] [pt bx (row [.map (some mb)] 207),cU mb l]:=
 ⟨_,#[ah bx],rfl,inferInstance,fun y J X hy=>wI l mb bx y J X hy⟩
theorem rS (l:List SN) (mb:Nat):Fn Tryz.prog 124 #[.map (some mb)] [cU mb l] (fun r Q=>∃ bx,r=.func (.func 165) #[] #[ah bx]∧Q=[pt bx (row [.map (some mb)] 207),cU mb l]):=by
 refine Fn.mk2 Tryz.func124 rfl rfl fun w0 F=>?_
 (apply Ru;refine sbx fun b1=>?_;apply Ru)
 exact kr1 rfl ⟨_,rfl,rfl⟩
def w3 (b i:Nat):HP:=exs fun ss:List (List UInt8)=>aL [pur (ss.length=i),qe b 22 9 1 i (aI ss)]
theorem xW {b i:Nat} {ss:List (List UInt8)} {v:Value} {H M:List HP} (h:ss.length=i) (k:ImpS H (pt b (row [v] 22)::own 9 1 i v (aI ss)::M)):ImpS H (w3 b i::M):=
 ImpS.exs ss (ImpS.flat (ImpS.pur h (nP v k)))
theorem G.accSOut {c:Cx} {K:aY} {L:Env} {H:List HP} {x:Code} {b i:Nat} (k:∀ ss v,ss.length=i→v.oneCell'=true→G Tryz.prog c x K L (pt b (row [v] 22)::own 9 1 i v (aI ss)::H)):G Tryz.prog c x K L (w3 b i::H):=
 G.exs fun ss=>G.flat (G.pur fun h=>G.accOut fun v hv=>k ss v h hv)
theorem GO.accSOut {c:Cx} {A:Array Oper} {os:List Oper} {K:aY} {L:Env} {H:List HP} {b i:Nat} (k:∀ ss v,ss.length=i→v.oneCell'=true→GO Tryz.prog c A os K L (pt b (row [v] 22)::own 9 1 i v (aI ss)::H)):GO Tryz.prog c A os K L (w3 b i::H):=
 GO.exs fun ss=>GO.flat (GO.pur fun h=>GO.accOut fun v hv=>k ss v h hv)
attribute [local irreducible] qe w3
theorem pZ (g:Value) (n:Nat) (z1 z2:HP) (hn:¬ 16777216 < n) (hg:A5 Tryz.prog g n (fun _ u Y=>Y=[]∧∃ k,u=[str k]) [] [z1,z2]) :
  Fn Tryz.prog 208 #[.slice none 0 0,g] [z1,z2] (fun r Q=>∃ ss:List (List UInt8),ss.length=n∧Q=[own 9 1 n r (aI ss),z1,z2]):=by
 refine Fn.mk2 Tryz.func208 rfl rfl fun w0 F=>?_
 (apply Ru;refine sbx fun b2=>?_;apply Ru)
 refine G.ownNil (T:=9) (sz:=1) ?_
 refine G.keep (H':=w3 b2 0::z1::z2::F) (xW (ss:=[]) (v:=.slice none 0 0) rfl (ImpS.sb (by ((refine Sb.c (Tk.t Tk.h) ?_;refine Sb.c Tk.h ?_;exact SB);skip)))) ?_
 refine G.rangeV (F:=F) (psl:=[7]) (v:=g) (n:=n) (Val:=fun _ u Y=>Y=[]∧∃ k,u=[str k]) (Sh:=[]) (Gm:=[z1,z2]) (fun i=>[w3 b2 i]) (fun _ _=>[pur False]) (fun _ h=>by cases h) rfl (fun i u Y _ h=>by obtain ⟨_,k,rfl⟩:=h;rfl) rfl hg ?_ (fun lp Lr Lb w1 F1 i u Y hi hv=>?_) ?_ ?_
 ·(exact Tks.n)
 ·obtain ⟨rfl,k,rfl⟩:=hv
  change G _ _ _ _ ((7,str k)::_) (w3 b2 i::F1)
  refine G.accSOut fun ss v hss hv=>?_
  (apply Ru;refine GO.assign rfl rfl ?_;apply Ru)
  refine Bc ?_
  (apply Ru;refine GO.load1 rfl rfl rfl Tk.h rfl ?_;refine GO.move rfl rfl ?_)
  refine GO.buildSlice1 (n:=1) rfl rfl (fun v hv=>by rw [List.mem_singleton.1 hv];rfl) rfl ⟨by decide,by decide⟩ fun bs=>?_
  refine GO.appendOwn (m:=1) (news:=[str k]) rfl rfl rfl (Tk.t (Tk.t Tk.h)) Tk.h rfl (by simp [Value.oneCell',str]) ⟨by decide,rfl⟩ Nat.one_pos (by unfold maxLen;omega) (by omega) fun v4=>?_
  refine GO.ownOne Tk.h fun hone4=>?_
  (refine GO.store1 rfl rfl (by assumption) (Tk.t (Tk.t Tk.h)) (by simp) ?_;apply Ru)
  refine zd (xW (ss:=ss++[k]) (v:=v4) (by rw [List.length_append,hss];rfl) ?_)
  rw [show aI (ss++[k])=aI ss++[str k] by simp [aI]]
  exact ImpS.sb (by ((refine Sb.c Tk.h ?_;refine Sb.c Tk.h ?_);(refine Sb.s ?_;exact Sb.r)))
 ·change cB _ _ _ _ (w3 b2 n::z1::z2::F)
  apply Ru
  refine GO.accSOut fun ss v hss hv=>?_
  apply Ru
  exact kr1 rfl ⟨ss,hss,rfl⟩
 ·intro i jc hi
  exact G.pur fun h=>h.elim
end
section
theorem uj (k:List UInt8) (v:Nat):∀ l:List SN,(fH k v l).length≤l.length+1
 | []=>by simp [fH]
 | (a,u)::l=>by
  simp only [fH]
  split
  ·simp
  ·have:=uj k v l;simp only [List.length_cons];omega
theorem je {α β:Type} {f:List β→α→List β} (c:Nat):∀ (l:List α) (acc:List β),(∀ acc,∀ x∈l,(f acc x).length≤acc.length+c)→(l.foldl f acc).length≤acc.length+l.length * c
 | [],acc,_=>by simp
 | x::l,acc,h=>by
  have h1:=je c l (f acc x) fun acc y hy=>h acc y (by simp [hy])
  have h2:=h acc x (by simp)
  rw [List.foldl_cons,List.length_cons,Nat.add_mul,Nat.one_mul]
  omega
theorem j0 {g:List RuleD} {kind:Nat} (hb:∀ r∈g,¬ 4096 < r.body.length):(bn g kind).length≤bO g.length:=by
 have:=je 4096 (f:=gk kind) g [] fun acc r hr=>by
  have h1:=je 1 (f:=ef kind) r.body acc fun acc m _=>by unfold ef;split;exact uj _ _ _;omega
  have h2:=hb r hr
  unfold gk
  omega
 rw [List.length_nil,Nat.zero_add] at this
 exact this
attribute [local irreducible] bO G GO GR GT Fn FnX FnV FnXV Dfr pt init exs pur sat own ImpS cU dR bn dC
theorem tC (g:Value) (n:Nat) (z1 z2:HP) (hn:¬ 16777216 < n) (hg:A5 Tryz.prog g n (fun _ u Y=>Y=[]∧∃ k,u=[str k]) [] [z1,z2]) :
  Fn Tryz.prog 163 #[g] [z1,z2] (fun r Q=>∃ ss:List (List UInt8),ss.length=n∧Q=[own 9 1 n r (aI ss),z1,z2]):=by
 refine Fn.mk2 Tryz.func163 rfl rfl fun w0 F=>?_
 apply Ru
 refine scl (pZ g n z1 z2 hn hg) ?_
 rintro r _ ⟨ss,hss,rfl⟩
 apply Ru
 exact kr1 rfl ⟨ss,hss,rfl⟩
theorem sorted_spec (g:Value) (n:Nat) (z1 z2:HP) (hn:¬ 16777216 < n) (hg:A5 Tryz.prog g n (fun _ u Y=>Y=[]∧∃ k,u=[str k]) [] [z1,z2]) :
  Fn Tryz.prog 123 #[g] [z1,z2] (fun r Q=>∃ ss:List (List UInt8),ss.length=n∧Q=[own 9 1 n r (aI ss),z1,z2]):=by
 refine Fn.mk2 Tryz.func123 rfl rfl fun w0 F=>?_
 apply Ru
 refine scl (tC g n z1 z2 hn hg) ?_
 rintro r _ ⟨ss,rfl,rfl⟩
 apply Ru
 refine scl (ov r ss hn) ?_
 rintro _ _ ⟨rfl,rfl⟩
 apply Ru
 exact kr1 rfl ⟨dc ss,List.length_mergeSort ss,rfl⟩
theorem w7 (q:HP) (v:Value) (g:List RuleD) (hq:RulesR q v g) (hl:¬ 4096 < g.length) (hb:∀ r∈g,¬ 4096 < r.body.length) :
  Fn Tryz.prog 56 #[v] [q] (fun r Q=>∃ ss:List (List UInt8),ss.length=(bn g 3).length∧Q=[own 9 1 (bn g 3).length r (aI ss),q]):=by
 have hnm:=lc q v g 3 hq hl hb
 have hnl:¬ 16777216 < (bn g 3).length:=by have:=j0 (kind:=3) hb;have:=kH hl;omega
 generalize bn g 3=ns at *
 refine Fn.mk2 Tryz.func56 rfl rfl fun w0 F=>?_
 apply Ru
 refine scl (hnm) ?_
 rintro _ _ ⟨mb,rfl,rfl⟩
 refine scl (rS ns mb) ?_
 rintro _ _ ⟨bx,rfl,rfl⟩
 refine scl (sorted_spec _ ns.length _ _ hnl (Ba ns mb bx)) ?_
 rintro r _ ⟨ss,hss,rfl⟩
 apply Ru
 exact kr1 rfl ⟨ss,hss,rfl⟩
end
section
def pc (r:RuleD):List UInt8:=r.head++[32,61,32]++gm r.body++[32,59,10]
def kL (g:List RuleD):List UInt8:=g.flatMap pc
def okG (g:List RuleD):Bool:=g.all fun r=>decide (bq r.body=0)
def fk (g:List RuleD):List UInt8 × Bool:=if okG g=true then (kL g,decide ((kL g).length≤2048)) else ([],false)
theorem wq (l:List NodeD):(gm l).length≤2048:=by
 unfold gm
 split
 ·rename_i h
  obtain ⟨_,t,rfl,_,hb⟩:=fy h
  rw [bW]
  unfold mM at hb
  split at hb
  ·cases hb
  split at hb
  ·cases hb
  ·omega
 ·simp
def cz (i:Nat):Nat:=i * 8192
theorem zP (i:Nat):cz (i+1)=cz i+8192:=by unfold cz;omega
theorem Ct {i:Nat} (h:¬ 4096 < i):¬ 33554432 < cz i:=by unfold cz;omega
theorem BD {α:Type} {l:List α} {p:α→Bool} {i:Nat} {x:α} (h:l[i]?=some x):(l.drop i).all p=(p x && (l.drop (i+1)).all p):=by rw [dg h,List.all_cons]
attribute [local irreducible] bO cz G GO GR GT Fn FnX FnV FnXV Dfr pt init exs pur sat own ImpS cU dR bn dC bq gm
theorem xh (b n cap:Nat) (a:Option Addr) (p:Value):Fn Tryz.prog 152 #[ah b] [iJ b p (.slice a n cap)] (fun r Q=>r=i64 (n:Nat)∧Q=[iJ b p (.slice a n cap)]):=by
 refine Fn.mk2 Tryz.func152 rfl rfl fun w0 F=>?_
 apply Ru
 exact kr1 rfl ⟨rfl,rfl⟩
theorem we (q:HP) (v:Value) (g:List RuleD) (hq:RulesR q v g) (hg:1≤g.length) (hl:¬ 4096 < g.length) (hb:∀ r∈g,¬ 4096 < r.body.length) (hh:∀ r∈g,¬ 4096 < r.head.length) :
  Fn Tryz.prog 102 #[v] [q] (fun r Q=>r=.tuple #[str (fk g).1,.bool (fk g).2]∧Q=[q]):=by
 have hrd:∀ i r,g[i]?=some r→_:=fun i r h=>fF hq h
 obtain ⟨a,cap,rfl⟩:=bN hq
 clear hq
 unfold fk
 generalize hres:okG g=res
 refine Fn.mk2 Tryz.func102 rfl rfl fun w0 F=>?_
 refine G.ownNil (T:=5) (sz:=1) ?_
 (apply Ru;refine sal fun b4=>?_;apply Ru)
 refine G.loopI (σ:=Nat × Value × Value) (fun z=>[(0,.slice a g.length cap),(4,ah b4),(9,.slice a g.length cap),(10,i64 (g.length:Nat)),(11,i64 (z.1:Nat))]) (fun z=>iJ b4 z.2.1 z.2.2::xg z.2.2 (kL (g.take z.1))::q::F)
  (fun z=>z.1≤g.length∧Df b4 z.2.1∧(kL (g.take z.1)).length≤cz z.1∧z.1≤(kL (g.take z.1)).length∧(g.drop z.1).all (fun r=>decide (bq r.body=0))=res) (fun z=>g.length - z.1) (0,.pointer none,.slice none 0 0) ⟨Nat.zero_le _,.inl rfl,Nat.zero_le _,Nat.zero_le _,hres⟩ ?_ ?_ ?_
 ·exact SE rfl
 ·exact ImpS.sb (by ((refine Sb.c Tk.h ?_;refine Sb.c Tk.h ?_;exact SB);skip))
 clear hres
 rintro ⟨i,p,v4⟩ ⟨hi,hp,hle,hge,hall⟩
 dsimp only at hi hp hle hge hall ⊢
 have hcs:=zP i
 have hcl:=Ct (i:=i) (by omega)
 apply Ru
 by_cases hlt:i < g.length
 ·have d1:decide ((i:Int) < (g.length:Int))=true:=decide_eq_true (by omega)
  obtain ⟨m,hm⟩:∃ m,g[i]?=some m:=⟨_,List.getElem?_eq_getElem hlt⟩
  have hbl:=hb m (List.mem_of_getElem? hm)
  have hhl:=hh m (List.mem_of_getElem? hm)
  obtain ⟨b,o,cap2,w,e,_,hw,rm⟩:=hrd i m hm
  injection e with e _ e2
  subst e e2
  rw [BD hm] at hall
  have hpr:=wp q w m.body hw (by omega)
  have hpl:=wq m.body
  have htk:kL (g.take (i+1))=kL (g.take i)++pc m:=by unfold kL;rw [aG hm,List.flatMap_append,List.flatMap_cons,List.flatMap_nil,List.append_nil]
  obtain ⟨aw,cw,rfl⟩:=aZ hw
  generalize kL (g.take i)=tx at *
  (refine scT ?_;refine six ?_)
  refine GO.loadM (vs:=[str m.head,.slice aw m.body.length cw]) rfl rfl rfl (Tk.t (Tk.t Tk.h)) rfl rm ?_
  (refine sal fun b6=>?_;apply Ru)
  refine scl (hpr) ?_
  rintro _ _ ⟨rfl,rfl⟩
  apply Ru
  by_cases hc:bq m.body=0
  ·have d2:decide ((bq m.body:Int)≠0)=false:=decide_eq_false (by omega)
   rw [decide_eq_true hc,Bool.true_and] at hall
   generalize hps:gm m.body=ps at *
   have hll:(pc m).length=m.head.length+6+ps.length:=by unfold pc;rw [hps];simp only [List.length_append,List.length_cons,List.length_nil];omega
   have hle2:pc m=m.head++[32,61,32]++ps++[32,59,10]:=by unfold pc;rw [hps]
   refine scF ?_
   refine GO.strCat (b:=[32,61,32]) rfl rfl rfl (by simp only [List.length_append,List.length_cons,List.length_nil];omega) ?_
   apply Ru
   refine GO.strCat rfl rfl rfl (by simp only [List.length_append,List.length_cons,List.length_nil];omega) ?_
   refine GO.strCat (b:=[32,59,10]) rfl rfl rfl (by simp only [List.length_append,List.length_cons,List.length_nil];omega) ?_
   rw [← hle2]
   generalize pc m=ln at *
   refine scl (hG b4 p v4 hp tx ln (by omega) (by omega)) ?_
   rintro _ _ ⟨rfl,v5,rfl⟩
   (apply Ru;refine sad ?_)
   refine ⟨(i+1,ah b4,v5),⟨hlt,.inr rfl,by dsimp only;rw [htk,List.length_append];omega,by dsimp only;rw [htk,List.length_append];omega,hall⟩,by dsimp only;omega,?_,?_⟩
   ·exact SE rfl
   ·dsimp only
    rw [htk]
    exact ImpS.sb SB
  ·have d2:decide ((bq m.body:Int)≠0)=true:=decide_eq_true (by omega)
   rw [decide_eq_false hc,Bool.false_and] at hall
   subst hall
   rw [if_neg (by decide)]
   refine scT ?_
   exact kr2 rfl ⟨rfl,rfl⟩
 ·have d1:decide ((i:Int) < (g.length:Int))=false:=decide_eq_false (by omega)
  obtain rfl:i=g.length:=by omega
  rw [List.drop_length,List.all_nil] at hall
  subst hall
  rw [if_pos rfl,List.take_length]
  rw [List.take_length] at hle hge
  generalize kL g=tx at *
  have hne:tx≠[]:=fun h=>by rw [h,List.length_nil] at hge;omega
  refine G.ownForm (by omega) (Tk.t Tk.h) fun b5 cap5 e5 _ _ _=>?_
  subst e5
  refine scF ?_
  refine scl (sw b4 p (.slice (some ⟨b5,0,none⟩) tx.length cap5) tx hne) ?_
  rintro _ _ ⟨rfl,rfl⟩
  refine scl (xh b4 tx.length cap5 (some ⟨b5,0,none⟩) p) ?_
  rintro _ _ ⟨rfl,rfl⟩
  apply Ru
  refine KF2.r2 rfl (RV.t rfl) (RV.t rfl) ⟨?_,rfl⟩ (ImpS.sb ?_)
  ·rw [show decide ((tx.length:Int)≤2048)=decide (tx.length≤2048) from decide_eq_decide.2 (by omega)]
  ·exact SB
end
section
def kA (s:List UInt8):Bool:=decide (bq [⟨2,s,0⟩]=0)
def tI (r:RuleD):Bool:=!kA r.head || decide ((i8 r.body:Int)=0)
def sh (r:RuleD):Bool:=decide ((16:Int) < (i8 r.body:Int))
def eu (g:List RuleD):List (Bool × Nat):=[(decide ((g.length:Int) < 1) || decide ((64:Int) < (g.length:Int)),180),(g.any tI,170),(decide ((16:Int) < ((aS g).length:Int)+(f9 g:Int)),181),(decide ((16:Int) < ((bn g 3).length:Int)),182),(decide ((64:Int) < (mw g:Int)),183),(g.any sh,171),(decide ((0:Int) < (f9 g:Int)),184),(!(fk g).2,174)]
def ig:List (Bool × Nat)→Nat
 | []=>0
 | (b,e)::r=>if b=true then e else ig r
def bG (g:List RuleD):Nat:=ig (eu g)
structure FitG (g:List RuleD):Prop where
 len:¬ 4096 < g.length
 body:∀ r∈g,¬ 4096 < r.body.length
 head:∀ r∈g,¬ 4096 < r.head.length
theorem vF (k:List UInt8):∀ l:List SN,(fT k l).length≤l.length
 | []=>by simp [fT]
 | (a,u)::l=>by
  simp only [fT]
  split
  ·simp
  ·have:=vF k l;simp only [List.length_cons];omega
theorem lW {α β:Type} {f:List β→α→List β} (h:∀ acc x,(f acc x).length≤acc.length):∀ (l:List α) (acc:List β),(l.foldl f acc).length≤acc.length
 | [],acc=>by simp
 | x::l,acc=>by
  have h1:=lW h l (f acc x)
  have h2:=h acc x
  rw [List.foldl_cons]
  omega
theorem AZ {g:List RuleD} (hf:FitG g):f9 g≤bO g.length:=by
 have h1:=lW (f:=fun (acc:List SN) (r:RuleD)=>fT r.head acc) (fun acc x=>vF _ _) g (bn g 2)
 have h2:=j0 (kind:=2) hf.body
 unfold f9
 omega
theorem rV (g:List RuleD):(aS g).length≤g.length:=by
 have:=je 1 (f:=eC) g [] fun acc r _=>by
  unfold eC
  split
  ·omega
  ·rw [List.length_append];simp
 rw [List.length_nil] at this
 unfold aS
 omega
attribute [local irreducible] bO cz G GO GR GT Fn FnX FnV FnXV Dfr pt init exs pur sat own ImpS cU dR bn dC bq gm i8 aS f9 mw fk
theorem vj (s:List UInt8):Fn Tryz.prog 92 #[str s] [] (fun r Q=>r=.bool (kA s)∧Q=[]):=by
 refine Fn.mk2 Tryz.func92 rfl rfl fun w0 F=>?_
 unfold kA
 apply Ru
 refine GO.buildP2 (eS 2 s) rfl rfl rfl ?_
 refine GO.buildSlice1 (n:=3) rfl rfl (fun v hv=>by rw [List.mem_singleton.1 hv];rfl) rfl ⟨by decide,by decide⟩ fun bs=>?_
 refine GO.ownIn (n:=1) (sz:=3) Tk.h rfl (by decide) ?_
 refine GO.ownRdK Tk.h fun q hq=>?_
 have hone:¬ 1048576 < ([⟨2,s,0⟩]:List NodeD).length:=by show ¬ 1048576 < 1;decide
 have hq2:NodesR q (.slice (some ⟨bs,0,none⟩) 1 1) [⟨2,s,0⟩]:=hq
 refine scl (check_spec q _ [⟨2,s,0⟩] hq2 hone) ?_
 rintro _ _ ⟨rfl,rfl⟩
 rw [show decide (bq [⟨2,s,0⟩]=0)=decide ((bq [⟨2,s,0⟩]:Int)=0) from decide_eq_decide.2 (by omega)]
 apply Ru
 exact kr1 rfl ⟨rfl,rfl⟩
theorem mZ (a:Option Addr) (n cap:Nat):FnV Tryz.prog (.func (.func 90) #[] #[]) [.slice a n cap] [] (fun r Q=>r=.bool (decide ((n:Int) < 1) || decide ((64:Int) < (n:Int)))∧Q=[]):=by
 refine FnV.of (caps:=[]) ?_
 refine Fn.mk2 Tryz.func90 rfl rfl fun w0 F=>?_
 apply Ru
 cases d:decide ((n:Int) < 1)
 ·apply Ru
  exact kr1 rfl ⟨rfl,rfl⟩
 ·apply Ru
  exact kr1 rfl ⟨rfl,rfl⟩
theorem uG (q:HP) (r:RuleD) (w:Value) (hw:NodesR q w r.body) (hl:¬ 4096 < r.body.length):FnV Tryz.prog (.func (.func 91) #[] #[]) [rj r w] [q] (fun x Q=>x=.bool (tI r)∧Q=[q]):=by
 have hh:=nA q w r.body hw hl
 obtain ⟨aw,cw,rfl⟩:=aZ hw
 refine FnV.of (caps:=[]) ?_
 refine Fn.mk2 Tryz.func91 rfl rfl fun w0 F=>?_
 unfold tI
 (apply Ru;refine sbx fun b1=>?_;apply Ru)
 refine scl (vj r.head) ?_
 rintro _ _ ⟨rfl,rfl⟩
 cases d:kA r.head
 ·(apply Ru;refine GO.gF rfl rfl rfl rfl ?_;refine GO.gF rfl rfl rfl rfl ?_;refine GO.gF rfl rfl rfl rfl ?_;refine GO.gF rfl rfl rfl rfl ?_;refine GO.pickT rfl rfl rfl ?_;apply Ru)
  exact kr1 rfl ⟨rfl,rfl⟩
 ·(apply Ru;refine GO.gT rfl rfl rfl ?_;apply Ru;refine GO.gT rfl rfl rfl ?_;apply Ru;refine GO.gT rfl rfl rfl ?_)
  refine scl (hh) ?_
  rintro _ _ ⟨rfl,rfl⟩
  (refine GO.gT rfl rfl rfl ?_;apply Ru;refine GO.pickF rfl rfl rfl ?_;apply Ru)
  exact kr1 rfl ⟨rfl,rfl⟩
theorem uC (q:HP) (r:RuleD) (w:Value) (hw:NodesR q w r.body) (hl:¬ 4096 < r.body.length):FnV Tryz.prog (.func (.func 99) #[] #[]) [rj r w] [q] (fun x Q=>x=.bool (sh r)∧Q=[q]):=by
 have hh:=nA q w r.body hw hl
 obtain ⟨aw,cw,rfl⟩:=aZ hw
 refine FnV.of (caps:=[]) ?_
 refine Fn.mk2 Tryz.func99 rfl rfl fun w0 F=>?_
 unfold sh
 (apply Ru;refine sbx fun b1=>?_;apply Ru)
 refine scl (hh) ?_
 rintro _ _ ⟨rfl,rfl⟩
 apply Ru
 exact kr1 rfl ⟨rfl,rfl⟩
theorem lF (q:HP) (v:Value) (g:List RuleD) (f:Nat) (bx:Nat) (p:RuleD→Bool) (hq:RulesR q v g) (hf:FitG g) (hy:∀ r∈g,∀ w,NodesR q w r.body→FnV Tryz.prog (.func (.func f) #[] #[]) [rj r w] [q] (fun x Q=>x=.bool (p r)∧Q=[q])) :
  FnV Tryz.prog (.func (.func 89) #[] #[ah bx]) [v] [pt bx (row [.func (.func f) #[] #[]] 132),q] (fun r Q=>r=.bool (g.any p)∧Q=[pt bx (row [.func (.func f) #[] #[]] 132),q]):=by
 have hl:=hf.len
 refine FnV.of (caps:=[ah bx]) ?_
 refine Fn.mk2 Tryz.func89 rfl rfl fun w0 F=>?_
 apply Ru
 refine scl (rY q v g _ p hq (by omega) hy) ?_
 rintro _ _ ⟨rfl,rfl⟩
 apply Ru
 exact kr1 rfl ⟨rfl,rfl⟩
theorem uF (q:HP) (v:Value) (g:List RuleD) (hq:RulesR q v g) (hf:FitG g):FnV Tryz.prog (.func (.func 94) #[] #[]) [v] [q] (fun r Q=>r=.bool (decide ((16:Int) < ((aS g).length:Int)+(f9 g:Int)))∧Q=[q]):=by
 have h1:=AZ hf
 have h2:=rV g
 have h3:=kH hf.len
 have hl:=hf.len
 refine FnV.of (caps:=[]) ?_
 refine Fn.mk2 Tryz.func94 rfl rfl fun w0 F=>?_
 apply Ru
 refine scl (qj q v g hq hf.len) ?_
 rintro r _ rfl
 apply Ru
 refine scl (lI q v g hq hf.len hf.body) ?_
 rintro _ _ ⟨rfl,rfl⟩
 refine sad ?_
 exact kr1 rfl ⟨rfl,rfl⟩
theorem uE (q:HP) (v:Value) (g:List RuleD) (hq:RulesR q v g) (hf:FitG g):FnV Tryz.prog (.func (.func 96) #[] #[]) [v] [q] (fun r Q=>r=.bool (decide ((16:Int) < ((bn g 3).length:Int)))∧Q=[q]):=by
 refine FnV.of (caps:=[]) ?_
 refine Fn.mk2 Tryz.func96 rfl rfl fun w0 F=>?_
 apply Ru
 refine scl (w7 q v g hq hf.len hf.body) ?_
 rintro r _ ⟨ss,hss,rfl⟩
 apply Ru
 exact kr1 rfl ⟨rfl,rfl⟩
theorem uD (q:HP) (v:Value) (g:List RuleD) (hq:RulesR q v g) (hf:FitG g):FnV Tryz.prog (.func (.func 97) #[] #[]) [v] [q] (fun r Q=>r=.bool (decide ((64:Int) < (mw g:Int)))∧Q=[q]):=by
 refine FnV.of (caps:=[]) ?_
 refine Fn.mk2 Tryz.func97 rfl rfl fun w0 F=>?_
 apply Ru
 refine scl (A6 q v g hq hf.len hf.body) ?_
 rintro _ _ ⟨rfl,rfl⟩
 apply Ru
 exact kr1 rfl ⟨rfl,rfl⟩
theorem uB (q:HP) (v:Value) (g:List RuleD) (hq:RulesR q v g) (hf:FitG g):FnV Tryz.prog (.func (.func 100) #[] #[]) [v] [q] (fun r Q=>r=.bool (decide ((0:Int) < (f9 g:Int)))∧Q=[q]):=by
 refine FnV.of (caps:=[]) ?_
 refine Fn.mk2 Tryz.func100 rfl rfl fun w0 F=>?_
 apply Ru
 refine scl (lI q v g hq hf.len hf.body) ?_
 rintro _ _ ⟨rfl,rfl⟩
 apply Ru
 exact kr1 rfl ⟨rfl,rfl⟩
theorem uA (q:HP) (v:Value) (g:List RuleD) (hq:RulesR q v g) (hf:FitG g) (hg:1≤g.length):FnV Tryz.prog (.func (.func 101) #[] #[]) [v] [q] (fun r Q=>r=.bool (!(fk g).2)∧Q=[q]):=by
 refine FnV.of (caps:=[]) ?_
 refine Fn.mk2 Tryz.func101 rfl rfl fun w0 F=>?_
 apply Ru
 refine scl (we q v g hq hg hf.len hf.body hf.head) ?_
 rintro _ _ ⟨rfl,rfl⟩
 apply Ru
 exact kr1 rfl ⟨rfl,rfl⟩
end
section
abbrev fnC (f:Nat):Value:=.func (.func f) #[] #[]
abbrev fnB (f b:Nat):Value:=.func (.func f) #[] #[ah b]
def gO (bA bB:Nat):List Value:=[fnC 90,i64 180,fnB 89 bA,i64 170,fnC 94,i64 181,fnC 96,i64 182,fnC 97,i64 183,fnB 89 bB,i64 171,fnC 100,i64 184,fnC 101,i64 174]
abbrev xm (bx f:Nat):HP:=pt bx (row [fnC f] 132)
abbrev vU (f:Value) (e:Nat):Value:=.agg (aA [f,i64 (e:Nat)]).toArray
def Cw (bA bB:Nat):List Value:=[vU (fnC 90) 180,vU (fnB 89 bA) 170,vU (fnC 94) 181,vU (fnC 96) 182,vU (fnC 97) 183,vU (fnB 89 bB) 171,vU (fnC 100) 184,vU (fnC 101) 174]
theorem D8 (bA bB:Nat):aA (Cw bA bB)=gO bA bB:=rfl
theorem D9 (bA bB:Nat):∀ v∈Cw bA bB,v.cells.size=2:=by
 intro v hv
 simp only [Cw,List.mem_cons,List.not_mem_nil,or_false] at hv
 rcases hv with rfl | rfl | rfl | rfl | rfl | rfl | rfl | rfl <;> rfl
attribute [local irreducible] bO cz G GO GR GT Fn FnX FnV FnXV Dfr pt init exs pur sat own ImpS cU dR bn dC bq gm i8 aS f9 mw fk
theorem n5 (f:Nat):FnV Tryz.prog (fnC 88) [fnC f] [] (fun r Q=>∃ bx,r=fnB 89 bx∧Q=[xm bx f]):=by
 refine FnV.of (caps:=[]) ?_
 refine Fn.mk2 Tryz.func88 rfl rfl fun w0 F=>?_
 (apply Ru;refine sbx fun b1=>?_;apply Ru)
 exact kr1 rfl ⟨_,rfl,rfl⟩
theorem gp:Fn Tryz.prog 40 #[] [] (fun r Q=>∃ bo bA bB,r=.slice (some ⟨bo,0,none⟩) 8 8∧Q=[pt bo (row (gO bA bB) 104),xm bA 91,xm bB 99]):=by
 refine Fn.mk2 Tryz.func40 rfl rfl fun w0 F=>?_
 apply Ru
 refine svl (n5 91) ?_
 rintro _ _ ⟨bA,rfl,rfl⟩
 apply Ru
 refine svl (n5 99) ?_
 rintro _ _ ⟨bB,rfl,rfl⟩
 apply Ru
 refine GO.buildSlice (n:=2) (xs:=[.tmp 2,.tmp 5,.tmp 6,.tmp 7,.tmp 8,.tmp 11,.tmp 12,.tmp 13]) (vs:=Cw bA bB) rfl rfl ⟨rfl,rfl,rfl,rfl,rfl,rfl,rfl,rfl,trivial⟩ (D9 bA bB) rfl ⟨by decide,by decide,by decide⟩ fun bo=>?_
 rw [D8]
 apply Ru
 exact kr1 rfl ⟨bo,bA,bB,rfl,rfl⟩
end
section
theorem bp (b:Bool) (e:Nat) (r:List (Bool × Nat)):ig ((b,e)::r)=if b=true then e else ig r:=rfl
attribute [local irreducible] bO cz G GO GR GT Fn FnX FnV FnXV Dfr pt init exs pur sat own ImpS cU dR bn dC bq gm i8 aS f9 mw fk ig
theorem jY (q:HP) (v:Value) (g:List RuleD) (hq:RulesR q v g) (hf:FitG g):Fn Tryz.prog 15 #[v] [q] (fun r Q=>r=i64 (bG g:Nat)∧Q=[q]):=by
 obtain ⟨a,cap,rfl⟩:=bN hq
 unfold bG
 generalize hres:ig (eu g)=res
 refine Fn.mk2 Tryz.func15 rfl rfl fun w0 F=>?_
 apply Ru
 refine scl (gp) ?_
 rintro _ _ ⟨bo,bA,bB,rfl,rfl⟩
 apply Ru
 refine G.loopI (σ:=Nat) (fun i=>[(0,.slice a g.length cap),(5,.slice (some ⟨bo,0,none⟩) 8 8),(6,i64 (8:Nat)),(7,i64 (i:Nat))]) (fun i=>pt bo (row (gO bA bB) 104)::xm bA 91::xm bB 99::q::F) (fun i=>i≤8∧ig ((eu g).drop i)=res∧(1≤i→1≤g.length)) (fun i=>8 - i) 0 ⟨by decide,hres,fun h=>absurd h (by decide)⟩ ?_ ?_ ?_
 ·exact SE rfl
 ·exact ImpS.sb SB
 clear hres
 rintro i ⟨hi,hp,hg⟩
 have hcase:i=0∨i=1∨i=2∨i=3∨i=4∨i=5∨i=6∨i=7∨i=8:=by omega
 rcases hcase with rfl | rfl | rfl | rfl | rfl | rfl | rfl | rfl | rfl
 ·rw [show (eu g).drop 0=(decide ((g.length:Int) < 1) || decide ((64:Int) < (g.length:Int)),180)::(eu g).drop 1 from rfl,bp] at hp
  have d1:decide (((0:Nat):Int) < ((8:Nat):Int))=true:=rfl
  have r0:Rd (pt bo (row (gO bA bB) 104)) ⟨bo,0+0 * 2+0,none⟩ (fnC 90):=Rd.row rfl
  have r1:Rd (pt bo (row (gO bA bB) 104)) ⟨bo,0+0 * 2+1,none⟩ (i64 (180:Nat)):=Rd.row rfl
  (apply Ru;refine G.condT rfl rfl ?_;apply Ru;refine six ?_;refine sl2 (by assumption) (by assumption) ?_;refine sal fun b4=>?_;apply Ru)
  have hc:=mZ a g.length cap
  have hgl:(decide ((g.length:Int) < 1) || decide ((64:Int) < (g.length:Int)))=false→1≤g.length:=fun h=>by
   rw [Bool.or_eq_false_iff] at h
   have:=of_decide_eq_false h.1
   omega
  generalize (decide ((g.length:Int) < 1) || decide ((64:Int) < (g.length:Int)))=qu at *
  refine svl (hc) ?_
  rintro _ _ ⟨rfl,rfl⟩
  cases qu
  ·rw [if_neg (by decide)] at hp
   (apply Ru;refine sad ?_)
   refine ⟨1,⟨by decide,hp,fun _=>hgl rfl⟩,by decide,?_,ImpS.sb ?_⟩
   ·exact SE rfl
   ·exact SB
  ·rw [if_pos rfl] at hp
   subst hp
   apply Ru
   exact kr1 rfl ⟨rfl,rfl⟩
 ·rw [show (eu g).drop 1=(g.any tI,170)::(eu g).drop 2 from rfl,bp] at hp
  have d1:decide (((1:Nat):Int) < ((8:Nat):Int))=true:=rfl
  have r0:Rd (pt bo (row (gO bA bB) 104)) ⟨bo,0+1 * 2+0,none⟩ (fnB 89 bA):=Rd.row rfl
  have r1:Rd (pt bo (row (gO bA bB) 104)) ⟨bo,0+1 * 2+1,none⟩ (i64 (170:Nat)):=Rd.row rfl
  have hg1:=hg (by decide)
  (apply Ru;refine G.condT rfl rfl ?_;apply Ru;refine six ?_;refine sl2 (by assumption) (by assumption) ?_;refine sal fun b4=>?_;apply Ru)
  have hc:=lF q (.slice a g.length cap) g 91 bA tI hq hf (fun r hr w hw=>uG q r w hw (hf.body r hr))
  generalize (g.any tI)=qu at *
  refine svl (hc) ?_
  rintro _ _ ⟨rfl,rfl⟩
  cases qu
  ·rw [if_neg (by decide)] at hp
   (apply Ru;refine sad ?_)
   refine ⟨2,⟨by decide,hp,fun _=>hg1⟩,by decide,?_,ImpS.sb ?_⟩
   ·exact SE rfl
   ·exact SB
  ·rw [if_pos rfl] at hp
   subst hp
   apply Ru
   exact kr1 rfl ⟨rfl,rfl⟩
 ·rw [show (eu g).drop 2=(decide ((16:Int) < ((aS g).length:Int)+(f9 g:Int)),181)::(eu g).drop 3 from rfl,bp] at hp
  have d1:decide (((2:Nat):Int) < ((8:Nat):Int))=true:=rfl
  have r0:Rd (pt bo (row (gO bA bB) 104)) ⟨bo,0+2 * 2+0,none⟩ (fnC 94):=Rd.row rfl
  have r1:Rd (pt bo (row (gO bA bB) 104)) ⟨bo,0+2 * 2+1,none⟩ (i64 (181:Nat)):=Rd.row rfl
  have hg1:=hg (by decide)
  (apply Ru;refine G.condT rfl rfl ?_;apply Ru;refine six ?_;refine sl2 (by assumption) (by assumption) ?_;refine sal fun b4=>?_;apply Ru)
  have hc:=uF q (.slice a g.length cap) g hq hf
  generalize (decide ((16:Int) < ((aS g).length:Int)+(f9 g:Int)))=qu at *
  refine svl (hc) ?_
  rintro _ _ ⟨rfl,rfl⟩
  cases qu
  ·rw [if_neg (by decide)] at hp
   (apply Ru;refine sad ?_)
   refine ⟨3,⟨by decide,hp,fun _=>hg1⟩,by decide,?_,ImpS.sb ?_⟩
   ·exact SE rfl
   ·exact SB
  ·rw [if_pos rfl] at hp
   subst hp
   apply Ru
   exact kr1 rfl ⟨rfl,rfl⟩
 ·rw [show (eu g).drop 3=(decide ((16:Int) < ((bn g 3).length:Int)),182)::(eu g).drop 4 from rfl,bp] at hp
  have d1:decide (((3:Nat):Int) < ((8:Nat):Int))=true:=rfl
  have r0:Rd (pt bo (row (gO bA bB) 104)) ⟨bo,0+3 * 2+0,none⟩ (fnC 96):=Rd.row rfl
  have r1:Rd (pt bo (row (gO bA bB) 104)) ⟨bo,0+3 * 2+1,none⟩ (i64 (182:Nat)):=Rd.row rfl
  have hg1:=hg (by decide)
  (apply Ru;refine G.condT rfl rfl ?_;apply Ru;refine six ?_;refine sl2 (by assumption) (by assumption) ?_;refine sal fun b4=>?_;apply Ru)
  have hc:=uE q (.slice a g.length cap) g hq hf
  generalize (decide ((16:Int) < ((bn g 3).length:Int)))=qu at *
  refine svl (hc) ?_
  rintro _ _ ⟨rfl,rfl⟩
  cases qu
  ·rw [if_neg (by decide)] at hp
   (apply Ru;refine sad ?_)
   refine ⟨4,⟨by decide,hp,fun _=>hg1⟩,by decide,?_,ImpS.sb ?_⟩
   ·exact SE rfl
   ·exact SB
  ·rw [if_pos rfl] at hp
   subst hp
   apply Ru
   exact kr1 rfl ⟨rfl,rfl⟩
 ·rw [show (eu g).drop 4=(decide ((64:Int) < (mw g:Int)),183)::(eu g).drop 5 from rfl,bp] at hp
  have d1:decide (((4:Nat):Int) < ((8:Nat):Int))=true:=rfl
  have r0:Rd (pt bo (row (gO bA bB) 104)) ⟨bo,0+4 * 2+0,none⟩ (fnC 97):=Rd.row rfl
  have r1:Rd (pt bo (row (gO bA bB) 104)) ⟨bo,0+4 * 2+1,none⟩ (i64 (183:Nat)):=Rd.row rfl
  have hg1:=hg (by decide)
  (apply Ru;refine G.condT rfl rfl ?_;apply Ru;refine six ?_;refine sl2 (by assumption) (by assumption) ?_;refine sal fun b4=>?_;apply Ru)
  have hc:=uD q (.slice a g.length cap) g hq hf
  generalize (decide ((64:Int) < (mw g:Int)))=qu at *
  refine svl (hc) ?_
  rintro _ _ ⟨rfl,rfl⟩
  cases qu
  ·rw [if_neg (by decide)] at hp
   (apply Ru;refine sad ?_)
   refine ⟨5,⟨by decide,hp,fun _=>hg1⟩,by decide,?_,ImpS.sb ?_⟩
   ·exact SE rfl
   ·exact SB
  ·rw [if_pos rfl] at hp
   subst hp
   apply Ru
   exact kr1 rfl ⟨rfl,rfl⟩
 ·rw [show (eu g).drop 5=(g.any sh,171)::(eu g).drop 6 from rfl,bp] at hp
  have d1:decide (((5:Nat):Int) < ((8:Nat):Int))=true:=rfl
  have r0:Rd (pt bo (row (gO bA bB) 104)) ⟨bo,0+5 * 2+0,none⟩ (fnB 89 bB):=Rd.row rfl
  have r1:Rd (pt bo (row (gO bA bB) 104)) ⟨bo,0+5 * 2+1,none⟩ (i64 (171:Nat)):=Rd.row rfl
  have hg1:=hg (by decide)
  (apply Ru;refine G.condT rfl rfl ?_;apply Ru;refine six ?_;refine sl2 (by assumption) (by assumption) ?_;refine sal fun b4=>?_;apply Ru)
  have hc:=lF q (.slice a g.length cap) g 99 bB sh hq hf (fun r hr w hw=>uC q r w hw (hf.body r hr))
  generalize (g.any sh)=qu at *
  refine svl (hc) ?_
  rintro _ _ ⟨rfl,rfl⟩
  cases qu
  ·rw [if_neg (by decide)] at hp
   (apply Ru;refine sad ?_)
   refine ⟨6,⟨by decide,hp,fun _=>hg1⟩,by decide,?_,ImpS.sb ?_⟩
   ·exact SE rfl
   ·exact SB
  ·rw [if_pos rfl] at hp
   subst hp
   apply Ru
   exact kr1 rfl ⟨rfl,rfl⟩
 ·rw [show (eu g).drop 6=(decide ((0:Int) < (f9 g:Int)),184)::(eu g).drop 7 from rfl,bp] at hp
  have d1:decide (((6:Nat):Int) < ((8:Nat):Int))=true:=rfl
  have r0:Rd (pt bo (row (gO bA bB) 104)) ⟨bo,0+6 * 2+0,none⟩ (fnC 100):=Rd.row rfl
  have r1:Rd (pt bo (row (gO bA bB) 104)) ⟨bo,0+6 * 2+1,none⟩ (i64 (184:Nat)):=Rd.row rfl
  have hg1:=hg (by decide)
  (apply Ru;refine G.condT rfl rfl ?_;apply Ru;refine six ?_;refine sl2 (by assumption) (by assumption) ?_;refine sal fun b4=>?_;apply Ru)
  have hc:=uB q (.slice a g.length cap) g hq hf
  generalize (decide ((0:Int) < (f9 g:Int)))=qu at *
  refine svl (hc) ?_
  rintro _ _ ⟨rfl,rfl⟩
  cases qu
  ·rw [if_neg (by decide)] at hp
   (apply Ru;refine sad ?_)
   refine ⟨7,⟨by decide,hp,fun _=>hg1⟩,by decide,?_,ImpS.sb ?_⟩
   ·exact SE rfl
   ·exact SB
  ·rw [if_pos rfl] at hp
   subst hp
   apply Ru
   exact kr1 rfl ⟨rfl,rfl⟩
 ·rw [show (eu g).drop 7=(!(fk g).2,174)::(eu g).drop 8 from rfl,bp] at hp
  have d1:decide (((7:Nat):Int) < ((8:Nat):Int))=true:=rfl
  have r0:Rd (pt bo (row (gO bA bB) 104)) ⟨bo,0+7 * 2+0,none⟩ (fnC 101):=Rd.row rfl
  have r1:Rd (pt bo (row (gO bA bB) 104)) ⟨bo,0+7 * 2+1,none⟩ (i64 (174:Nat)):=Rd.row rfl
  have hg1:=hg (by decide)
  (apply Ru;refine G.condT rfl rfl ?_;apply Ru;refine six ?_;refine sl2 (by assumption) (by assumption) ?_;refine sal fun b4=>?_;apply Ru)
  have hc:=uA q (.slice a g.length cap) g hq hf hg1
  generalize (!(fk g).2)=qu at *
  refine svl (hc) ?_
  rintro _ _ ⟨rfl,rfl⟩
  cases qu
  ·rw [if_neg (by decide)] at hp
   (apply Ru;refine sad ?_)
   refine ⟨8,⟨by decide,hp,fun _=>hg1⟩,by decide,?_,ImpS.sb ?_⟩
   ·exact SE rfl
   ·exact SB
  ·rw [if_pos rfl] at hp
   subst hp
   apply Ru
   exact kr1 rfl ⟨rfl,rfl⟩
 ·have d1:decide (((8:Nat):Int) < ((8:Nat):Int))=false:=rfl
  rw [show (eu g).drop 8=[] from rfl,show ig []=0 by unfold ig;rfl] at hp
  subst hp
  (apply Ru;refine G.condF rfl rfl ?_;apply Ru)
  exact kr1 rfl ⟨rfl,rfl⟩
attribute [local irreducible] bG
end
section
def fo (s:List UInt8):List RuleD × Nat × Nat:=
 if 2048 < s.length then ([],0,3) else
 match dL s (aj s) (cD s) ((aj s).length+1) [] 0 with
 | .error p=>([],p,172)
 | .ok g=>if cD s < s.length then ([],cD s,172) else if g.any pb=true then ([],0,173) else if bG g=0 then (g,0,0) else ([],0,bG g)
theorem yC {s:List UInt8} {l:List NodeD} {a:Nat} (h:fW s=(l,a,0)):¬ 4096 < l.length:=by
 unfold fW at h
 split at h
 ·cases h
 ·split at h
  ·cases h
  ·rename_i hl _ l' k hx
   split at h
   ·cases h
   ·cases h
    have h1:=fu (aj s) ((aj s).length+1) 0 _ _ hx
    have h2:=gz s
    omega
theorem oF {s:List UInt8} (hs:¬ 2048 < s.length) {e:Nat}:∀ (f:Nat) (out:List RuleD) (k:Nat) {g:List RuleD},out.length≤k→k≤(aj s).length→(∀ r∈out,¬ 4096 < r.body.length∧¬ 4096 < r.head.length)→dL s (aj s) e f out k=.ok g →
  g.length≤(aj s).length∧∀ r∈g,¬ 4096 < r.body.length∧¬ 4096 < r.head.length
 | 0,out,k,g,h1,h2,h3,h=>by cases h;exact ⟨by omega,h3⟩
 | f+1,out,k,g,h1,h2,h3,h=>by
  rw [dL] at h
  split at h
  ·split at h
   ·cases h
   ·rename_i r k' hr
    obtain ⟨k3,e1,_,e3,_,_,e5,e6,e7⟩:=AH hr
    refine oF hs f (out++[r]) k' (by rw [List.length_append,List.length_cons,List.length_nil];omega) e7 (fun x hx=>?_) h
    rcases List.mem_append.1 hx with hx | hx
    ·exact h3 x hx
    ·rw [List.mem_singleton.1 hx]
     obtain ⟨m,hm,_,ht,_⟩:=ez e1
     obtain ⟨_,a,hra⟩:=iI e3
     have:=mB (List.mem_of_getElem? hm)
     exact ⟨yC hra,by rw [ht];omega⟩
  ·cases h;exact ⟨by omega,h3⟩
theorem mW {s:List UInt8} (hs:¬ 2048 < s.length) {e f:Nat} {g:List RuleD} (h:dL s (aj s) e f [] 0=.ok g):FitG g:=by
 obtain ⟨h1,h2⟩:=oF hs f [] 0 (Nat.zero_le _) (Nat.zero_le _) (fun r hr=>by cases hr) h
 have:=gz s
 exact ⟨by omega,fun r hr=>(h2 r hr).1,fun r hr=>(h2 r hr).2⟩
def xn (z:List RuleD × Nat × Nat):Value→List HP→Prop:=fun r Q=>∃ v q,r=.tuple #[v,i64 (z.2.1:Nat),i64 (z.2.2:Nat)]∧RulesR q v z.1∧Q=[q]
theorem RulesR.nil (q:HP):RulesR q (.slice none 0 0) []:=⟨[],BodiesR.nil q,none,0,rfl,Nat.le_refl _,rfl,fun h=>absurd h (Nat.lt_irrefl 0)⟩
theorem ImpS.tt {H:List HP}:ImpS H (Go.Proofs.YtkeialpeabhaaaaGreat.pur True::H):=ImpS.pur trivial ImpS.refl
theorem kR (s:List UInt8) (v:Value) (n:Nat) (a:Option Addr) (m c:Nat) (hv:v=.slice a m c):Tryz.prog.built 58 [(0,str s),(1,v),(3,i64 (n:Nat))]=some [str s,v,i64 0,i64 (n:Nat)].toArray:=by subst hv;kernel_rfl
attribute [local irreducible] bO cz G GO GR GT Fn FnX FnV FnXV Dfr pt init exs pur sat own ImpS cU dR bG au
theorem gX (c2 c3 c4:Nat):Dfr Tryz.prog 20 #[ah c2,ah c3,ah c4] .returning .returning [] (fun _ Q=>Q=[]):=by
 refine Dfr.mk Tryz.func20 rfl rfl rfl rfl Rcv.calm fun w0 F=>?_
 (apply Ru;refine GO.move rfl rfl ?_)
 refine GO.neqIfN rfl rfl ?_
 apply Ru
 refine KF2.n0 rfl rfl (ImpS.sb ?_)
 exact SB
theorem kO (c2 c3 c4 i:Nat) (x y z:Value):Dfr Tryz.prog 20 #[ah c2,ah c3,ah c4] (.panicking (chn (cR i))) (.panicking [{ v:=cR i,recovered:=true }]) [pt c2 (row [x] 23),pt c3 (row [y] 3),pt c4 (row [z] 24)]
  (fun _ Q=>Q=[pt c2 (row [.slice none 0 0] 23),pt c3 (row [i64 (i:Nat)] 3),pt c4 (row [i64 172] 24)]):=by
 refine Dfr.mk Tryz.func20 rfl rfl rfl rfl (Rcv.caught (cR i)) fun w0 F=>?_
 (apply Ru;refine GO.move rfl rfl ?_)
 refine GO.neqIf rfl rfl ?_
 (apply Ru;refine GO.move rfl rfl ?_)
 refine GO.assertT rfl rfl rfl ?_
 (refine GO.move rfl rfl ?_;refine GO.extract rfl rfl rfl ?_;refine GO.extract rfl rfl rfl ?_;refine GO.alloc rfl fun b4=>?_;apply Ru;refine GO.assign rfl rfl ?_;apply Ru;refine GO.move rfl rfl ?_;refine GO.not rfl rfl ?_;apply Ru;refine G.condF rfl rfl ?_;apply Ru)
 refine drT 5 28 [pt b4 (row [i64 (i:Nat)] 51)] ?_
 ((apply GR.step rfl;focus (intro Z;refine GO.fieldAddr rfl rfl ?_;exact KQ.z));(apply GR.step rfl;focus (intro Z;refine GO.load1 rfl rfl rfl Tk.h rfl ?_;exact KQ.z));apply Ru)
 (repeat refine GT.skip rfl ?_)
 refine GT.step rfl ?_
 (refine GO.store1 rfl rfl rfl (Tk.t Tk.h) (by simp) ?_;apply Ru)
 refine ⟨rfl,.tuple #[],pt c2 (row [.slice none 0 0] 23)::pt c3 (row [y] 3)::pt c4 (row [z] 24)::F,rfl,ImpS.sb (by ((refine Sb.c (Tk.t Tk.h) ?_;refine Sb.c Tk.h ?_;exact SB);skip)),?_⟩
 (repeat refine GT.skip rfl ?_)
 refine GT.step rfl ?_
 (refine GO.store1 rfl rfl rfl (Tk.t (Tk.t Tk.h)) (by simp) ?_;apply Ru)
 refine ⟨rfl,.tuple #[],pt c2 (row [.slice none 0 0] 23)::pt c3 (row [i64 (i:Nat)] 3)::pt c4 (row [z] 24)::F,rfl,ImpS.sb (by ((refine Sb.c (Tk.t Tk.h) ?_;refine Sb.c (Tk.t Tk.h) ?_;refine Sb.c Tk.h ?_;exact SB);skip)),?_⟩
 (repeat refine GT.skip rfl ?_)
 refine GT.step rfl ?_
 (refine GO.store1 rfl rfl rfl (Tk.t (Tk.t (Tk.t Tk.h))) (by simp) ?_;apply Ru)
 refine ⟨rfl,.tuple #[],pt c2 (row [.slice none 0 0] 23)::pt c3 (row [i64 (i:Nat)] 3)::pt c4 (row [i64 172] 24)::F,rfl,ImpS.sb (by ((refine Sb.c (Tk.t Tk.h) ?_;refine Sb.c (Tk.t Tk.h) ?_;refine Sb.c (Tk.t Tk.h) ?_;refine Sb.c Tk.h ?_;exact SB);skip)),?_⟩
 refine GT.nil ?_
 apply Ru
 refine KF2.n0 rfl rfl (ImpS.sb ?_)
 exact SB
end
section
attribute [local irreducible] bO cz G GO GR GT Fn FnX FnV FnXV Dfr pt init exs pur sat own ImpS cU dR bG au
instance:NTf Tryz.f4 58:=⟨rfl⟩
theorem oR (s:List UInt8):Fn Tryz.prog 4 #[str s] [] (xn (fo s)):=by
 refine Fn.mkD Tryz.func4 rfl rfl fun w0 F=>?_
 refine GZ.seq ?_
 (apply Ru;refine sal fun b2=>?_;refine sal fun b3=>?_;refine sal fun b4=>?_;apply Ru)
 refine GZ.seq ?_
 by_cases hlen:2048 < s.length
 ·have e1:decide ((2048:Int) < (s.length:Int))=true:=decide_eq_true (by omega)
  have hr:fo s=([],0,3):=by unfold fo;rw [if_pos hlen]
  rw [hr]
  (apply Ru;refine GO.move rfl rfl ?_;apply Ru;refine scT ?_)
  refine KF2.r3 rfl (RV.c1 rfl rfl (Tk.t (Tk.t Tk.h)) rfl) (RV.c1 rfl rfl (Tk.t Tk.h) rfl) (RV.c1 rfl rfl Tk.h rfl) ⟨.slice none 0 0,_,rfl,RulesR.nil _,rfl⟩ (ImpS.trans (ImpS.sb (M:=F) ?_) ImpS.tt)
  exact SB
 have e1:decide ((2048:Int) < (s.length:Int))=false:=decide_eq_false (by omega)
 have hlM:=gz s
 have hbl:=nO s
 have hwh:=oA s (by omega)
 have hrd:fo s=match dL s (aj s) (cD s) ((aj s).length+1) [] 0 with
   | .error p=>([],p,172)
   | .ok g=>if cD s < s.length then ([],cD s,172) else if g.any pb=true then ([],0,173) else if bG g=0 then (g,0,0) else ([],0,bG g):=by
  unfold fo;rw [if_neg hlen];try (cases dL s (aj s) (cD s) ((aj s).length+1) [] 0 <;> rfl)
 have hru:∀ q v br,dN q v (aj s)→_:=fun q v br hq=>wl q v (aj s) hq br (cD s) s (by omega) (by omega) (AM s)
 have hfit:∀ g,dL s (aj s) (cD s) ((aj s).length+1) [] 0=.ok g→FitG g:=fun g h=>mW hlen h
 have hsc:=ml s (by omega)
 generalize dL s (aj s) (cD s) ((aj s).length+1) [] 0=ex at *
 rw [hrd]
 generalize cD s=bad at *
 generalize aj s=ms at *
 clear hrd
 (apply Ru;refine GO.move rfl rfl ?_;apply Ru;refine scF ?_)
 refine GZ.defer (vs:=[ah b2,ah b3,ah b4]) rfl ⟨rfl,rfl,rfl,trivial⟩ ?_
 (apply Ru;refine GO.move rfl rfl ?_)
 refine scl (hsc) ?_
 rintro _ _ (⟨hb,rfl,rfl⟩ | ⟨hb,v,rfl,hv1,rfl⟩)
 ·have d1:decide ((160:Int)≠0)=true:=rfl
  (apply Ru;refine GO.move rfl rfl ?_;apply Ru;refine GO.move rfl rfl ?_;apply Ru)
  refine GO.buildPart3 (kR s (.slice none 0 0) s.length none 0 0 rfl) rfl rfl rfl rfl ?_
  (refine sbx fun b25=>?_;apply Ru;refine G.condT rfl rfl ?_;apply Ru;refine GO.move rfl rfl ?_;apply Ru)
  refine GO.strHi rfl rfl rfl ⟨rfl,by omega⟩ ?_
  refine scl (hwh) ?_
  rintro _ _ ⟨v,rfl,hv1,rfl⟩
  refine GO.ownRd (n:=ms.length) (v:=v) (xs:=eL ms) Tk.h fun q hq=>?_
  have hx:=fun br=>hru q v br hq
  obtain ⟨am,cm,rfl⟩:=eA hq
  clear hq hru
  apply Ru
  refine sxl (hx b25) ?_ ?_
  ·rintro _ _ ⟨p,hp,rfl,rfl⟩
   rw [hp]
   dsimp only
   (repeat (first | refine aV ?_ | refine aM ?_ | refine kscope_p ?_))
   refine KFD.p3 (kO b2 b3 b4 p _ _ _) (X:=F) (ImpS.sb (by ((refine Sb.c (Tk.t (Tk.t Tk.h)) ?_;refine Sb.c (Tk.t Tk.h) ?_;refine Sb.c Tk.h ?_;exact SB);skip))) rfl (RV.c1 rfl rfl Tk.h rfl) (RV.c1 rfl rfl (Tk.t Tk.h) rfl) (RV.c1 rfl rfl (Tk.t (Tk.t Tk.h)) rfl) ⟨.slice none 0 0,_,rfl,RulesR.nil _,rfl⟩ (ImpS.trans (ImpS.sb (M:=F) ?_) ImpS.tt)
   exact SB
  rintro r _ ⟨g,z,hg,hR,rfl⟩
  rw [hg]
  dsimp only
  rw [if_pos hb]
  obtain ⟨ag,cg,rfl⟩:=bN hR
  (apply Ru;refine G.condT rfl rfl ?_;apply Ru)
  refine KFD.r3 (gX b2 b3 b4) rfl (RV.c1 rfl rfl (Tk.t (Tk.t Tk.h)) rfl) (RV.c1 rfl rfl (Tk.t Tk.h) rfl) (RV.c1 rfl rfl Tk.h rfl) ⟨.slice none 0 0,_,rfl,RulesR.nil _,rfl⟩ (ImpS.trans (ImpS.sb (M:=F) ?_) ImpS.tt)
  exact SB
 ·subst hb
  have d1:decide ((0:Int)≠0)=false:=rfl
  refine GO.ownRd (n:=ms.length) (v:=v) (xs:=eL ms) Tk.h fun q hq=>?_
  have hx:=fun br=>hru q v br hq
  obtain ⟨am,cm,rfl⟩:=eA hq
  clear hq hru
  (apply Ru;refine GO.move rfl rfl ?_;apply Ru;refine GO.move rfl rfl ?_;apply Ru)
  refine GO.buildPart3 (kR s (.slice am ms.length cm) s.length am ms.length cm rfl) rfl rfl rfl rfl ?_
  (refine sbx fun b25=>?_;apply Ru)
  refine sxl (hx b25) ?_ ?_
  ·rintro _ _ ⟨p,hp,rfl,rfl⟩
   rw [hp]
   dsimp only
   (repeat (first | refine aV ?_ | refine aM ?_ | refine kscope_p ?_))
   refine KFD.p3 (kO b2 b3 b4 p _ _ _) (X:=F) (ImpS.sb (by ((refine Sb.c (Tk.t (Tk.t Tk.h)) ?_;refine Sb.c (Tk.t Tk.h) ?_;refine Sb.c Tk.h ?_;exact SB);skip))) rfl (RV.c1 rfl rfl Tk.h rfl) (RV.c1 rfl rfl (Tk.t Tk.h) rfl) (RV.c1 rfl rfl (Tk.t (Tk.t Tk.h)) rfl) ⟨.slice none 0 0,_,rfl,RulesR.nil _,rfl⟩ (ImpS.trans (ImpS.sb (M:=F) ?_) ImpS.tt)
   exact SB
  rintro r _ ⟨g,z,hg,hR,rfl⟩
  have hF:=hfit g hg
  have hlo:=z0 z r g hR (by have:=hF.len;omega) (fun x hx=>by have:=hF.body x hx;omega)
  have hch:=jY z r g hR hF
  rw [hg]
  dsimp only
  rw [if_neg (Nat.lt_irrefl _)]
  obtain ⟨ag,cg,rfl⟩:=bN hR
  apply Ru
  refine scl (hlo) ?_
  rintro _ _ ⟨rfl,rfl⟩
  cases hlg:g.any pb
  ·rw [if_neg (by decide)]
   apply Ru
   refine scl (hch) ?_
   rintro _ _ ⟨rfl,rfl⟩
   by_cases hc:bG g=0
   ·rw [if_pos hc]
    have d2:decide ((bG g:Int)≠0)=false:=decide_eq_false (by omega)
    (apply Ru;refine scF ?_)
    refine KFD.r3 (gX b2 b3 b4) rfl (RV.c1 rfl rfl (Tk.t (Tk.t Tk.h)) rfl) (RV.c1 rfl rfl (Tk.t Tk.h) rfl) (RV.c1 rfl rfl Tk.h rfl) ⟨_,z,rfl,hR,rfl⟩ (ImpS.sb ?_)
    exact SB
   ·rw [if_neg hc]
    have d2:decide ((bG g:Int)≠0)=true:=decide_eq_true (by omega)
    (apply Ru;refine scT ?_)
    refine KFD.r3 (gX b2 b3 b4) rfl (RV.c1 rfl rfl (Tk.t (Tk.t Tk.h)) rfl) (RV.c1 rfl rfl (Tk.t Tk.h) rfl) (RV.c1 rfl rfl Tk.h rfl) ⟨.slice none 0 0,_,rfl,RulesR.nil _,rfl⟩ (ImpS.trans (ImpS.sb (M:=F) ?_) ImpS.tt)
    exact SB
  ·rw [if_pos rfl]
   apply Ru
   refine KFD.r3 (gX b2 b3 b4) rfl (RV.c1 rfl rfl (Tk.t (Tk.t Tk.h)) rfl) (RV.c1 rfl rfl (Tk.t Tk.h) rfl) (RV.c1 rfl rfl Tk.h rfl) ⟨.slice none 0 0,_,rfl,RulesR.nil _,rfl⟩ (ImpS.trans (ImpS.sb (M:=F) ?_) ImpS.tt)
   exact SB
end
section
theorem Cl {P:Program} {d:Nat} {t:TypeId} {a b:List UInt8} [h:UL P t .string]:EqR P (d+1) t (str a) (str b) (decide (a=b)):=by
 have:=(EqR.str:EqR P (d+1) t (.string ⟨a.toArray⟩) (.string ⟨b.toArray⟩) _)
 rwa [ip,ip,show (a == b)=decide (a=b) by rw [Bool.eq_iff_iff];simp] at this
attribute [local irreducible] bO cz G GO GR GT Fn FnX FnV FnXV Dfr pt init exs pur sat own ImpS
end
section
theorem rl {α:Type} {f:α→Value} {a b:Nat→α} {n:Nat} (h:∀ i,i < n→a i=b i):fG f a n=fG f b n:=by
 unfold fG
 exact List.map_congr_left fun i hi=>by rw [h i (List.mem_range.1 hi)]
attribute [local irreducible] bO cz G GO GR GT Fn FnX FnV FnXV Dfr pt init exs pur sat own ImpS
end
section
section
variable {α:Type} (leaf:Nat→List UInt8→α)
end
abbrev WordR (q:HP) (v:Value) (w:List (List UInt8)):Prop:=Sl q v w.length 1 (aI w)
attribute [local irreducible] bO cz G GO GR GT Fn FnX FnV FnXV Dfr pt init exs pur sat own ImpS fq
end
section
abbrev BS:=Bool × List UInt8
def bsV (f:BS):Value:=.agg #[.bool f.1,str f.2]
def iF (n:Nat):List (BS × Value)→List MapEntry
 | []=>[]
 | (k,v)::l=>{ key:=bsV k,val:=v,born:=n }::iF (n+1) l
def lL (l:List (BS × Value)):Obj:=.map (iF 0 l).toArray l.length
def ev (k:BS):List (BS × Value)→Nat→Option (Nat × Value)
 | [],_=>none
 | (a,v)::l,i=>if k=a then some (i,v) else ev k l (i+1)
theorem pH (k:BS) (v:Value):∀ (l:List (BS × Value)) (n:Nat),iF n (l++[(k,v)])=iF n l++[{ key:=bsV k,val:=v,born:=n+l.length }]
 | [],n=>rfl
 | (a,u)::l,n=>by
  show _::iF (n+1) (l++[(k,v)])=_::(iF (n+1) l++_)
  rw [pH k v l (n+1),List.length_cons,show n+1+l.length=n+(l.length+1) by omega]
class KeyB (P:Program) (kt:TypeId):Prop where
 eq:∀ a b:BS,EqR P 10000 kt (bsV a) (bsV b) (decide (a=b))
 un:∃ fs,P.underlying kt=some (.struct fs)
 ck:∀ (e:Bool) (a:BS) (w:World),(Instr.checkKey e 10000 kt (bsV a)).run P w=.ok () w
section
variable {P:Program} {kt:TypeId} [hk:KeyB P kt]
theorem sc (k:BS) (w:World):∀ (l:List (BS × Value)) (n i:Nat),(Instr.findAsking kt (bsV k) (iF n l) i).run P w=.ok (ev k l i) w
 | [],n,i=>by simp [iF,Instr.findAsking,ev]
 | (a,v)::l,n,i=>by
  have he:(Op.equal kt (bsV k) (bsV a)).run P w=.ok (decide (k=a)) w:=by
   have:=hk.eq k a w
   simpa [Op.equal,Op.maxDepth] using this
  have ih:=sc k w l (n+1) (i+1)
  unfold ev
  simp only [iF,Instr.findAsking,Sem.run_bind,he,Result.andThen_ok]
  by_cases h:k=a
  ·rw [if_pos h,decide_eq_true h];simp
  ·rw [if_neg h,decide_eq_false h];simpa using ih
theorem lY (k:BS) (l:List (BS × Value)) (w:World):(Instr.findKey kt (bsV k) (iF 0 l)).run P w=.ok (ev k l 0) w:=by
 obtain ⟨fs,hu⟩:=hk.un
 have hf:=sc (P:=P) (kt:=kt) k w l 0 0
 unfold Instr.findKey
 rw [Sem.run_bind,run_underlying hu,Result.andThen_ok]
 cases l with
 | nil=>simp [iF,Instr.findNow,ev]
 | cons x l=>
  obtain ⟨a,v⟩:=x
  have:Instr.findNow (.struct fs) (bsV k) (iF 0 ((a,v)::l)) 0=none:=rfl
  rw [this]
  exact hf
end
def rM (z:Value) (k:BS) (l:List (BS × Value)):Value:=match ev k l 0 with
 | some (_,v)=>.tuple #[v,.bool true]
 | none=>.tuple #[z,.bool false]
section rules
variable {P:Program} {c:Cx} {A:Array Oper} {rest:List Oper} {K:aY} {L:Env} {H F:List HP} {t:TypeId} {p:String} {e:Array Edge}
variable {d b:Nat} {x y u:Operand} {mt kt et:TypeId} {k:BS} {l:List (BS × Value)} {v z:Value}
theorem GO.makeMapB (hN:Nat.blt d c.N=true) (k:∀ b,GO P c A rest K ((d,.map (some b))::L) (pt b (lL [])::H)):GO P c A (⟨some d,.makeMap mt none,t,p,e,none⟩::rest) K L H:=
 GO.gen hN rfl (fun v H'=>∃ b,v=.map (some b)∧H'=pt b (lL [])::H)
  (fun a w Y h s=>⟨.map (some w.heap.size),w.alloc (lL []),_,by
   simp only [execOp,Instr.makeMap,Option.map_none]
   simp [Result.andThen,lL,iF],Same.alloc w _,⟨w.heap.size,rfl,rfl⟩,bh s _⟩) (by rintro _ _ ⟨b,rfl,rfl⟩;exact k b)
theorem GO.lookupB [hm:UL P mt (.map kt et)] [hk:KeyB P kt] [hz:ZV P et z] (hN:Nat.blt d c.N=true) (hx:evl L x=some (.map (some b))) (hy:evl L y=some (bsV k)) (tk:Tk (pt b (lL l)) H F)
  (g:GO P c A rest K ((d,rM z k l)::L) H):GO P c A (⟨some d,.lookup mt x y true,t,p,e,none⟩::rest) K L H:=
 GO.val hN rfl (fun a w Y h s=>by
  have hb:=aT (ai (List.Perm.append_right Y tk) s)
  simp only [execOp,h.eval hx,h.eval hy,Instr.lookup]
  simp only [Sem.run_bind,run_underlying hm.out,Result.andThen_ok,MapKept.run_getObj_map hb,Sem.run_pure]
  simp only [hk.ck,lY,Result.andThen_ok]
  unfold rM
  cases hf:ev k l 0 with
  | none=>simp [hf,fE,Result.andThen]
  | some q=>obtain ⟨i,v⟩:=q;simp [hf,Result.andThen]) g
theorem GO.insertB [hm:UL P mt (.map kt et)] [hk:KeyB P kt] (hx:evl L x=some (.map (some b))) (hy:evl L y=some (bsV k)) (hu:evl L u=some v) (tk:Tk (pt b (lL l)) H F) (hn:ev k l 0=none)
  (g:GO P c A rest K L (pt b (lL (l++[(k,v)]))::F)):GO P c A (⟨none,.mapUpdate mt x y u,t,p,e,none⟩::rest) K L H:=
 GO.genS rfl (fun a w Y h s=>by
  have s':=ai (List.Perm.append_right Y tk) s
  have hb:=aT s'
  refine ⟨{ w with heap:=w.heap.setIfInBounds b (lL (l++[(k,v)])) },?_,⟨rfl,rfl,rfl,by simp,Nat.le_refl _⟩,bE s' ?_ ?_⟩
  ·simp only [execOp,h.eval hx,h.eval hy,h.eval hu,Instr.mapUpdate]
   simp only [Sem.run_bind,run_underlying hm.out,Result.andThen_ok,MapKept.run_getObj_map hb,hk.ck,lY,hn]
   rw [MapKept.run_setObj_map _ hb]
   simp [Result.andThen,lL,pH]
  ·have hlt:=(Array.getElem?_eq_some_iff.1 hb).1
   simp [hlt]
  ·intro j hj
   rw [Array.getElem?_setIfInBounds_ne (Ne.symm hj)]) g
end rules
end
section
theorem bX {q:HP} {v:Value} {l:List (List UInt8)} (hq:dH q v l):∃ a cap,v=.slice a l.length cap:=let ⟨a,cap,h,_⟩:=hq;⟨a,cap,h⟩
def FnBm (P:Program) (v:Value) (args:List Value) (Pre:List HP) (R:Value→List HP→Prop):Prop:=
 ∃ fn first,v=.func fn first #[]∧∀ F w,sat (Pre++F) w→∃ nx,(invoke (.fn fn #[]) (first++args.toArray)).run P w=.ok nx w∧NxOk P nx w (Ret w F R)
theorem FnBm.of {P:Program} {f:FuncId} [hc:Cal P f] {v0:Value} {args:List Value} {Pre:List HP} {R:Value→List HP→Prop} (h:Fn P f (v0::args).toArray Pre R):FnBm P (.func (.func f) #[v0] #[]) args Pre R:=
 ⟨_,_,rfl,fun F w s=>⟨.enter f (v0::args).toArray,by simp [invoke,hc.out],h F w s⟩⟩
section
variable {P:Program} {c:Cx} {A:Array Oper} {rest:List Oper} {K:aY} {L:Env} {H F:List HP} {t:TypeId} {p:String} {e:Array Edge} {d:Nat}
theorem GO.mkBound {f:Go.Fn} {x1:Operand} {v1:Value} (hN:Nat.blt d c.N=true) (h1:evl L x1=some v1)
  (k:GO P c A rest K ((d,.func f #[v1] #[])::L) H):GO P c A (⟨some d,.makeFunc f #[x1] #[],t,p,e,none⟩::rest) K L H:=
 GO.val hN rfl (fun a w Y h _=>by
  simp [execOp,h.eval h1,Instr.makeFunc,Result.andThen]) k
theorem GO.callBm1 {x x1:Operand} {v0 v1:Value} {ats:Array TypeId} {Pre:List HP} {R:Value→List HP→Prop} (hN:Nat.blt d c.N=true)
  (hx:evl L x=some v0) (h1:evl L x1=some v1) (spec:FnBm P v0 [v1] Pre R) (tk:Tks Pre H F)
  (k:∀ v Q,R v Q→GO P c A rest K ((d,v)::L) (Q++F)):GO P c A (⟨some d,.call ⟨.value x,#[x1],ats⟩,t,p,e,none⟩::rest) K L H:=by
 rintro a w ⟨g1,h2,D,h3,h4,h5⟩
 obtain ⟨fn,first,rfl,spec⟩:=spec
 have s1:sat (Pre++(F++(c.X++D.map cA))) w:=by
  rw [← List.append_assoc];exact ai (List.Perm.append_right _ tk) h5
 obtain ⟨nx,hrun,hnx⟩:=spec _ w s1
 have hargs:(#[x1]:Array Operand).map a.eval=[v1].toArray:=by simp [g1.eval h1]
 have hex:(execOp a.eval ⟨some d,.call ⟨.value x,#[x1],ats⟩,t,p,e,none⟩).run P w=.ok nx w:=by
  have he:=g1.eval hx
  simp only [execOp,resolve,hargs,he,Deferred.ofValue,Sem.run_bind,Sem.run_pure,Result.andThen_ok,hrun]
 simp only [cQ,Region.wanted,if_true]
 rw [df _ _ _ rfl,hex]
 have fin:∀ en w',Ret w (F++(c.X++D.map cA)) R en w'→∃ v,en=.returned v∧cQ (fen c.r) P A (gK c K) rest (a.put (some d) v) w':=by
  rintro en w' ⟨v,Q,rfl,hs,hR,hq⟩
  refine ⟨v,rfl,k v Q hR _ w' ⟨g1.put hN,h2.trans hs,D,?_,h4,?_⟩⟩
  ·simpa [Act.put] using h3
  ·rw [List.append_assoc];exact hq
 cases nx with
 | enter f xs=>
  refine ⟨fun h=>by simp [fen,Fence.wide] at h,dA ?_⟩
  refine CallsIn.mono hnx fun en w' hr=>?_
  obtain ⟨v,rfl,h⟩:=fin en w' hr
  exact h
 | round l f t x y=>
  refine ⟨fun h=>by simp [fen,Fence.wide] at h,iM ?_⟩
  refine RoundIn.mono hnx fun en w' hr=>?_
  obtain ⟨v,rfl,h⟩:=fin en w' hr
  exact h
 | _=>exact hnx.elim
end
theorem EqR.mapNil {P:Program} {d:Nat} {t mk me:TypeId} {b:Nat} [hu:UL P t (.map mk me)]:EqR P (d+1) t (.map (some b)) (.map none) false:=fun w=>by
 simp [Op.equalIn,Sem.run_bind,run_underlying hu.out,Result.andThen]
section
variable {P:Program} {c:Cx} {A:Array Oper} {rest:List Oper} {K:aY} {L:Env} {H F:List HP} {t ty ty':TypeId} {p:String} {e:Array Edge} {d:Nat} {x:Operand}
theorem GO.neqNilM {mk me:TypeId} {b:Nat} [hu:UL P ty (.map mk me)] (hN:Nat.blt d c.N=true) (hx:evl L x=some (.map (some b)))
  (k:GO P c A rest K ((d,.bool true)::L) H):GO P c A (⟨some d,.binOp .neq ty x (.const (.map none)) ty',t,p,e,none⟩::rest) K L H:=
 GO.val hN rfl (fun s w Y h _=>by
  have hc:s.eval (.const (.map none))=.map none:=rfl
  simp only [execOp,h.eval hx,hc]
  have:=(EqR.mapNil:EqR P 10000 ty (.map (some b)) (.map none) false) w
  simp [Sem.run_bind,eqGuard,binOp,Op.equal,Op.maxDepth,this,Result.andThen]) k
end
theorem Cm (a b:BS):EqR Tryz.prog 10000 138 (bsV a) (bsV b) (decide (a=b)):=by
 have h:EqR Tryz.prog (9998+1+1) 138 (.agg [.bool a.1,str a.2].toArray) (.agg [.bool b.1,str b.2].toArray) ((a.1 == b.1) && decide (a.2=b.2)):=
  EqR.struct (P:=Tryz.prog) (d:=9999) (t:=138) (l:=[.bool a.1,str a.2]) (l':=[.bool b.1,str b.2]) ⟨.bool a.1,.bool b.1,_,_,by decide,PartR.one rfl rfl,PartR.one rfl rfl,EqR.bool,⟨str a.2,str b.2,_,true,by decide,PartR.one rfl rfl,PartR.one rfl rfl,Cl,rfl,(Bool.and_true _).symm⟩,rfl⟩
 rwa [show ((a.1 == b.1) && decide (a.2=b.2))=decide (a=b) by
  rw [Bool.eq_iff_iff];simp only [Bool.and_eq_true,decide_eq_true_iff,beq_iff_eq];exact ⟨fun h=>Prod.ext h.1 h.2,fun h=>by rw [h];exact ⟨rfl,rfl⟩⟩] at h
theorem wZ (e:Bool) (a:BS) (w:World):(Instr.checkKey e 10000 138 (bsV a)).run Tryz.prog w=.ok () w:=by
 have h1:∀ (b:Bool) (w:World),(Instr.checkKey e 9999 4 (.bool b)).run Tryz.prog w=.ok () w:=fun b w=>by
  unfold Instr.checkKey
  rw [Sem.run_bind,run_underlying Tryz.underlying4,Result.andThen_ok]
  rfl
 have h2:∀ (s:List UInt8) (w:World),(Instr.checkKey e 9999 9 (str s)).run Tryz.prog w=.ok () w:=fun b w=>by
  unfold Instr.checkKey
  rw [Sem.run_bind,run_underlying Tryz.underlying9,Result.andThen_ok]
  rfl
 have p0:∀ w,(part 4 [.bool a.1,str a.2].toArray 0).run Tryz.prog w=.ok (.bool a.1) w:=fun w=>gd (P:=Tryz.prog) (t:=4) rfl rfl w
 have p1:∀ w,(part 9 [.bool a.1,str a.2].toArray 1).run Tryz.prog w=.ok (str a.2) w:=fun w=>gd (P:=Tryz.prog) (t:=9) rfl rfl w
 unfold Instr.checkKey bsV
 rw [Sem.run_bind,run_underlying Tryz.underlying138,Result.andThen_ok]
 simp [Sem.run_bind,Result.andThen,p0,p1,h1,h2]
instance:KeyB Tryz.prog 138:=⟨Cm,⟨_,Tryz.underlying138⟩,wZ⟩
instance:ZV Tryz.prog 3 (i64 0):=⟨by kernel_rfl⟩
def fI (b:Bool):Nat→List (List UInt8)→List (BS × Value)
 | _,[]=>[]
 | i,s::r=>((b,s),i64 (i:Nat))::fI b (i+1) r
def fZ (ns ls:List (List UInt8)):List (BS × Value):=fI false 0 ns++fI true 0 ls
def dS:List (List UInt8)→List UInt8→Option Nat
 | [],_=>none
 | x::r,s=>if s=x then some 0 else (dS r s).map (·+1)
theorem my (b:Bool) (s:List UInt8):∀ (l:List (List UInt8)) (i:Nat),fI b i (l++[s])=fI b i l++[((b,s),i64 ((i+l.length:Nat):Int))]
 | [],i=>rfl
 | x::l,i=>by
  show _::fI b (i+1) (l++[s])=_::(fI b (i+1) l++_)
  rw [my b s l (i+1),List.length_cons,show i+1+l.length=i+(l.length+1) by omega]
theorem pD (k:BS):∀ (l m:List (BS × Value)) (i:Nat),ev k (l++m) i=match ev k l i with | some x=>some x | none=>ev k m (i+l.length)
 | [],m,i=>rfl
 | (a,v)::l,m,i=>by
  show (if k=a then _ else ev k (l++m) (i+1))=match (if k=a then _ else ev k l (i+1)) with | some x=>some x | none=>_
  by_cases h:k=a
  ·rw [if_pos h,if_pos h]
  ·rw [if_neg h,if_neg h,pD k l m (i+1),List.length_cons,show i+1+l.length=i+(l.length+1) by omega]
theorem kE (b:Bool) (s:List UInt8):∀ (l:List (List UInt8)) (n i:Nat),ev (b,s) (fI b n l) i=(dS l s).map fun j=>(i+j,i64 ((n+j:Nat):Int))
 | [],n,i=>rfl
 | x::l,n,i=>by
  show (if (b,s)=(b,x) then _ else ev (b,s) (fI b (n+1) l) (i+1))=_
  by_cases h:s=x
  ·rw [if_pos (by rw [h])]
   show _=(if s=x then some 0 else _:Option Nat).map _
   rw [if_pos h];rfl
  ·rw [if_neg (fun e=>h (Prod.ext_iff.1 e).2),kE b s l (n+1) (i+1)]
   show _=(if s=x then some 0 else _:Option Nat).map _
   rw [if_neg h]
   cases dS l s with
   | none=>rfl
   | some j=>
    show some ((i+1+j,i64 ((n+1+j:Nat):Int)):Nat × Value)=some (i+(j+1),i64 ((n+(j+1):Nat):Int))
    rw [show i+1+j=i+(j+1) by omega,show n+1+j=n+(j+1) by omega]
theorem jf {b b':Bool} (h:b≠b') (s:List UInt8):∀ (l:List (List UInt8)) (n i:Nat),ev (b,s) (fI b' n l) i=none
 | [],_,_=>rfl
 | x::l,n,i=>by
  show (if (b,s)=(b',x) then _ else ev (b,s) (fI b' (n+1) l) (i+1))=none
  rw [if_neg (fun e=>h (Prod.ext_iff.1 e).1),jf h s l (n+1) (i+1)]
theorem B5 (ns ls:List (List UInt8)) (b:Bool) (s:List UInt8):rM (i64 0) (b,s) (fZ ns ls)=match dS (if b=true then ls else ns) s with | some j=>.tuple #[i64 (j:Nat),.bool true] | none=>.tuple #[i64 0,.bool false]:=by
 unfold rM fZ
 rw [pD]
 cases b with
 | false=>
  rw [kE,jf (by decide),if_neg (by decide)]
  cases dS ns s with
  | none=>rfl
  | some j=>show Value.tuple #[i64 ((0+j:Nat):Int),_]=_;rw [Nat.zero_add]
 | true=>
  rw [kE,jf (by decide),if_pos rfl]
  cases dS ls s with
  | none=>rfl
  | some j=>show Value.tuple #[i64 ((0+j:Nat):Int),_]=_;rw [Nat.zero_add]
abbrev cG (bt mb:Nat) (vn vl:Value):HP:=pt bt (row [vn,vl,.map (some mb)] 136)
abbrev eT (mb:Nat) (ns ls:List (List UInt8)):HP:=pt mb (lL (fZ ns ls))
def ci (ns ls:List (List UInt8)) (b:Bool) (s:List UInt8):Nat × Nat:=match dS (if b=true then ls else ns) s with | some j=>(j,0) | none=>(0,4)
attribute [local irreducible] bO cz G GO GR GT Fn FnX FnV FnXV Dfr pt init exs pur sat own ImpS fZ rM dS
theorem nr (q:HP) (v:Value) (l:List (List UInt8)) (hq:dH q v l) (hl:¬ 1048576 < l.length):Fn Tryz.prog 58 #[v] [q] (fun r Q=>Q=[own 9 1 l.length r (aI l),q]):=by
 have hsl:=hq.sl
 obtain ⟨a,cap,rfl⟩:=bX hq
 refine Fn.mk2 Tryz.func58 rfl rfl fun w0 F=>?_
 refine G.ownNil (T:=9) (sz:=1) ?_
 apply Ru
 cases a with
 | none=>
  have hss:l=[]:=by
   obtain ⟨a',cap',e,_,_,hr⟩:=hq
   injection e with e1 _ _
   subst e1
   cases l with
   | nil=>rfl
   | cons s ss=>obtain ⟨b,o,h,_⟩:=hr (by simp);cases h
  subst hss
  (refine G.condT rfl rfl ?_;apply Ru)
  refine KF2.r1 rfl (RV.t rfl) rfl (ImpS.sb ?_)
  ((refine Sb.c Tk.h ?_;exact SB);skip)
 | some a=>
  (refine G.condF rfl rfl ?_;apply Ru)
  refine GO.buildSlice0 rfl fun v5=>?_
  apply Ru
  refine GO.appendFrom (m:=l.length) (q:=q) rfl rfl rfl Tk.h (Tk.t Tk.h) hsl (qU _) ⟨by decide,rfl⟩ (by unfold maxLen;omega) (by omega) fun v7=>?_
  rw [List.nil_append,Nat.zero_add l.length]
  apply Ru
  refine KF2.r1 rfl (RV.t rfl) rfl (ImpS.sb ?_)
  exact SB
theorem gS (bt mb:Nat) (vn vl:Value):Fn Tryz.prog 57 #[ah bt] [cG bt mb vn vl] (fun r Q=>r=.bool true∧Q=[cG bt mb vn vl]):=by
 refine Fn.mk2 Tryz.func57 rfl rfl fun w0 F=>?_
 apply Ru
 refine GO.neqNilM rfl rfl ?_
 apply Ru
 refine KF2.r1 rfl (RV.t rfl) ⟨rfl,rfl⟩ (ImpS.sb ?_)
 exact SB
theorem js (bt mb:Nat) (vn vl:Value) (ns:List (List UInt8)) (q:HP) (hq:dH q vn ns) (hl:¬ 1048576 < ns.length):Fn Tryz.prog 25 #[ah bt] [cG bt mb vn vl,q] (fun r Q=>Q=[own 9 1 ns.length r (aI ns),cG bt mb vn vl,q]):=by
 have hc:=nr q vn ns hq hl
 obtain ⟨a,c,rfl⟩:=bX hq
 refine Fn.mk2 Tryz.func25 rfl rfl fun w0 F=>?_
 apply Ru
 refine scl (gS bt mb (.slice a ns.length c) vl) ?_
 rintro _ _ ⟨rfl,rfl⟩
 (apply Ru;refine G.condF rfl rfl ?_;apply Ru)
 refine scl (hc) ?_
 rintro r _ rfl
 apply Ru
 refine KF2.r1 rfl (RV.t rfl) rfl (ImpS.sb ?_)
 exact SB
theorem sH (bt mb:Nat) (vn vl:Value) (ls:List (List UInt8)) (q:HP) (hq:dH q vl ls) (hl:¬ 1048576 < ls.length):Fn Tryz.prog 38 #[ah bt] [cG bt mb vn vl,q] (fun r Q=>Q=[own 9 1 ls.length r (aI ls),cG bt mb vn vl,q]):=by
 have hc:=nr q vl ls hq hl
 obtain ⟨a,c,rfl⟩:=bX hq
 refine Fn.mk2 Tryz.func38 rfl rfl fun w0 F=>?_
 apply Ru
 refine scl (gS bt mb vn (.slice a ls.length c)) ?_
 rintro _ _ ⟨rfl,rfl⟩
 (apply Ru;refine G.condF rfl rfl ?_;apply Ru)
 refine scl (hc) ?_
 rintro r _ rfl
 apply Ru
 refine KF2.r1 rfl (RV.t rfl) rfl (ImpS.sb ?_)
 exact SB
theorem n7 (bt mb:Nat) (vn vl:Value) (ns ls:List (List UInt8)) (b:Bool) (s:List UInt8):Fn Tryz.prog 168 #[ah bt,.agg #[.bool b,str s]] [cG bt mb vn vl,eT mb ns ls] (fun r Q=>r=.tuple #[i64 ((ci ns ls b s).1:Nat),i64 ((ci ns ls b s).2:Nat)]∧Q=[cG bt mb vn vl,eT mb ns ls]):=by
 have hlk:=B5 ns ls b s
 unfold ci
 refine Fn.mk2 Tryz.func168 rfl rfl fun w0 F=>?_
 (apply Ru;refine sbx fun b3=>?_;apply Ru)
 refine scl (gS bt mb vn vl) ?_
 rintro _ _ ⟨rfl,rfl⟩
 (apply Ru;refine G.condF rfl rfl ?_;apply Ru)
 refine dr 11 ?_
 (apply Ru;(apply GQ.step;focus (intro Z;refine GO.loadW rfl rfl rfl (Tk.t Tk.h) rfl ?_;exact KQ.z)))
 apply GQ.step;focus (intro Z;refine GO.lookupB (k:=(b,s)) (l:=fZ ns ls) rfl rfl rfl (Tk.t (Tk.t Tk.h)) ?_;exact KQ.z)
 rw [hlk]
 cases hp:dS (if b=true then ls else ns) s with
 | none=>
  dsimp only
  apply Ru
  (refine G.condT rfl rfl ?_;apply Ru)
  refine KF2.r2 rfl (RV.t rfl) (RV.t rfl) ⟨rfl,rfl⟩ (ImpS.sb ?_)
  exact SB
 | some j=>
  dsimp only
  apply Ru
  (refine G.condF rfl rfl ?_;apply Ru)
  refine KF2.r2 rfl (RV.t rfl) (RV.t rfl) ⟨rfl,rfl⟩ (ImpS.sb ?_)
  exact SB
end
section
attribute [local irreducible] bO cz G GO GR GT Fn FnX FnV FnXV Dfr pt init exs pur sat own ImpS fZ rM dS ci
theorem Ai (bt mb:Nat) (vn vl:Value) (ns ls:List (List UInt8)) (s:List UInt8):Fn Tryz.prog 128 #[ah bt,str s] [cG bt mb vn vl,eT mb ns ls] (fun r Q=>r=.tuple #[i64 ((ci ns ls false s).1:Nat),i64 ((ci ns ls false s).2:Nat)]∧Q=[cG bt mb vn vl,eT mb ns ls]):=by
 refine Fn.mk2 Tryz.func128 rfl rfl fun w0 F=>?_
 apply Ru
 refine scl (n7 bt mb vn vl ns ls false s) ?_
 rintro _ _ ⟨rfl,rfl⟩
 apply Ru
 exact kr2 rfl ⟨rfl,rfl⟩
theorem tP (bt mb:Nat) (vn vl:Value) (ns ls:List (List UInt8)) (s:List UInt8):Fn Tryz.prog 129 #[ah bt,str s] [cG bt mb vn vl,eT mb ns ls] (fun r Q=>r=.tuple #[i64 ((ci ns ls true s).1:Nat),i64 ((ci ns ls true s).2:Nat)]∧Q=[cG bt mb vn vl,eT mb ns ls]):=by
 refine Fn.mk2 Tryz.func129 rfl rfl fun w0 F=>?_
 apply Ru
 refine scl (n7 bt mb vn vl ns ls true s) ?_
 rintro _ _ ⟨rfl,rfl⟩
 apply Ru
 exact kr2 rfl ⟨rfl,rfl⟩
def jv (ns ls:List (List UInt8)) (m:NodeD):SyD × Nat:=
 if m.kind=3 then (if (ci ns ls true m.name).2=0 then (⟨true,(ci ns ls true m.name).1⟩,0) else (⟨false,0⟩,(ci ns ls true m.name).2))
 else if m.kind=2 then (if (ci ns ls false m.name).2=0 then (⟨false,(ci ns ls false m.name).1⟩,0) else (⟨false,0⟩,(ci ns ls false m.name).2)) else (⟨false,0⟩,2)
abbrev l5 (s:SyD):List Value:=[.bool s.lab,i64 (s.num:Nat)]
abbrev syA (s:SyD):Value:=.agg (l5 s).toArray
theorem tS (bt mb:Nat) (vn vl:Value) (ns ls:List (List UInt8)) (m:NodeD):Fn Tryz.prog 60 #[ah bt,rH m] [cG bt mb vn vl,eT mb ns ls] (fun r Q=>r=.tuple #[syA (jv ns ls m).1,i64 ((jv ns ls m).2:Nat)]∧Q=[cG bt mb vn vl,eT mb ns ls]):=by
 have hN:=Ai bt mb vn vl ns ls m.name
 have hL:=tP bt mb vn vl ns ls m.name
 refine Fn.mk2 Tryz.func60 rfl rfl fun w0 F=>?_
 unfold jv
 (apply Ru;refine sbx fun b3=>?_;refine sal fun b4=>?_;apply Ru)
 refine GO.mkBound rfl rfl ?_
 apply Ru
 refine scl (gS bt mb vn vl) ?_
 rintro _ _ ⟨rfl,rfl⟩
 (apply Ru;refine G.condF rfl rfl ?_;apply Ru;refine GO.load1 rfl rfl rfl (Tk.t (Tk.t Tk.h)) rfl ?_;apply Ru)
 by_cases h3:m.kind=3
 ·have c3:decide ((m.kind:Int)=3)=true:=decide_eq_true (by omega)
  rw [if_pos h3]
  refine scT ?_
  refine GO.mkBound rfl rfl ?_
  (apply Ru;refine GO.load1 rfl rfl rfl (Tk.t (Tk.t Tk.h)) rfl ?_)
  refine GO.callBm1 rfl rfl rfl (FnBm.of (v0:=ah bt) (args:=[str m.name]) hL) (Tks.c Tk.h (Tks.c (Tk.t (Tk.t Tk.h)) Tks.n)) ?_
  rintro _ _ ⟨rfl,rfl⟩
  by_cases h0:(ci ns ls true m.name).2=0
  ·have c0:decide (((ci ns ls true m.name).2:Int)≠0)=false:=decide_eq_false (by omega)
   rw [if_pos h0]
   (apply Ru;refine scF ?_)
   exact kr2 rfl ⟨rfl,rfl⟩
  ·have c0:decide (((ci ns ls true m.name).2:Int)≠0)=true:=decide_eq_true (by omega)
   rw [if_neg h0]
   (apply Ru;refine scT ?_)
   exact kr2 rfl ⟨rfl,rfl⟩
 have c3:decide ((m.kind:Int)=3)=false:=decide_eq_false (by omega)
 rw [if_neg h3]
 by_cases h2:m.kind=2
 ·have c2:decide ((m.kind:Int)≠2)=false:=decide_eq_false (by omega)
  rw [if_pos h2]
  (refine scF ?_;refine GO.load1 rfl rfl rfl (Tk.t (Tk.t Tk.h)) rfl ?_;apply Ru;refine scF ?_;refine GO.load1 rfl rfl rfl (Tk.t (Tk.t Tk.h)) rfl ?_)
  refine GO.callBm1 rfl rfl rfl (FnBm.of (v0:=ah bt) (args:=[str m.name]) hN) (Tks.c Tk.h (Tks.c (Tk.t (Tk.t Tk.h)) Tks.n)) ?_
  rintro _ _ ⟨rfl,rfl⟩
  by_cases h0:(ci ns ls false m.name).2=0
  ·have c0:decide (((ci ns ls false m.name).2:Int)≠0)=false:=decide_eq_false (by omega)
   rw [if_pos h0]
   (apply Ru;refine scF ?_)
   exact kr2 rfl ⟨rfl,rfl⟩
  ·have c0:decide (((ci ns ls false m.name).2:Int)≠0)=true:=decide_eq_true (by omega)
   rw [if_neg h0]
   (apply Ru;refine scT ?_)
   exact kr2 rfl ⟨rfl,rfl⟩
 have c2:decide ((m.kind:Int)≠2)=true:=decide_eq_true (by omega)
 rw [if_neg h2]
 (refine scF ?_;refine GO.load1 rfl rfl rfl (Tk.t (Tk.t Tk.h)) rfl ?_;apply Ru;refine scT ?_)
 exact kr2 rfl ⟨rfl,rfl⟩
end
section
def BodsR (z:HP) (vals:List Value) (bs:List (List NodeD)):Prop:=vals.length=bs.length∧∀ (i:Nat) (b:List NodeD),bs[i]?=some b→∃ w,vals[i]?=some w∧w.oneCell'=true∧NodesR z w b
theorem BodsR.nil (z:HP):BodsR z [] []:=⟨rfl,fun i b h=>by simp at h⟩
theorem BodsR.sup {z z':HP} (hs:Sup z z') {vals:List Value} {bs:List (List NodeD)} (h:BodsR z vals bs):BodsR z' vals bs:=⟨h.1,fun i b hb=>let ⟨w,h1,h2,h3⟩:=h.2 i b hb;⟨w,h1,h2,h3.sup hs⟩⟩
theorem BodsR.snoc {z:HP} {vals:List Value} {bs:List (List NodeD)} {w:Value} {b:List NodeD} (h:BodsR z vals bs) (hw:NodesR z w b):BodsR z (vals++[w]) (bs++[b]):=by
 refine ⟨by rw [List.length_append,List.length_append,h.1];rfl,fun i c hc=>?_⟩
 by_cases hi:i < bs.length
 ·rw [List.getElem?_append_left hi] at hc
  obtain ⟨x,h1,h2,h3⟩:=h.2 i c hc
  exact ⟨x,by rw [List.getElem?_append_left (by rw [h.1];exact hi)];exact h1,h2,h3⟩
 ·rw [List.getElem?_append_right (by omega)] at hc
  have:i - bs.length=0:=by
   have:=(List.getElem?_eq_some_iff.1 hc).1
   simp at this
   omega
  rw [this] at hc
  cases hc
  exact ⟨w,by rw [List.getElem?_append_right (by rw [h.1];omega),h.1,this];rfl,hw.one,hw⟩
def bl (head:List UInt8) (g:List RuleD):List (List NodeD):=(g.filter fun r=>decide (r.head=head)).map RuleD.body
theorem tG {head:List UInt8} {g:List RuleD} {i:Nat} {r:RuleD} (h:g[i]?=some r):bl head (g.take (i+1))=bl head (g.take i)++if decide (r.head=head)=true then [r.body] else []:=by
 unfold bl
 rw [aG h,List.filter_append,List.map_append,List.filter_cons,List.filter_nil]
 split <;> rfl
theorem nz (head:List UInt8) (g:List RuleD):(bl head g).length≤g.length:=by unfold bl;rw [List.length_map];exact List.length_filter_le _ _
attribute [local irreducible] bO cz G GO GR GT Fn FnX FnV FnXV Dfr pt init exs pur sat own ImpS bl
theorem k5 (q:HP) (v:Value) (g:List RuleD) (head:List UInt8) (hq:RulesR q v g) (hl:¬ 4096 < g.length) (hb:∀ r∈g,¬ 4096 < r.body.length):Fn Tryz.prog 27 #[v,str head] [q] (fun r Q=>∃ vals z,BodsR z vals (bl head g)∧Q=[own 95 1 (bl head g).length r vals,z,q]):=by
 have hrd:∀ i r,g[i]?=some r→_:=fun i r h=>fF hq h
 obtain ⟨a,cap,rfl⟩:=bN hq
 clear hq
 refine Fn.mk2 Tryz.func27 rfl rfl fun w0 F=>?_
 refine G.ownNil (T:=95) (sz:=1) ?_
 apply Ru
 refine G.loopI (σ:=Nat × Value × List Value × HP) (fun z=>[(1,str head),(5,z.2.1),(8,.slice a g.length cap),(9,i64 (g.length:Nat)),(10,i64 (z.1:Nat))]) (fun z=>own 95 1 (bl head (g.take z.1)).length z.2.1 z.2.2.1::z.2.2.2::q::F) (fun z=>z.1≤g.length∧BodsR z.2.2.2 z.2.2.1 (bl head (g.take z.1))) (fun z=>g.length - z.1) (0,.slice none 0 0,[],Go.Proofs.YtkeialpeabhaaaaGreat.pur True) ⟨Nat.zero_le _,by rw [List.take_zero,show bl head []=[] by unfold bl;rfl];exact BodsR.nil _⟩ ?_ ?_ ?_
 ·exact SE rfl
 ·rw [List.take_zero,show bl head []=[] by unfold bl;rfl]
  refine ImpS.trans ImpS.tt (ImpS.sb ?_)
  exact SB
 rintro ⟨i,v5,vals,z⟩ ⟨hi,hB⟩
 dsimp only at hi hB ⊢
 apply Ru
 by_cases hlt:i < g.length
 ·have d1:decide ((i:Int) < (g.length:Int))=true:=decide_eq_true (by omega)
  obtain ⟨m,hm⟩:∃ m,g[i]?=some m:=⟨_,List.getElem?_eq_getElem hlt⟩
  obtain ⟨b,o,cap2,w,e,_,hw,rm⟩:=hrd i m hm
  injection e with e _ e2
  subst e e2
  have hbm:=hb m (List.mem_of_getElem? hm)
  have hcl:=nu q w m.body hw (by omega)
  obtain ⟨aw,cw,rfl⟩:=aZ hw
  have hsn:=tG (head:=head) hm
  have hbl:=nz head (g.take i)
  rw [List.length_take] at hbl
  generalize bl head (g.take i)=bs at *
  (refine scT ?_;refine six ?_)
  refine GO.loadM (vs:=[str m.head,.slice aw m.body.length cw]) rfl rfl rfl (Tk.t (Tk.t Tk.h)) rfl rm ?_
  (refine sal fun b7=>?_;apply Ru;refine GO.binS rfl rfl rfl rfl ?_;apply Ru)
  cases hh:decide (m.head=head)
  ·rw [hh,if_neg (by decide),List.append_nil] at hsn
   (apply Ru;refine sad ?_)
   refine ⟨(i+1,v5,vals,z),⟨hlt,by dsimp only;rw [hsn];exact hB⟩,by dsimp only;omega,?_,?_⟩
   ·exact SE rfl
   ·dsimp only
    rw [hsn]
    exact ImpS.sb SB
  ·rw [hh,if_pos rfl] at hsn
   apply Ru
   refine scl (hcl) ?_
   rintro r _ rfl
   refine GO.ownRdK Tk.h fun q2 hq2=>?_
   obtain ⟨a2,c2,rfl⟩:=aZ hq2
   refine GO.buildSlice1 (n:=1) rfl rfl (fun v hv=>by rw [List.mem_singleton.1 hv];rfl) rfl ⟨by decide,by decide⟩ fun bs1=>?_
   refine GO.appendOwn (m:=1) (news:=[.slice a2 m.body.length c2]) rfl rfl rfl (Tk.t (Tk.t (Tk.t (Tk.t Tk.h)))) Tk.h rfl (by simp [Value.oneCell']) ⟨by decide,rfl⟩ Nat.one_pos (by unfold maxLen;omega) (by omega) fun v7=>?_
   refine GO.merge (x:=z) (y:=q2) (Tks.c (Tk.t (Tk.t (Tk.t (Tk.t (Tk.t Tk.h))))) (Tks.c (Tk.t (Tk.t Tk.h)) Tks.n)) ?_
   (apply Ru;refine sad ?_)
   refine ⟨(i+1,v7,vals++[.slice a2 m.body.length c2],aL [z,q2]),⟨hlt,?_⟩,by dsimp only;omega,?_,?_⟩
   ·dsimp only
    rw [hsn]
    exact (hB.sup (Sup.left _ _)).snoc (hq2.sup (Sup.right _ _))
   ·exact SE rfl
   ·dsimp only
    rw [hsn,List.length_append,List.length_cons,List.length_nil]
    exact ImpS.sb SB
 ·have d1:decide ((i:Int) < (g.length:Int))=false:=decide_eq_false (by omega)
  rw [List.take_of_length_le (by omega)] at hB ⊢
  refine scF ?_
  exact kr1 rfl ⟨vals,z,hB,rfl⟩
end
/-- g hands to yield what Ok tells of its state,till that says no more,or Fin holds. -/
def BH (P:Program) (g:Value) (σ:Type) (s0:σ) (Ok:σ→List Value→σ→Prop) (Fin:σ→Prop) (Gm:List HP):Prop:=
 ∃ gf caps,g=.func (.func gf) #[] caps∧Cal P gf∧∀ (y:Value) (J X:σ→HP),
  (∀ s u s',Ok s u s'→FnV P y u (J s::([]++[])) (fun v Q=>(v=.bool true∧Q=J s'::[])∨(v=.bool false∧Q=X s::[]))) →
  Fn P gf (#[y]++caps) (J s0::Gm) (fun _ Q=>(∃ s,Fin s∧Q=J s::Gm)∨∃ s,Q=X s::Gm)
theorem G.rangeW {P:Program} {c:Cx} {K:aY} {L:Env} {H F:List HP} {g:Operand} {psl:List Nat} {x y:Code} {v:Value} {σ:Type} {s0:σ} {Ok:σ→List Value→σ→Prop} {Fin:σ→Prop} {Gm:List HP} (J:σ→List HP) (X:σ→Code→List HP)
  (hX:∀ l0,c.r=some l0→∃ r0 X',c.X=pt l0 (.loop r0)::X') (hN:(psl.all fun p=>Nat.blt p c.N)=true) (hlen:∀ s u s',Ok s u s'→u.length=psl.length)
  (hg:evl L g=some v) (seq:BH P v σ s0 Ok Fin Gm) (tk:Tks (J s0++Gm) H F)
  (round:∀ l Lr Lb w0 F s u s',Ok s u s'→G P ⟨some l,c.N,w0,[pt l (.loop Lr)],[],false⟩ x (KA P ⟨some l,c.N,w0,[pt l (.loop Lb)],[],false⟩ y (KB (J s') (X s) [] F)) (qF psl u L) ((J s++[])++[]++F))
  (done:∀ s,Fin s→K .normal L (J s++Gm++F))
  (stop:∀ s jc,G P c jc K L (X s jc++Gm++F)) (hnd:c.nd=false:=by rfl):G P c (.rangeFunc g psl.toArray x y) K L H:=by
 rintro a w ⟨h1,h2,ds,h3,h4,h5⟩
 obtain ⟨gf,caps,rfl,hcal,seq⟩:=seq
 have tk:H.Perm (J s0++Gm++F):=tk
 refine wpIn_rangeFunc fun fn _=>?_
 have hge:=h1.eval hg
 have main:∀ (l D:Nat) (ms:List Nat) (w1:World),(Instr.enterLoop fn a.tmps psl.toArray x y (fen c.r).round).run P w=.ok (l,ms.map dX) w1→Same w w1→((c.r.isSome || c.nd)=true→ms=[]) →
   sat (pt l (.loop (cC fn a.tmps psl.toArray x y D .ready none))::(H++(c.X++(ms++ds).map cA))) w1 →
   ∃ (l:Nat) (dX:List Deferred) (w₁:World) (d:Deferred) (w₁':World) (f:FuncId) (args:Array Value) (w₂:World),
   (Instr.enterLoop fn a.tmps psl.toArray x y (fen c.r).round).run P w=.ok (l,dX) w₁ ∧
   (resolve a.eval (rangeCall g l) 0).run P w₁=.ok d w₁' ∧
   (∀ f',Target.leads P w₁' d.target d.args=some f'→(fen c.r).fn f') ∧
   (invoke d.target d.args).run P w₁'=.ok (.enter f args) w₂ ∧
   ((fen c.r).depth.isSome=true→1≤0) ∧
   CallsIn (fen c.r) (0 - 1) P f args w₂ (rangePost (fen c.r) 0 P l (gK c K) { a with defers:=dX++a.defers }):=by
  intro l D ms w1 hent hsame hms hsat
  refine ⟨l,ms.map dX,w1,{ target:=.fn (.func gf) caps,args:=#[.func (.yield l) #[] #[]] },w1,gf,#[.func (.yield l) #[] #[]]++caps,w1,hent,?_,fun _ _=>trivial,?_,fun h=>by simp [fen,Fence.wide] at h,?_⟩
  ·have hcv:a.eval (.const (.func (.yield l) #[] #[]))=.func (.yield l) #[] #[]:=rfl
   simp [resolve,hge,Deferred.ofValue,hcv]
  ·simp [invoke,hcal.out]
  ·have hd2:ms.map dX++a.defers=(ms++ds).map dX++c.D:=by rw [h3,List.map_append,List.append_assoc]
   have hr2:(c.r.isSome || c.nd)=true→ms++ds=[]:=fun h=>by rw [hms h,h4 h];rfl
   have sa:sat (aL (pt l (.loop (cC fn a.tmps psl.toArray x y D .ready none))::J s0)::Gm++(F++(c.X++(ms++ds).map cA))) w1:=by
    rw [List.cons_append]
    refine aJ.2 (ai ?_ hsat)
    simp only [List.cons_append]
    refine List.Perm.cons _ ?_
    have:=List.Perm.append_right (c.X++(ms++ds).map cA) tk
    simpa only [List.append_assoc] using this
   have hc:=seq (.func (.yield l) #[] #[]) (fun i=>aL (pt l (.loop (cC fn a.tmps psl.toArray x y D .ready none))::J i)) (fun i=>Go.Proofs.YtkeialpeabhaaaaGreat.exs fun jc=>aL (pt l (.loop (cC fn a.tmps psl.toArray x y D .done (some jc)))::X i jc))
    (fun s u s' hu=>FnV.starY (Y:=[]) (Sh:=[]) (FnV.yield (J:=J s++[]) (J':=J s') (X:=X s) hN (hlen s u s' hu) (fun ds=>h1.defs (ds:=ds)) (fun w0 F=>round l _ _ w0 F s u s' hu)))
   refine dA ((hc _ w1 sa).mono ?_)
   rintro en w2 ⟨r,Q,rfl,hsm,hQ,hq⟩
   rcases hQ with ⟨i,hi,rfl⟩ | ⟨i,rfl⟩
   ·rw [List.cons_append] at hq
    have hq:=aJ.1 hq
    have hl2:=aT hq
    refine ⟨none,_,run_endLoop hl2 (by simp [cC]),L,J i++Gm++F,⟨h1.defs,(h2.trans hsame).trans (hsm.trans (Same.putObj _ _ _)),ms++ds,hd2,hr2,?_⟩,done i hi⟩
    have s5:=bE hq (World.putObj_heap_same (o:=.loop { (cC fn a.tmps psl.toArray x y D .ready none) with state:=.exhausted }) (Array.getElem?_eq_some_iff.1 hl2).1) (fun k hk=>World.putObj_heap_other hk)
    have:=cx (l:=[pt l _]) s5
    simpa using this
   ·obtain ⟨jc,hq⟩:=cH.1 (by simpa using hq)
    have hq:=aJ.1 hq
    have hl2:=aT hq
    refine ⟨some jc,_,run_endLoop hl2 (by simp [cC]),?_⟩
    refine stop i jc _ _ ⟨h1.defs,(h2.trans hsame).trans (hsm.trans (Same.putObj _ _ _)),ms++ds,hd2,hr2,?_⟩
    have s5:=bE hq (World.putObj_heap_same (o:=.loop { (cC fn a.tmps psl.toArray x y D .done (some jc)) with state:=.exhausted }) (Array.getElem?_eq_some_iff.1 hl2).1) (fun k hk=>World.putObj_heap_other hk)
    have:=cx (l:=[pt l _]) s5
    simpa using this
 cases hr:c.r with
 | none=>
  rw [hr] at main
  refine main (w.heap.size+1) w.heap.size [w.heap.size] _ (run_enterLoop_outer _ _ _ _ _) ((Same.alloc _ _).trans (Same.alloc _ _)) (fun h=>by simp [hnd] at h) ?_
  have s1:=bh h5 (.deferred (some []))
  have s2:=bh s1 (.loop (cC fn a.tmps psl.toArray x y w.heap.size .ready none))
  rw [World.size_alloc] at s2
  refine ai (List.Perm.cons _ ?_) s2
  simp only [List.cons_append,List.nil_append,List.map_cons]
  have e1:(cA w.heap.size::(H++(c.X++ds.map cA))).Perm (H++(cA w.heap.size::(c.X++ds.map cA))):=List.perm_middle.symm
  exact e1.trans (List.Perm.append_left H List.perm_middle.symm)
 | some l0=>
  obtain ⟨r0,X',hX'⟩:=hX l0 hr
  rw [hr] at main
  have hl0:w.heap[l0]?=some (.loop r0):=by
   rw [hX'] at h5
   have:sat (pt l0 (.loop r0)::(H++(X'++ds.map cA))) w:=ai (by simp only [List.cons_append];exact List.perm_middle) h5
   exact aT this
  refine main w.heap.size r0.defers [] _ (run_enterLoop_inner hl0 _ _ _ _ _) (Same.alloc _ _) (fun _=>rfl) ?_
  exact bh h5 _
section
def qX:Value→List UInt8
 | .string s=>s.toList
 | _=>[]
theorem Bs {l:List SN}:∀ {bs:List Nat} {x y:MapEntry},(l.map (·.1)).Nodup→x∈cV l bs→y∈cV l bs→x.key=y.key→x=y:=by
 induction l with
 | nil=>intro bs x y _ h;simp [cV] at h
 | cons a l ih=>
  intro bs x y hn hx hy he
  cases bs with
  | nil=>simp [cV] at hx
  | cons b bs=>
   rw [List.map_cons,List.nodup_cons] at hn
   simp only [cV] at hx hy
   rcases List.mem_cons.1 hx with rfl | hx <;> rcases List.mem_cons.1 hy with rfl | hy
   ·rfl
   ·obtain ⟨kv,h1,h2,_⟩:=m0 hy
    rw [h2] at he
    have:a.1=kv.1:=by have:=congrArg qX he;simpa [qX,ip] using this
    exact absurd (by rw [this];exact List.mem_map_of_mem h1) hn.1
   ·obtain ⟨kv,h1,h2,_⟩:=m0 hx
    rw [h2] at he
    have:kv.1=a.1:=by have:=congrArg qX he;simpa [qX,ip] using this
    exact absurd (by rw [← this];exact List.mem_map_of_mem h1) hn.1
   ·exact ih hn.2 hx hy he
theorem wA {L:List MapEntry} (h:(L.map (·.born)).Nodup) {x y:MapEntry} (hx:x∈L) (hy:y∈L) (e:x.born=y.born):x=y:=by
 induction L with
 | nil=>cases hx
 | cons a L ih=>
  rw [List.map_cons,List.nodup_cons] at h
  rcases List.mem_cons.1 hx with e1 | hx' <;> rcases List.mem_cons.1 hy with e2 | hy'
  ·rw [e1,e2]
  ·exact absurd (by rw [← e1,e];exact List.mem_map_of_mem hy') h.1
  ·exact absurd (by rw [← e2,← e];exact List.mem_map_of_mem hx') h.1
  ·exact ih h.2 hx' hy'
theorem Bt {l:List SN}:∀ {bs:List Nat} {kv:SN},bs.length=l.length→kv∈l→∃ e∈cV l bs,e.key=str kv.1:=by
 induction l with
 | nil=>intro bs kv _ h;cases h
 | cons a l ih=>
  intro bs kv hb h
  cases bs with
  | nil=>cases hb
  | cons b bs=>
   simp only [cV]
   rcases List.mem_cons.1 h with rfl | h
   ·exact ⟨_,List.mem_cons_self,rfl⟩
   ·obtain ⟨e,h1,h2⟩:=ih (by simpa using hb) h
    exact ⟨e,List.mem_cons_of_mem _ h1,h2⟩
theorem BW {a b:List UInt8} (h:str a=str b):a=b:=by have:=congrArg qX h;simpa [qX,ip] using this
def BK (l:List SN) (hist:List (List UInt8)) (last:Option SN) (x:ItD):Prop:=
 x.bs.length=l.length∧(∀ c∈x.bs,c < x.since)∧x.bs.Nodup∧x.since≤x.c0∧x.since≤x.n∧(∀ e∈cV l x.bs,x.seen.contains e.born=true↔∃ k∈hist,e.key=str k) ∧
  ∀ kv,last=some kv→x.c0=x.n∧∃ e s,e∈cV l x.bs∧e.key=str kv.1∧e.val=i64 (kv.2:Nat)∧x.seen=Array.push s e.born
def eh (b r:Nat) (l:List SN) (hist:List (List UInt8)) (last:Option SN):HP:=exs fun x:ItD=>aL [pur (BK l hist last x),pt b (cP l x.bs x.n),pt r (.mapIter (some b) x.since x.seen x.c0)]
section rules
variable {P:Program} {c:Cx} {A:Array Oper} {rest os:List Oper} {K:aY} {L:Env} {H F:List HP} {t:TypeId} {p:String} {e:Array Edge}
variable {d b r:Nat} {x y u:Operand} {mt kt et:TypeId} {l:List SN} {last:Option SN} {hist:List (List UInt8)}
theorem tg {x:ItD} (h:BK l hist last x) {H:List HP} {w:World} (s:sat (pt r (.mapIter (some b) x.since x.seen x.c0)::pt b (cP l x.bs x.n)::H) w):sat (eh b r l hist last::H) w:=by
 unfold eh
 exact cH.2 ⟨x,aJ.2 (bF.2 ⟨h,ai (List.Perm.swap _ _ _) s⟩)⟩
theorem GO.itOpenH (tk:Tk (eh b r l hist last) H F) (g:∀ x:ItD,BK l hist last x→GO P c A os K L (pt r (.mapIter (some b) x.since x.seen x.c0)::pt b (cP l x.bs x.n)::F)):GO P c A os K L H:=
 GO.take tk (GO.exs fun x=>GO.flat (GO.pur fun h=>GO.imp (fun _ _ s=>ai (List.Perm.swap _ _ _) s) (g x h)))
theorem GO.mapRangeH [hm:UL P mt (.map kt et)] (hN:Nat.blt d c.N=true) (hx:evl L x=some (.map (some b))) (tk:Tk (cU b l) H F)
  (g:∀ r,GO P c A rest K ((d,ah r)::L) (eh b r l [] none::F)):GO P c A (⟨some d,.range mt x,t,p,e,none⟩::rest) K L H:=
 GO.mapOpen tk fun bs n h1 h2 h3=>GO.gen hN rfl (fun v H'=>∃ r,v=ah r∧H'=eh b r l [] none::F)
  (fun a w Y h s=>by
   have hb:=aT s
   refine ⟨ah w.heap.size,w.alloc (.mapIter (some b) n #[] n),_,?_,Same.alloc w _,⟨w.heap.size,rfl,rfl⟩,tg (x:=⟨bs,n,n,#[],n⟩) ⟨h1,h2,h3,Nat.le_refl _,Nat.le_refl _,fun e _=>⟨fun h=>by simp at h,fun ⟨k,hk,_⟩=>by cases hk⟩,fun kv h=>by cases h⟩ (bh s _)⟩
   simp only [execOp,h.eval hx,Sem.run_bind]
   have:=run_range_map (P:=P) w mt kt et b _ n hm.out hb
   simp [this,Result.andThen]) (by rintro _ _ ⟨r,rfl,rfl⟩;exact g r)
theorem GO.mapNextH (hk:(l.map (·.1)).Nodup) (hN:Nat.blt d c.N=true) (hx:evl L x=some (ah r)) (tk:Tk (eh b r l hist last) H F)
  (g0:(∀ kv∈l,kv.1∈hist)→GO P c A rest K ((d,.tuple #[.bool false])::L) (eh b r l hist last::F))
  (g1:∀ kv,kv∈l→kv.1 ∉ hist→GO P c A rest K ((d,.tuple #[.bool true,str kv.1,i64 (kv.2:Nat)])::L) (eh b r l (hist++[kv.1]) (some kv)::F)):GO P c A (⟨some d,.next x false,t,p,e,none⟩::rest) K L H:=
 GO.itOpenH tk fun z hz=>GO.gen hN rfl (fun v H'=>((∀ kv∈l,kv.1∈hist)∧v=.tuple #[.bool false]∧H'=eh b r l hist last::F)∨∃ kv,kv∈l∧kv.1 ∉ hist∧v=.tuple #[.bool true,str kv.1,i64 (kv.2:Nat)]∧H'=eh b r l (hist++[kv.1]) (some kv)::F)
  (fun a w Y h s=>by
   have hr:=aT s
   have hb:=aT (ai (List.Perm.swap _ _ _) s)
   obtain ⟨h1,h2,h3,h4,h5,h6,h7⟩:=hz
   have hborn:=iG l z.bs h1
   rcases run_next_at (P:=P) w t r b z.since z.c0 z.seen _ z.n hr hb (fun x hx=>h2 _ (by rw [← hborn];exact List.mem_map_of_mem (by simpa using hx))) h4 with ⟨g0,hrun⟩ | ⟨en,he,w1,hal,hrun⟩
   ·refine ⟨_,w,_,?_,Same.refl w,.inl ⟨fun kv hkv=>?_,rfl,rfl⟩,tg (x:=z) ⟨h1,h2,h3,h4,h5,h6,h7⟩ s⟩
    ·simp only [execOp,h.eval hx,Sem.run_bind]
     simp [hrun,Result.andThen]
    ·obtain ⟨e',he',hke⟩:=Bt h1 hkv
     have hs:z.seen.contains e'.born=true:=by
      cases hc:z.seen.contains e'.born with
      | true=>rfl
      | false=>
       have hm:e'∈(leftOf (cV l z.bs).toArray z.seen).toList:=by
        have e1:(leftOf (cV l z.bs).toArray z.seen).toList=(cV l z.bs).filter fun y=>!z.seen.contains y.born:=by unfold leftOf;simp
        rw [e1,List.mem_filter]
        exact ⟨he',by rw [hc];rfl⟩
       have:=List.length_pos_of_mem hm
       rw [Array.length_toList] at this
       omega
     obtain ⟨k,hk1,hk2⟩:=(h6 e' he').1 hs
     rw [hke] at hk2
     rw [BW hk2];exact hk1
   ·obtain ⟨hem,hns⟩:=mem_left he
    have hem':en∈cV l z.bs:=by simpa using hem
    obtain ⟨kv,hkv,hk1,hk2⟩:=m0 hem'
    have hw1:Same w w1∧w1.heap=w.heap:=by
     rcases hal with rfl | rfl
     ·exact ⟨Same.refl _,rfl⟩
     ·exact ⟨Same.drawn _ (by omega),rfl⟩
    have hlt:=(Array.getElem?_eq_some_iff.1 hr).1
    have hnew:kv.1 ∉ hist:=fun hin=>by
     have:=(h6 en hem').2 ⟨kv.1,hin,hk1⟩
     rw [hns] at this
     cases this
    have h6':∀ e'∈cV l z.bs,(z.seen.push en.born).contains e'.born=true↔∃ k∈hist++[kv.1],e'.key=str k:=fun e' he'=>by
     rw [Array.contains_push,Bool.or_eq_true]
     constructor
     ·rintro (h | h)
      ·obtain ⟨k,a1,a2⟩:=(h6 e' he').1 h
       exact ⟨k,by simp [a1],a2⟩
      ·have:e'=en:=wA (by rw [hborn];exact h3) he' hem' (by simpa using h)
       exact ⟨kv.1,by simp,by rw [this];exact hk1⟩
     ·rintro ⟨k,a1,a2⟩
      rcases List.mem_append.1 a1 with a1 | a1
      ·exact .inl ((h6 e' he').2 ⟨k,a1,a2⟩)
      ·have:e'=en:=Bs hk he' hem' (by rw [a2,hk1,List.mem_singleton.1 a1])
       right
       rw [this];simp
    refine ⟨.tuple #[.bool true,en.key,en.val],ChangeMaps.setBlock w1 r (.mapIter (some b) z.since (z.seen.push en.born) z.n),_,?_,hw1.1.trans ⟨rfl,rfl,rfl,by simp [ChangeMaps.setBlock],Nat.le_refl _⟩,.inr ⟨kv,hkv,hnew,by rw [hk1,hk2],rfl⟩,
     tg (x:=⟨z.bs,z.n,z.since,z.seen.push en.born,z.n⟩) ⟨h1,h2,h3,h5,h5,h6',fun kv' hkv'=>by cases hkv';exact ⟨rfl,en,z.seen,hem',hk1,hk2,rfl⟩⟩ (bE s ?_ ?_)⟩
    ·simp only [execOp,h.eval hx,Sem.run_bind]
     simp [hrun,Result.andThen]
    ·simp [ChangeMaps.setBlock,hw1.2,hlt]
    ·intro j hj
     simp only [ChangeMaps.setBlock,hw1.2]
     rw [Array.getElem?_setIfInBounds_ne (Ne.symm hj)])
  (by rintro _ _ (⟨h,rfl,rfl⟩ | ⟨kv,h,hkv,rfl,rfl⟩);exact g0 h;exact g1 kv h hkv)
theorem GO.mapEntryH {kv:SN} (hN:Nat.blt d c.N=true) (hx:evl L x=some (ah r)) (tk:Tk (eh b r l hist (some kv)) H F)
  (g:GO P c A rest K ((d,.tuple #[str kv.1,i64 (kv.2:Nat)])::L) (eh b r l hist (some kv)::F)):GO P c A (⟨some d,.entry x,t,p,e,none⟩::rest) K L H:=
 GO.itOpenH tk fun z hz=>GO.val hN rfl (fun a w Y h s=>by
  have hr:=aT s
  have hb:=aT (ai (List.Perm.swap _ _ _) s)
  obtain ⟨h1,h2,h3,h4,h5,h6,h7⟩:=hz
  obtain ⟨h8,en,sn,h9,h10,h11,h12⟩:=h7 kv rfl
  rw [h12,h8] at hr
  have:=run_entry_at (P:=P) w r b z.since sn _ z.n en hr hb (by simpa using h9) (by simpa [iG l z.bs h1] using h3)
  simp only [execOp,h.eval hx,Sem.run_bind]
  simp [this,h10,h11,Result.andThen]) (GO.imp (fun _ _ s=>tg hz s) g)
end rules
theorem ImpS.itOutH {b r:Nat} {hist:List (List UInt8)} {l:List SN} {last:Option SN} {H M:List HP} (h:ImpS H (eh b r l hist last::M)):ImpS H (cU b l::M):=fun l' w s=>by
 have s1:=h l' w s
 unfold eh at s1
 obtain ⟨x,s1⟩:=cH.1 s1
 obtain ⟨⟨h1,h2,h3,h4,h5,_⟩,s1⟩:=bF.1 (aJ.1 s1)
 exact j5 h1 (fun c hc=>by have:=h2 c hc;omega) h3 (cx (l:=[pt r _]) (ai (List.Perm.swap _ _ _) s1))
end
section
def OkK (l:List SN) (hist:List (List UInt8)) (u:List Value) (hist':List (List UInt8)):Prop:=hist.length≤l.length∧∃ k,k∈l.map (·.1)∧k ∉ hist∧u=[str k]∧hist'=hist++[k]
def kc (l:List SN) (hist:List (List UInt8)):Prop:=hist.Nodup∧∀ k,k∈hist↔k∈l.map (·.1)
def xJ (l:List SN) (hist:List (List UInt8)):Nat:=(l.filter fun kv=>decide (kv.1 ∉ hist)).length
theorem B8 {l:List SN} {hist:List (List UInt8)} {kv:SN} (h:kv∈l) (h2:kv.1 ∉ hist):xJ l (hist++[kv.1]) < xJ l hist:=
 zC (fun x _ hx=>by
  have hx:=of_decide_eq_true hx
  exact decide_eq_true fun h=>hx (List.mem_append_left _ h)) h (decide_eq_false (by simp)) (decide_eq_true h2)
theorem lR {l:List SN} {hist:List (List UInt8)} (h:hist.Nodup) (hs:∀ k∈hist,k∈l.map (·.1)):hist.length≤l.length:=by
 have h2:∀ (a b:List (List UInt8)),a.Nodup→(∀ k∈a,k∈b)→a.length≤b.length:=by
  intro a
  induction a with
  | nil=>intro b _ _;exact Nat.zero_le _
  | cons x a ih=>
   intro b hn hsub
   rw [List.nodup_cons] at hn
   have hx:=hsub x (by simp)
   have:=ih (b.erase x) hn.2 fun k hk=>by
    have hkb:=hsub k (by simp [hk])
    exact (List.mem_erase_of_ne (fun e=>hn.1 (by rw [← e];exact hk))).2 hkb
   rw [List.length_erase_of_mem hx] at this
   have:=List.length_pos_of_mem hx
   rw [List.length_cons];omega
 have:=h2 hist (l.map (·.1)) h hs
 rwa [List.length_map] at this
attribute [local irreducible] bO G GO GR GT Fn FnX FnV FnXV Dfr pt init exs pur sat own ImpS cU eh bn dC xJ
theorem Ci (l:List SN) (hk:(l.map (·.1)).Nodup) (mb bx:Nat) (y:Value) (J X:List (List UInt8)→HP)
  (hy:∀ hist u hist',OkK l hist u hist'→FnV Tryz.prog y u (J hist::([]++[])) (fun v Q=>(v=.bool true∧Q=J hist'::[])∨(v=.bool false∧Q=X hist::[]))) :
  Fn Tryz.prog 165 #[y,ah bx] [J [],pt bx (row [.map (some mb)] 207),cU mb l] (fun _ Q=>(∃ hist,kc l hist∧Q=J hist::[pt bx (row [.map (some mb)] 207),cU mb l])∨∃ hist,Q=X hist::[pt bx (row [.map (some mb)] 207),cU mb l]):=by
 refine Fn.mk2 Tryz.func165 rfl rfl fun w0 F=>?_
 apply Ru
 refine GO.mapRangeH (l:=l) rfl rfl (Tk.t (Tk.t Tk.h)) fun r=>?_
 apply Ru
 refine G.loopI (σ:=List (List UInt8) × Option SN) (fun z=>[(0,y),(1,ah bx),(5,ah r)]) (fun z=>eh mb r l z.1 z.2::J z.1::pt bx (row [.map (some mb)] 207)::F) (fun z=>z.1.Nodup∧∀ k∈z.1,k∈l.map (·.1)) (fun z=>xJ l z.1) ([],none) ⟨.nil,fun k h=>by cases h⟩ ?_ ?_ ?_
 ·exact SE rfl
 ·exact ImpS.sb SB
 rintro ⟨hist,last⟩ ⟨hn,hs⟩
 dsimp only at hn hs ⊢
 apply Ru
 refine GO.mapNextH (l:=l) hk rfl rfl Tk.h (fun h0=>?_) (fun kv hkv hnew=>?_)
 ·apply Ru
  refine KF2.n0 rfl (.inl ⟨hist,⟨hn,fun k=>⟨hs k,fun h=>?_⟩⟩,rfl⟩) (ImpS.trans (ImpS.itOutH (b:=mb) (r:=r) (l:=l) (hist:=hist) (last:=last) (M:=J hist::pt bx (row [.map (some mb)] 207)::F) (ImpS.sb ?_)) (ImpS.sb ?_))
  ·obtain ⟨kv,h1,rfl⟩:=List.mem_map.1 h
   exact h0 kv h1
  ·exact SB
  ·exact SB
 ·apply Ru
  refine GO.mapEntryH (l:=l) rfl rfl Tk.h ?_
  apply Ru
  have hmem:kv.1∈l.map (·.1):=List.mem_map_of_mem hkv
  refine GO.callV1 rfl rfl rfl (hy hist _ _ ⟨lR hn hs,kv.1,hmem,hnew,rfl,rfl⟩) (Tks.c (Tk.t Tk.h) Tks.n) ?_
  rintro _ _ (⟨rfl,rfl⟩ | ⟨rfl,rfl⟩)
  ·have hlt:=B8 hkv hnew
   (apply Ru;refine G.condF rfl rfl ?_;apply Ru)
   refine ⟨(hist++[kv.1],some kv),⟨?_,?_⟩,hlt,?_,ImpS.sb ?_⟩
   ·exact List.nodup_append.2 ⟨hn,by simp,fun a ha b hb e=>hnew (by rw [List.mem_singleton.1 hb] at e;rw [← e];exact ha)⟩
   ·intro k h
    rcases List.mem_append.1 h with h | h
    ·exact hs k h
    ·rw [List.mem_singleton.1 h];exact hmem
   ·exact SE rfl
   ·exact SB
  ·(apply Ru;refine G.condT rfl rfl ?_;apply Ru)
   refine KF2.r0 rfl (.inr ⟨hist,rfl⟩) (ImpS.trans (ImpS.itOutH (b:=mb) (r:=r) (l:=l) (hist:=hist++[kv.1]) (last:=some kv) (M:=X hist::pt bx (row [.map (some mb)] 207)::F) (ImpS.sb ?_)) (ImpS.sb ?_))
   ·exact SB
   ·exact SB
theorem za (l:List SN) (hk:(l.map (·.1)).Nodup) (mb bx:Nat):BH Tryz.prog (.func (.func 165) #[] #[ah bx]) (List (List UInt8)) [] (OkK l) (kc l) [pt bx (row [.map (some mb)] 207),cU mb l]:=
 ⟨_,#[ah bx],rfl,inferInstance,fun y J X hy=>Ci l hk mb bx y J X hy⟩
def w4 (b:Nat) (hist:List (List UInt8)):HP:=qe b 22 9 1 hist.length (aI hist)
theorem xX {b:Nat} {ss:List (List UInt8)} {v:Value} {H M:List HP} (k:ImpS H (pt b (row [v] 22)::own 9 1 ss.length v (aI ss)::M)):ImpS H (w4 b ss::M):=nP v k
theorem G.accHOut {c:Cx} {K:aY} {L:Env} {H:List HP} {x:Code} {b:Nat} {ss:List (List UInt8)} (k:∀ v,v.oneCell'=true→G Tryz.prog c x K L (pt b (row [v] 22)::own 9 1 ss.length v (aI ss)::H)):G Tryz.prog c x K L (w4 b ss::H):=G.accOut k
theorem GO.accHOut {c:Cx} {A:Array Oper} {os:List Oper} {K:aY} {L:Env} {H:List HP} {b:Nat} {ss:List (List UInt8)} (k:∀ v,v.oneCell'=true→GO Tryz.prog c A os K L (pt b (row [v] 22)::own 9 1 ss.length v (aI ss)::H)):GO Tryz.prog c A os K L (w4 b ss::H):=GO.accOut k
attribute [local irreducible] qe w4
theorem vY (g:Value) (l:List SN) (z1 z2:HP) (hn:¬ 16777216 < l.length) (hg:BH Tryz.prog g (List (List UInt8)) [] (OkK l) (kc l) [z1,z2]) :
  Fn Tryz.prog 208 #[.slice none 0 0,g] [z1,z2] (fun r Q=>∃ ss:List (List UInt8),kc l ss∧Q=[own 9 1 ss.length r (aI ss),z1,z2]):=by
 refine Fn.mk2 Tryz.func208 rfl rfl fun w0 F=>?_
 (apply Ru;refine sbx fun b2=>?_;apply Ru)
 refine G.ownNil (T:=9) (sz:=1) ?_
 refine G.keep (H':=w4 b2 []::z1::z2::F) (xX (ss:=[]) (v:=.slice none 0 0) (ImpS.sb (by ((refine Sb.c (Tk.t Tk.h) ?_;refine Sb.c Tk.h ?_;exact SB);skip)))) ?_
 refine G.rangeW (F:=F) (psl:=[7]) (v:=g) (σ:=List (List UInt8)) (s0:=[]) (Ok:=OkK l) (Fin:=kc l) (Gm:=[z1,z2]) (fun hist=>[w4 b2 hist]) (fun _ _=>[pur False]) (fun _ h=>by cases h) rfl (fun s u s' h=>by obtain ⟨_,k,_,_,rfl,_⟩:=h;rfl) rfl hg ?_ (fun lp Lr Lb w1 F1 hist u hist' hv=>?_) (fun hist hfin=>?_) ?_
 ·(exact Tks.n)
 ·obtain ⟨hlen,k,hk1,hk2,rfl,rfl⟩:=hv
  change G _ _ _ _ ((7,str k)::_) (w4 b2 hist::F1)
  refine G.accHOut fun v hv=>?_
  (apply Ru;refine GO.assign rfl rfl ?_;apply Ru)
  refine Bc ?_
  (apply Ru;refine GO.load1 rfl rfl rfl Tk.h rfl ?_;refine GO.move rfl rfl ?_)
  refine GO.buildSlice1 (n:=1) rfl rfl (fun v hv=>by rw [List.mem_singleton.1 hv];rfl) rfl ⟨by decide,by decide⟩ fun bs=>?_
  refine GO.appendOwn (m:=1) (news:=[str k]) rfl rfl rfl (Tk.t (Tk.t Tk.h)) Tk.h rfl (by simp [Value.oneCell',str]) ⟨by decide,rfl⟩ Nat.one_pos (by unfold maxLen;omega) (by omega) fun v4=>?_
  refine GO.ownOne Tk.h fun hone4=>?_
  (refine GO.store1 rfl rfl (by assumption) (Tk.t (Tk.t Tk.h)) (by simp) ?_;apply Ru)
  refine zd (xX (ss:=hist++[k]) (v:=v4) ?_)
  rw [show aI (hist++[k])=aI hist++[str k] by simp [aI],List.length_append,List.length_cons,List.length_nil]
  exact ImpS.sb (by ((refine Sb.c Tk.h ?_;refine Sb.c Tk.h ?_);(refine Sb.s ?_;exact Sb.r)))
 ·change cB _ _ _ _ (w4 b2 hist::z1::z2::F)
  apply Ru
  refine GO.accHOut fun v hv=>?_
  apply Ru
  exact kr1 rfl ⟨hist,hfin,rfl⟩
 ·intro i jc
  exact G.pur fun h=>h.elim
end
section
theorem putN_mem {k k':List UInt8} {v:Nat}:∀ {l:List SN},k'∈(fH k v l).map (·.1)↔k'=k∨k'∈l.map (·.1)
 | []=>by simp [fH]
 | (a,u)::l=>by
  simp only [fH]
  by_cases h:k=a
  ·rw [if_pos h,h,List.map_cons,List.map_cons,List.mem_cons]
   exact ⟨fun q=>.inr q,fun q=>q.elim .inl id⟩
  ·rw [if_neg h,List.map_cons,List.map_cons,List.mem_cons,List.mem_cons,putN_mem]
   exact ⟨fun h=>h.elim (fun h=>.inr (.inl h)) fun h=>h.elim .inl fun h=>.inr (.inr h),fun h=>h.elim (fun h=>.inr (.inl h)) fun h=>h.elim .inl fun h=>.inr (.inr h)⟩
theorem oK {k:List UInt8} {v:Nat}:∀ {l:List SN},(l.map (·.1)).Nodup→((fH k v l).map (·.1)).Nodup
 | [],_=>by simp [fH]
 | (a,u)::l,h=>by
  rw [List.map_cons,List.nodup_cons] at h
  simp only [fH]
  by_cases e:k=a
  ·rw [if_pos e,List.map_cons,List.nodup_cons,e];exact h
  ·rw [if_neg e,List.map_cons,List.nodup_cons,putN_mem]
   exact ⟨fun q=>q.elim (fun q=>e q.symm) h.1,oK h.2⟩
theorem tn {α:Type} {f:List SN→α→List SN} {Q:α→List UInt8→Prop} (h:∀ acc x,(acc.map (·.1)).Nodup→((f acc x).map (·.1)).Nodup∧∀ k,k∈(f acc x).map (·.1)↔Q x k∨k∈acc.map (·.1)) :
  ∀ (l:List α) (acc:List SN),(acc.map (·.1)).Nodup→((l.foldl f acc).map (·.1)).Nodup∧∀ k,k∈(l.foldl f acc).map (·.1)↔(∃ x∈l,Q x k)∨k∈acc.map (·.1)
 | [],acc,ha=>⟨ha,fun k=>by simp⟩
 | x::l,acc,ha=>by
  obtain ⟨h1,h2⟩:=h acc x ha
  obtain ⟨h3,h4⟩:=tn h l _ h1
  refine ⟨h3,fun k=>?_⟩
  rw [List.foldl_cons,h4,h2]
  simp only [List.mem_cons,exists_eq_or_imp]
  rw [← or_assoc,or_comm (a:=∃ x∈l,Q x k)]
theorem oY (g:List RuleD) (kind:Nat):((bn g kind).map (·.1)).Nodup∧∀ k,k∈(bn g kind).map (·.1)↔∃ r∈g,∃ m∈r.body,m.kind=kind∧m.name=k:=by
 have:=tn (f:=gk kind) (Q:=fun r k=>∃ m∈r.body,m.kind=kind∧m.name=k) (fun acc r ha=>tn (f:=ef kind) (Q:=fun m k=>m.kind=kind∧m.name=k) (fun acc m ha=>by
  unfold ef
  by_cases e:m.kind=kind
  ·rw [if_pos e]
   exact ⟨oK ha,fun k=>putN_mem.trans ⟨fun h=>h.elim (fun h=>.inl ⟨e,h.symm⟩) .inr,fun h=>h.elim (fun h=>.inl h.2.symm) .inr⟩⟩
  ·rw [if_neg e]
   exact ⟨ha,fun k=>⟨.inr,fun h=>h.elim (fun h=>absurd h.1 e) id⟩⟩) r.body acc ha) g [] (by simp)
 refine ⟨this.1,fun k=>(this.2 k).trans ?_⟩
 simp
theorem vE {k k':List UInt8} (h:k'≠k):∀ {l:List SN},k'∈l.map (·.1)→k'∈(fT k l).map (·.1)
 | [],hm=>by cases hm
 | (a,u)::l,hm=>by
  simp only [fT]
  rw [List.map_cons,List.mem_cons] at hm
  by_cases e:k=a
  ·rw [if_pos e]
   exact hm.elim (fun q=>absurd (q.trans e.symm) h) id
  ·rw [if_neg e,List.map_cons,List.mem_cons]
   exact hm.elim .inl fun q=>.inr (vE h q)
theorem vD {k:List UInt8}:∀ {g:List RuleD} {l:List SN},(∀ r∈g,k≠r.head)→k∈l.map (·.1)→k∈(g.foldl (fun (acc:List SN) r=>fT r.head acc) l).map (·.1)
 | [],_,_,h=>h
 | r::g,l,hg,h=>vD (fun x hx=>hg x (by simp [hx])) (l:=fT r.head l) (vE (hg r (by simp)) h)
theorem Cf {g:List RuleD} (h:f9 g=0) {r:RuleD} (hr:r∈g) {m:NodeD} (hm:m∈r.body) (hk:m.kind=2):∃ x∈g,x.head=m.name:=by
 refine Classical.byContradiction fun hn=>?_
 have hn:∀ x∈g,m.name≠x.head:=fun x hx e=>hn ⟨x,hx,e.symm⟩
 have:=vD hn (((oY g 2).2 m.name).2 ⟨r,hr,m,hm,hk,rfl⟩)
 unfold f9 at h
 rw [List.length_eq_zero_iff.1 h] at this
 cases this
theorem lh:∀ (g:List RuleD) (acc:List (List UInt8)),acc.Nodup→(g.foldl eC acc).Nodup∧∀ k,k∈g.foldl eC acc↔k∈acc∨∃ r∈g,r.head=k
 | [],acc,ha=>⟨ha,fun k=>by simp⟩
 | r::g,acc,ha=>by
  rw [List.foldl_cons]
  have hh:pp acc r.head=true↔r.head∈acc:=by unfold pp;rw [List.any_eq_true];exact ⟨fun ⟨x,h1,h2⟩=>by rw [of_decide_eq_true h2];exact h1,fun h=>⟨_,h,decide_eq_true rfl⟩⟩
  by_cases e:r.head∈acc
  ·rw [eC,if_pos (hh.2 e)]
   obtain ⟨h1,h2⟩:=lh g acc ha
   refine ⟨h1,fun k=>(h2 k).trans ⟨fun h=>h.elim .inl fun ⟨x,a,b⟩=>.inr ⟨x,by simp [a],b⟩,fun h=>h.elim .inl fun ⟨x,a,b⟩=>?_⟩⟩
   rcases List.mem_cons.1 a with rfl | a
   ·exact .inl (b ▸ e)
   ·exact .inr ⟨x,a,b⟩
  ·rw [eC,if_neg (fun h=>e (hh.1 h))]
   obtain ⟨h1,h2⟩:=lh g (acc++[r.head]) (List.nodup_append.2 ⟨ha,by simp,fun a h b hb q=>e (by rw [List.mem_singleton.1 hb] at q;rw [← q];exact h)⟩)
   refine ⟨h1,fun k=>(h2 k).trans ⟨fun h=>h.elim (fun h=>(List.mem_append.1 h).elim .inl fun h=>.inr ⟨r,by simp,(List.mem_singleton.1 h).symm⟩) fun ⟨x,a,b⟩=>.inr ⟨x,by simp [a],b⟩,fun h=>h.elim (fun h=>.inl (by simp [h])) fun ⟨x,a,b⟩=>?_⟩⟩
   rcases List.mem_cons.1 a with rfl | a
   ·exact .inl (by simp [b])
   ·exact .inr ⟨x,a,b⟩
theorem jR (g:List RuleD):(aS g).Nodup∧∀ k,k∈aS g↔∃ r∈g,r.head=k:=by
 have:=lh g [] (by simp)
 exact ⟨this.1,fun k=>(this.2 k).trans (by simp)⟩
attribute [local irreducible] bO G GO GR GT Fn FnX FnV FnXV Dfr pt init exs pur sat own ImpS cU eh bn dC
theorem zN (g:Value) (l:List SN) (z1 z2:HP) (hn:¬ 16777216 < l.length) (hg:BH Tryz.prog g (List (List UInt8)) [] (OkK l) (kc l) [z1,z2]) :
  Fn Tryz.prog 163 #[g] [z1,z2] (fun r Q=>∃ ss:List (List UInt8),kc l ss∧Q=[own 9 1 ss.length r (aI ss),z1,z2]):=by
 refine Fn.mk2 Tryz.func163 rfl rfl fun w0 F=>?_
 apply Ru
 refine scl (vY g l z1 z2 hn hg) ?_
 rintro r _ ⟨ss,hss,rfl⟩
 apply Ru
 exact kr1 rfl ⟨ss,hss,rfl⟩
theorem As (g:Value) (l:List SN) (z1 z2:HP) (hn:¬ 16777216 < l.length) (hg:BH Tryz.prog g (List (List UInt8)) [] (OkK l) (kc l) [z1,z2]) :
  Fn Tryz.prog 123 #[g] [z1,z2] (fun r Q=>∃ ss:List (List UInt8),kc l ss∧Q=[own 9 1 (dc ss).length r (aI (dc ss)),z1,z2]):=by
 refine Fn.mk2 Tryz.func123 rfl rfl fun w0 F=>?_
 apply Ru
 refine scl (zN g l z1 z2 hn hg) ?_
 rintro r _ ⟨ss,hss,rfl⟩
 have hl:=lR hss.1 fun k hk=>(hss.2 k).1 hk
 apply Ru
 refine scl (ov r ss (by omega)) ?_
 rintro _ _ ⟨rfl,rfl⟩
 apply Ru
 refine KF2.r1 rfl (RV.t rfl) ⟨ss,hss,rfl⟩ (ImpS.sb ?_)
 rw [List.length_mergeSort]
 exact SB
theorem BJ (q:HP) (v:Value) (g:List RuleD) (hq:RulesR q v g) (hl:¬ 4096 < g.length) (hb:∀ r∈g,¬ 4096 < r.body.length) :
  Fn Tryz.prog 56 #[v] [q] (fun r Q=>∃ ss:List (List UInt8),kc (bn g 3) ss∧Q=[own 9 1 (dc ss).length r (aI (dc ss)),q]):=by
 have hnm:=lc q v g 3 hq hl hb
 have hnl:¬ 16777216 < (bn g 3).length:=by have:=j0 (kind:=3) hb;have:=kH hl;omega
 have hnd:=(oY g 3).1
 generalize bn g 3=ns at *
 refine Fn.mk2 Tryz.func56 rfl rfl fun w0 F=>?_
 apply Ru
 refine scl (hnm) ?_
 rintro _ _ ⟨mb,rfl,rfl⟩
 refine scl (rS ns mb) ?_
 rintro _ _ ⟨bx,rfl,rfl⟩
 refine scl (As _ ns _ _ hnl (za ns hnd mb bx)) ?_
 rintro r _ ⟨ss,hss,rfl⟩
 apply Ru
 exact kr1 rfl ⟨ss,hss,rfl⟩
end
end Go.Proofs.YtkeialpeabhaaaaGreat
