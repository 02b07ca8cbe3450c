/-
  The law TopForms, part 4.
-/
import Derived.Test.YtkeialpeabhaaaaGreatM3
import Derived.Lib.AppendZeros
import Derived.Shelf.SlSortCmp.NoneTotal
import Derived.Test.YtkeialpeabhaaaaGreatLaA
import Derived.Test.YtkeialpeabhaaaaGreatLaI
import Derived.Shelf.Sort.Plain
import Derived.MapKept
namespace Go.Proofs.YtkeialpeabhaaaaGreat
open Go
set_option synthInstance.maxHeartbeats 0
set_option synthInstance.maxSize 100000
set_option maxHeartbeats 128000000
set_option maxRecDepth 40000
set_option linter.all false
section
theorem kq {s:List UInt8}:∀ {l:List (List UInt8)},s ∉ l→dS l s=none
 | [],_=>rfl
 | x::l,h=>by
  show (if s=x then some 0 else (dS l s).map (·+1))=none
  rw [if_neg (fun e=>h (by simp [e])),kq (fun e=>h (by simp [e]))];rfl
theorem vy {b:Bool} {s:List UInt8} {m:List (BS × Value)} {l:List (List UInt8)} (hm:∀ i,ev (b,s) m i=none) (h:s ∉ l):ev (b,s) (m++fI b 0 l) 0=none:=by
 rw [pD,hm,kE,kq h];rfl
theorem ku {l:List (List UInt8)} {i:Nat} {s:List UInt8} (h:l.Nodup) (hs:l[i]?=some s):s ∉ l.take i:=fun hm=>by
 obtain ⟨j,hj⟩:=List.getElem?_of_mem hm
 have hlt:=(List.getElem?_eq_some_iff.1 hj).1
 rw [List.length_take] at hlt
 rw [List.getElem?_take_of_lt (by omega)] at hj
 have hi:=(List.getElem?_eq_some_iff.1 hs).1
 have:=(List.getElem?_inj (by omega) h).1 (hj.trans hs.symm)
 omega
theorem gV {l:List (List UInt8)} (h:l.Nodup):(dc l).Nodup:=(List.mergeSort_perm l _).nodup_iff.2 h
theorem mA {l:List (List UInt8)} {s:List UInt8}:s∈dc l↔s∈l:=(List.mergeSort_perm l _).mem_iff
attribute [local irreducible] bO cz G GO GR GT Fn FnX FnV FnXV Dfr pt init exs pur sat own ImpS fI dS bn aS bG lL ev
theorem tR (q:HP) (v:Value) (g:List RuleD) (hq:RulesR q v g) (hf:FitG g) (hc:bG g=0):Fn Tryz.prog 24 #[v] [q] (fun r Q=>∃ bt mb vn vl ss z,kc (bn g 3) ss∧dH z vn (aS g)∧dH z vl (dc ss)∧r=.tuple #[ah bt,i64 0]∧Q=[cG bt mb vn vl,eT mb (aS g) (dc ss),z,q]):=by
 have hck:=jY q v g hq hf
 have hH:=qj q v g hq hf.len
 have hL:=BJ q v g hq hf.len hf.body
 have hhl:=rV g
 have hhn:=(jR g).1
 have hnl:¬ 16777216 < (bn g 3).length:=by have:=j0 (kind:=3) hf.body;have:=kH hf.len;omega
 obtain ⟨a,cap,rfl⟩:=bN hq
 have hfl:=hf.len
 rw [hc] at hck
 generalize aS g=ns at *
 refine Fn.mk2 Tryz.func24 rfl rfl fun w0 F=>?_
 apply Ru
 refine scl (hck) ?_
 rintro _ _ ⟨rfl,rfl⟩
 apply Ru
 refine scl (hH) ?_
 rintro vn _ rfl
 refine GO.ownRdK Tk.h fun zn hzn=>?_
 apply Ru
 refine scl (hL) ?_
 rintro vl _ ⟨ss,hss,rfl⟩
 refine GO.ownRdK Tk.h fun zl hzl=>?_
 have hsl:=lR hss.1 fun k hk=>(hss.2 k).1 hk
 have hln:¬ 16777216 < (dc ss).length:=by rw [List.length_mergeSort];omega
 have hsn:=gV hss.1
 have hrn:∀ i x,ns[i]?=some x→_:=fun i x h=>eX hzn h
 have hrl:∀ i x,(dc ss)[i]?=some x→_:=fun i x h=>eX hzl h
 obtain ⟨an,cn,rfl⟩:=bX hzn
 obtain ⟨al,cl,rfl⟩:=bX hzl
 generalize hls:dc ss=ls at *
 refine GO.makeMapB rfl fun mb=>?_
 (apply Ru;refine sbx fun b21=>?_;apply Ru)
 refine G.loopI (σ:=Nat) (fun i=>[(5,ah b21),(25,.slice an ns.length cn),(26,i64 (ns.length:Nat)),(27,i64 (i:Nat))]) (fun i=>cG b21 mb (.slice an ns.length cn) (.slice al ls.length cl)::pt mb (lL (fI false 0 (ns.take i)))::zn::zl::q::F) (fun i=>i≤ns.length) (fun i=>ns.length - i) 0 (Nat.zero_le _) ?_ ?_ ?_
 ·exact SE rfl
 ·rw [List.take_zero,show fI false 0 []=[] by unfold fI;rfl]
  exact ImpS.sb SB
 ·intro i hi
  try dsimp only
  apply Ru
  by_cases hlt:i < ns.length
  ·have d1:decide ((i:Int) < (ns.length:Int))=true:=decide_eq_true (by omega)
   obtain ⟨x,hx⟩:∃ x,ns[i]?=some x:=⟨_,List.getElem?_eq_getElem hlt⟩
   obtain ⟨b,o,cap2,e,_,rx⟩:=hrn i x hx
   injection e with e _ e2
   subst e e2
   have hnew:=vy (b:=false) (m:=[]) (fun _=>by unfold ev;rfl) (ku hhn hx)
   rw [List.nil_append] at hnew
   (refine scT ?_;refine six ?_;refine sld (by assumption) ?_;apply Ru)
   refine GO.insertB (k:=(false,x)) (v:=i64 (i:Nat)) (l:=fI false 0 (ns.take i)) rfl rfl rfl (Tk.t Tk.h) hnew ?_
   (apply Ru;refine sad ?_)
   refine ⟨i+1,hlt,by omega,?_,?_⟩
   ·exact SE rfl
   ·rw [aG hx,my,List.length_take,Nat.min_eq_left (by omega),Nat.zero_add]
    exact ImpS.sb SB
  ·have d1:decide ((i:Int) < (ns.length:Int))=false:=decide_eq_false (by omega)
   rw [List.take_of_length_le (by omega)]
   refine scF ?_
   refine G.loopI (σ:=Nat) (fun i=>[(5,ah b21),(43,.slice al ls.length cl),(44,i64 (ls.length:Nat)),(45,i64 (i:Nat))]) (fun i=>cG b21 mb (.slice an ns.length cn) (.slice al ls.length cl)::pt mb (lL (fI false 0 ns++fI true 0 (ls.take i)))::zn::zl::q::F) (fun i=>i≤ls.length) (fun i=>ls.length - i) 0 (Nat.zero_le _) ?_ ?_ ?_
   ·exact SE rfl
   ·rw [List.take_zero,show fI true 0 []=[] by unfold fI;rfl,List.append_nil]
    exact ImpS.sb SB
   intro i hi
   try dsimp only
   apply Ru
   by_cases hlt:i < ls.length
   ·have d1:decide ((i:Int) < (ls.length:Int))=true:=decide_eq_true (by omega)
    obtain ⟨x,hx⟩:∃ x,ls[i]?=some x:=⟨_,List.getElem?_eq_getElem hlt⟩
    obtain ⟨b,o,cap2,e,_,rx⟩:=hrl i x hx
    injection e with e _ e2
    subst e e2
    have hnew:=vy (b:=true) (m:=fI false 0 ns) (fun _=>jf (by decide) x ns 0 _) (ku hsn hx)
    (refine scT ?_;refine six ?_;refine sld (by assumption) ?_;apply Ru)
    refine GO.insertB (k:=(true,x)) (v:=i64 (i:Nat)) (l:=fI false 0 ns++fI true 0 (ls.take i)) rfl rfl rfl (Tk.t Tk.h) hnew ?_
    (apply Ru;refine sad ?_)
    refine ⟨i+1,hlt,by omega,?_,?_⟩
    ·exact SE rfl
    ·rw [aG hx,my,List.length_take,Nat.min_eq_left (by omega),Nat.zero_add,← List.append_assoc]
     exact ImpS.sb SB
   ·have d1:decide ((i:Int) < (ls.length:Int))=false:=decide_eq_false (by omega)
    rw [List.take_of_length_le (by omega)]
    refine scF ?_
    refine KF2.r2 rfl (RV.t rfl) (RV.t rfl) ⟨b21,mb,.slice an ns.length cn,.slice al ls.length cl,ss,aL [zn,zl],hss,hzn.sup (Sup.left _ _),?_,rfl,rfl⟩ (ImpS.merge (x:=zn) (y:=zl) (Tks.c (Tk.t (Tk.t Tk.h)) (Tks.c (Tk.t (Tk.t Tk.h)) Tks.n)) (ImpS.sb ?_))
    ·rw [hls]
     exact hzl.sup (Sup.right _ _)
    ·rw [hls]
     ((refine Sb.c (Tk.t Tk.h) ?_;refine Sb.c (Tk.t Tk.h) ?_;exact SB);skip)
end
section
theorem gh (l:List Nat):∀ u∈az l,u.oneCell'=true:=fun u hu=>by
 obtain ⟨x,_,rfl⟩:=List.mem_map.1 hu;rfl
theorem yU {l:List Nat} {i n:Nat} (h:l[i]?=some n):(az l)[i]?=some (i64 (n:Nat)):=by simp [az,h]
abbrev bU (q:HP) (v:Value) (l:List Nat):Prop:=Sl q v l.length 1 (az l)
theorem cM {q:HP} {v:Value} {l:List Nat} (hq:bU q v l):∃ a cap,v=.slice a l.length cap:=let ⟨a,cap,h,_⟩:=hq;⟨a,cap,h⟩
theorem ta {q:HP} {v:Value} {l:List Nat} {i m:Nat} (hq:bU q v l) (h:l[i]?=some m):∃ b o cap,v=.slice (some ⟨b,o,none⟩) l.length cap∧Rd q ⟨b,o+i * 1,none⟩ (i64 (m:Nat)):=by
 obtain ⟨a,cap,rfl,_,hr⟩:=hq
 have hi:=(List.getElem?_eq_some_iff.1 h).1
 obtain ⟨b,o,rfl,hr2⟩:=hr (by omega)
 exact ⟨b,o,cap,rfl,by rw [Nat.mul_one];exact hr2 _ _ (yU h)⟩
section
variable {P:Program} {c:Cx} {A:Array Oper} {rest:List Oper} {K:aY} {L:Env} {H:List HP} {t:TypeId} {p:String} {e:Array Edge} {d:Nat}
theorem GO.appendZ {el at1 at2:TypeId} {sz by_ n:Nat} {zl:List Value} {x y:Operand} {kn:IntKind} [hu:UL P at1 (.slice el)] [hu2:UL P at2 (.int kn)] [hs:SZ P el sz] [hb:BY P el by_] [hz:ZC P el zl]
  (hN:Nat.blt d c.N=true) (hx:evl L x=some (.slice none 0 0)) (hy:evl L y=some (i64 (n:Nat))) (hsz:0 < sz∧zl.length=sz) (hn:0 < n) (hm:n≤maxLen) (hbytes:n * by_≤281474976710656)
  (k:∀ b cap l,n≤cap→cap≤maxLen→l.length=cap * sz→GO P c A rest K ((d,.slice (some ⟨b,0,none⟩) n cap)::L) (pt b (row l el)::H)):GO P c A (⟨some d,.call ⟨.builtin .append,#[x,y],#[at1,at2]⟩,t,p,e,none⟩::rest) K L H:=
 GO.gen hN rfl (fun v' H'=>∃ b cap l,v'=.slice (some ⟨b,0,none⟩) n cap∧n≤cap∧cap≤maxLen∧(l:List Value).length=cap * sz∧H'=pt b (row l el)::H)
  (fun a w Y h s=>by
   have hso:=hs.out
   have hzo:=hz.out
   have hbo:=hb.out
   cases hq:P.info? el with
   | none=>simp [hq] at hso
   | some ie=>
    cases hzz:ie.zero with
    | none=>simp [hq,hzz] at hzo
    | some z=>
     simp only [hq,Option.map_some,Option.some.injEq] at hso hbo
     simp only [hq,hzz,Option.bind_some,Option.map_some,Option.some.injEq] at hzo
     subst hso hbo
     have hzs:z.cells.size=ie.size:=by rw [← hsz.2,← hzo];simp
     have hm':=hm
     unfold maxLen at hm'
     have hrun:=Lib.run_append_nil_zeros (P:=P) w at1 at2 t el ie z .i64 kn hu.out hu2.out hq hzz n hn hsz.1 (by omega) hbytes
     have hge:=grownCap_ge w n 0 el
     have hcm:grownCap w n 0 el≤maxLen:=grownCap_le_maxLen w n 0 el hm
     refine ⟨_,_,pt w.heap.size (row (Builtin.zeroCells z.cells n++Builtin.zeroCells z.cells (grownCap w n 0 el - n)).toList el)::H,?_,Same.trans (Same.drawn _ (Nat.le_add_right _ 1)) (Same.alloc _ (.cells (Builtin.zeroCells z.cells n++Builtin.zeroCells z.cells (grownCap w n 0 el - n)) el)),⟨w.heap.size,grownCap w n 0 el,(Builtin.zeroCells z.cells n++Builtin.zeroCells z.cells (grownCap w n 0 el - n)).toList,rfl,hge,hcm,?_,rfl⟩,?_⟩
     ·simp only [execOp,resolve,invoke,builtin]
      simp [Sem.run_bind,Result.andThen,h.eval hx,h.eval hy,hrun]
     ·rw [Array.length_toList,Array.size_append,size_zeroCells,size_zeroCells,hzs,← Nat.add_mul];congr 1;omega
     ·have:=bh (w:=w.drew) (fD s rfl) (row (Builtin.zeroCells z.cells n++Builtin.zeroCells z.cells (grownCap w n 0 el - n)).toList el)
      have e1:row (Builtin.zeroCells z.cells n++Builtin.zeroCells z.cells (grownCap w n 0 el - n)).toList el=.cells (Builtin.zeroCells z.cells n++Builtin.zeroCells z.cells (grownCap w n 0 el - n)) el:=by unfold row;rw [Array.toArray_toList]
      rw [e1] at this ⊢
      exact this)
  (by rintro _ _ ⟨b,cap,l,rfl,h1,h2,h3,rfl⟩;exact k b cap l h1 h2 h3)
theorem GO.sliceHi0 {ty el:TypeId} {sz:Nat} {kk:IntKind} {x y:Operand} [hu:UL P ty (.slice el)] [hs:SZ P el sz] (hN:Nat.blt d c.N=true) (hx:evl L x=some (.slice none 0 0)) (hy:evl L y=some (.int kk ((0:Nat):Int)))
  (k:GO P c A rest K ((d,.slice none 0 0)::L) H):GO P c A (⟨some d,.slice ty x none (some y) none,t,p,e,none⟩::rest) K L H:=
 GO.val hN rfl (fun a w Y h _=>by
  simp only [execOp,h.eval hx,Option.map_none,Option.map_some,h.eval hy]
  have e0:∀ bc,(Instr.sliceBound (.int kk 0) 0 bc).run P w=.ok 0 w:=fun bc=>run_sliceBound w kk 0 0 bc (Int.le_refl 0) (Int.le_refl 0)
  simp [Instr.sliceAt,Instr.slice,Sem.run_bind,run_underlying hu.out,Instr.sliceBounds,e0,bJ,Result.andThen]) k
end
theorem ImpS.ownZ {T:TypeId} {H:List HP}:ImpS H (Go.Proofs.YtkeialpeabhaaaaGreat.own T 1 0 (.slice none 0 0) []::H):=fun _ _ s=>lE s
theorem ImpS.ownRow {T:TypeId} {b cap:Nat} {l:List Value} {H:List HP} (hc:cap≤maxLen) (hl:l.length=cap * 1):ImpS (pt b (row l T)::H) (Go.Proofs.YtkeialpeabhaaaaGreat.own T 1 0 (.slice (some ⟨b,0,none⟩) 0 cap) []::H):=fun _ _ s=>dM rfl rfl (Nat.zero_le _) hc (by rw [List.nil_append];exact hl) (by rw [List.nil_append];exact s)
attribute [local irreducible] bO cz G GO GR GT Fn FnX FnV FnXV Dfr pt init exs pur sat own ImpS az
theorem jX (q:HP) (v:Value) (l:List Nat) (hq:bU q v l) (hl:¬ 1048576 < l.length):Fn Tryz.prog 139 #[v] [q] (fun r Q=>Q=[own 3 1 l.length r (az l),q]):=by
 have hsl:=hq
 obtain ⟨a,cap,rfl⟩:=cM hq
 refine Fn.mk2 Tryz.func139 rfl rfl fun w0 F=>?_
 refine G.ownNil (T:=3) (sz:=1) ?_
 apply Ru
 cases a with
 | none=>
  have hss:l=[]:=by
   obtain ⟨a',cap',e,_,hr⟩:=hq
   injection e with e1 _ _
   subst e1
   cases l with
   | nil=>rfl
   | cons s ss=>obtain ⟨b,o,h,_⟩:=hr (by simp);cases h
  subst hss
  (refine G.condT rfl rfl ?_;apply Ru)
  refine KF2.r1 rfl (RV.t rfl) rfl (ImpS.sb ?_)
  rw [show az []=[] by unfold az;rfl]
  exact SB
 | some a=>
  (refine G.condF rfl rfl ?_;apply Ru)
  refine GO.buildSlice0 rfl fun v5=>?_
  apply Ru
  refine GO.appendFrom (m:=l.length) (q:=q) rfl rfl rfl Tk.h (Tk.t Tk.h) hsl (gh _) ⟨by decide,rfl⟩ (by unfold maxLen;omega) (by omega) fun v7=>?_
  rw [List.nil_append,Nat.zero_add l.length]
  apply Ru
  exact kr1 rfl rfl
theorem wQ (n:Nat) (hn:¬ 16777216 < n):Fn Tryz.prog 170 #[.slice none 0 0,i64 (n:Nat)] [] (fun r Q=>Q=[own 3 1 0 r []]):=by
 refine Fn.mk2 Tryz.func170 rfl rfl fun w0 F=>?_
 have d1:decide ((n:Int) < 0)=false:=decide_eq_false (by omega)
 (apply Ru;refine G.condF rfl rfl ?_;apply Ru)
 refine GO.capS rfl rfl ?_
 (apply Ru;refine ssu ?_;refine ssu ?_)
 rw [show ((n:Int) - (((0:Nat):Int) - ((0:Nat):Int)))=(n:Int) by omega]
 by_cases h0:0 < n
 ·have d2:decide (0 < (n:Int))=true:=decide_eq_true (by omega)
  refine scT ?_
  refine GO.capS rfl rfl ?_
  refine GO.sliceHi0 rfl rfl rfl ?_
  apply Ru
  refine GO.appendZ (n:=n) rfl rfl rfl ⟨by decide,rfl⟩ h0 (by unfold maxLen;omega) (by omega) fun b cap l g1 g2 g3=>?_
  apply Ru
  refine GO.sliceHi (l:=0) rfl rfl rfl ⟨rfl,Nat.zero_le _⟩ ?_
  apply Ru
  refine KF2.r1 rfl (RV.t rfl) rfl (ImpS.trans (ImpS.ownRow (T:=3) (b:=b) (cap:=cap) (l:=l) (H:=F) g2 g3) (ImpS.sb ?_))
  exact SB
 ·have d2:decide (0 < (n:Int))=false:=decide_eq_false (by omega)
  refine scF ?_
  refine KF2.r1 rfl (RV.t rfl) rfl (ImpS.trans (ImpS.ownZ (T:=3) (H:=F)) (ImpS.sb ?_))
  exact SB
theorem sr {ls:List (List Nat)} {i:Nat} {l:List Nat} (h:ls[i]?=some l):(ls.take (i+1)).flatten=(ls.take i).flatten++l:=by rw [aG h,List.flatten_append,List.flatten_cons,List.flatten_nil,List.append_nil]
theorem xQ (ls:List (List Nat)) (i:Nat):(ls.take i).flatten.length≤ls.flatten.length:=by
 conv=>rhs;rw [← List.take_append_drop i ls]
 rw [List.flatten_append,List.length_append]
 omega
theorem tB (zz z:HP) (v:Value) (vals:List Value) (ls:List (List Nat)) (hv:Sl zz v ls.length 1 vals) (hls:∀ (i:Nat) (l:List Nat),ls[i]?=some l→∃ w,vals[i]?=some w∧w.oneCell'=true∧bU z w l) (hl:¬ 1048576 < ls.length) (ht:¬ 1048576 < ls.flatten.length) :
  Fn Tryz.prog 132 #[v] [zz,z] (fun r Q=>Q=[own 3 1 ls.flatten.length r (az ls.flatten),zz,z]):=by
 have hrd:∀ (i:Nat) (l:List Nat),ls[i]?=some l→∃ b o cap w,v=.slice (some ⟨b,o,none⟩) ls.length cap∧bU z w l∧Rd zz ⟨b,o+i * 1,none⟩ w:=fun i l h=>by
  obtain ⟨w,h1,_,h3⟩:=hls i l h
  obtain ⟨a,cap,rfl,_,hr⟩:=hv
  have hi:=(List.getElem?_eq_some_iff.1 h).1
  obtain ⟨b,o,rfl,hr2⟩:=hr (by omega)
  exact ⟨b,o,cap,w,rfl,h3,by rw [Nat.mul_one];exact hr2 _ _ h1⟩
 obtain ⟨a,cap,rfl,_,_⟩:=hv
 have hgr:=wQ ls.flatten.length (by omega)
 refine Fn.mk2 Tryz.func132 rfl rfl fun w0 F=>?_
 apply Ru
 refine G.loopI (σ:=Nat) (fun i=>[(0,.slice a ls.length cap),(3,i64 ((ls.take i).flatten.length:Nat)),(9,.slice a ls.length cap),(10,i64 (ls.length:Nat)),(11,i64 (i:Nat))]) (fun _=>zz::z::F) (fun i=>i≤ls.length) (fun i=>ls.length - i) 0 (Nat.zero_le _) ?_ ?_ ?_
 ·exact SE rfl
 ·exact ImpS.sb SB
 intro i hi
 apply Ru
 by_cases hlt:i < ls.length
 ·have d1:decide ((i:Int) < (ls.length:Int))=true:=decide_eq_true (by omega)
  obtain ⟨l,hm⟩:∃ l,ls[i]?=some l:=⟨_,List.getElem?_eq_getElem hlt⟩
  obtain ⟨b,o,cap2,w,e,hw,rm⟩:=hrd i l hm
  injection e with e _ e2
  subst e e2
  obtain ⟨aw,cw,rfl⟩:=cM hw
  have h1:=xQ ls (i+1)
  have h2:=sr hm
  rw [h2,List.length_append] at h1
  have d2:decide (((ls.take i).flatten.length:Int)+(l.length:Int) < 0)=false:=decide_eq_false (by omega)
  (refine scT ?_;refine six ?_;refine sld (by assumption) ?_;apply Ru;refine sad ?_;refine G.condF rfl rfl ?_;apply Ru;refine sad ?_)
  refine ⟨i+1,hlt,by omega,?_,?_⟩
  ·rw [h2,List.length_append]
   exact SE rfl
  ·exact ImpS.sb SB
 have d1:decide ((i:Int) < (ls.length:Int))=false:=decide_eq_false (by omega)
 rw [List.take_of_length_le (by omega)]
 refine scF ?_
 refine scl (hgr) ?_
 rintro r _ rfl
 apply Ru
 refine G.loopI (σ:=Nat × Value) (fun z=>[(6,z.2),(25,.slice a ls.length cap),(26,i64 (ls.length:Nat)),(27,i64 (z.1:Nat))]) (fun x=>own 3 1 (ls.take x.1).flatten.length x.2 (az (ls.take x.1).flatten)::zz::z::F) (fun x=>x.1≤ls.length) (fun x=>ls.length - x.1) (0,r) (Nat.zero_le _) ?_ ?_ ?_
 ·exact SE rfl
 ·rw [List.take_zero,List.flatten_nil,show az []=[] by unfold az;rfl]
  exact ImpS.sb SB
 rintro ⟨i,v6⟩ hi
 dsimp only at hi ⊢
 clear d1
 apply Ru
 by_cases hlt:i < ls.length
 ·have d1:decide ((i:Int) < (ls.length:Int))=true:=decide_eq_true (by omega)
  obtain ⟨l,hm⟩:∃ l,ls[i]?=some l:=⟨_,List.getElem?_eq_getElem hlt⟩
  obtain ⟨b,o,cap2,w,e,hw,rm⟩:=hrd i l hm
  injection e with e _ e2
  subst e e2
  have hw':=hw
  obtain ⟨aw,cw,rfl⟩:=cM hw
  have h1:=xQ ls (i+1)
  have h2:=sr hm
  rw [h2,List.length_append] at h1
  (refine scT ?_;refine six ?_;refine sld (by assumption) ?_;apply Ru)
  refine GO.appendFrom (m:=l.length) (q:=z) rfl rfl rfl Tk.h (Tk.t Tk.h) hw' (gh _) ⟨by decide,rfl⟩ (by unfold maxLen;omega) (by omega) fun v7=>?_
  (apply Ru;refine sad ?_)
  refine ⟨(i+1,v7),hlt,by dsimp only;omega,?_,?_⟩
  ·exact SE rfl
  ·dsimp only
   rw [h2,List.length_append,cK]
   exact ImpS.sb SB
 have d1:decide ((i:Int) < (ls.length:Int))=false:=decide_eq_false (by omega)
 rw [List.take_of_length_le (by omega)]
 refine scF ?_
 exact kr1 rfl rfl
end
section
structure TOrd {α:Type} (cf:α→α→Int):Prop where
 anti:∀ a b,cf b a=- cf a b
 eq:∀ a b,cf a b=0→a=b
 trans:∀ a b c,cf a b < 0→cf b c < 0→cf a c < 0
theorem TOrd.self {α:Type} {cf:α→α→Int} (h:TOrd cf) (a:α):cf a a=0:=by have:=h.anti a a;omega
theorem TOrd.swo {α:Type} {cf:α→α→Int} (h:TOrd cf):Go.Sort.SWO (Go.Proofs.ltOf cf) where
 irrefl x:=by unfold Go.Proofs.ltOf;rw [h.self x];rfl
 trans x y z h1 h2:=by
  unfold Go.Proofs.ltOf at *
  exact decide_eq_true (h.trans x y z (of_decide_eq_true h1) (of_decide_eq_true h2))
 ntrans x y z h1 h2:=by
  unfold Go.Proofs.ltOf at *
  have h1:=of_decide_eq_false h1
  have h2:=of_decide_eq_false h2
  refine decide_eq_false fun h3=>?_
  have a1:=h.anti x y
  have a2:=h.anti y z
  by_cases e1:cf x y=0
  ·rw [h.eq x y e1] at h3;omega
  by_cases e2:cf y z=0
  ·rw [← h.eq y z e2] at h3;omega
  have:=h.trans z y x (by omega) (by omega)
  have a3:=h.anti x z
  omega
theorem TOrd.tot {α:Type} {cf:α→α→Int} (h:TOrd cf):∀ x y,Go.Proofs.ltOf cf x y=false→Go.Proofs.ltOf cf y x=false→x=y:=fun x y h1 h2=>by
 unfold Go.Proofs.ltOf at *
 have h1:=of_decide_eq_false h1
 have h2:=of_decide_eq_false h2
 have:=h.anti x y
 exact h.eq x y (by omega)
def dy (m n:Int):Int:=if m < n then -1 else if n < m then 1 else 0
theorem cmpI_ord:TOrd dy where
 anti a b:=by
  unfold dy;repeat' split
  all_goals omega
 eq a b h:=by unfold dy at h;split at h <;> (try split at h) <;> omega
 trans a b c h1 h2:=by
  have:∀ x y,dy x y < 0→x < y:=fun x y h=>by unfold dy at h;split at h <;> (try split at h) <;> omega
  have h1:=this _ _ h1;have h2:=this _ _ h2
  unfold dy;rw [if_pos (by omega)];decide
def ia (x y:SyD):Int:=if x.lab=y.lab then dy x.num y.num else if x.lab=true then 1 else -1
theorem symC_ord:TOrd ia where
 anti a b:=by
  obtain ⟨a,m⟩:=a;obtain ⟨b,n⟩:=b
  unfold ia
  have:=cmpI_ord.anti m n
  cases a <;> cases b <;> simp [this]
 eq a b h:=by
  obtain ⟨a,m⟩:=a;obtain ⟨b,n⟩:=b
  unfold ia at h
  have:=cmpI_ord.eq m n
  cases a <;> cases b <;> simp at h ⊢ <;> (have:=this h;omega)
 trans a b c h1 h2:=by
  obtain ⟨a,m⟩:=a;obtain ⟨b,n⟩:=b;obtain ⟨c,k⟩:=c
  unfold ia at *
  have:=cmpI_ord.trans m n k
  cases a <;> cases b <;> cases c <;> simp at h1 h2 ⊢ <;> exact this h1 h2
def orI:List Int→Int
 | []=>0
 | x::r=>if x=0 then orI r else x
def bL (a b:ArD):Int:=orI [dy a.src b.src,ia a.sym b.sym,dy a.dst b.dst]
theorem yK (a b:ArD):bL a b < 0↔dy a.src b.src < 0∨(a.src=b.src∧(ia a.sym b.sym < 0∨(a.sym=b.sym∧dy a.dst b.dst < 0))):=by
 unfold bL
 simp only [orI]
 constructor
 ·intro h
  by_cases g1:dy a.src b.src=0
  ·rw [if_pos g1] at h
   refine .inr ⟨by have:=cmpI_ord.eq _ _ g1;omega,?_⟩
   by_cases g2:ia a.sym b.sym=0
   ·rw [if_pos g2] at h
    refine .inr ⟨symC_ord.eq _ _ g2,?_⟩
    by_cases g3:dy a.dst b.dst=0
    ·rw [if_pos g3] at h;omega
    ·rw [if_neg g3] at h;exact h
   ·rw [if_neg g2] at h;exact .inl h
  ·rw [if_neg g1] at h;exact .inl h
 ·rintro (h | ⟨e1,h⟩)
  ·rw [if_neg (by omega)];exact h
  ·rw [e1,cmpI_ord.self,if_pos rfl]
   rcases h with h | ⟨e2,h⟩
   ·rw [if_neg (by omega)];exact h
   ·rw [e2,symC_ord.self,if_pos rfl,if_neg (by omega)];exact h
theorem orderA_ord:TOrd bL where
 anti a b:=by
  have h1:=cmpI_ord.anti a.src b.src
  have h2:=symC_ord.anti a.sym b.sym
  have h3:=cmpI_ord.anti a.dst b.dst
  unfold bL
  simp only [orI]
  repeat' split
  all_goals omega
 eq a b h:=by
  unfold bL at h
  simp only [orI] at h
  have h1:dy a.src b.src=0:=by split at h;assumption;exact absurd h (by assumption)
  rw [if_pos h1] at h
  have h2:ia a.sym b.sym=0:=by split at h;assumption;exact absurd h (by assumption)
  rw [if_pos h2] at h
  have h3:dy a.dst b.dst=0:=by split at h;assumption;exact absurd h (by assumption)
  have e1:=cmpI_ord.eq _ _ h1
  have e2:=symC_ord.eq _ _ h2
  have e3:=cmpI_ord.eq _ _ h3
  cases a;cases b;simp only [ArD.mk.injEq] at *;exact ⟨by omega,e2,by omega⟩
 trans a b c h1 h2:=by
  have t:=cmpI_ord.trans a.src b.src c.src
  have u:=symC_ord.trans a.sym b.sym c.sym
  have v:=cmpI_ord.trans a.dst b.dst c.dst
  rw [yK] at *
  rcases h1 with k1 | ⟨e1,k1⟩ <;> rcases h2 with k2 | ⟨e2,k2⟩
  ·exact .inl (t k1 k2)
  ·rw [← e2];exact .inl k1
  ·rw [e1];exact .inl k2
  ·refine .inr ⟨e1.trans e2,?_⟩
   rcases k1 with k1 | ⟨f1,k1⟩ <;> rcases k2 with k2 | ⟨f2,k2⟩
   ·exact .inl (u k1 k2)
   ·rw [← f2];exact .inl k1
   ·rw [f1];exact .inl k2
   ·exact .inr ⟨f1.trans f2,v k1 k2⟩
abbrev dY (x:ArD):List Value:=[i64 (x.src:Nat),.bool x.sym.lab,i64 (x.sym.num:Nat),i64 (x.dst:Nat)]
abbrev arA (x:ArD):Value:=.agg (dY x).toArray
def aP (l:List ArD):List Value:=l.flatMap dY
theorem bT (l:List ArD):(aP l).length=l.length * 4:=s8 (enc:=dY) (fun _=>rfl) l
theorem k8 (l k:List ArD):aP (l++k)=aP l++aP k:=by simp [aP]
theorem pW (l:List ArD):∀ u∈aP l,u.oneCell'=true:=fun u hu=>by
 obtain ⟨x,_,hx⟩:=List.mem_flatMap.1 hu
 simp only [List.mem_cons,List.not_mem_nil,or_false] at hx
 rcases hx with rfl | rfl | rfl | rfl <;> rfl
attribute [local irreducible] bO cz G GO GR GT Fn FnX FnV FnXV Dfr pt init exs pur sat own ImpS
theorem gC (m:Int):Fn Tryz.prog 181 #[i64 m] [] (fun r Q=>r=.bool false∧Q=[]):=by
 have d:decide (m≠m)=false:=decide_eq_false (fun h=>h rfl)
 refine Fn.mk2 Tryz.func181 rfl rfl fun w0 F=>?_
 apply Ru
 exact kr1 rfl ⟨rfl,rfl⟩
theorem ii (m n:Int):Fn Tryz.prog 136 #[i64 m,i64 n] [] (fun r Q=>r=i64 (dy m n)∧Q=[]):=by
 refine Fn.mk2 Tryz.func136 rfl rfl fun w0 F=>?_
 apply Ru
 refine scl (gC m) ?_
 rintro _ _ ⟨rfl,rfl⟩
 apply Ru
 refine scl (gC n) ?_
 rintro _ _ ⟨rfl,rfl⟩
 apply Ru
 refine G.condD rfl (fun h1=>?_) (fun h1=>?_)
 ·apply Ru
  exact kr1 rfl ⟨by unfold dy;rw [if_pos h1],rfl⟩
 ·apply Ru
  refine G.condD rfl (fun h2=>?_) (fun h2=>?_)
  ·apply Ru
   exact kr1 rfl ⟨by unfold dy;rw [if_neg h1,if_pos h2],rfl⟩
  ·apply Ru
   exact kr1 rfl ⟨by unfold dy;rw [if_neg h1,if_neg h2],rfl⟩
theorem vL (x y:SyD):Fn Tryz.prog 137 #[syA x,syA y] [] (fun r Q=>r=i64 (ia x y)∧Q=[]):=by
 obtain ⟨a,m⟩:=x
 obtain ⟨b,n⟩:=y
 have hc:=ii (m:Nat) (n:Nat)
 refine Fn.mk2 Tryz.func137 rfl rfl fun w0 F=>?_
 cases a <;> cases b
 ·(apply Ru;refine sbx fun b2=>?_;refine sbx fun b3=>?_;apply Ru)
  refine scl (hc) ?_
  rintro _ _ ⟨rfl,rfl⟩
  apply Ru
  exact kr1 rfl ⟨rfl,rfl⟩
 ·(apply Ru;refine sbx fun b2=>?_;refine sbx fun b3=>?_;apply Ru;refine G.condT rfl rfl ?_;apply Ru)
  exact kr1 rfl ⟨rfl,rfl⟩
 ·(apply Ru;refine sbx fun b2=>?_;refine sbx fun b3=>?_;apply Ru;refine G.condT rfl rfl ?_;apply Ru)
  exact kr1 rfl ⟨rfl,rfl⟩
 ·(apply Ru;refine sbx fun b2=>?_;refine sbx fun b3=>?_;apply Ru)
  refine scl (hc) ?_
  rintro _ _ ⟨rfl,rfl⟩
  apply Ru
  exact kr1 rfl ⟨rfl,rfl⟩
def Dh (l:List Int):List Value:=l.map fun n=>.int .i64 n
theorem sY (q:HP) (v:Value) (l:List Int) (hq:Sl q v l.length 1 (Dh l)) (hl:¬ 1048576 < l.length):Fn Tryz.prog 135 #[v] [q] (fun r Q=>r=.int .i64 (orI l)∧Q=[q]):=by
 have hrd:∀ i m,l[i]?=some m→∃ b o cap,v=.slice (some ⟨b,o,none⟩) l.length cap∧Rd q ⟨b,o+i * 1,none⟩ (.int .i64 m):=fun i m h=>by
  obtain ⟨a,cap,rfl,_,hr⟩:=hq
  have hi:=(List.getElem?_eq_some_iff.1 h).1
  obtain ⟨b,o,rfl,hr2⟩:=hr (by omega)
  exact ⟨b,o,cap,rfl,by rw [Nat.mul_one];exact hr2 _ _ (by simp [Dh,h])⟩
 obtain ⟨a,cap,rfl,_,_⟩:=hq
 generalize hres:orI l=res
 refine Fn.mk2 Tryz.func135 rfl rfl fun w0 F=>?_
 apply Ru
 refine G.loopI (σ:=Nat) (fun i=>[(3,i64 0),(6,.slice a l.length cap),(7,i64 (l.length:Nat)),(8,i64 (i:Nat))]) (fun _=>q::F) (fun i=>i≤l.length∧orI (l.drop i)=res) (fun i=>l.length - i) 0 ⟨Nat.zero_le _,hres⟩ ?_ ?_ ?_
 ·exact SE rfl
 ·exact ImpS.sb SB
 clear hres
 rintro i ⟨hi,hp⟩
 apply Ru
 by_cases hlt:i < l.length
 ·have d1:decide ((i:Int) < (l.length:Int))=true:=decide_eq_true (by omega)
  obtain ⟨m,hm⟩:∃ m,l[i]?=some m:=⟨_,List.getElem?_eq_getElem hlt⟩
  obtain ⟨b,o,cap2,e,rm⟩:=hrd i m hm
  injection e with e _ e2
  subst e e2
  rw [dg hm,orI] at hp
  by_cases h0:m=0
  ·rw [if_pos h0] at hp
   have d2:decide (m≠0)=false:=decide_eq_false (by omega)
   (refine scT ?_;refine six ?_;refine sld (by assumption) ?_;apply Ru;refine scF ?_;refine sad ?_)
   refine ⟨i+1,⟨hlt,hp⟩,by omega,?_,ImpS.sb ?_⟩
   ·exact SE rfl
   ·exact SB
  ·rw [if_neg h0] at hp
   subst hp
   have d2:decide (m≠0)=true:=decide_eq_true (by omega)
   (refine scT ?_;refine six ?_;refine sld (by assumption) ?_;apply Ru;refine scT ?_)
   exact kr1 rfl ⟨rfl,rfl⟩
 ·have d1:decide ((i:Int) < (l.length:Int))=false:=decide_eq_false (by omega)
  rw [List.drop_eq_nil_of_le (by omega)] at hp
  subst hp
  refine scF ?_
  exact kr1 rfl ⟨rfl,rfl⟩
theorem uz (a b:ArD):Fn Tryz.prog 67 #[arA a,arA b] [] (fun r Q=>r=.int .i64 (bL a b)∧Q=[]):=by
 have hc1:=ii (a.src:Nat) (b.src:Nat)
 have hc2:=ii (a.dst:Nat) (b.dst:Nat)
 refine Fn.mk2 Tryz.func67 rfl rfl fun w0 F=>?_
 unfold bL
 (apply Ru;refine sbx fun b2=>?_;refine sbx fun b3=>?_;apply Ru)
 refine dr 15 ?_
 apply Ru
 apply GQ.step;focus (intro Z;refine scl (hc1) ?_;rintro _ _ ⟨rfl,rfl⟩;refine GO.nil (KQ.s ?_);exact SB)
 apply Ru
 apply GQ.step;focus (intro Z;refine GO.load2 (u1:=.bool a.sym.lab) (u2:=i64 (a.sym.num:Nat)) rfl rfl rfl (Tk.t Tk.h) (Rd.row rfl) (Rd.row rfl) ?_;exact KQ.z)
 apply Ru
 apply GQ.step;focus (intro Z;refine GO.load2 (u1:=.bool b.sym.lab) (u2:=i64 (b.sym.num:Nat)) rfl rfl rfl Tk.h (Rd.row rfl) (Rd.row rfl) ?_;exact KQ.z)
 apply GQ.step;focus (intro Z;refine scl (vL a.sym b.sym) ?_;rintro _ _ ⟨rfl,rfl⟩;refine GO.nil (KQ.s ?_);exact SB)
 apply Ru
 apply GQ.step;focus (intro Z;refine scl (hc2) ?_;rintro _ _ ⟨rfl,rfl⟩;refine GO.nil (KQ.s ?_);exact SB)
 apply Ru
 refine GO.buildSlice3 (n:=1) rfl rfl rfl rfl (fun v hv=>by simp only [List.mem_cons,List.not_mem_nil,or_false] at hv;rcases hv with rfl | rfl | rfl <;> rfl) rfl ⟨by decide,by decide⟩ fun bs=>?_
 have h3:¬ 1048576 < [dy a.src b.src,ia a.sym b.sym,dy a.dst b.dst].length:=by show ¬ 1048576 < 3;decide
 refine GO.ownIn (n:=3) (sz:=1) Tk.h rfl (by decide) ?_
 refine GO.ownRd (n:=3) (sz:=1) Tk.h fun q hq=>?_
 refine scl (sY q _ [dy a.src b.src,ia a.sym b.sym,dy a.dst b.dst] hq h3) ?_
 rintro _ _ ⟨rfl,rfl⟩
 apply Ru
 exact kr1 rfl ⟨rfl,rfl⟩
end
section
def cO (l:List SyD):List Value:=l.flatMap l5
theorem Aj (l k:List SyD):cO (l++k)=cO l++cO k:=by simp [cO]
theorem CL {q:HP} {v:Value} {S:List SyD} {k:Nat} (hq:Sl q v S.length 2 (cO S)) (h:0 < k∧k≤S.length):∃ b o cap,v=.slice (some ⟨b,o,none⟩) S.length cap∧Rd q ⟨b,o+(k - 1) * 2,none⟩ (.bool (ce S k).lab)∧Rd q ⟨b,o+(k - 1) * 2+1,none⟩ (i64 ((ce S k).num:Nat)):=by
 obtain ⟨a,cap,rfl,_,hr⟩:=hq
 obtain ⟨b,o,rfl,hr2⟩:=hr (by omega)
 have he:S[k - 1]?=some (ce S k):=by unfold ce;rw [List.getElem?_eq_getElem (by omega)];rfl
 refine ⟨b,o,cap,rfl,hr2 ((k - 1) * 2+0) _ ?_,?_⟩
 ·unfold cO;rw [ft (enc:=fun s=>l5 s) (k:=2) (fun _=>rfl) he (by omega)];rfl
 ·rw [Nat.add_assoc]
  refine hr2 ((k - 1) * 2+1) _ ?_
  unfold cO;rw [ft (enc:=fun s=>l5 s) (k:=2) (fun _=>rfl) he (by omega)];rfl
theorem eP (S:List SyD) (f:List Nat):∀ l:List Nat,(aH S l f).length=l.length * f.length
 | []=>by unfold aH;simp
 | x::l=>by
  have:=eP S f l
  unfold aH at *
  rw [List.flatMap_cons,List.length_append,this,List.length_map,List.length_cons,Nat.add_mul,Nat.one_mul,Nat.add_comm]
def gB (S:List SyD) (l f:List Nat) (i j:Nat):List ArD:=aH S (l.take i) f++(f.take j).map fun q=>⟨(l[i]?).getD 0,ce S q,q⟩
theorem wL {S:List SyD} {l f:List Nat} {i j p q:Nat} (hp:l[i]?=some p) (hq:f[j]?=some q):gB S l f i (j+1)=gB S l f i j++[⟨p,ce S q,q⟩]:=by
 unfold gB
 rw [aG hq,List.map_append,hp,← List.append_assoc];rfl
theorem wK (S:List SyD) (l f:List Nat) (i:Nat):gB S l f i 0=aH S (l.take i) f:=by unfold gB;rw [List.take_zero,List.map_nil,List.append_nil]
theorem wM {S:List SyD} {l f:List Nat} {i p:Nat} (hp:l[i]?=some p):gB S l f i f.length=aH S (l.take (i+1)) f:=by
 unfold gB
 rw [aG hp,List.take_length,hp]
 unfold aH
 rw [List.flatMap_append,List.flatMap_cons,List.flatMap_nil,List.append_nil];rfl
theorem zh {S:List SyD} {l f:List Nat} {i j:Nat} (hi:i < l.length) (hj:j≤f.length):(gB S l f i j).length≤l.length * f.length:=by
 unfold gB
 rw [List.length_append,eP,List.length_map,List.length_take,List.length_take,Nat.min_eq_left (by omega),Nat.min_eq_left hj]
 have:=Nat.mul_le_mul_right f.length (show i+1≤l.length by omega)
 rw [Nat.add_mul,Nat.one_mul] at this
 omega
abbrev mkP (bm:Nat) (vs va:Value):HP:=pt bm (row [vs,va] 146)
attribute [local irreducible] bO cz G GO GR GT Fn FnX FnV FnXV Dfr pt init exs pur sat own ImpS az aP gB
theorem j4 (bm:Nat) (vs va vl vf:Value) (S:List SyD) (A:List ArD) (last first:List Nat) (zs z:HP) (hs:Sl zs vs S.length 2 (cO S)) (hl:bU z vl last) (hf:bU z vf first) (hS:∀ q∈first,0 < q∧q≤S.length) (hSl:¬ 1048576 < S.length) (h1:¬ 1048576 < last.length) (h2:¬ 1048576 < first.length) (hA:¬ 4294967296 < A.length+last.length * first.length) :
  Fn Tryz.prog 65 #[ah bm,vl,vf] [mkP bm vs va,zs,own 87 4 A.length va (aP A),z] (fun r Q=>∃ va',Q=[mkP bm vs va',zs,own 87 4 (A++aH S last first).length va' (aP (A++aH S last first)),z]):=by
 have hrl:∀ i x,last[i]?=some x→_:=fun i x h=>ta hl h
 have hrf:∀ i x,first[i]?=some x→_:=fun i x h=>ta hf h
 have hrs:∀ k,0 < k∧k≤S.length→_:=fun k h=>CL hs h
 obtain ⟨al,cl,rfl⟩:=cM hl
 obtain ⟨af,cf,rfl⟩:=cM hf
 obtain ⟨ax,cs,rfl,_,_⟩:=hs
 refine Fn.mk2 Tryz.func65 rfl rfl fun w0 F=>?_
 apply Ru
 refine G.loopI (σ:=Nat × Value) (fun x=>[(0,ah bm),(2,.slice af first.length cf),(10,.slice al last.length cl),(11,i64 (last.length:Nat)),(12,i64 (x.1:Nat))]) (fun x=>mkP bm (.slice ax S.length cs) x.2::own 87 4 (A++aH S (last.take x.1) first).length x.2 (aP (A++aH S (last.take x.1) first))::zs::z::F) (fun x=>x.1≤last.length) (fun x=>last.length - x.1) (0,va) (Nat.zero_le _) ?_ ?_ ?_
 ·exact SE rfl
 ·rw [List.take_zero,show aH S [] first=[] from rfl,List.append_nil]
  exact ImpS.sb SB
 rintro ⟨i,va⟩ hi
 dsimp only at hi ⊢
 apply Ru
 by_cases hlt:i < last.length
 ·have d1:decide ((i:Int) < (last.length:Int))=true:=decide_eq_true (by omega)
  obtain ⟨p,hp⟩:∃ p,last[i]?=some p:=⟨_,List.getElem?_eq_getElem hlt⟩
  obtain ⟨b,o,cap2,e,rp⟩:=hrl i p hp
  injection e with e _ e2
  subst e e2
  rw [← wK]
  (refine scT ?_;refine six ?_;refine sld (by assumption) ?_;apply Ru)
  refine G.loopI (σ:=Nat × Value) (fun x=>[(0,ah bm),(2,.slice af first.length cf),(7,i64 (p:Nat)),(10,.slice (some ⟨b,o,none⟩) last.length cl),(11,i64 (last.length:Nat)),(12,i64 (i:Nat)),(16,.slice af first.length cf),(17,i64 (first.length:Nat)),(18,i64 (x.1:Nat))]) (fun x=>mkP bm (.slice ax S.length cs) x.2::own 87 4 (A++gB S last first i x.1).length x.2 (aP (A++gB S last first i x.1))::zs::z::F) (fun x=>x.1≤first.length) (fun x=>first.length - x.1) (0,va) (Nat.zero_le _) ?_ ?_ ?_
  ·exact SE rfl
  ·exact ImpS.sb SB
  clear va
  rintro ⟨j,va⟩ hj
  dsimp only at hj ⊢
  clear d1
  apply Ru
  by_cases hlt2:j < first.length
  ·have d1:decide ((j:Int) < (first.length:Int))=true:=decide_eq_true (by omega)
   obtain ⟨q,hq⟩:∃ q,first[j]?=some q:=⟨_,List.getElem?_eq_getElem hlt2⟩
   obtain ⟨bf,of,cap3,e,rq⟩:=hrf j q hq
   injection e with e _ e2
   subst e e2
   have hqS:=hS q (List.mem_of_getElem? hq)
   obtain ⟨bs,os,cap4,e,r1,r2⟩:=hrs q hqS
   injection e with e _ e2
   subst e e2
   have hnx:=wL (S:=S) hp hq
   have hll:=zh (S:=S) hlt (show j+1≤first.length by omega)
   rw [hnx,List.length_append,List.length_cons,List.length_nil] at hll
   (refine scT ?_;refine six ?_;refine sld (by assumption) ?_;apply Ru)
   refine drT 20 196608 [mkP bm (.slice (some ⟨bs,os,none⟩) S.length cs) va,zs] ?_
   (apply Ru;(apply GR.step rfl;focus (intro Z;refine GO.subi rfl rfl rfl (by omega) ?_;exact KQ.z)))
   apply GR.step rfl;focus (intro Z;refine GO.idxS (j:=q - 1) rfl rfl rfl ⟨by omega,by omega⟩ ?_;exact KQ.z)
   ((apply GR.step rfl;focus (intro Z;refine GO.load2 rfl rfl rfl (Tk.t Tk.h) (by assumption) (by assumption) ?_;exact KQ.z));apply Ru)
   (repeat refine GT.skip rfl ?_)
   refine GT.step rfl ?_
   refine GO.buildSlice1 (n:=4) (v1:=arA ⟨p,ce S q,q⟩) rfl rfl (fun v hv=>by rw [List.mem_singleton.1 hv];rfl) rfl ⟨by decide,by decide⟩ fun bs3=>?_
   refine gtn ?_
   refine GT.step rfl ?_
   refine GO.appendOwn (m:=1) (news:=dY ⟨p,ce S q,q⟩) rfl rfl rfl (Tk.t (Tk.t (Tk.t Tk.h))) (Tk.t (Tk.t Tk.h)) rfl (by simp [Value.oneCell']) ⟨by decide,rfl⟩ Nat.one_pos (by rw [List.length_append];unfold maxLen;omega) (by rw [List.length_append];omega) fun v4=>?_
   refine gtn ?_
   refine GO.ownOne (Tk.t (Tk.t Tk.h)) fun hone=>?_
   refine GO.store1 (l:=[.slice (some ⟨bs,os,none⟩) S.length cs,va]) rfl rfl (by assumption) Tk.h (by simp) ?_
   (apply Ru;refine sad ?_)
   refine ⟨(j+1,v4),hlt2,by dsimp only;omega,?_,?_⟩
   ·exact SE rfl
   ·dsimp only
    rw [hnx,← List.append_assoc,List.length_append (bs:=[_]),List.length_cons,List.length_nil,show aP ((A++gB S last first i j)++[⟨p,ce S q,q⟩])=aP (A++gB S last first i j)++dY ⟨p,ce S q,q⟩ by rw [k8];unfold aP;simp]
    exact ImpS.sb (by ((refine Sb.c Tk.h ?_;exact SB);skip))
  ·have d1:decide ((j:Int) < (first.length:Int))=false:=decide_eq_false (by omega)
   obtain rfl:j=first.length:=by omega
   rw [wM hp]
   (refine scF ?_;refine sad ?_)
   refine ⟨(i+1,va),hlt,by dsimp only;omega,?_,?_⟩
   ·exact SE rfl
   ·exact ImpS.sb SB
 ·have d1:decide ((i:Int) < (last.length:Int))=false:=decide_eq_false (by omega)
  rw [List.take_of_length_le (by omega)]
  refine scF ?_
  refine KF2.n0 rfl ⟨va,rfl⟩ (ImpS.sb ?_)
  exact SB
end
section
abbrev oQ (e:Bool) (vf vl:Value):Value:=.agg #[.bool e,vf,vl]
abbrev dV (v:Value) (l:List Nat):HP:=own 3 1 l.length v (az l)
theorem cE {q:HP} {v:Value} {l:List Nat} (h:bU q v l):v.oneCell'=true:=let ⟨_,_,e,_⟩:=h;by rw [e];rfl
theorem iZ {q:HP} {v:Value} {l:List Nat} (h:bU q v l):v.cells.size=1:=let ⟨_,_,e,_⟩:=h;by rw [e];rfl
theorem oW {q:HP} {v w:Value} {l k:List Nat} (h:bU q v l) (h2:bU q w k):aA [v,w]=[v,w]:=let ⟨_,_,e,_⟩:=h;let ⟨_,_,e2,_⟩:=h2;by rw [e,e2];rfl
theorem GO.subI {P:Program} {c:Cx} {A:Array Oper} {os:List Oper} {K:aY} {L L':Env} {H H':List HP} (hL:SubE L' L) (hH:ImpS H H') (k:GO P c A os K L' H'):GO P c A os K L H:=fun a w h=>k a w (St.imp h hL hH)
theorem GO.ownShp {P:Program} {c:Cx} {A:Array Oper} {os:List Oper} {K:aY} {L:Env} {H F:List HP} {el:TypeId} {sz n:Nat} {v:Value} {xs:List Value} (tk:Tk (own el sz n v xs) H F) (k:∀ a cap,v=.slice a n cap→GO P c A os K L H):GO P c A os K L H:=by
 rintro a w ⟨h1,h2,ds,h3,h4,h5⟩
 have s1:sat (own el sz n v xs::(F++(c.X++ds.map cA))) w:=ai (List.Perm.append_right _ tk) h5
 rcases bK s1 with ⟨e,h0,_⟩ | ⟨b,cap,_,e,_⟩
 ·exact k none 0 (by rw [e,h0]) a w ⟨h1,h2,ds,h3,h4,h5⟩
 ·exact k _ cap e a w ⟨h1,h2,ds,h3,h4,h5⟩
attribute [local irreducible] bO cz G GO GR GT GW Fn FnX FnV FnXV Dfr pt init exs pur sat own ImpS az aP gB aH
theorem bR (zz z:HP) (v va vb:Value) (l k:List Nat) (hv:Sl zz v 2 1 [va,vb]) (ha:bU z va l) (hb:bU z vb k) (h1:¬ 65536 < l.length) (h2:¬ 65536 < k.length) :
  Fn Tryz.prog 132 #[v] [zz,z] (fun r Q=>Q=[own 3 1 (l++k).length r (az (l++k)),zz,z]):=by
 have:=tB zz z v [va,vb] [l,k] hv (fun i x h=>by
  match i,h with
  | 0,h=>cases h;exact ⟨va,rfl,cE ha,ha⟩
  | 1,h=>cases h;exact ⟨vb,rfl,cE hb,hb⟩) (by show ¬ 1048576 < 2;decide) (by simp;omega)
 rwa [show [l,k].flatten=l++k by simp] at this
theorem AB (bm:Nat) (vs va vaf val vbf vbl:Value) (S:List SyD) (A:List ArD) (a b:PtD) (zs z:HP) (hs:Sl zs vs S.length 2 (cO S)) (haf:bU z vaf a.first) (hal:bU z val a.last) (hbf:bU z vbf b.first) (hbl:bU z vbl b.last)
  (hS:∀ q∈b.first,0 < q∧q≤S.length) (hSl:¬ 1048576 < S.length) (h1:¬ 65536 < a.first.length) (h2:¬ 65536 < a.last.length) (h3:¬ 65536 < b.first.length) (h4:¬ 65536 < b.last.length) (hA:¬ 4294967296 < A.length+a.last.length * b.first.length) :
  Fn Tryz.prog 131 #[ah bm,oQ a.emp vaf val,oQ b.emp vbf vbl] [mkP bm vs va,zs,own 87 4 A.length va (aP A),z] (fun r Q=>∃ va' vf vl,r=oQ (ir a b).emp vf vl∧Q=[mkP bm vs va',zs,own 87 4 (A++aH S a.last b.first).length va' (aP (A++aH S a.last b.first)),dV vf (ir a b).first,dV vl (ir a b).last,z]):=by
 have hj:=j4 bm vs va val vbf S A a.last b.first zs z hs hal hbf hS hSl (by omega) (by omega) hA
 have hcf:=jX z vaf a.first haf (by omega)
 have hcl:=jX z vbl b.last hbl (by omega)
 have o1:=cE haf;have o2:=cE hal;have o3:=cE hbf;have o4:=cE hbl
 unfold ir
 dsimp only
 refine Fn.mk2 Tryz.func131 rfl rfl fun w0 F=>?_
 generalize a.emp=ea at *
 generalize b.emp=eb at *
 (apply Ru;refine sbx fun b4=>?_;refine sbx fun b5=>?_;refine sal fun b6=>?_;apply Ru)
 refine scl (hj) ?_
 rintro _ _ ⟨va2,rfl⟩
 apply Ru
 cases ea
 ·rw [if_neg (by decide),List.append_nil]
  refine drW 14 14592 4 [pt b4 (row [.bool false,vaf,val] 148),pt b5 (row [.bool eb,vbf,vbl] 148)] (fun L' H'=>∃ x1 c1 x2 c2 b7,SubE [(0,ah bm),(4,ah b4),(5,ah b5),(6,ah b6),(7,ah b7),(26,.agg #[.bool false,.slice x1 a.first.length c1,.slice x2 b.last.length c2])] L'∧ImpS H' (pt b4 (row [.bool false,vaf,val] 148)::pt b5 (row [.bool eb,vbf,vbl] 148)::pt b7 (row [.bool false,.slice none 0 0,.slice none 0 0] 148)::own 3 1 b.last.length (.slice x2 b.last.length c2) (az b.last)::own 3 1 a.first.length (.slice x1 a.first.length c1) (az a.first)::mkP bm vs va2::zs::own 87 4 (A++aH S a.last b.first).length va2 (aP (A++aH S a.last b.first))::z::pt b6 (row [.bool false,.slice none 0 0,.slice none 0 0] 148)::F)) ?_ ?_
  ·apply Ru
   refine gw2 8 13 ?_ ?_
   ·refine scl (hcf) ?_
    rintro v22 _ rfl
    refine GO.ownShp Tk.h fun x1 c1 e1=>?_
    subst e1
    refine gwn ?_
    refine gw2 11 13 ?_ ?_
    ·refine scl (hcl) ?_
     rintro v25 _ rfl
     refine GO.ownShp Tk.h fun x2 c2 e2=>?_
     subst e2
     refine gwn ?_
     refine gw2 12 13 ?_ ?_
     ·refine GO.build3 rfl rfl rfl rfl rfl ?_
      refine gwn ?_
      refine gw1 13 ?_
      refine GO.alloc rfl fun b7=>?_
      refine gwn ?_
      refine GW.nil ⟨x1,c1,x2,c2,b7,by (exact SE rfl),ImpS.sb SB⟩
     ·refine GO.alloc rfl fun b7=>?_
      refine gwn ?_
      refine gw1 12 ?_
      refine GO.build3 rfl rfl rfl rfl rfl ?_
      refine gwn ?_
      refine GW.nil ⟨x1,c1,x2,c2,b7,by (exact SE rfl),ImpS.sb SB⟩
    ·refine GO.alloc rfl fun b7=>?_
     refine gwn ?_
     refine gw1 11 ?_
     refine scl (hcl) ?_
     rintro v25 _ rfl
     refine GO.ownShp Tk.h fun x2 c2 e2=>?_
     subst e2
     refine gwn ?_
     refine gw1 12 ?_
     refine GO.build3 rfl rfl rfl rfl rfl ?_
     refine gwn ?_
     refine GW.nil ⟨x1,c1,x2,c2,b7,by (exact SE rfl),ImpS.sb SB⟩
   ·refine GO.alloc rfl fun b7=>?_
    refine gwn ?_
    refine gw1 8 ?_
    refine scl (hcf) ?_
    rintro v22 _ rfl
    refine GO.ownShp Tk.h fun x1 c1 e1=>?_
    subst e1
    refine gwn ?_
    refine gw1 11 ?_
    refine scl (hcl) ?_
    rintro v25 _ rfl
    refine GO.ownShp Tk.h fun x2 c2 e2=>?_
    subst e2
    refine gwn ?_
    refine gw1 12 ?_
    refine GO.build3 rfl rfl rfl rfl rfl ?_
    refine gwn ?_
    refine GW.nil ⟨x1,c1,x2,c2,b7,by (exact SE rfl),ImpS.sb SB⟩
  ·rintro L8 H8 ⟨x1,c1,x2,c2,b7,hL8,hH8⟩
   refine GO.subI hL8 hH8 ?_
   refine GO.storeW rfl rfl (Tk.t (Tk.t Tk.h)) ⟨rfl,rfl⟩ (by simp [Value.oneCell']) ?_
   clear hL8 hH8 L8 H8
   apply Ru
   cases eb
   ·rw [if_neg (by decide),List.append_nil]
    (apply Ru;refine GO.loadW rfl rfl rfl Tk.h rfl ?_;apply Ru)
    exact kr1 rfl ⟨va2,.slice x1 a.first.length c1,.slice x2 b.last.length c2,rfl,rfl⟩
   ·rw [if_pos rfl]
    apply Ru
    refine GO.appendFrom (m:=a.last.length) (q:=z) rfl rfl rfl (Tk.t (Tk.t (Tk.t Tk.h))) (Tk.t (Tk.t (Tk.t (Tk.t (Tk.t (Tk.t (Tk.t Tk.h))))))) hal (gh _) ⟨by decide,rfl⟩ (by unfold maxLen;omega) (by omega) fun v4=>?_
    refine GO.ownShp Tk.h fun x4 c4 e4=>?_
    subst e4
    (apply Ru;refine GO.loadW rfl rfl rfl Tk.h rfl ?_;apply Ru)
    refine KF2.r1 rfl (RV.cW rfl rfl Tk.h rfl) ⟨va2,.slice x1 a.first.length c1,.slice x4 (b.last.length+a.last.length) c4,rfl,rfl⟩ (ImpS.sb ?_)
    rw [show ∀ v,dV v (b.last++a.last)=own 3 1 (b.last.length+a.last.length) v (az b.last++az a.last) from fun v=>by unfold dV;rw [List.length_append,cK]]
    exact SB
 ·rw [if_pos rfl]
  refine drW 14 14592 4 [pt b4 (row [.bool true,vaf,val] 148),pt b5 (row [.bool eb,vbf,vbl] 148)] (fun L' H'=>∃ x1 c1 x2 c2 b7,SubE [(0,ah bm),(4,ah b4),(5,ah b5),(6,ah b6),(7,ah b7),(26,.agg #[.bool eb,.slice x1 a.first.length c1,.slice x2 b.last.length c2])] L'∧ImpS H' (pt b4 (row [.bool true,vaf,val] 148)::pt b5 (row [.bool eb,vbf,vbl] 148)::pt b7 (row [.bool false,.slice none 0 0,.slice none 0 0] 148)::own 3 1 b.last.length (.slice x2 b.last.length c2) (az b.last)::own 3 1 a.first.length (.slice x1 a.first.length c1) (az a.first)::mkP bm vs va2::zs::own 87 4 (A++aH S a.last b.first).length va2 (aP (A++aH S a.last b.first))::z::pt b6 (row [.bool false,.slice none 0 0,.slice none 0 0] 148)::F)) ?_ ?_
  ·apply Ru
   refine gw2 8 13 ?_ ?_
   ·refine scl (hcf) ?_
    rintro v22 _ rfl
    refine GO.ownShp Tk.h fun x1 c1 e1=>?_
    subst e1
    refine gwn ?_
    refine gw2 11 13 ?_ ?_
    ·refine scl (hcl) ?_
     rintro v25 _ rfl
     refine GO.ownShp Tk.h fun x2 c2 e2=>?_
     subst e2
     refine gwn ?_
     refine gw2 12 13 ?_ ?_
     ·refine GO.build3 rfl rfl rfl rfl rfl ?_
      refine gwn ?_
      refine gw1 13 ?_
      refine GO.alloc rfl fun b7=>?_
      refine gwn ?_
      refine GW.nil ⟨x1,c1,x2,c2,b7,by (exact SE rfl),ImpS.sb SB⟩
     ·refine GO.alloc rfl fun b7=>?_
      refine gwn ?_
      refine gw1 12 ?_
      refine GO.build3 rfl rfl rfl rfl rfl ?_
      refine gwn ?_
      refine GW.nil ⟨x1,c1,x2,c2,b7,by (exact SE rfl),ImpS.sb SB⟩
    ·refine GO.alloc rfl fun b7=>?_
     refine gwn ?_
     refine gw1 11 ?_
     refine scl (hcl) ?_
     rintro v25 _ rfl
     refine GO.ownShp Tk.h fun x2 c2 e2=>?_
     subst e2
     refine gwn ?_
     refine gw1 12 ?_
     refine GO.build3 rfl rfl rfl rfl rfl ?_
     refine gwn ?_
     refine GW.nil ⟨x1,c1,x2,c2,b7,by (exact SE rfl),ImpS.sb SB⟩
   ·refine GO.alloc rfl fun b7=>?_
    refine gwn ?_
    refine gw1 8 ?_
    refine scl (hcf) ?_
    rintro v22 _ rfl
    refine GO.ownShp Tk.h fun x1 c1 e1=>?_
    subst e1
    refine gwn ?_
    refine gw1 11 ?_
    refine scl (hcl) ?_
    rintro v25 _ rfl
    refine GO.ownShp Tk.h fun x2 c2 e2=>?_
    subst e2
    refine gwn ?_
    refine gw1 12 ?_
    refine GO.build3 rfl rfl rfl rfl rfl ?_
    refine gwn ?_
    refine GW.nil ⟨x1,c1,x2,c2,b7,by (exact SE rfl),ImpS.sb SB⟩
  ·rintro L8 H8 ⟨x1,c1,x2,c2,b7,hL8,hH8⟩
   refine GO.subI hL8 hH8 ?_
   refine GO.storeW rfl rfl (Tk.t (Tk.t Tk.h)) ⟨rfl,rfl⟩ (by simp [Value.oneCell']) ?_
   clear hL8 hH8 L8 H8
   apply Ru
   refine GO.appendFrom (m:=b.first.length) (q:=z) rfl rfl rfl (Tk.t (Tk.t (Tk.t (Tk.t Tk.h)))) (Tk.t (Tk.t (Tk.t (Tk.t (Tk.t (Tk.t (Tk.t Tk.h))))))) hbf (gh _) ⟨by decide,rfl⟩ (by unfold maxLen;omega) (by omega) fun v3=>?_
   refine GO.ownShp Tk.h fun x3 c3 e3=>?_
   subst e3
   apply Ru
   cases eb
   ·rw [if_neg (by decide),List.append_nil]
    (apply Ru;refine GO.loadW rfl rfl rfl Tk.h rfl ?_;apply Ru)
    refine KF2.r1 rfl (RV.cW rfl rfl Tk.h rfl) ⟨va2,.slice x3 (a.first.length+b.first.length) c3,.slice x2 b.last.length c2,rfl,rfl⟩ (ImpS.sb ?_)
    rw [show ∀ v,dV v (a.first++b.first)=own 3 1 (a.first.length+b.first.length) v (az a.first++az b.first) from fun v=>by unfold dV;rw [List.length_append,cK]]
    exact SB
   ·rw [if_pos rfl]
    apply Ru
    refine GO.appendFrom (m:=a.last.length) (q:=z) rfl rfl rfl (Tk.t (Tk.t (Tk.t (Tk.t Tk.h)))) (Tk.t (Tk.t (Tk.t (Tk.t (Tk.t (Tk.t (Tk.t Tk.h))))))) hal (gh _) ⟨by decide,rfl⟩ (by unfold maxLen;omega) (by omega) fun v4=>?_
    refine GO.ownShp Tk.h fun x4 c4 e4=>?_
    subst e4
    (apply Ru;refine GO.loadW rfl rfl rfl Tk.h rfl ?_;apply Ru)
    refine KF2.r1 rfl (RV.cW rfl rfl Tk.h rfl) ⟨va2,.slice x3 (a.first.length+b.first.length) c3,.slice x4 (b.last.length+a.last.length) c4,rfl,rfl⟩ (ImpS.sb ?_)
    rw [show ∀ v,dV v (a.first++b.first)=own 3 1 (a.first.length+b.first.length) v (az a.first++az b.first) from fun v=>by unfold dV;rw [List.length_append,cK]]
    rw [show ∀ v,dV v (b.last++a.last)=own 3 1 (b.last.length+a.last.length) v (az b.last++az a.last) from fun v=>by unfold dV;rw [List.length_append,cK]]
    exact SB
theorem vZ (vaf val vbf vbl:Value) (a b:PtD) (z:HP) (haf:bU z vaf a.first) (hal:bU z val a.last) (hbf:bU z vbf b.first) (hbl:bU z vbl b.last)
  (h1:¬ 65536 < a.first.length) (h2:¬ 65536 < a.last.length) (h3:¬ 65536 < b.first.length) (h4:¬ 65536 < b.last.length) :
  Fn Tryz.prog 64 #[oQ a.emp vaf val,oQ b.emp vbf vbl] [z] (fun r Q=>∃ vf vl,r=oQ (gP a b).emp vf vl∧Q=[dV vf (gP a b).first,dV vl (gP a b).last,z]):=by
 have o1:=iZ haf;have o2:=iZ hal;have o3:=iZ hbf;have o4:=iZ hbl
 have e1:=oW haf hbf;have e2:=oW hal hbl
 have n1:=cE haf;have n2:=cE hal;have n3:=cE hbf;have n4:=cE hbl
 unfold gP
 dsimp only
 generalize a.emp=ea at *
 generalize b.emp=eb at *
 refine Fn.mk2 Tryz.func64 rfl rfl fun w0 F=>?_
 (apply Ru;refine sbx fun b2=>?_;refine sbx fun b3=>?_;refine sal fun b4=>?_;apply Ru)
 cases ea
 ·refine drW 19 461824 5 [pt b2 (row [.bool false,vaf,val] 148),pt b3 (row [.bool eb,vbf,vbl] 148)] (fun L' H'=>∃ x1 c1 x2 c2,SubE [(4,ah b4),(23,.agg #[.bool eb,.slice x1 (a.first++b.first).length c1,.slice x2 (a.last++b.last).length c2])] L'∧ImpS H' (pt b4 (row [.bool false,.slice none 0 0,.slice none 0 0] 148)::own 3 1 (a.last++b.last).length (.slice x2 (a.last++b.last).length c2) (az (a.last++b.last))::own 3 1 (a.first++b.first).length (.slice x1 (a.first++b.first).length c1) (az (a.first++b.first))::z::F)) ?_ ?_
  ·apply Ru
   refine gw2 10 16 ?_ ?_
   ·refine GO.buildSlice2 (n:=1) (v1:=vaf) (v2:=vbf) rfl rfl rfl (fun v hv=>by simp only [List.mem_cons,List.not_mem_nil,or_false] at hv;rcases hv with rfl | rfl;exact o1;exact o3) rfl ⟨by decide,by decide⟩ fun bs=>?_
    rw [show aA [vaf,vbf]=[vaf,vbf] from e1]
    refine GO.ownIn (n:=2) (sz:=1) Tk.h rfl (by decide) ?_
    refine GO.ownRd (n:=2) (sz:=1) Tk.h fun q15 hq15=>?_
    refine gwn ?_
    refine gw2 11 16 ?_ ?_
    ·refine scl (bR q15 z _ vaf vbf a.first b.first hq15 haf hbf (by omega) (by omega)) ?_
     rintro v16 _ rfl
     refine GO.ownShp Tk.h fun x1 c1 e8=>?_
     subst e8
     refine gwn ?_
     refine gw1 16 ?_
     refine GO.buildSlice2 (n:=1) (v1:=val) (v2:=vbl) rfl rfl rfl (fun v hv=>by simp only [List.mem_cons,List.not_mem_nil,or_false] at hv;rcases hv with rfl | rfl;exact o2;exact o4) rfl ⟨by decide,by decide⟩ fun bs=>?_
     rw [show aA [val,vbl]=[val,vbl] from e2]
     refine GO.ownIn (n:=2) (sz:=1) Tk.h rfl (by decide) ?_
     refine GO.ownRd (n:=2) (sz:=1) Tk.h fun q21 hq21=>?_
     refine gwn ?_
     refine gw1 17 ?_
     refine scl (bR q21 z _ val vbl a.last b.last hq21 hal hbl (by omega) (by omega)) ?_
     rintro v22 _ rfl
     refine GO.ownShp Tk.h fun x2 c2 e8=>?_
     subst e8
     refine gwn ?_
     refine gw1 18 ?_
     refine GO.build3 rfl rfl rfl rfl rfl ?_
     refine gwn ?_
     refine GW.nil ⟨x1,c1,x2,c2,by (exact SE rfl),ImpS.sb SB⟩
    ·refine GO.buildSlice2 (n:=1) (v1:=val) (v2:=vbl) rfl rfl rfl (fun v hv=>by simp only [List.mem_cons,List.not_mem_nil,or_false] at hv;rcases hv with rfl | rfl;exact o2;exact o4) rfl ⟨by decide,by decide⟩ fun bs=>?_
     rw [show aA [val,vbl]=[val,vbl] from e2]
     refine GO.ownIn (n:=2) (sz:=1) Tk.h rfl (by decide) ?_
     refine GO.ownRd (n:=2) (sz:=1) Tk.h fun q21 hq21=>?_
     refine gwn ?_
     refine gw1 11 ?_
     refine scl (bR q15 z _ vaf vbf a.first b.first hq15 haf hbf (by omega) (by omega)) ?_
     rintro v16 _ rfl
     refine GO.ownShp Tk.h fun x1 c1 e8=>?_
     subst e8
     refine gwn ?_
     refine gw1 17 ?_
     refine scl (bR q21 z _ val vbl a.last b.last hq21 hal hbl (by omega) (by omega)) ?_
     rintro v22 _ rfl
     refine GO.ownShp Tk.h fun x2 c2 e8=>?_
     subst e8
     refine gwn ?_
     refine gw1 18 ?_
     refine GO.build3 rfl rfl rfl rfl rfl ?_
     refine gwn ?_
     refine GW.nil ⟨x1,c1,x2,c2,by (exact SE rfl),ImpS.sb SB⟩
   ·refine GO.buildSlice2 (n:=1) (v1:=val) (v2:=vbl) rfl rfl rfl (fun v hv=>by simp only [List.mem_cons,List.not_mem_nil,or_false] at hv;rcases hv with rfl | rfl;exact o2;exact o4) rfl ⟨by decide,by decide⟩ fun bs=>?_
    rw [show aA [val,vbl]=[val,vbl] from e2]
    refine GO.ownIn (n:=2) (sz:=1) Tk.h rfl (by decide) ?_
    refine GO.ownRd (n:=2) (sz:=1) Tk.h fun q21 hq21=>?_
    refine gwn ?_
    refine gw1 10 ?_
    refine GO.buildSlice2 (n:=1) (v1:=vaf) (v2:=vbf) rfl rfl rfl (fun v hv=>by simp only [List.mem_cons,List.not_mem_nil,or_false] at hv;rcases hv with rfl | rfl;exact o1;exact o3) rfl ⟨by decide,by decide⟩ fun bs=>?_
    rw [show aA [vaf,vbf]=[vaf,vbf] from e1]
    refine GO.ownIn (n:=2) (sz:=1) Tk.h rfl (by decide) ?_
    refine GO.ownRd (n:=2) (sz:=1) Tk.h fun q15 hq15=>?_
    refine gwn ?_
    refine gw1 11 ?_
    refine scl (bR q15 z _ vaf vbf a.first b.first hq15 haf hbf (by omega) (by omega)) ?_
    rintro v16 _ rfl
    refine GO.ownShp Tk.h fun x1 c1 e8=>?_
    subst e8
    refine gwn ?_
    refine gw1 17 ?_
    refine scl (bR q21 z _ val vbl a.last b.last hq21 hal hbl (by omega) (by omega)) ?_
    rintro v22 _ rfl
    refine GO.ownShp Tk.h fun x2 c2 e8=>?_
    subst e8
    refine gwn ?_
    refine gw1 18 ?_
    refine GO.build3 rfl rfl rfl rfl rfl ?_
    refine gwn ?_
    refine GW.nil ⟨x1,c1,x2,c2,by (exact SE rfl),ImpS.sb SB⟩
  ·rintro L8 H8 ⟨x1,c1,x2,c2,hL8,hH8⟩
   refine GO.subI hL8 hH8 ?_
   refine GO.storeW rfl rfl Tk.h ⟨rfl,rfl⟩ (by simp [Value.oneCell']) ?_
   clear hL8 hH8 L8 H8
   apply Ru
   exact kr1 rfl ⟨.slice x1 (a.first++b.first).length c1,.slice x2 (a.last++b.last).length c2,rfl,rfl⟩
 ·refine drW 19 461824 5 [pt b2 (row [.bool true,vaf,val] 148),pt b3 (row [.bool eb,vbf,vbl] 148)] (fun L' H'=>∃ x1 c1 x2 c2,SubE [(4,ah b4),(23,.agg #[.bool true,.slice x1 (a.first++b.first).length c1,.slice x2 (a.last++b.last).length c2])] L'∧ImpS H' (pt b4 (row [.bool false,.slice none 0 0,.slice none 0 0] 148)::own 3 1 (a.last++b.last).length (.slice x2 (a.last++b.last).length c2) (az (a.last++b.last))::own 3 1 (a.first++b.first).length (.slice x1 (a.first++b.first).length c1) (az (a.first++b.first))::z::F)) ?_ ?_
  ·apply Ru
   refine gw2 10 16 ?_ ?_
   ·refine GO.buildSlice2 (n:=1) (v1:=vaf) (v2:=vbf) rfl rfl rfl (fun v hv=>by simp only [List.mem_cons,List.not_mem_nil,or_false] at hv;rcases hv with rfl | rfl;exact o1;exact o3) rfl ⟨by decide,by decide⟩ fun bs=>?_
    rw [show aA [vaf,vbf]=[vaf,vbf] from e1]
    refine GO.ownIn (n:=2) (sz:=1) Tk.h rfl (by decide) ?_
    refine GO.ownRd (n:=2) (sz:=1) Tk.h fun q15 hq15=>?_
    refine gwn ?_
    refine gw2 11 16 ?_ ?_
    ·refine scl (bR q15 z _ vaf vbf a.first b.first hq15 haf hbf (by omega) (by omega)) ?_
     rintro v16 _ rfl
     refine GO.ownShp Tk.h fun x1 c1 e8=>?_
     subst e8
     refine gwn ?_
     refine gw1 16 ?_
     refine GO.buildSlice2 (n:=1) (v1:=val) (v2:=vbl) rfl rfl rfl (fun v hv=>by simp only [List.mem_cons,List.not_mem_nil,or_false] at hv;rcases hv with rfl | rfl;exact o2;exact o4) rfl ⟨by decide,by decide⟩ fun bs=>?_
     rw [show aA [val,vbl]=[val,vbl] from e2]
     refine GO.ownIn (n:=2) (sz:=1) Tk.h rfl (by decide) ?_
     refine GO.ownRd (n:=2) (sz:=1) Tk.h fun q21 hq21=>?_
     refine gwn ?_
     refine gw1 17 ?_
     refine scl (bR q21 z _ val vbl a.last b.last hq21 hal hbl (by omega) (by omega)) ?_
     rintro v22 _ rfl
     refine GO.ownShp Tk.h fun x2 c2 e8=>?_
     subst e8
     refine gwn ?_
     refine gw1 18 ?_
     refine GO.build3 rfl rfl rfl rfl rfl ?_
     refine gwn ?_
     refine GW.nil ⟨x1,c1,x2,c2,by (exact SE rfl),ImpS.sb SB⟩
    ·refine GO.buildSlice2 (n:=1) (v1:=val) (v2:=vbl) rfl rfl rfl (fun v hv=>by simp only [List.mem_cons,List.not_mem_nil,or_false] at hv;rcases hv with rfl | rfl;exact o2;exact o4) rfl ⟨by decide,by decide⟩ fun bs=>?_
     rw [show aA [val,vbl]=[val,vbl] from e2]
     refine GO.ownIn (n:=2) (sz:=1) Tk.h rfl (by decide) ?_
     refine GO.ownRd (n:=2) (sz:=1) Tk.h fun q21 hq21=>?_
     refine gwn ?_
     refine gw1 11 ?_
     refine scl (bR q15 z _ vaf vbf a.first b.first hq15 haf hbf (by omega) (by omega)) ?_
     rintro v16 _ rfl
     refine GO.ownShp Tk.h fun x1 c1 e8=>?_
     subst e8
     refine gwn ?_
     refine gw1 17 ?_
     refine scl (bR q21 z _ val vbl a.last b.last hq21 hal hbl (by omega) (by omega)) ?_
     rintro v22 _ rfl
     refine GO.ownShp Tk.h fun x2 c2 e8=>?_
     subst e8
     refine gwn ?_
     refine gw1 18 ?_
     refine GO.build3 rfl rfl rfl rfl rfl ?_
     refine gwn ?_
     refine GW.nil ⟨x1,c1,x2,c2,by (exact SE rfl),ImpS.sb SB⟩
   ·refine GO.buildSlice2 (n:=1) (v1:=val) (v2:=vbl) rfl rfl rfl (fun v hv=>by simp only [List.mem_cons,List.not_mem_nil,or_false] at hv;rcases hv with rfl | rfl;exact o2;exact o4) rfl ⟨by decide,by decide⟩ fun bs=>?_
    rw [show aA [val,vbl]=[val,vbl] from e2]
    refine GO.ownIn (n:=2) (sz:=1) Tk.h rfl (by decide) ?_
    refine GO.ownRd (n:=2) (sz:=1) Tk.h fun q21 hq21=>?_
    refine gwn ?_
    refine gw1 10 ?_
    refine GO.buildSlice2 (n:=1) (v1:=vaf) (v2:=vbf) rfl rfl rfl (fun v hv=>by simp only [List.mem_cons,List.not_mem_nil,or_false] at hv;rcases hv with rfl | rfl;exact o1;exact o3) rfl ⟨by decide,by decide⟩ fun bs=>?_
    rw [show aA [vaf,vbf]=[vaf,vbf] from e1]
    refine GO.ownIn (n:=2) (sz:=1) Tk.h rfl (by decide) ?_
    refine GO.ownRd (n:=2) (sz:=1) Tk.h fun q15 hq15=>?_
    refine gwn ?_
    refine gw1 11 ?_
    refine scl (bR q15 z _ vaf vbf a.first b.first hq15 haf hbf (by omega) (by omega)) ?_
    rintro v16 _ rfl
    refine GO.ownShp Tk.h fun x1 c1 e8=>?_
    subst e8
    refine gwn ?_
    refine gw1 17 ?_
    refine scl (bR q21 z _ val vbl a.last b.last hq21 hal hbl (by omega) (by omega)) ?_
    rintro v22 _ rfl
    refine GO.ownShp Tk.h fun x2 c2 e8=>?_
    subst e8
    refine gwn ?_
    refine gw1 18 ?_
    refine GO.build3 rfl rfl rfl rfl rfl ?_
    refine gwn ?_
    refine GW.nil ⟨x1,c1,x2,c2,by (exact SE rfl),ImpS.sb SB⟩
  ·rintro L8 H8 ⟨x1,c1,x2,c2,hL8,hH8⟩
   refine GO.subI hL8 hH8 ?_
   refine GO.storeW rfl rfl Tk.h ⟨rfl,rfl⟩ (by simp [Value.oneCell']) ?_
   clear hL8 hH8 L8 H8
   apply Ru
   exact kr1 rfl ⟨.slice x1 (a.first++b.first).length c1,.slice x2 (a.last++b.last).length c2,rfl,rfl⟩
end
section
structure PtB (lo hi:Nat) (pt:PtD):Prop where
 le:lo≤hi
 fst:∀ q∈pt.first,0 < q∧q≤hi
 lst:∀ q∈pt.last,0 < q∧q≤hi
 nf:pt.first.length≤hi - lo
 nl:pt.last.length≤hi - lo
theorem PtB.seq {lo mid hi:Nat} {a b:PtD} (ha:PtB lo mid a) (hb:PtB mid hi b):PtB lo hi (ir a b):=by
 have h1:=ha.le;have h2:=hb.le;have h3:=ha.nf;have h4:=ha.nl;have h5:=hb.nf;have h6:=hb.nl
 refine ⟨by omega,fun q hq=>?_,fun q hq=>?_,?_,?_⟩
 ·rcases List.mem_append.1 hq with hq | hq
  ·have:=ha.fst q hq;omega
  ·split at hq
   ·exact hb.fst q hq
   ·cases hq
 ·rcases List.mem_append.1 hq with hq | hq
  ·exact hb.lst q hq
  ·split at hq
   ·have:=ha.lst q hq;omega
   ·cases hq
 ·show (a.first++_).length≤_
  rw [List.length_append]
  split
  ·omega
  ·rw [List.length_nil];omega
 ·show (b.last++_).length≤_
  rw [List.length_append]
  split
  ·omega
  ·rw [List.length_nil];omega
theorem PtB.alt {lo mid hi:Nat} {a b:PtD} (ha:PtB lo mid a) (hb:PtB mid hi b):PtB lo hi (gP a b):=by
 have h1:=ha.le;have h2:=hb.le;have h3:=ha.nf;have h4:=ha.nl;have h5:=hb.nf;have h6:=hb.nl
 refine ⟨by omega,fun q hq=>?_,fun q hq=>?_,?_,?_⟩
 ·rcases List.mem_append.1 hq with hq | hq
  ·have:=ha.fst q hq;omega
  ·exact hb.fst q hq
 ·rcases List.mem_append.1 hq with hq | hq
  ·have:=ha.lst q hq;omega
  ·exact hb.lst q hq
 ·show (a.first++b.first).length≤_
  rw [List.length_append];omega
 ·show (a.last++b.last).length≤_
  rw [List.length_append];omega
theorem PtB.nil {n:Nat} {e:Bool}:PtB n n ⟨e,[],[]⟩:=⟨Nat.le_refl _,fun q h=>(by cases h),fun q h=>(by cases h),Nat.zero_le _,Nat.zero_le _⟩
section
variable (leaf:Nat→List UInt8→SyD)
mutual
theorem ti:∀ (t:Tree) (st:GSt),PtB st.1.length (bC leaf t st).2.1.length (bC leaf t st).1∧st.2.length≤(bC leaf t st).2.2.length
 | .node k n ts,st=>by
  have h:=gE k ts ⟨decide (k=1) || decide (k=4),[],[]⟩ st st.1.length PtB.nil
  rw [bC]
  by_cases h23:k=2∨k=3
  ·rw [if_pos h23]
   refine ⟨⟨by simp,fun q hq=>?_,fun q hq=>?_,by simp,by simp⟩,Nat.le_refl _⟩
   ·rw [List.mem_singleton.1 hq];simp
   ·rw [List.mem_singleton.1 hq];simp
  ·rw [if_neg h23]
   generalize bQ leaf k ts ⟨decide (k=1) || decide (k=4),[],[]⟩ st=x at *
   obtain ⟨p,s,a⟩:=x
   dsimp only at h ⊢
   obtain ⟨h1,_,h2⟩:=h
   by_cases h67:k=6∨k=7
   ·rw [if_pos h67]
    exact ⟨⟨h1.le,h1.fst,h1.lst,h1.nf,h1.nl⟩,by dsimp only;rw [List.length_append];omega⟩
   ·rw [if_neg h67]
    exact ⟨⟨h1.le,h1.fst,h1.lst,h1.nf,h1.nl⟩,h2⟩
theorem gE (k:Nat):∀ (ts:List Tree) (out:PtD) (st:GSt) (lo:Nat),PtB lo st.1.length out→PtB lo (bQ leaf k ts out st).2.1.length (bQ leaf k ts out st).1∧st.1.length≤(bQ leaf k ts out st).2.1.length∧st.2.length≤(bQ leaf k ts out st).2.2.length
 | [],out,st,lo,h=>by rw [bQ];exact ⟨h,Nat.le_refl _,Nat.le_refl _⟩
 | t::ts,out,st,lo,h=>by
  obtain ⟨h1,h2⟩:=ti t st
  have h0:=h1.le
  rw [bQ]
  by_cases h4:k=4
  ·rw [if_pos h4]
   obtain ⟨h3,h5,h4⟩:=gE k ts (ir out (bC leaf t st).1) ((bC leaf t st).2.1,(bC leaf t st).2.2++aH (bC leaf t st).2.1 out.last (bC leaf t st).1.first) lo (h.seq h1)
   dsimp only at h4 h5
   refine ⟨h3,by omega,?_⟩
   rw [List.length_append] at h4
   omega
  ·rw [if_neg h4]
   obtain ⟨h3,h5,h4⟩:=gE k ts (gP out (bC leaf t st).1) (bC leaf t st).2 lo (h.alt h1)
   exact ⟨h3,by omega,by omega⟩
end
end
section
variable {P:Program} {c:Cx} {A:Array Oper} {rest:List Oper} {K:aY} {L:Env} {H:List HP} {t:TypeId} {p:String} {e:Array Edge} {d:Nat}
theorem GO.sliceTail {ty el:TypeId} {sz n cap b o:Nat} {kk:IntKind} {i:Int} {x y:Operand} [hu:UL P ty (.slice el)] [hs:SZ P el sz] (hN:Nat.blt d c.N=true) (hx:evl L x=some (.slice (some ⟨b,o,none⟩) n cap)) (hy:evl L y=some (.int kk i)) (hi:i=1∧1≤n∧n≤cap)
  (k:∀ o',(1 < cap→o'=o+sz)→GO P c A rest K ((d,.slice (some ⟨b,o',none⟩) (n - 1) (cap - 1))::L) H):GO P c A (⟨some d,.slice ty x (some y) none none,t,p,e,none⟩::rest) K L H:=by
 by_cases hc:1 < cap
 ·exact GO.sliceLo (l:=1) hN hx hy ⟨hi.1,hi.2.1,hc⟩ (by rw [Nat.one_mul];exact k _ fun _=>rfl)
 ·obtain ⟨rfl,h1,h2⟩:=hi
  obtain rfl:cap=1:=by omega
  obtain rfl:n=1:=by omega
  refine GO.val hN rfl (fun a w Y h _=>?_) (k o fun h=>absurd h hc)
  have hle:((1:Nat):Int)≤((1:Nat):Int):=Int.le_refl _
  simp only [execOp,h.eval hx,Option.map_none,Option.map_some,h.eval hy]
  have e0:∀ bc,(Instr.sliceBound (.int kk 1) 1 bc).run P w=.ok 1 w:=fun bc=>run_sliceBound w kk 1 1 bc (by decide) (by decide)
  simp [Instr.sliceAt,Instr.slice,Sem.run_bind,run_underlying hu.out,Instr.sliceBounds,e0,bJ,Result.andThen]
end
theorem NodesR.tail {q:HP} {b o o' cap:Nat} {m:NodeD} {r:List NodeD} (h:NodesR q (.slice (some ⟨b,o,none⟩) (r.length+1) cap) (m::r)) (ho:1 < cap→o'=o+3):NodesR q (.slice (some ⟨b,o',none⟩) r.length (cap - 1)) r:=by
 obtain ⟨a,cap2,e,h1,h2,h3⟩:=h
 injection e with e1 e2 e3
 subst e3
 rw [List.length_cons] at h1 h2 h3
 refine ⟨_,_,rfl,by omega,iY r,fun hr=>?_⟩
 obtain ⟨b2,o2,e,h4⟩:=h3 (by omega)
 rw [← e1] at e
 injection e with e
 injection e with e4 e5 _
 subst e4 e5
 refine ⟨b,o',rfl,fun j u hj=>?_⟩
 rw [ho (by omega),Nat.add_assoc]
 refine h4 _ _ ?_
 show (fS m++aO r)[3+j]?=some u
 rw [List.getElem?_append_right (by show 3≤3+j;omega),show 3+j - (fS m).length=j by show 3+j - 3=j;omega]
 exact hj
theorem FnV.one {P:Program} {v:Value} {args:List Value} {J:List HP} {R:Value→Prop} (h:FnV P v args J (fun r Q=>R r∧Q=J)):FnV P v args [aL J] (fun r Q=>R r∧Q=[aL J]):=by
 obtain ⟨fn,caps,hv,h⟩:=h
 refine ⟨fn,caps,hv,fun F w s=>?_⟩
 obtain ⟨nx,h1,h2⟩:=h F w (aJ.1 s)
 refine ⟨nx,h1,h2.mono fun e w'=>?_⟩
 rintro ⟨v,Q,a,b,⟨x1,x2⟩,d⟩
 rw [x2] at d
 exact ⟨_,[aL J],a,b,⟨x1,rfl⟩,aJ.2 d⟩
end
section
theorem G.midBE {P:Program} {c:Cx} {K:aY} {L:Env} {H:List HP} {σ:Type} {x y:Code} {id:Nat} (S:σ→Env) (M:σ→List HP) (I:σ→Prop) (hx:G P c x (cB id (cF (fun L' H'=>∃ s,I s∧SubE (S s) L'∧ImpS H' (M s)) K)) L H) (hy:∀ s,I s→G P c y K (S s) (M s)):G P c x (cB id (cF (fun L H=>G P c y K L H) K)) L H:=
 G.mono hx (fun e L' H' h=>by
  cases e with
  | normal=>obtain ⟨s,hi,hL,hH⟩:=h;exact G.subI hL hH (hy s hi)
  | exit i=>
   simp only [cB] at h ⊢
   cases hb:Nat.beq i id with
   | true=>simp only [hb,cond_true] at h ⊢;obtain ⟨s,hi,hL,hH⟩:=h;exact G.subI hL hH (hy s hi)
   | false=>simp only [hb,cond_false] at h ⊢;exact h
  | _=>exact h)
abbrev jB (v:Value) (S:List SyD):HP:=own 85 2 S.length v (cO S)
abbrev iu (v:Value) (A:List ArD):HP:=own 87 4 A.length v (aP A)
structure TrS where
 i:Nat
 ts:List Tree
 out:PtD
 st:GSt
 vs:Value
 va:Value
 vf:Value
 vl:Value
 w:Value
 z:HP
def Dp (bm:Nat) (q g:HP) (rest:List NodeD) (x:PtD × GSt):Value→List HP→Prop:=fun r Q=>∃ vs va vf vl w z,bU z vf x.1.first∧bU z vl x.1.last∧NodesR q w rest∧r=.tuple #[oQ x.1.emp vf vl,w]∧Q=[mkP bm vs va,jB vs x.2.1,iu va x.2.2,z,q,g]
section
variable {P:Program} {c:Cx} {A:Array Oper} {rest:List Oper} {K:aY} {L:Env} {H:List HP} {t ty:TypeId} {p:String} {e:Array Edge} {d:Nat}
theorem GO.buildPart2 {i1 i2:Nat} {x1 x2:Operand} {v1 v2:Value} {l:List Value} (hb:P.built ty [(i1,v1),(i2,v2)]=some l.toArray) (hN:Nat.blt d c.N=true) (h1:evl L x1=some v1) (h2:evl L x2=some v2)
  (k:GO P c A rest K ((d,.agg l.toArray)::L) H):GO P c A (⟨some d,.build ty #[(i1,x1),(i2,x2)],t,p,e,none⟩::rest) K L H:=
 GO.buildPart (ps:=[(i1,x1),(i2,x2)]) hb hN ⟨rfl,h1,rfl,h2,trivial⟩ k
end
theorem jj (x:Bool):Tryz.prog.built 148 [(0,.bool x)]=some [.bool x,.slice none 0 0,.slice none 0 0].toArray:=by kernel_rfl
theorem nv (a1 a2:Option Addr) (n1 n2 c1 c2:Nat):Tryz.prog.built 148 [(1,.slice a1 n1 c1),(2,.slice a2 n2 c2)]=some [.bool false,.slice a1 n1 c1,.slice a2 n2 c2].toArray:=by kernel_rfl
theorem qP (S:List SyD) (s:SyD):cO (S++[s])=cO S++l5 s:=by rw [Aj];unfold cO;simp
attribute [local irreducible] bO cz G GO GR GT GW Fn FnX FnV FnXV Dfr pt init exs pur sat own ImpS az aP cO aH bC bQ ay aO
theorem yg (leaf:Nat→List UInt8→SyD) (yv:Value) (g:HP) (hy:∀ m:NodeD,(m.kind=2∨m.kind=3)→FnV Tryz.prog yv [rH m] [g] (fun r Q=>r=syA (leaf m.kind m.name)∧Q=[g])) (bm:Nat) (q:HP) (n:Nat):∀ (t:Tree) (rest:List NodeD) (v vs va:Value) (st:GSt),okT t=true→(flat t).length≤n→NodesR q v (flat t++rest)→¬ 1048576 < (flat t++rest).length→¬ 1024 < (bC leaf t st).2.1.length→¬ 2147483648 < (bC leaf t st).2.2.length →
  Fn Tryz.prog 62 #[ah bm,v,yv] [mkP bm vs va,jB vs st.1,iu va st.2,q,g] (Dp bm q g rest (bC leaf t st)):=by
 induction n with
 | zero=>intro t rest v vs va st _ h;have:=dF t;omega
 | succ n ih=>
 rintro ⟨k,nm,ts⟩ rest v vs va st hok hn hq hl hS hA
 rw [okT,Bool.and_eq_true] at hok
 have hkid:∀ u∈ts,okT u=true:=fun u hu=>gu hok.2 hu
 have hm:=eK hok.1
 dsimp only at hm
 have h0:flat (.node k nm ts)=⟨k,nm,ts.length⟩::ay ts:=by rw [flat]
 obtain ⟨b,o,cap,rfl,hcap,rm⟩:=ee hq (i:=0) (m:=⟨k,nm,ts.length⟩) (by rw [h0];rfl)
 rw [h0,List.cons_append,List.length_cons] at hq hcap
 have hlen:(flat (.node k nm ts)++rest).length=(ay ts++rest).length+1:=by rw [h0];rfl
 rw [hlen]
 rw [hlen] at hl
 have htail:=fun o' ho=>NodesR.tail (o':=o') hq ho
 have hy:=hy ⟨k,nm,ts.length⟩
 have hkl:(flat (.node k nm ts)).length=(ay ts).length+1:=by rw [h0];rfl
 rw [hkl] at hn
 clear h0 hlen hkl hq hok
 generalize hg:bC leaf (.node k nm ts) st=res at *
 rw [bC] at hg
 refine Fn.mk2 Tryz.func62 rfl rfl fun w0 F=>?_
 (apply Ru;refine sal fun b6=>?_;apply Ru;refine six ?_)
 refine GO.loadM (vs:=[i64 (k:Nat),str nm,i64 (ts.length:Nat)]) rfl rfl rfl (Tk.t (Tk.t (Tk.t (Tk.t Tk.h)))) rfl rm ?_
 (refine sal fun b8=>?_;apply Ru)
 refine GO.sliceTail rfl rfl rfl ⟨rfl,by omega,by omega⟩ fun o' ho=>?_
 have htl:=htail o' ho
 clear htail
 rw [Nat.add_sub_cancel]
 have bnd:∀ x y:PtD × GSt,x=y→y.2.1.length≤x.2.1.length:=fun x y e=>by rw [e];exact Nat.le_refl _
 by_cases h1:k=1
 ·have c1:decide ((k:Int)=1)=true:=decide_eq_true (by omega)
  have c2:decide ((k:Int)=2)=false:=decide_eq_false (by omega)
  have c3:decide ((k:Int)=3)=false:=decide_eq_false (by omega)
  have c6:decide ((k:Int)=6)=false:=decide_eq_false (by omega)
  have c7:decide ((k:Int)=7)=false:=decide_eq_false (by omega)
  have hts:ts=[]:=by
   rcases hm with h | h | h | h | h
   ·exact List.length_eq_zero_iff.1 h.2.2
   all_goals omega
  rw [if_neg (by omega),if_neg (by omega),hts,bQ,decide_eq_true h1] at hg
  subst hg
  dsimp only
  rw [hts,show ay []=[] by unfold ay;rfl,List.nil_append] at htl ⊢
  (apply Ru;refine sgF ?_;refine sgF ?_;refine sgF ?_;refine spT ?_)
  refine GO.buildPart1 (jj true) rfl rfl ?_
  (refine sal fun b10=>?_;apply Ru;refine sgT ?_;refine sgT ?_;refine sgT ?_;refine spF ?_;refine scF ?_)
  refine G.loopI (σ:=Unit) (fun _=>[(6,ah b6),(8,ah b8),(9,.slice (some ⟨b,o',none⟩) rest.length (cap - 1)),(10,ah b10),(59,i64 ((0:Nat):Int)),(60,i64 ((0:Nat):Int))]) (fun _=>pt b10 (row [.bool true,.slice none 0 0,.slice none 0 0] 148)::pt b8 (row [i64 (k:Nat),str nm,i64 ((0:Nat):Int)] 93)::pt b6 (row [.bool false,.slice none 0 0,.slice none 0 0] 148)::mkP bm vs va::jB vs st.1::iu va st.2::q::g::F) (fun _=>True) (fun _=>0) () trivial ?_ ?_ ?_
  ·exact SE rfl
  ·exact ImpS.sb SB
  intro _ _
  (apply Ru;refine G.condF rfl rfl ?_;apply Ru;refine scF ?_;refine scF ?_;refine GO.loadW rfl rfl rfl Tk.h rfl ?_;apply Ru)
  refine KF2.r2 rfl (RV.cW rfl rfl Tk.h rfl) (RV.t rfl) ⟨vs,va,.slice none 0 0,.slice none 0 0,_,Go.Proofs.YtkeialpeabhaaaaGreat.pur True,⟨none,0,rfl,by unfold az;rfl,fun h=>absurd h (by simp)⟩,⟨none,0,rfl,by unfold az;rfl,fun h=>absurd h (by simp)⟩,htl,rfl,rfl⟩ (ImpS.trans ImpS.tt (ImpS.sb ?_))
  exact SB
 have c1:decide ((k:Int)=1)=false:=decide_eq_false (by omega)
 by_cases h23:k=2∨k=3
 ·rw [if_pos h23] at hg
  subst hg
  dsimp only at hS hA ⊢
  have c4:decide ((k:Int)=4)=false:=decide_eq_false (by omega)
  have hts:ts=[]:=by
   rcases hm with h | h | h | h | h
   ·omega
   ·exact List.length_eq_zero_iff.1 h.2.1
   ·exact List.length_eq_zero_iff.1 h.2.1
   all_goals omega
  subst hts
  rw [show ay []=[] by unfold ay;rfl,List.nil_append] at htl
  rw [show ay []=[] by unfold ay;rfl,List.nil_append]
  have hy:=hy h23
  dsimp only at hy
  generalize leaf k nm=s at *
  rw [List.length_append,List.length_cons,List.length_nil] at hS
  rcases h23 with h2 | h3
  ·have c2:decide ((k:Int)=2)=true:=decide_eq_true (by omega)
   (apply Ru;refine sgT ?_;refine sgT ?_;refine sgT ?_;refine spF ?_)
   rw [c4]
   refine GO.buildPart1 (jj false) rfl rfl ?_
   (refine sal fun b10=>?_;apply Ru;refine sgF ?_;refine sgF ?_;refine sgF ?_;refine spT ?_)
   refine drT 12 768 [mkP bm vs va,g,pt b8 (row [i64 (k:Nat),str nm,i64 (([]:List Tree).length:Nat)] 93)] ?_
   (apply Ru;(apply GR.step rfl;focus (intro Z;refine GO.loadW rfl rfl rfl (Tk.t (Tk.t Tk.h)) rfl ?_;exact KQ.z)))
   apply GR.step rfl;focus (intro Z;refine GO.callV1 rfl rfl rfl hy (Tks.c (Tk.t Tk.h) Tks.n) ?_;rintro _ _ ⟨rfl,rfl⟩;refine GO.nil (KQ.s ?_);exact SB)
   apply Ru
   (repeat refine GT.skip rfl ?_)
   refine GT.step rfl ?_
   refine GO.buildSlice1 (n:=2) (v1:=syA s) rfl rfl (fun v hv=>by rw [List.mem_singleton.1 hv];rfl) rfl ⟨by decide,by decide⟩ fun bs3=>?_
   refine gtn ?_
   refine GT.step rfl ?_
   refine GO.appendOwn (m:=1) (news:=l5 s) rfl rfl rfl (Tk.t (Tk.t (Tk.t (Tk.t (Tk.t (Tk.t Tk.h)))))) (Tk.t (Tk.t (Tk.t Tk.h))) rfl (by simp [Value.oneCell']) ⟨by decide,rfl⟩ Nat.one_pos (by unfold maxLen;omega) (by omega) fun v4=>?_
   refine GO.ownShp Tk.h fun x4 c4 e4=>?_
   subst e4
   refine gtn ?_
   refine GO.buildSlice1 (n:=1) rfl rfl (fun v hv=>by rw [List.mem_singleton.1 hv];rfl) rfl ⟨by decide,by decide⟩ fun bs5=>?_
   refine GO.ownIn (n:=1) (sz:=1) Tk.h rfl (by decide) ?_
   refine GO.ownRd (n:=1) (sz:=1) Tk.h fun qa hqa=>?_
   apply Ru
   refine GO.buildSlice1 (n:=1) rfl rfl (fun v hv=>by rw [List.mem_singleton.1 hv];rfl) rfl ⟨by decide,by decide⟩ fun bs6=>?_
   refine GO.ownIn (n:=1) (sz:=1) Tk.h rfl (by decide) ?_
   refine GO.ownRd (n:=1) (sz:=1) Tk.h fun qb hqb=>?_
   refine GO.merge (x:=qa) (y:=qb) (Tks.c (Tk.t Tk.h) (Tks.c Tk.h Tks.n)) ?_
   refine GO.buildPart2 (nv _ _ _ _ _ _) rfl rfl rfl ?_
   apply Ru
   refine KF2.r2 rfl (RV.cW rfl rfl Tk.h rfl) (RV.t rfl) ⟨.slice x4 (st.1.length+1) c4,va,.slice (some ⟨bs5,0,none⟩) 1 1,.slice (some ⟨bs6,0,none⟩) 1 1,_,aL [qa,qb],?_,?_,htl,rfl,rfl⟩ (ImpS.sb ?_)
   ·show Sl _ _ _ _ _
    unfold az
    exact hqa.sup (Sup.left _ _)
   ·show Sl _ _ _ _ _
    unfold az
    exact hqb.sup (Sup.right _ _)
   ·dsimp only
    rw [show ∀ v,jB v (st.1++[s])=own 85 2 (st.1.length+1) v (cO st.1++l5 s) from fun v=>by unfold jB;rw [List.length_append,qP];rfl]
    exact SB
  ·have c2:decide ((k:Int)=2)=false:=decide_eq_false (by omega)
   have c3:decide ((k:Int)=3)=true:=decide_eq_true (by omega)
   (apply Ru;refine sgT ?_;refine sgT ?_;refine sgT ?_;refine spF ?_)
   rw [c4]
   refine GO.buildPart1 (jj false) rfl rfl ?_
   (refine sal fun b10=>?_;apply Ru;refine sgT ?_;refine sgT ?_;refine sgT ?_;refine spF ?_;refine scT ?_)
   refine drT 12 768 [mkP bm vs va,g,pt b8 (row [i64 (k:Nat),str nm,i64 (([]:List Tree).length:Nat)] 93)] ?_
   (apply Ru;(apply GR.step rfl;focus (intro Z;refine GO.loadW rfl rfl rfl (Tk.t (Tk.t Tk.h)) rfl ?_;exact KQ.z)))
   apply GR.step rfl;focus (intro Z;refine GO.callV1 rfl rfl rfl hy (Tks.c (Tk.t Tk.h) Tks.n) ?_;rintro _ _ ⟨rfl,rfl⟩;refine GO.nil (KQ.s ?_);exact SB)
   apply Ru
   (repeat refine GT.skip rfl ?_)
   refine GT.step rfl ?_
   refine GO.buildSlice1 (n:=2) (v1:=syA s) rfl rfl (fun v hv=>by rw [List.mem_singleton.1 hv];rfl) rfl ⟨by decide,by decide⟩ fun bs3=>?_
   refine gtn ?_
   refine GT.step rfl ?_
   refine GO.appendOwn (m:=1) (news:=l5 s) rfl rfl rfl (Tk.t (Tk.t (Tk.t (Tk.t (Tk.t (Tk.t Tk.h)))))) (Tk.t (Tk.t (Tk.t Tk.h))) rfl (by simp [Value.oneCell']) ⟨by decide,rfl⟩ Nat.one_pos (by unfold maxLen;omega) (by omega) fun v4=>?_
   refine GO.ownShp Tk.h fun x4 c4 e4=>?_
   subst e4
   refine gtn ?_
   refine GO.buildSlice1 (n:=1) rfl rfl (fun v hv=>by rw [List.mem_singleton.1 hv];rfl) rfl ⟨by decide,by decide⟩ fun bs5=>?_
   refine GO.ownIn (n:=1) (sz:=1) Tk.h rfl (by decide) ?_
   refine GO.ownRd (n:=1) (sz:=1) Tk.h fun qa hqa=>?_
   apply Ru
   refine GO.buildSlice1 (n:=1) rfl rfl (fun v hv=>by rw [List.mem_singleton.1 hv];rfl) rfl ⟨by decide,by decide⟩ fun bs6=>?_
   refine GO.ownIn (n:=1) (sz:=1) Tk.h rfl (by decide) ?_
   refine GO.ownRd (n:=1) (sz:=1) Tk.h fun qb hqb=>?_
   refine GO.merge (x:=qa) (y:=qb) (Tks.c (Tk.t Tk.h) (Tks.c Tk.h Tks.n)) ?_
   refine GO.buildPart2 (nv _ _ _ _ _ _) rfl rfl rfl ?_
   apply Ru
   refine KF2.r2 rfl (RV.cW rfl rfl Tk.h rfl) (RV.t rfl) ⟨.slice x4 (st.1.length+1) c4,va,.slice (some ⟨bs5,0,none⟩) 1 1,.slice (some ⟨bs6,0,none⟩) 1 1,_,aL [qa,qb],?_,?_,htl,rfl,rfl⟩ (ImpS.sb ?_)
   ·show Sl _ _ _ _ _
    unfold az
    exact hqa.sup (Sup.left _ _)
   ·show Sl _ _ _ _ _
    unfold az
    exact hqb.sup (Sup.right _ _)
   ·dsimp only
    rw [show ∀ v,jB v (st.1++[s])=own 85 2 (st.1.length+1) v (cO st.1++l5 s) from fun v=>by unfold jB;rw [List.length_append,qP];rfl]
    exact SB
 rw [if_neg h23] at hg
 have c2:decide ((k:Int)=2)=false:=decide_eq_false (by omega)
 have c3:decide ((k:Int)=3)=false:=decide_eq_false (by omega)
 have e4:decide ((k:Int)=4)=(decide (k=1) || decide (k=4)):=by
  rw [decide_eq_false h1,Bool.false_or]
  by_cases h4:k=4
  ·rw [decide_eq_true h4,decide_eq_true (by omega)]
  ·rw [decide_eq_false h4,decide_eq_false (by omega)]
 (apply Ru;refine sgT ?_;refine sgT ?_;refine sgT ?_;refine spF ?_)
 rw [e4]
 generalize hfin:bQ leaf k ts ⟨decide (k=1) || decide (k=4),[],[]⟩ st=fin at *
 have hB0:=gE leaf k ts ⟨decide (k=1) || decide (k=4),[],[]⟩ st st.1.length PtB.nil
 rw [hfin] at hB0
 have hS1:fin.2.1.length=res.2.1.length:=by rw [← hg];dsimp only;split <;> rfl
 have hA1:fin.2.2.length≤res.2.2.length:=by
  rw [← hg];dsimp only;split
  ·dsimp only;rw [List.length_append];omega
  ·exact Nat.le_refl _
 generalize (decide (k=1) || decide (k=4))=e0 at *
 refine GO.buildPart1 (jj e0) rfl rfl ?_
 (refine sal fun b10=>?_;apply Ru;refine sgT ?_;refine sgT ?_;refine sgT ?_;refine spF ?_;refine scF ?_)
 refine G.loopI (σ:=TrS) (fun x=>[(0,ah bm),(2,yv),(6,ah b6),(8,ah b8),(9,x.w),(10,ah b10),(59,i64 (ts.length:Nat)),(60,i64 (x.i:Nat))]) (fun x=>pt b10 (row [.bool x.out.emp,x.vf,x.vl] 148)::pt b8 (row [i64 (k:Nat),str nm,i64 (ts.length:Nat)] 93)::pt b6 (row [.bool false,.slice none 0 0,.slice none 0 0] 148)::mkP bm x.vs x.va::jB x.vs x.st.1::iu x.va x.st.2::x.z::q::g::F)
  (fun x=>bQ leaf k x.ts x.out x.st=fin∧PtB st.1.length x.st.1.length x.out∧x.i+x.ts.length=ts.length∧(∀ u∈x.ts,okT u=true)∧(ay x.ts).length≤(ay ts).length∧NodesR q x.w (ay x.ts++rest)∧bU x.z x.vf x.out.first∧bU x.z x.vl x.out.last) (fun x=>x.ts.length)
  ⟨0,ts,⟨e0,[],[]⟩,st,vs,va,.slice none 0 0,.slice none 0 0,.slice (some ⟨b,o',none⟩) (ay ts++rest).length (cap - 1),Go.Proofs.YtkeialpeabhaaaaGreat.pur True⟩ ⟨hfin,PtB.nil,Nat.zero_add _,hkid,Nat.le_refl _,htl,⟨none,0,rfl,by unfold az;rfl,fun h=>absurd h (by simp)⟩,⟨none,0,rfl,by unfold az;rfl,fun h=>absurd h (by simp)⟩⟩ ?_ ?_ ?_
 ·exact SE rfl
 ·refine ImpS.trans ImpS.tt (ImpS.sb ?_)
  exact SB
 clear htl hfin hB0 hkid
 rintro ⟨i,us,out,st',vs,va,vf,vl,w,z⟩ ⟨hfin,hB,hi,hkid,hfl,hw,hvf,hvl⟩
 dsimp only at hfin hB hi hkid hfl hw hvf hvl ⊢
 have hvf':=hvf
 have hvl':=hvl
 have hw':=hw
 obtain ⟨af,cf,rfl⟩:=cM hvf'
 obtain ⟨al,cl,rfl⟩:=cM hvl'
 obtain ⟨aw,cw,rfl⟩:=aZ hw'
 clear hvf' hvl' hw'
 apply Ru
 cases us with
 | cons u us=>
  rw [List.length_cons] at hi
  have d1:decide ((i:Int) < (ts.length:Int))=true:=decide_eq_true (by omega)
  have hfu:ay (u::us)=flat u++ay us:=by rw [ay]
  rw [hfu,List.append_assoc] at hw
  rw [hfu,List.length_append] at hfl
  rw [bQ] at hfin
  have hku:=hkid u (by simp)
  have hB1:=ti leaf u st'
  have hup:=dF u
  have htl:¬ 1048576 < ts.length:=by have:=j8 ts;rw [List.length_append] at hl;omega
  have hl1:(flat u++(ay us++rest)).length≤(ay ts++rest).length:=by simp only [List.length_append] at hfl ⊢;omega
  rw [hfu,List.append_assoc]
  have hi1:=ih u (ay us++rest) (.slice aw (flat u++(ay us++rest)).length cw) vs va st' hku (by omega) hw (by omega)
  clear hfu hw
  generalize hkid1:bC leaf u st'=kid at *
  obtain ⟨kp,S2,A2⟩:=kid
  dsimp only at hi1 hB1 hfin
  have hSA:S2.length≤fin.2.1.length∧A2.length≤fin.2.2.length∧(k=4→(A2++aH S2 out.last kp.first).length≤fin.2.2.length):=by
   by_cases h4:k=4
   ·rw [if_pos h4] at hfin
    obtain ⟨_,g1,g2⟩:=gE leaf k us (ir out kp) (S2,A2++aH S2 out.last kp.first) st.1.length (hB.seq hB1.1)
    rw [hfin] at g1 g2
    dsimp only at g1 g2
    refine ⟨g1,?_,fun _=>g2⟩
    rw [List.length_append] at g2;omega
   ·rw [if_neg h4] at hfin
    obtain ⟨_,g1,g2⟩:=gE leaf k us (gP out kp) (S2,A2) st.1.length (hB.alt hB1.1)
    rw [hfin] at g1 g2
    exact ⟨g1,g2,fun h=>absurd h h4⟩
  have hi1:=hi1 (by omega) (by omega)
  (refine scT ?_;refine sal fun b12=>?_;apply Ru)
  refine scl (hi1) ?_
  rintro _ _ ⟨vs2,va2,kvf,kvl,w2,z2,hkf,hkl,hw2,rfl,rfl⟩
  dsimp only at hkf hkl ⊢
  refine GO.merge (x:=z) (y:=z2) (Tks.c (Tk.t (Tk.t (Tk.t (Tk.t (Tk.t (Tk.t (Tk.t (Tk.t (Tk.t (Tk.t Tk.h)))))))))) (Tks.c (Tk.t (Tk.t (Tk.t Tk.h))) Tks.n)) ?_
  refine GO.ownSl (v:=vs2) (Tk.t (Tk.t Tk.h)) fun hsl=>?_
  have hkf:=hkf.sup (Sup.right z z2)
  have hkl:=hkl.sup (Sup.right z z2)
  have hvf:=hvf.sup (Sup.left z z2)
  have hvl:=hvl.sup (Sup.left z z2)
  generalize aL [z,z2]=zz at *
  have hkf':=hkf
  have hkl':=hkl
  have hw2':=hw2
  obtain ⟨kaf,kcf,rfl⟩:=cM hkf'
  obtain ⟨kal,kcl,rfl⟩:=cM hkl'
  obtain ⟨aw2,cw2,rfl⟩:=aZ hw2'
  clear hkf' hkl' hw2'
  apply Ru
  by_cases h4:k=4
  ·have c4:decide ((k:Int)=4)=true:=decide_eq_true (by omega)
   rw [if_pos h4] at hfin
   have hA3:=hSA.2.2 h4
   rw [List.length_append,eP] at hA3
   have hb0:=hB.nf;have hb1:=hB.nl;have hb2:=hB1.1.nf;have hb3:=hB1.1.nl;have hb4:=hB1.1.le
   (refine scT ?_;refine GO.loadW rfl rfl rfl (Tk.t (Tk.t (Tk.t (Tk.t (Tk.t (Tk.t (Tk.t Tk.h))))))) rfl ?_;refine GO.loadW rfl rfl rfl Tk.h rfl ?_)
   refine scl (AB bm vs2 va2 (.slice af out.first.length cf) (.slice al out.last.length cl) (.slice kaf kp.first.length kcf) (.slice kal kp.last.length kcl) S2 A2 out kp (jB vs2 S2) zz hsl hvf hvl hkf hkl hB1.1.fst (by omega) (by omega) (by omega) (by omega) (by omega) (by omega)) ?_
   rintro _ _ ⟨va3,vf3,vl3,rfl,rfl⟩
   refine GO.ownRd (v:=vf3) (Tk.t (Tk.t (Tk.t Tk.h))) fun qa hqa=>?_
   refine GO.ownRd (v:=vl3) (Tk.t (Tk.t (Tk.t (Tk.t Tk.h)))) fun qb hqb=>?_
   have hqa':bU qa vf3 (ir out kp).first:=hqa
   have hqb':bU qb vl3 (ir out kp).last:=hqb
   have ha2:=hqa'
   have hb2:=hqb'
   obtain ⟨xa,ca,rfl⟩:=cM ha2
   obtain ⟨xb,cb,rfl⟩:=cM hb2
   clear ha2 hb2 hqa hqb
   refine GO.merge (x:=qa) (y:=qb) (Tks.c (Tk.t Tk.h) (Tks.c Tk.h Tks.n)) ?_
   (apply Ru;refine sad ?_)
   refine ⟨⟨i+1,us,ir out kp,(S2,A2++aH S2 out.last kp.first),vs2,va3,.slice xa (ir out kp).first.length ca,.slice xb (ir out kp).last.length cb,.slice aw2 (ay us++rest).length cw2,aL [qa,qb]⟩,⟨hfin,hB.seq hB1.1,by dsimp only;omega,fun x hx=>hkid x (by simp [hx]),by dsimp only;omega,hw2,hqa'.sup (Sup.left _ _),hqb'.sup (Sup.right _ _)⟩,by dsimp only;rw [List.length_cons];omega,?_,?_⟩
   ·exact SE rfl
   ·exact ImpS.sb SB
  ·have c4:decide ((k:Int)=4)=false:=decide_eq_false (by omega)
   rw [if_neg h4] at hfin
   have hb0:=hB.nf;have hb1:=hB.nl;have hb2:=hB1.1.nf;have hb3:=hB1.1.nl;have hb4:=hB1.1.le
   (refine scF ?_;refine GO.loadW rfl rfl rfl (Tk.t (Tk.t (Tk.t (Tk.t (Tk.t (Tk.t (Tk.t Tk.h))))))) rfl ?_;refine GO.loadW rfl rfl rfl Tk.h rfl ?_)
   refine scl (vZ (.slice af out.first.length cf) (.slice al out.last.length cl) (.slice kaf kp.first.length kcf) (.slice kal kp.last.length kcl) out kp zz hvf hvl hkf hkl (by omega) (by omega) (by omega) (by omega)) ?_
   rintro _ _ ⟨vf3,vl3,rfl,rfl⟩
   refine GO.ownRd (v:=vf3) Tk.h fun qa hqa=>?_
   refine GO.ownRd (v:=vl3) (Tk.t Tk.h) fun qb hqb=>?_
   have hqa':bU qa vf3 (gP out kp).first:=hqa
   have hqb':bU qb vl3 (gP out kp).last:=hqb
   have ha2:=hqa'
   have hb2:=hqb'
   obtain ⟨xa,ca,rfl⟩:=cM ha2
   obtain ⟨xb,cb,rfl⟩:=cM hb2
   clear ha2 hb2 hqa hqb
   refine GO.merge (x:=qa) (y:=qb) (Tks.c (Tk.t Tk.h) (Tks.c Tk.h Tks.n)) ?_
   (apply Ru;refine sad ?_)
   refine ⟨⟨i+1,us,gP out kp,(S2,A2),vs2,va2,.slice xa (gP out kp).first.length ca,.slice xb (gP out kp).last.length cb,.slice aw2 (ay us++rest).length cw2,aL [qa,qb]⟩,⟨hfin,hB.alt hB1.1,by dsimp only;omega,fun x hx=>hkid x (by simp [hx]),by dsimp only;omega,hw2,hqa'.sup (Sup.left _ _),hqb'.sup (Sup.right _ _)⟩,by dsimp only;rw [List.length_cons];omega,?_,?_⟩
   ·exact SE rfl
   ·exact ImpS.sb SB
 | nil=>
  have d1:decide ((i:Int) < (ts.length:Int))=false:=decide_eq_false (by rw [List.length_nil] at hi;omega)
  rw [bQ] at hfin
  subst hfin
  rw [show ay []=[] by unfold ay;rfl,List.nil_append] at hw ⊢
  dsimp only at hS1 hA1 hg
  obtain ⟨oe,of,ol⟩:=out
  obtain ⟨S1,A1⟩:=st'
  dsimp only at hB hvf hvl hS1 hA1 hg ⊢
  by_cases h6:k=6
  ·have c6:decide ((k:Int)=6)=true:=decide_eq_true (by omega)
   have hA3:=hA
   rw [← hg,if_pos (.inl h6),List.length_append,eP] at hA3
   rw [if_pos (.inl h6)] at hg
   subst hg
   have hb0:=hB.nf;have hb1:=hB.nl
   dsimp only at hb0 hb1
   (refine scF ?_;refine scT ?_;refine scT ?_)
   refine GO.ownSl (v:=vs) (Tk.t (Tk.t (Tk.t (Tk.t Tk.h)))) fun hsl=>?_
   refine scl (j4 bm vs va (.slice al ol.length cl) (.slice af of.length cf) S1 A1 ol of (jB vs S1) z hsl hvl hvf hB.fst (by omega) (by omega) (by omega) (by omega)) ?_
   rintro _ _ ⟨va9,rfl⟩
   cases oe
   ·(apply Ru;refine sgF ?_;refine sgF ?_;refine sgF ?_;refine spT ?_;refine GO.loadW rfl rfl rfl Tk.h rfl ?_;apply Ru)
    exact kr2 rfl ⟨vs,va9,.slice af of.length cf,.slice al ol.length cl,.slice aw rest.length cw,z,hvf,hvl,hw,by rw [Bool.false_or,decide_eq_true h6,Bool.true_or];try rfl,rfl⟩
   ·(apply Ru;refine GO.loadW rfl rfl rfl Tk.h rfl ?_;apply Ru)
    exact kr2 rfl ⟨vs,va9,.slice af of.length cf,.slice al ol.length cl,.slice aw rest.length cw,z,hvf,hvl,hw,by rw [Bool.true_or];try rfl,rfl⟩
  have c6:decide ((k:Int)=6)=false:=decide_eq_false (by omega)
  by_cases h7:k=7
  ·have c7:decide ((k:Int)=7)=true:=decide_eq_true (by omega)
   have c8:decide ((k:Int)=8)=false:=decide_eq_false (by omega)
   have hA3:=hA
   rw [← hg,if_pos (.inr h7),List.length_append,eP] at hA3
   rw [if_pos (.inr h7)] at hg
   subst hg
   have hb0:=hB.nf;have hb1:=hB.nl
   dsimp only at hb0 hb1
   (refine scF ?_;refine scF ?_;refine scT ?_)
   refine GO.ownSl (v:=vs) (Tk.t (Tk.t (Tk.t (Tk.t Tk.h)))) fun hsl=>?_
   refine scl (j4 bm vs va (.slice al ol.length cl) (.slice af of.length cf) S1 A1 ol of (jB vs S1) z hsl hvl hvf hB.fst (by omega) (by omega) (by omega) (by omega)) ?_
   rintro _ _ ⟨va9,rfl⟩
   cases oe
   ·(apply Ru;refine sgT ?_;refine sgT ?_;refine sgT ?_;refine spF ?_;refine GO.loadW rfl rfl rfl Tk.h rfl ?_;apply Ru)
    exact kr2 rfl ⟨vs,va9,.slice af of.length cf,.slice al ol.length cl,.slice aw rest.length cw,z,hvf,hvl,hw,by rw [Bool.false_or,decide_eq_false h6,decide_eq_false (show ¬ k=8 by omega),Bool.false_or,c8];try rfl,rfl⟩
   ·(apply Ru;refine GO.loadW rfl rfl rfl Tk.h rfl ?_;apply Ru)
    exact kr2 rfl ⟨vs,va9,.slice af of.length cf,.slice al ol.length cl,.slice aw rest.length cw,z,hvf,hvl,hw,by rw [Bool.true_or];try rfl,rfl⟩
  ·have c7:decide ((k:Int)=7)=false:=decide_eq_false (by omega)
   have e8:decide ((k:Int)=8)=decide (k=8):=by
    by_cases h8:k=8
    ·rw [decide_eq_true h8,decide_eq_true (by omega)]
    ·rw [decide_eq_false h8,decide_eq_false (by omega)]
   rw [if_neg (by omega)] at hg
   subst hg
   cases oe
   ·(refine scF ?_;refine scF ?_;refine scF ?_;refine sgT ?_;refine sgT ?_;refine sgT ?_;refine spF ?_;refine GO.loadW rfl rfl rfl Tk.h rfl ?_;apply Ru)
    exact kr2 rfl ⟨vs,va,.slice af of.length cf,.slice al ol.length cl,.slice aw rest.length cw,z,hvf,hvl,hw,by rw [Bool.false_or,decide_eq_false h6,Bool.false_or,e8];try rfl,rfl⟩
   ·(refine scF ?_;refine scF ?_;refine scF ?_;refine GO.loadW rfl rfl rfl Tk.h rfl ?_;apply Ru)
    exact kr2 rfl ⟨vs,va,.slice af of.length cf,.slice al ol.length cl,.slice aw rest.length cw,z,hvf,hvl,hw,by rw [Bool.true_or];try rfl,rfl⟩
end
section
open Go Go.Sort Go.Shelf Go.RowKit
theorem pq {W w':World} (h:Below W.heap.size W w') (hd:W.drawn≤w'.drawn):∃ q os',w'=grow (W.drewN q) os':=by
 obtain ⟨e1,e2,e3,e4,e5⟩:=h
 refine ⟨w'.drawn - W.drawn,w'.heap.extract W.heap.size w'.heap.size,?_⟩
 have hh:w'.heap=W.heap++w'.heap.extract W.heap.size w'.heap.size:=by
  apply Array.ext_getElem?
  intro k
  by_cases hk:k < W.heap.size
  ·rw [e5 k hk,Array.getElem?_append_left hk]
  ·rw [Array.getElem?_append_right (by omega),Array.getElem?_extract]
   by_cases h2:k < w'.heap.size
   ·rw [if_pos (by omega)];congr 1;omega
   ·rw [if_neg (by omega)];exact Array.getElem?_eq_none (by omega)
 generalize w'.heap.extract W.heap.size w'.heap.size=os at hh
 obtain ⟨h1,h2,h3,h4,h5⟩:=w'
 obtain ⟨g1,g2,g3,g4,g5⟩:=W
 simp only at e1 e2 e3 hh hd
 subst e1 e2 e3 hh
 show World.mk (g1++os) h2 h3 h4 h5=World.mk (g1++os) h2 (g3+(h3 - g3)) h4 h5
 rw [Nat.add_sub_cancel' hd]
abbrev dP {α:Type} (cf:α→α→Int) (l:List α):List α:=l.mergeSort fun x y=>!(Go.Proofs.ltOf cf) y x
section
variable {α:Type}
theorem jT {enc:α→List Value} {k:Nat} (hk:∀ x,(enc x).length=k) {j:Nat} (hj:j < k):∀ (l:List α) (i:Nat),(l.flatMap enc)[i * k+j]?=(l[i]?).bind fun x=>(enc x)[j]?
 | [],i=>by simp
 | x::l,0=>by rw [List.flatMap_cons,Nat.zero_mul,Nat.zero_add,List.getElem?_append_left (by rw [hk];exact hj)];rfl
 | x::l,i+1=>by
  rw [List.flatMap_cons,List.getElem?_append_right (by rw [hk,Nat.add_mul];omega),hk,show (i+1) * k+j - k=i * k+j by rw [Nat.add_mul];omega,jT hk hj l i]
  rfl
theorem iB {enc:α→List Value} {k:Nat} (hk:∀ x,(enc x).length=k):∀ (l:List α),(l.flatMap enc).length=l.length * k
 | []=>by simp
 | x::l=>by rw [List.flatMap_cons,List.length_append,hk,iB hk l,List.length_cons,Nat.add_mul];omega
variable [Inhabited α]
theorem gH {enc:α→List Value} {k:Nat} (hk:∀ x,(enc x).length=k) (d:Array α):(flatK enc k d).toList=d.toList.flatMap enc:=by
 apply List.ext_getElem?
 intro t
 by_cases ht:t < d.size * k
 ·have hk0:0 < k:=by
   rcases Nat.eq_zero_or_pos k with h | h;· subst h;simp at ht
   ·exact h
  have e1:t / k * k+t % k=t:=by rw [Nat.mul_comm];exact Nat.div_add_mod t k
  have h1:t / k < d.size:=Nat.div_lt_of_lt_mul (by rwa [Nat.mul_comm] at ht)
  have h2:t % k < k:=Nat.mod_lt _ hk0
  have a1:=get_flatK enc k d t ht
  rw [getElem!_pos (flatK enc k d) t (by simpa using ht),getElem!_pos d (t / k) h1,getElem!_pos (enc d[t / k]) (t % k) (by rw [hk];exact h2)] at a1
  have a2:=jT hk h2 d.toList (t / k)
  rw [e1] at a2
  rw [a2,List.getElem?_eq_getElem (by simpa using ht),List.getElem?_eq_getElem (by simpa using h1)]
  simp only [Option.bind_some]
  rw [List.getElem?_eq_getElem (by rw [hk];exact h2)]
  exact congrArg some a1
 ·rw [List.getElem?_eq_none (by simpa using ht),List.getElem?_eq_none (by rw [iB hk];simpa using ht)]
theorem iO (F:Array Value) (l rest:List Value) (h:F.size=l.length):putCells id 0 F (l++rest).toArray=(F.toList++rest).toArray:=by
 apply Array.ext_getElem?
 intro k
 simp only [putCells,Array.getElem?_mapIdx,List.getElem?_toArray]
 by_cases hk:k < F.size
 ·rw [List.getElem?_append_left (by omega),List.getElem?_append_left (by simpa using hk),List.getElem?_eq_getElem (by omega),List.getElem?_eq_getElem (by simpa using hk),Option.map_some,if_pos ⟨by omega,by omega⟩,Nat.sub_zero,getElem!_pos F k hk]
  rfl
 ·have e1:(l++rest)[k]?=rest[k - F.size]?:=by rw [List.getElem?_append_right (by omega),h]
  have e2:(F.toList++rest)[k]?=rest[k - F.size]?:=by rw [List.getElem?_append_right (by simpa using hk)];simp
  rw [e1,e2]
  cases rest[k - F.size]? with
  | none=>rfl
  | some y=>rw [Option.map_some,if_neg (by omega)]
end
instance:Inhabited ArD:=⟨⟨0,⟨false,0⟩,0⟩⟩
theorem tZ (v:Value) (l:List ArD) (hsz:¬ 4294967296 < l.length) :
  Fn Tryz.prog 66 #[v,fnC 67] [own 87 4 l.length v (aP l)] (fun r Q=>r=.tuple #[]∧Q=[own 87 4 l.length v (aP (dP bL l))]):=by
 intro F w s
 rcases bK s with ⟨rfl,h0,_,s2⟩ | ⟨b,cap,rest,rfl,g1,g2,g3,g4,s2⟩
 ·have hl:l=[]:=List.length_eq_zero_iff.1 h0
  subst hl
  refine callsIn_wide.2 ((Go.Proofs.AnyF.slices_SortFunc_none (ρ:=sortA_ren) sortA none 0 (fnC 67) w).mono ?_)
  rintro e w' ⟨rfl,rfl⟩
  exact ⟨_,_,rfl,Same.refl _,⟨rfl,rfl⟩,by rw [show dP bL ([]:List ArD)=[] from List.mergeSort_nil];exact s⟩
 ·have hb:=aT s2
  have hlt:=(Array.getElem?_eq_some_iff.1 hb).1
  have hk:∀ x:ArD,(dY x).length=4:=fun _=>rfl
  have hone:∀ x:ArD,∀ u∈dY x,u.oneCell'=true:=fun x u hu=>pW [x] u (by unfold aP;rw [List.flatMap_cons,List.flatMap_nil,List.append_nil];exact hu)
  have hfl:(flatK dY 4 l.toArray).toList=l.flatMap dY:=gH hk l.toArray
  have hH:HoldsK dY 4 w b 0 l.toArray:=by
   intro j hj
   have hj':j < (l.flatMap dY).length:=by rw [← hfl];simpa using hj
   have e1:(flatK dY 4 l.toArray)[j]! =(l.flatMap dY)[j]:=by
    rw [getElem!_pos _ j hj]
    have:(flatK dY 4 l.toArray).toList[j]?=(l.flatMap dY)[j]?:=by rw [hfl]
    rw [List.getElem?_eq_getElem (by simpa using hj),List.getElem?_eq_getElem hj'] at this
    exact Option.some.inj this
   constructor
   ·simp only [World.cell?,hb,row,Nat.zero_add,List.getElem?_toArray]
    rw [List.getElem?_append_left (by unfold aP;exact hj')]
    unfold aP
    rw [List.getElem?_eq_getElem hj',e1];rfl
   ·simp [World.frozen?,hb,row]
  have hc:Go.Proofs.CmpLays Tryz.prog 67 #[] dY 4 bL b 0 l.toArray.size w:=fun m os dk _ x y=>(callsIn_wide (n:=0)).1 ((uz x y [init _] _ (oC _)).mono fun e w' ⟨v,Q,e1,sm,⟨e2,e3⟩,q⟩=>by
   subst e1 e2 e3
   exact ⟨rfl,pq (lf sm q) sm.draws⟩)
  have h:=Go.Proofs.AnyQ.slices_SortFunc_total sortA 4 (fun w=>Tryz.isAgg87 w) (fun w=>Tryz.sizeOf87 w) dY hk hone bL orderA_ord.swo 67 #[] b 0 cap l.toArray w (fun args w=>Cal.out args w) hc hH hlt (by simp;omega) orderA_ord.tot
  have hyl:(dP bL l).length=l.length:=List.length_mergeSort l
  rw [show l.toArray.size=l.length by simp] at h
  refine callsIn_wide.2 (h.mono ?_)
  rintro e w' ⟨rfl,m,os,rfl⟩
  refine ⟨_,_,rfl,?_,⟨rfl,rfl⟩,?_⟩
  ·refine ⟨rfl,rfl,rfl,?_,?_⟩
   ·show w.heap.size≤(Array.append _ _).size
    simp [putRowK,putRow,mapBlock]
   ·show w.drawn≤w.drawn+m
    omega
  ·refine jy (dM (rest:=rest) rfl (by rw [bT,hyl]) g2 g3 (by rw [List.length_append,bT] at g4 ⊢;rw [hyl];exact g4) (bE (w:=w) s2 ?_ ?_)) os
   ·show ((w.heap.modify b (onCells (putCells id 0 (flatK dY 4 (dP bL l).toArray)))))[b]?=_
    rw [Array.getElem?_modify,if_pos rfl,hb]
    simp only [Option.map_some,row,onCells]
    rw [iO _ _ _ (by rw [size_flatK,bT];simp),gH hk]
    rfl
   ·intro j hj
    show ((w.heap.modify b (onCells (putCells id 0 (flatK dY 4 (dP bL l).toArray)))))[j]?=_
    rw [Array.getElem?_modify,if_neg (Ne.symm hj)]
theorem sS (ys:List Int) (l rest:List Value) (h:ys.length=l.length):putCells (Value.int .i64) 0 ys.toArray (l++rest).toArray=(dp ys++rest).toArray:=by
 apply Array.ext_getElem?
 intro k
 simp only [putCells,Array.getElem?_mapIdx,List.getElem?_toArray,List.size_toArray]
 by_cases hk:k < ys.length
 ·rw [List.getElem?_append_left (by omega),List.getElem?_append_left (by simpa [dp] using hk),List.getElem?_eq_getElem (by omega),Option.map_some,if_pos ⟨by omega,by omega⟩,Nat.sub_zero,getElem!_pos ys.toArray k (by simpa using hk)]
  simp [dp,hk]
 ·have e1:(l++rest)[k]?=rest[k - ys.length]?:=by rw [List.getElem?_append_right (by omega),h]
  have e2:(dp ys++rest)[k]?=rest[k - ys.length]?:=by rw [List.getElem?_append_right (by simp [dp];omega)];simp [dp]
  rw [e1,e2]
  cases rest[k - ys.length]? with
  | none=>rfl
  | some y=>rw [Option.map_some,if_neg (by omega)]
abbrev mi (l:List Int):List Int:=l.mergeSort fun x y=>decide (x≤y)
theorem Av {P:Program} {ρ:Ren} (L:Go.Proofs.Lays.n189 P ρ) (el:TypeId) (v:Value) (l:List Int) (hsz:l.length < 4611686018427387904) :
  Fn P (ρ.f 189) #[v] [own el 1 l.length v (dp l)] (fun r Q=>r=.tuple #[]∧Q=[own el 1 l.length v (dp (mi l))]):=by
 intro F w s
 rcases bK s with ⟨rfl,h0,_,s2⟩ | ⟨b,cap,rest,rfl,g1,g2,g3,g4,s2⟩
 ·have hl:l=[]:=List.length_eq_zero_iff.1 h0
  subst hl
  refine callsIn_wide.2 ((Go.Proofs.Any.slices_Sort_int_none L none 0 w).mono ?_)
  rintro e w' ⟨rfl,rfl⟩
  exact ⟨_,_,rfl,Same.refl _,⟨rfl,rfl⟩,by rw [show mi []=[] from List.mergeSort_nil];exact s⟩
 ·have hb:=aT s2
  have hlt:=(Array.getElem?_eq_some_iff.1 hb).1
  have hH:Holds (Value.int .i64) w b 0 l.toArray:=by
   intro j hj
   have hj':j < l.length:=by simpa using hj
   constructor
   ·simp only [World.cell?,hb,row,Nat.zero_add,List.getElem?_toArray]
    rw [List.getElem?_append_left (by simpa [dp] using hj'),getElem!_pos l.toArray j hj]
    simp [dp,hj']
   ·simp [World.frozen?,hb,row]
  refine callsIn_wide.2 ((Go.Proofs.Any.slices_Sort_int L b 0 cap l w hH hlt hsz).mono ?_)
  rintro e w' ⟨rfl,m,os,rfl⟩
  have hyl:(mi l).length=l.length:=List.length_mergeSort l
  refine ⟨_,_,rfl,?_,⟨rfl,rfl⟩,?_⟩
  ·refine ⟨rfl,rfl,rfl,?_,?_⟩
   ·show w.heap.size≤(Array.append _ _).size
    simp [putRow,mapBlock]
   ·show w.drawn≤w.drawn+m
    omega
  ·refine jy (dM (rest:=rest) rfl (by rw [rU,hyl,Nat.mul_one]) g2 g3 (by rw [List.length_append,rU] at g4 ⊢;rw [hyl];exact g4) (bE (w:=w) s2 ?_ ?_)) os
   ·show ((w.heap.modify b (onCells (putCells (Value.int .i64) 0 (mi l).toArray))))[b]?=_
    rw [Array.getElem?_modify,if_pos rfl,hb]
    simp only [Option.map_some,row,onCells]
    rw [sS _ _ _ (by rw [hyl];simp [dp])]
   ·intro j hj
    show ((w.heap.modify b (onCells (putCells (Value.int .i64) 0 (mi l).toArray))))[j]?=_
    rw [Array.getElem?_modify,if_neg (Ne.symm hj)]
def e9 (l:List Nat):List Nat:=l.mergeSort fun x y=>decide (x≤y)
theorem yz (l:List Nat):(l.map Int.ofNat).mergeSort (fun x y=>decide (x≤y))=(e9 l).map Int.ofNat:=by
 unfold e9
 rw [List.map_mergeSort (s:=fun x y:Int=>decide (x≤y))]
 intro a _ b _
 by_cases h:a≤b
 ·rw [decide_eq_true h];exact (decide_eq_true (Int.ofNat_le.2 h)).symm
 ·rw [decide_eq_false h];exact (decide_eq_false fun g=>h (Int.ofNat_le.1 g)).symm
theorem oX (l:List Nat):az l=dp (l.map Int.ofNat):=by simp [az,dp]
theorem oy (v:Value) (l:List Nat) (hsz:¬ 16777216 < l.length) :
  Fn Tryz.prog 68 #[v] [dV v l] (fun r Q=>r=.tuple #[]∧Q=[dV v (e9 l)]):=by
 have:=Av sortI 3 v (l.map Int.ofNat) (by rw [List.length_map];omega)
 rw [← oX,List.length_map] at this
 rw [show dp (mi (l.map Int.ofNat))=az (e9 l) by rw [oX,← yz]] at this
 have e:(e9 l).length=l.length:=List.length_mergeSort l
 unfold dV
 rw [e]
 exact this
end
section
def eF {α:Type} [DecidableEq α]:α→List α→List α
 | _,[]=>[]
 | x,y::r=>if y=x then eF y r else y::eF y r
def dG {α:Type} [DecidableEq α]:List α→List α
 | []=>[]
 | x::r=>x::eF x r
def xK {α:Type}:α→List α→α
 | x,[]=>x
 | _,z::r=>xK z r
theorem pl {α:Type} (y:α):∀ (r:List α) (x:α),xK x (r++[y])=y
 | [],_=>rfl
 | z::r,_=>pl y r z
theorem lk {α:Type} [DecidableEq α] (y:α):∀ (r:List α) (x:α),eF x (r++[y])=eF x r++if y=xK x r then [] else [y]
 | [],x=>by
  show (if y=x then eF y [] else y::eF y [])=[]++if y=x then [] else [y]
  by_cases h:y=x
  ·rw [if_pos h,if_pos h];rfl
  ·rw [if_neg h,if_neg h];rfl
 | z::r,x=>by
  show (if z=x then eF z (r++[y]) else z::eF z (r++[y]))=(if z=x then eF z r else z::eF z r)++if y=xK z r then [] else [y]
  rw [lk y r z]
  by_cases h:z=x
  ·rw [if_pos h,if_pos h]
  ·rw [if_neg h,if_neg h,List.cons_append]
theorem pK {α:Type} [DecidableEq α] {l:List α} {i:Nat} {x y:α} (hx:l[i]?=some x) (hy:l[i+1]?=some y):dG (l.take (i+1+1))=dG (l.take (i+1))++if y=x then [] else [y]:=by
 rw [aG hy]
 have hlast:l.take (i+1)=l.take i++[x]:=aG hx
 rw [hlast]
 cases l.take i with
 | nil=>
  show x::eF x [y]=x::eF x []++_
  have:=lk y [] x
  rw [List.nil_append] at this
  rw [this];rfl
 | cons a r=>
  show a::eF a ((r++[x])++[y])=(a::eF a (r++[x]))++_
  rw [lk y (r++[x]) a,pl];rfl
theorem si {α:Type} [DecidableEq α] {l:List α} (h:l.length≤1):dG l=l:=by
 match l,h with
 | [],_=>rfl
 | [x],_=>rfl
 | _::_::_,h=>simp at h
theorem CH (a b:ArD):EqR Tryz.prog 10000 87 (arA a) (arA b) (decide (a=b)):=by
 have h1:EqR Tryz.prog (9997+1+1) 85 (.agg (l5 a.sym).toArray) (.agg (l5 b.sym).toArray) ((a.sym.lab == b.sym.lab) && decide ((a.sym.num:Int)=(b.sym.num:Int))):=
  EqR.struct (P:=Tryz.prog) (d:=9998) (t:=85) (l:=l5 a.sym) (l':=l5 b.sym) ⟨.bool a.sym.lab,.bool b.sym.lab,_,_,by decide,PartR.one rfl rfl,PartR.one rfl rfl,EqR.bool,⟨i64 (a.sym.num:Nat),i64 (b.sym.num:Nat),_,true,by decide,PartR.one rfl rfl,PartR.one rfl rfl,EqR.int,rfl,(Bool.and_true _).symm⟩,rfl⟩
 have h:EqR Tryz.prog (9998+1+1) 87 (.agg (dY a).toArray) (.agg (dY b).toArray) (decide ((a.src:Int)=(b.src:Int)) && (((a.sym.lab == b.sym.lab) && decide ((a.sym.num:Int)=(b.sym.num:Int))) && decide ((a.dst:Int)=(b.dst:Int)))):=
  EqR.struct (P:=Tryz.prog) (d:=9999) (t:=87) (l:=dY a) (l':=dY b) ⟨i64 (a.src:Nat),i64 (b.src:Nat),_,_,by decide,PartR.one rfl rfl,PartR.one rfl rfl,EqR.int,⟨.agg (l5 a.sym).toArray,.agg (l5 b.sym).toArray,_,_,by decide,PartR.many rfl rfl,PartR.many rfl rfl,h1,⟨i64 (a.dst:Nat),i64 (b.dst:Nat),_,true,by decide,PartR.one rfl rfl,PartR.one rfl rfl,EqR.int,rfl,(Bool.and_true _).symm⟩,rfl⟩,rfl⟩
 rwa [show (decide ((a.src:Int)=(b.src:Int)) && (((a.sym.lab == b.sym.lab) && decide ((a.sym.num:Int)=(b.sym.num:Int))) && decide ((a.dst:Int)=(b.dst:Int))))=decide (a=b) by
  rw [Bool.eq_iff_iff];simp only [Bool.and_eq_true,decide_eq_true_iff,beq_iff_eq]
  obtain ⟨p,⟨l,n⟩,q⟩:=a
  obtain ⟨p2,⟨l2,n2⟩,q2⟩:=b
  simp only [ArD.mk.injEq,SyD.mk.injEq]
  constructor
  ·rintro ⟨h1,⟨h2,h3⟩,h4⟩;exact ⟨by omega,⟨h2,by omega⟩,by omega⟩
  ·rintro ⟨h1,⟨h2,h3⟩,h4⟩;exact ⟨by omega,⟨h2,by omega⟩,by omega⟩] at h
abbrev qI (q:HP) (v:Value) (l:List ArD):Prop:=SlK q v l.length 4 (aP l)
theorem BB {q:HP} {v:Value} {l:List ArD} (hq:qI q v l):∃ a cap,v=.slice a l.length cap:=let ⟨a,cap,h,_⟩:=hq;⟨a,cap,h⟩
theorem kl {b:Nat} {ys:List ArD} {rst:List Value} {T:TypeId} {j:Nat} {y:ArD} (h:ys[j]?=some y):∀ i u,(dY y)[i]?=some u→Rd (pt b (row (aP ys++rst) T)) ⟨b,0+j * 4+i,none⟩ u:=fun i u hu=>
 Rd.row (by
  have hl:=(List.getElem?_eq_some_iff.1 h).1
  have hi:i < 4:=(List.getElem?_eq_some_iff.1 hu).1
  rw [Nat.zero_add,List.getElem?_append_left (by rw [bT];omega)]
  unfold aP
  rw [ft (enc:=dY) (k:=4) (fun _=>rfl) h hi]
  exact hu)
theorem sy (ys:List ArD) (i:Nat):(aP ys).take (i * 4)=aP (ys.take i):=by
 by_cases h:i≤ys.length
 ·have e:aP ys=aP (ys.take i)++aP (ys.drop i):=by rw [← k8,List.take_append_drop]
  rw [e,List.take_append_of_le_length (by rw [bT,List.length_take];omega),List.take_of_length_le (by rw [bT,List.length_take];omega)]
 ·rw [List.take_of_length_le (by rw [bT];omega),List.take_of_length_le (by omega)]
theorem zY (ys:List ArD) (i:Nat) (h:i≤ys.length):(aP ys).drop (i * 4)=aP (ys.drop i):=by
 have e:aP ys=aP (ys.take i)++aP (ys.drop i):=by rw [← k8,List.take_append_drop]
 rw [e,List.drop_append_of_le_length (by rw [bT,List.length_take];omega),List.drop_eq_nil_of_le (by rw [bT,List.length_take];omega),List.nil_append]
theorem ue {ys:List ArD} {rst:List Value} {i:Nat} {u:ArD} (h:i < ys.length):(aP ys++rst).take (0+i * 4)++[i64 (u.src:Nat),.bool u.sym.lab,i64 (u.sym.num:Nat),i64 (u.dst:Nat)]++(aP ys++rst).drop (0+i * 4+4)=aP (ys.set i u)++rst:=by
 have hl:=bT ys
 rw [show 0+i * 4=i * 4 by omega,show i * 4+4=(i+1) * 4 by omega,List.take_append_of_le_length (by omega),List.drop_append_of_le_length (by omega),sy,zY _ _ (by omega),List.set_eq_take_append_cons_drop,if_pos h,k8]
 rw [show aP (u::ys.drop (i+1))=[i64 (u.src:Nat),.bool u.sym.lab,i64 (u.sym.num:Nat),i64 (u.dst:Nat)]++aP (ys.drop (i+1)) from rfl]
 simp
attribute [local irreducible] bO cz G GO GR GT Fn FnX FnV FnXV Dfr pt init exs pur sat own ImpS dG
theorem vJ (q:HP) (v:Value) (l:List ArD) (hq:qI q v l) (hl:¬ 4294967296 < l.length):Fn Tryz.prog 140 #[v] [q] (fun r Q=>Q=[own 87 4 l.length r (aP l),q]):=by
 have hsl:=hq.sl
 obtain ⟨a,cap,rfl⟩:=BB hq
 refine Fn.mk2 Tryz.func140 rfl rfl fun w0 F=>?_
 refine G.ownNil (T:=87) (sz:=4) ?_
 apply Ru
 cases a with
 | none=>
  have hss:l=[]:=by
   obtain ⟨a',cap',e,_,_,hr⟩:=hq
   injection e with e1 _ _
   subst e1
   cases l with
   | nil=>rfl
   | cons s ss=>obtain ⟨b,o,h,_⟩:=hr (by simp);cases h
  subst hss
  (refine G.condT rfl rfl ?_;apply Ru)
  refine KF2.r1 rfl (RV.t rfl) rfl (ImpS.sb ?_)
  ((refine Sb.c Tk.h ?_;exact SB);skip)
 | some a=>
  (refine G.condF rfl rfl ?_;apply Ru)
  refine GO.buildSlice0 rfl fun v5=>?_
  apply Ru
  refine GO.appendFrom (m:=l.length) (q:=q) rfl rfl rfl Tk.h (Tk.t Tk.h) hsl (pW _) ⟨by decide,rfl⟩ (by unfold maxLen;omega) (by omega) fun v7=>?_
  rw [List.nil_append,Nat.zero_add l.length]
  apply Ru
  refine KF2.r1 rfl (RV.t rfl) rfl (ImpS.sb ?_)
  exact SB
theorem kQ (v:Value) (l:List ArD) (hn:¬ 4294967296 < l.length):Fn Tryz.prog 69 #[v] [own 87 4 l.length v (aP l)] (fun r Q=>Q=[own 87 4 (dG l).length r (aP (dG l))]):=by
 refine Fn.mk2 Tryz.func69 rfl rfl fun w0 F=>?_
 by_cases h2:l.length < 2
 ·have d0:decide ((l.length:Int) < 2)=true:=decide_eq_true (by omega)
  rw [si (by omega)]
  (apply Ru;refine scT ?_)
  refine KF2.r1 rfl (RV.t rfl) rfl (ImpS.sb ?_)
  exact SB
 have d0:decide ((l.length:Int) < 2)=false:=decide_eq_false (by omega)
 (apply Ru;refine scF ?_)
 refine G.own_open (F:=F) Tk.h (fun _ h _=>?_) (fun b cap rst hv g1 g2 g3 g4=>?_)
 ·exfalso;omega
 subst hv
 unfold maxLen at g3
 refine G.loopI (σ:=Nat) (fun k=>[(0,.slice (some ⟨b,0,none⟩) l.length cap),(3,i64 ((k+1:Nat):Int))]) (fun _=>pt b (row (aP l++rst) 87)::F) (fun k=>k+1≤l.length∧dG (l.take (k+1))=l.take (k+1)) (fun k=>l.length - k) 0 ⟨by omega,si (by rw [List.length_take];omega)⟩ ?_ ?_ ?_
 ·exact SE rfl
 ·refine ImpS.sb ?_
  exact SB
 rintro k ⟨hk,hU⟩
 apply Ru
 by_cases hlt:k+1 < l.length
 ·have d1:decide (((k+1:Nat):Int) < (l.length:Int))=true:=decide_eq_true (by omega)
  obtain ⟨x,hx⟩:∃ x,l[k]?=some x:=⟨_,List.getElem?_eq_getElem (by omega)⟩
  obtain ⟨y,hy⟩:∃ y,l[k+1]?=some y:=⟨_,List.getElem?_eq_getElem hlt⟩
  have hst:=pK hx hy
  have rx:=kl (b:=b) (rst:=rst) (T:=87) hx
  have ry:=kl (b:=b) (rst:=rst) (T:=87) hy
  refine scT ?_
  refine dr 10 ?_
  (apply Ru;refine qix ?_)
  apply GQ.step;focus (intro Z;refine GO.loadM (vs:=dY y) rfl rfl rfl Tk.h rfl ry ?_;exact KQ.z)
  (apply Ru;(apply GQ.step;focus (intro Z;refine GO.subi rfl rfl rfl (by omega) ?_;exact KQ.z)))
  apply GQ.step;focus (intro Z;refine GO.idxS (j:=k) rfl rfl rfl ⟨by omega,by omega⟩ ?_;exact KQ.z)
  apply GQ.step;focus (intro Z;refine GO.loadM (vs:=dY x) rfl rfl rfl Tk.h rfl rx ?_;exact KQ.z)
  apply GQ.step;focus (intro Z;refine GO.eqlA (CH y x) rfl rfl rfl ?_;exact KQ.z)
  apply Ru
  by_cases hxy:y=x
  ·have d2:decide (y=x)=true:=decide_eq_true hxy
   rw [if_pos hxy,List.append_nil,hU] at hst
   refine scT ?_
   refine GO.sliceLo (l:=k+1) rfl rfl rfl ⟨rfl,by omega,by omega⟩ ?_
   apply Ru
   refine G.loopI (σ:=Nat × Nat × List ArD) (fun z=>[(0,.slice (some ⟨b,0,none⟩) l.length cap),(3,i64 (z.1:Nat)),(4,.slice (some ⟨b,0+(k+1) * 4,none⟩) (l.length - (k+1)) (cap - (k+1))),(5,i64 ((z.2.1+1:Nat):Int))]) (fun z=>pt b (row (aP z.2.2++rst) 87)::F)
    (fun z=>k+1+z.2.1+1≤l.length∧z.2.2.length=l.length∧1≤z.1∧z.1≤k+1+z.2.1∧z.2.2.drop (k+1+z.2.1)=l.drop (k+1+z.2.1)∧z.2.2.take z.1=dG (l.take (k+1+z.2.1+1))) (fun z=>l.length - z.2.1) (k+1,0,l) ⟨by dsimp only;omega,rfl,by dsimp only;omega,by dsimp only;omega,rfl,hst.symm⟩ ?_ ?_ ?_
   ·exact SE rfl
   ·refine ImpS.sb ?_
    exact SB
   clear hst rx ry hx hy hU
   rintro ⟨i,j,ys⟩ ⟨hj,hyl,hi1,hij,hdr,htk⟩
   dsimp only at hj hyl hi1 hij hdr htk ⊢
   apply Ru
   by_cases hlt3:k+1+j+1 < l.length
   ·have d3:decide (((j+1:Nat):Int) < ((l.length - (k+1):Nat):Int))=true:=decide_eq_true (by omega)
    obtain ⟨u,hu⟩:∃ u,l[k+1+j+1]?=some u:=⟨_,List.getElem?_eq_getElem hlt3⟩
    obtain ⟨t,ht⟩:∃ t,l[k+1+j]?=some t:=⟨_,List.getElem?_eq_getElem (by omega)⟩
    have hst:=pK ht hu
    have hat:∀ m,k+1+j≤m→ys[m]?=l[m]?:=fun m hm=>by
     have:=congrArg (fun l=>l[m - (k+1+j)]?) hdr
     simp only [List.getElem?_drop] at this
     rwa [show k+1+j+(m - (k+1+j))=m by omega] at this
    have hu':=hu
    have ht':=ht
    rw [← hat _ (by omega)] at hu' ht'
    have ru:=kl (b:=b) (rst:=rst) (T:=87) hu'
    have rt:=kl (b:=b) (rst:=rst) (T:=87) ht'
    rw [show 0+(k+1+j+1) * 4=0+(k+1) * 4+(j+1) * 4 by omega] at ru
    rw [show 0+(k+1+j) * 4=0+(k+1) * 4+j * 4 by omega] at rt
    have hdr1:ys.drop (k+1+(j+1))=l.drop (k+1+(j+1)):=by
     have:=congrArg (fun l=>l.drop 1) hdr
     simpa [List.drop_drop,Nat.add_assoc] using this
    refine scT ?_
    refine dr 10 ?_
    (apply Ru;refine qix ?_)
    apply GQ.step;focus (intro Z;refine GO.loadM (vs:=dY u) rfl rfl rfl Tk.h rfl ru ?_;exact KQ.z)
    (apply Ru;(apply GQ.step;focus (intro Z;refine GO.subi rfl rfl rfl (by omega) ?_;exact KQ.z)))
    apply GQ.step;focus (intro Z;refine GO.idxS (j:=j) rfl rfl rfl ⟨by omega,by omega⟩ ?_;exact KQ.z)
    apply GQ.step;focus (intro Z;refine GO.loadM (vs:=dY t) rfl rfl rfl Tk.h rfl rt ?_;exact KQ.z)
    apply GQ.step;focus (intro Z;refine GO.neqA (CH u t) rfl rfl rfl ?_;exact KQ.z)
    apply Ru
    by_cases hut:u=t
    ·have d4:(!decide (u=t))=false:=by rw [decide_eq_true hut];rfl
     rw [d4]
     rw [if_pos hut,List.append_nil] at hst
     (apply Ru;refine sad ?_)
     refine ⟨(i,j+1,ys),⟨by dsimp only;omega,hyl,hi1,by dsimp only;omega,hdr1,by dsimp only;rw [htk,← hst];rfl⟩,by dsimp only;omega,?_,ImpS.sb ?_⟩
     ·exact SE rfl
     ·exact SB
    ·have d4:(!decide (u=t))=true:=by rw [decide_eq_false hut];rfl
     rw [d4]
     rw [if_neg hut] at hst
     have hil:i < ys.length:=by omega
     have hset:=ue (rst:=rst) (u:=u) hil
     have hlen:(aP ys).length=ys.length * 4:=bT ys
     (apply Ru;refine six ?_)
     refine GO.loadM (vs:=[i64 (u.src:Nat),.bool u.sym.lab,i64 (u.sym.num:Nat),i64 (u.dst:Nat)]) rfl rfl rfl Tk.h rfl ru ?_
     refine six ?_
     refine GO.storeG (l:=aP ys++rst) (vs:=[i64 (u.src:Nat),.bool u.sym.lab,i64 (u.sym.num:Nat),i64 (u.dst:Nat)]) rfl rfl rfl rfl Tk.h (by rw [List.length_append];simp only [List.length_cons,List.length_nil];omega) (by simp [Value.oneCell',str]) ?_
     simp only [List.length_cons,List.length_nil,Nat.zero_add 1,Nat.reduceAdd]
     rw [hset]
     (apply Ru;refine sad ?_;refine sad ?_)
     refine ⟨(i+1,j+1,ys.set i u),⟨by dsimp only;omega,by dsimp only;rw [List.length_set];exact hyl,by dsimp only;omega,by dsimp only;omega,by dsimp only;rw [List.drop_set_of_lt (by omega)];exact hdr1,?_⟩,by dsimp only;omega,?_,ImpS.sb ?_⟩
     ·dsimp only
      rw [List.take_add_one,List.getElem?_set_self hil,List.take_set_of_le (Nat.le_refl _),htk]
      exact hst.symm
     ·exact SE rfl
     ·exact SB
   ·have d3:decide (((j+1:Nat):Int) < ((l.length - (k+1):Nat):Int))=false:=decide_eq_false (by omega)
    rw [List.take_of_length_le (show l.length≤k+1+j+1 by omega)] at htk
    have hlen:(aP ys).length=ys.length * 4:=bT ys
    have hel:(aP l).length=l.length * 4:=bT l
    have htl:(ys.take i).length=i:=by rw [List.length_take];omega
    have hlen2:(aP (ys.take i)).length=(ys.take i).length * 4:=bT _
    rw [List.length_append] at g4
    refine scF ?_
    refine GO.sliceLo (l:=i) rfl rfl rfl ⟨rfl,by omega,by omega⟩ ?_
    refine GO.clear (l:=aP ys++rst) rfl Tk.h (by omega) (by rw [List.length_append];simp only [List.length_cons,List.length_nil];omega) (by simp [Value.oneCell']) fun vs hvs=>?_
    simp only [List.length_cons,List.length_nil] at hvs
    have e1:(aP ys++rst).take (0+i * 4)=aP (ys.take i):=by
     rw [Nat.zero_add,List.take_append_of_le_length (by omega),sy]
    rw [e1,List.append_assoc]
    apply Ru
    refine GO.sliceHi (l:=i) rfl rfl rfl ⟨rfl,by omega⟩ ?_
    refine GO.ownShut (sz:=4) (n:=i) (cap:=cap) rfl (by rw [hlen2,htl]) (by omega) (by unfold maxLen;omega) (by rw [List.length_append,List.length_append,List.length_drop,List.length_append,hlen2,htl];omega) ?_
    rw [htk] at htl ⊢
    rw [htl]
    apply Ru
    refine KF2.r1 rfl (RV.t rfl) rfl (ImpS.sb ?_)
    exact SB
  ·have d2:decide (y=x)=false:=decide_eq_false hxy
   rw [if_neg hxy,hU,← aG hy] at hst
   (refine scF ?_;refine sad ?_)
   refine ⟨k+1,⟨by omega,hst⟩,by omega,?_,ImpS.sb ?_⟩
   ·exact SE rfl
   ·exact SB
 ·have d1:decide (((k+1:Nat):Int) < (l.length:Int))=false:=decide_eq_false (by omega)
  rw [List.take_of_length_le (by omega)] at hU
  rw [hU]
  refine scF ?_
  refine KF2.r1 rfl (RV.t rfl) rfl ?_
  refine ImpS.own (rest':=rst) rfl g1 g2 (by unfold maxLen;omega) g4 (ImpS.sb ?_)
  exact SB
end
section
abbrev aB (ns ls:List (List UInt8)):Nat→List UInt8→SyD:=fun k n=>(jv ns ls ⟨k,n,0⟩).1
abbrev g6 (b bt:Nat):HP:=pt b (row [ah bt] 61)
def dl (leaf:Nat→List UInt8→SyD) (ts:List Tree):PtD × GSt:=bQ leaf 5 ts ⟨false,[],[]⟩ ([],[])
def cj (leaf:Nat→List UInt8→SyD) (ts:List Tree):List ArD:=dG (dP bL ((dl leaf ts).2.2++aH (dl leaf ts).2.1 [0] (dl leaf ts).1.first))
def cN (leaf:Nat→List UInt8→SyD) (ts:List Tree):List Nat:=e9 ((dl leaf ts).1.last++if (dl leaf ts).1.emp=true then [0] else [])
def gM (ts:List Tree):Nat:=(ts.map fun t=>dC (flat t)).sum
theorem yM {ts:List Tree} {i:Nat} {t:Tree} (h:ts[i]?=some t):gM (ts.take (i+1))=gM (ts.take i)+dC (flat t):=by
 unfold gM;rw [aG h,List.map_append,List.sum_append];simp
theorem Cb (ts:List Tree) (i:Nat):gM (ts.take i)≤gM ts:=by
 conv=>rhs;rw [← List.take_append_drop i ts]
 unfold gM
 rw [List.map_append,List.sum_append]
 omega
attribute [local irreducible] bO cz G GO GR GT GW Fn FnX FnV FnXV Dfr pt init exs pur sat own ImpS az aP cO aH bC bQ ay aO fI dS jv gM fZ dG
theorem AS (b2 bt mb:Nat) (vn vl:Value) (ns ls:List (List UInt8)) (m:NodeD):FnV Tryz.prog (.func (.func 63) #[] #[ah b2]) [rH m] [g6 b2 bt,cG bt mb vn vl,eT mb ns ls] (fun r Q=>r=syA (jv ns ls m).1∧Q=[g6 b2 bt,cG bt mb vn vl,eT mb ns ls]):=by
 have hs:=tS bt mb vn vl ns ls m
 refine FnV.of (caps:=[ah b2]) ?_
 refine Fn.mk2 Tryz.func63 rfl rfl fun w0 F=>?_
 (apply Ru;refine sbx fun b2=>?_;refine sal fun b3=>?_;apply Ru;refine GO.loadW rfl rfl rfl (Tk.t Tk.h) rfl ?_)
 refine scl (hs) ?_
 rintro _ _ ⟨rfl,rfl⟩
 (apply Ru;refine sal fun b4=>?_;apply Ru;refine GO.loadW rfl rfl rfl Tk.h rfl ?_;apply Ru)
 exact kr1 rfl ⟨rfl,rfl⟩
end
section
structure OfS where
 i:Nat
 out:PtD
 st:GSt
 vs:Value
 va:Value
 vf:Value
 vl:Value
abbrev Do (n:Nat) (vf va:Value):Value:=.agg #[i64 (n:Nat),vf,va]
abbrev Dn (b n:Nat) (vf va:Value):HP:=pt b (row [i64 (n:Nat),vf,va] 70)
theorem ImpS.openS {k H:List HP}:ImpS (aL k::H) (k++H):=fun l w s=>by rw [List.append_assoc];exact aJ.1 s
theorem yS {q:HP} {v:Value} (h:Sl q v 1 1 [i64 0]):bU q v [0]:=h
attribute [local irreducible] bO cz G GO GR GT GW Fn FnX FnV FnXV Dfr pt init exs pur sat own ImpS az aP cO aH bC bQ ay aO fI dS jv gM fZ dG bq dC
theorem of_spec (bt mb:Nat) (vn vl vv:Value) (ns ls:List (List UInt8)) (ts:List Tree) (vals:List Value) (z zz zb:HP) (hz:dH z vn ns) (hzz:Sl zz vv ts.length 1 vals) (hzb:BodsR zb vals (ts.map flat)) (hns:0 < ns.length) (hnl:¬ 1048576 < ns.length) (htl:¬ 65536 < ts.length)
  (hok:∀ t∈ts,okT t=true∧bq (flat t)=0∧¬ 2048 < (flat t).length∧∀ m∈flat t,(jv ns ls m).2≠4) (hocc:¬ 64 < gM ts) (hS:¬ 1024 < (dl (aB ns ls) ts).2.1.length) (hA:¬ 2147483648 < (dl (aB ns ls) ts).2.2.length) :
  Fn Tryz.prog 26 #[ah bt,vv] [cG bt mb vn vl,eT mb ns ls,z,zz,zb] (fun r Q=>∃ vf va,r=.tuple #[Do ((dl (aB ns ls) ts).2.1.length+1) vf va,i64 0]∧Q=[dV vf (cN (aB ns ls) ts),iu va (cj (aB ns ls) ts),cG bt mb vn vl,eT mb ns ls,z,zz,zb]):=by
 have hrd:∀ (i:Nat) (t:Tree),ts[i]?=some t→∃ b o cap a c,vv=.slice (some ⟨b,o,none⟩) ts.length cap∧NodesR zb (.slice a (flat t).length c) (flat t)∧Rd zz ⟨b,o+i * 1,none⟩ (.slice a (flat t).length c):=fun i t h=>by
  obtain ⟨w,h1,_,h3⟩:=hzb.2 i (flat t) (by rw [List.getElem?_map,h];rfl)
  obtain ⟨a,cap,rfl,_,hr⟩:=hzz
  have hi:=(List.getElem?_eq_some_iff.1 h).1
  obtain ⟨b,o,rfl,hr2⟩:=hr (by omega)
  have h4:=h3
  obtain ⟨aw,cw,rfl⟩:=aZ h4
  exact ⟨b,o,cap,aw,cw,rfl,h3,by rw [Nat.mul_one];exact hr2 _ _ h1⟩
 have hsym:=fun m=>tS bt mb vn vl ns ls m
 have hcl:=fun b2 m=>AS b2 bt mb vn vl ns ls m
 have hnm:=js bt mb vn vl ns z hz hnl
 obtain ⟨av,cv,rfl,_,_⟩:=hzz
 clear hzb
 unfold cN cj
 refine Fn.mk2 Tryz.func26 rfl rfl fun w0 F=>?_
 have d0:decide ((ns.length:Int)=0)=false:=decide_eq_false (by omega)
 (apply Ru;refine sbx fun b2=>?_;refine sal fun b4=>?_;apply Ru)
 refine scl (hnm) ?_
 rintro vnm _ rfl
 (apply Ru;refine scF ?_)
 refine G.loopI (σ:=Nat) (fun i=>[(1,.slice av ts.length cv),(2,ah b2),(4,ah b4),(32,.slice av ts.length cv),(33,i64 (ts.length:Nat)),(34,i64 (i:Nat))]) (fun _=>g6 b2 bt::pt b4 (row [i64 0,.slice none 0 0,.slice none 0 0] 70)::cG bt mb vn vl::eT mb ns ls::z::zz::zb::F) (fun i=>i≤ts.length) (fun i=>ts.length - i) 0 (Nat.zero_le _) ?_ ?_ ?_
 ·exact SE rfl
 ·exact ImpS.sb SB
 ·intro i hi
  apply Ru
  by_cases hlt:i < ts.length
  ·have d1:decide ((i:Int) < (ts.length:Int))=true:=decide_eq_true (by omega)
   obtain ⟨t,ht⟩:∃ t,ts[i]?=some t:=⟨_,List.getElem?_eq_getElem hlt⟩
   obtain ⟨b,o,cap,at1,ct,e,hq,rt⟩:=hrd i t ht
   injection e with e _ e2
   subst e e2
   obtain ⟨_,hc0,hl0,_⟩:=hok t (List.mem_of_getElem? ht)
   have hck:=check_spec zb _ (flat t) hq (by omega)
   rw [hc0] at hck
   (refine scT ?_;refine six ?_;refine sld (by assumption) ?_;apply Ru)
   refine scl (hck) ?_
   rintro _ _ ⟨rfl,rfl⟩
   (apply Ru;refine sad ?_)
   refine ⟨i+1,hlt,by omega,?_,?_⟩
   ·exact SE rfl
   ·exact ImpS.sb SB
  have d1:decide ((i:Int) < (ts.length:Int))=false:=decide_eq_false (by omega)
  refine scF ?_
  clear d1 hlt hi
  refine G.loopI (σ:=Nat) (fun i=>[(1,.slice av ts.length cv),(2,ah b2),(4,ah b4),(9,i64 (gM (ts.take i):Nat)),(45,.slice av ts.length cv),(46,i64 (ts.length:Nat)),(47,i64 (i:Nat))]) (fun _=>g6 b2 bt::pt b4 (row [i64 0,.slice none 0 0,.slice none 0 0] 70)::cG bt mb vn vl::eT mb ns ls::z::zz::zb::F) (fun i=>i≤ts.length) (fun i=>ts.length - i) 0 (Nat.zero_le _) ?_ ?_ ?_
  ·rw [List.take_zero,show gM []=0 by unfold gM;rfl]
   exact SE rfl
  ·exact ImpS.sb SB
  intro i hi
  apply Ru
  by_cases hlt:i < ts.length
  ·have d1:decide ((i:Int) < (ts.length:Int))=true:=decide_eq_true (by omega)
   obtain ⟨t,ht⟩:∃ t,ts[i]?=some t:=⟨_,List.getElem?_eq_getElem hlt⟩
   obtain ⟨b,o,cap,at1,ct,e,hq,rt⟩:=hrd i t ht
   injection e with e _ e2
   subst e e2
   obtain ⟨_,_,hl0,hn4⟩:=hok t (List.mem_of_getElem? ht)
   have hoc:=w6 zb _ (flat t) hq (by omega)
   have hst:=yM ht
   have hle:=Cb ts (i+1)
   have hrn:∀ (j:Nat) (m:NodeD),(flat t)[j]?=some m→_:=fun j m h=>ee hq h
   generalize flat t=bd at *
   (refine scT ?_;refine six ?_;refine sld (by assumption) ?_;apply Ru)
   refine G.loopI (σ:=Nat) (fun j=>[(1,.slice (some ⟨b,o,none⟩) ts.length cv),(2,ah b2),(4,ah b4),(9,i64 (gM (ts.take i):Nat)),(11,.slice at1 bd.length ct),(45,.slice (some ⟨b,o,none⟩) ts.length cv),(46,i64 (ts.length:Nat)),(47,i64 (i:Nat)),(51,.slice at1 bd.length ct),(52,i64 (bd.length:Nat)),(53,i64 (j:Nat))]) (fun _=>g6 b2 bt::pt b4 (row [i64 0,.slice none 0 0,.slice none 0 0] 70)::cG bt mb vn vl::eT mb ns ls::z::zz::zb::F) (fun j=>j≤bd.length) (fun j=>bd.length - j) 0 (Nat.zero_le _) ?_ ?_ ?_
   ·exact SE rfl
   ·exact ImpS.sb SB
   intro j hj
   clear d1
   apply Ru
   by_cases hlt2:j < bd.length
   ·have d1:decide ((j:Int) < (bd.length:Int))=true:=decide_eq_true (by omega)
    obtain ⟨m,hm⟩:∃ m,bd[j]?=some m:=⟨_,List.getElem?_eq_getElem hlt2⟩
    obtain ⟨bm,om,cap3,e,_,rm⟩:=hrn j m hm
    injection e with e _ e2
    subst e e2
    have hm4:=hn4 m (List.mem_of_getElem? hm)
    have d4:decide (((jv ns ls m).2:Int)=4)=false:=decide_eq_false (by omega)
    (refine scT ?_;refine six ?_)
    refine GO.loadM (vs:=[i64 (m.kind:Nat),str m.name,i64 (m.kids:Nat)]) rfl rfl rfl (Tk.t (Tk.t (Tk.t (Tk.t (Tk.t (Tk.t Tk.h)))))) rfl rm ?_
    (refine sal fun b13=>?_;apply Ru;refine GO.loadW rfl rfl rfl Tk.h rfl ?_)
    refine scl (hsym m) ?_
    rintro _ _ ⟨rfl,rfl⟩
    (apply Ru;refine sal fun b14=>?_;apply Ru;refine scF ?_;refine sad ?_)
    refine ⟨j+1,hlt2,by omega,?_,?_⟩
    ·exact SE rfl
    ·exact ImpS.sb SB
   have d1:decide ((j:Int) < (bd.length:Int))=false:=decide_eq_false (by omega)
   refine scF ?_
   refine scl (hoc) ?_
   rintro _ _ ⟨rfl,rfl⟩
   (refine sad ?_;refine sad ?_)
   refine ⟨i+1,hlt,by omega,?_,?_⟩
   ·rw [hst]
    exact SE rfl
   ·exact ImpS.sb SB
  have d1:decide ((i:Int) < (ts.length:Int))=false:=decide_eq_false (by omega)
  rw [List.take_of_length_le (by omega)]
  have d9:decide ((64:Int) < (gM ts:Int))=false:=decide_eq_false (by omega)
  (refine scF ?_;refine scF ?_;refine sbx fun b77=>?_;apply Ru;refine sal fun b17=>?_;apply Ru)
  refine G.ownNil (T:=3) (sz:=1) ?_
  refine G.ownNil (T:=3) (sz:=1) ?_
  refine G.ownNil (T:=85) (sz:=2) ?_
  refine G.ownNil (T:=87) (sz:=4) ?_
  generalize hfin0:dl (aB ns ls) ts=fin at *
  unfold dl at hfin0
  refine G.loopI (σ:=OfS) (fun x=>[(1,.slice av ts.length cv),(2,ah b2),(4,ah b4),(16,ah b77),(17,ah b17),(79,.slice av ts.length cv),(80,i64 (ts.length:Nat)),(81,i64 (x.i:Nat))]) (fun x=>aL [g6 b2 bt,cG bt mb vn vl,eT mb ns ls]::pt b17 (row [.bool x.out.emp,x.vf,x.vl] 148)::dV x.vf x.out.first::dV x.vl x.out.last::mkP b77 x.vs x.va::jB x.vs x.st.1::iu x.va x.st.2::pt b4 (row [i64 0,.slice none 0 0,.slice none 0 0] 70)::z::zz::zb::F)
   (fun x=>x.i≤ts.length∧bQ (aB ns ls) 5 (ts.drop x.i) x.out x.st=fin∧PtB 0 x.st.1.length x.out) (fun x=>ts.length - x.i) ⟨0,⟨false,[],[]⟩,([],[]),.slice none 0 0,.slice none 0 0,.slice none 0 0,.slice none 0 0⟩ ⟨Nat.zero_le _,hfin0,PtB.nil⟩ ?_ ?_ ?_
  ·exact SE rfl
  ·dsimp only
   rw [show ∀ v,dV v []=own 3 1 0 v [] from fun v=>by unfold dV az;rfl,show ∀ v,jB v []=own 85 2 0 v [] from fun v=>by unfold jB cO;rfl,show ∀ v,iu v []=own 87 4 0 v [] from fun v=>by unfold iu aP;rfl]
   refine ImpS.flat (ImpS.sb ?_)
   exact SB
  clear hi hlt d1
  clear hfin0
  rintro ⟨i,out,st,vs,va,uf,ul⟩ ⟨hi,hfin,hB⟩
  dsimp only at hi hfin hB ⊢
  generalize hg:aL [g6 b2 bt,cG bt mb vn vl,eT mb ns ls]=g
  apply Ru
  by_cases hlt:i < ts.length
  ·have d1:decide ((i:Int) < (ts.length:Int))=true:=decide_eq_true (by omega)
   obtain ⟨t,ht⟩:∃ t,ts[i]?=some t:=⟨_,List.getElem?_eq_getElem hlt⟩
   obtain ⟨b,o,cap,at1,ct,e,hq,rt⟩:=hrd i t ht
   injection e with e _ e2
   subst e e2
   obtain ⟨hok1,_,hl0,_⟩:=hok t (List.mem_of_getElem? ht)
   have htree:=yg (aB ns ls) (.func (.func 63) #[] #[ah b2]) g (fun m hm=>by
    have:=FnV.one (R:=fun r=>r=syA (jv ns ls m).1) (hcl b2 m)
    rw [hg] at this
    rwa [show (jv ns ls m).1=aB ns ls m.kind m.name by unfold aB jv;rfl] at this) b77 zb (flat t).length t [] (.slice at1 (flat t).length ct) vs va st hok1 (Nat.le_refl _) (by rw [List.append_nil];exact hq) (by rw [List.append_nil];omega)
   have hB1:=ti (aB ns ls) t st
   rw [dg ht,bQ,if_neg (by decide)] at hfin
   generalize hkid1:bC (aB ns ls) t st=kid at *
   obtain ⟨kp,S2,A2⟩:=kid
   dsimp only at htree hB1 hfin
   obtain ⟨_,g1,g2⟩:=gE (aB ns ls) 5 (ts.drop (i+1)) (gP out kp) (S2,A2) 0 (hB.alt hB1.1)
   rw [hfin] at g1 g2
   dsimp only at g1 g2
   have htree:=htree (by omega) (by omega)
   have hb0:=hB.nf;have hb1:=hB.nl;have hb2:=hB1.1.nf;have hb3:=hB1.1.nl;have hb4:=hB1.1.le
   (refine scT ?_;refine six ?_;refine sld (by assumption) ?_;apply Ru)
   refine scl (htree) ?_
   rintro _ _ ⟨vs2,va2,kvf,kvl,w2,z2,hkf,hkl,_,rfl,rfl⟩
   dsimp only at hkf hkl ⊢
   refine GO.ownRd (v:=uf) (Tk.t (Tk.t (Tk.t (Tk.t (Tk.t (Tk.t (Tk.t Tk.h))))))) fun qa hqa=>?_
   refine GO.ownRd (v:=ul) (Tk.t (Tk.t (Tk.t (Tk.t (Tk.t (Tk.t (Tk.t (Tk.t Tk.h)))))))) fun qb hqb=>?_
   have hqa':bU qa uf out.first:=hqa
   have hqb':bU qb ul out.last:=hqb
   refine GO.merge (x:=qa) (y:=qb) (Tks.c (Tk.t Tk.h) (Tks.c Tk.h Tks.n)) ?_
   have hqa':=hqa'.sup (Sup.left qa qb)
   have hqb':=hqb'.sup (Sup.right qa qb)
   generalize aL [qa,qb]=q3 at *
   refine GO.merge (x:=q3) (y:=z2) (Tks.c Tk.h (Tks.c (Tk.t (Tk.t (Tk.t Tk.h))) Tks.n)) ?_
   have hqa':=hqa'.sup (Sup.left q3 z2)
   have hqb':=hqb'.sup (Sup.left q3 z2)
   have hkf:=hkf.sup (Sup.right q3 z2)
   have hkl:=hkl.sup (Sup.right q3 z2)
   generalize aL [q3,z2]=z3 at *
   clear hqa hqb
   have halt:=vZ uf ul kvf kvl out kp z3 hqa' hqb' hkf hkl (by omega) (by omega) (by omega) (by omega)
   obtain ⟨xa,ca,rfl⟩:=cM hqa'
   obtain ⟨xb,cb,rfl⟩:=cM hqb'
   obtain ⟨ya,da,rfl⟩:=cM hkf
   obtain ⟨yb,db,rfl⟩:=cM hkl
   (apply Ru;refine sal fun b20=>?_;apply Ru;refine GO.loadW rfl rfl rfl (Tk.t (Tk.t (Tk.t (Tk.t (Tk.t (Tk.t (Tk.t Tk.h))))))) rfl ?_;refine GO.loadW rfl rfl rfl Tk.h rfl ?_)
   refine scl (halt) ?_
   rintro _ _ ⟨uf3,ul3,rfl,rfl⟩
   refine GO.ownOne (v:=uf3) Tk.h fun h1=>?_
   refine GO.ownOne (v:=ul3) (Tk.t Tk.h) fun h2=>?_
   refine GO.storeW rfl rfl (Tk.t (Tk.t (Tk.t (Tk.t (Tk.t (Tk.t (Tk.t (Tk.t (Tk.t Tk.h))))))))) ⟨rfl,rfl⟩ (by simp [Value.oneCell'];exact ⟨h1,h2⟩) ?_
   (apply Ru;refine sad ?_)
   refine ⟨⟨i+1,gP out kp,(S2,A2),vs2,va2,uf3,ul3⟩,⟨hlt,hfin,hB.alt hB1.1⟩,by dsimp only;omega,?_,?_⟩
   ·exact SE rfl
   ·exact ImpS.sb SB
  ·have d1:decide ((i:Int) < (ts.length:Int))=false:=decide_eq_false (by omega)
   rw [List.drop_eq_nil_of_le (by omega),bQ] at hfin
   subst hfin
   obtain ⟨oe,of,ol⟩:=out
   obtain ⟨S1,A1⟩:=st
   have hb0:=hB.nf;have hb1:=hB.nl
   have hb2:=hB.fst
   dsimp only at hS hA hb0 hb1 hb2 ⊢
   have hlen:¬ 4294967296 < (A1++aH S1 [0] of).length:=by rw [List.length_append,eP,List.length_cons,List.length_nil];omega
   refine scF ?_
   refine GO.buildSlice1 (n:=1) rfl rfl (fun v hv=>by rw [List.mem_singleton.1 hv];rfl) rfl ⟨by decide,by decide⟩ fun bs3=>?_
   refine GO.ownIn (n:=1) (sz:=1) Tk.h rfl (by decide) ?_
   refine GO.ownRd (n:=1) (sz:=1) Tk.h fun qa hqa=>?_
   have hqa:=yS hqa
   refine GO.ownRd (v:=uf) (Tk.t (Tk.t (Tk.t Tk.h))) fun qb hqb=>?_
   have hqb':bU qb uf of:=hqb
   refine GO.merge (x:=qa) (y:=qb) (Tks.c (Tk.t Tk.h) (Tks.c Tk.h Tks.n)) ?_
   have hqa:=hqa.sup (Sup.left qa qb)
   have hqb':=hqb'.sup (Sup.right qa qb)
   generalize aL [qa,qb]=q3 at *
   clear hqb
   refine GO.ownSl (v:=vs) (Tk.t (Tk.t (Tk.t (Tk.t (Tk.t Tk.h))))) fun hsl=>?_
   have hjn:=j4 b77 vs va _ uf S1 A1 [0] of (jB vs S1) q3 hsl hqa hqb' hb2 (by omega) (by show ¬ 1048576 < 1;decide) (by omega) (by rw [List.length_cons,List.length_nil];omega)
   obtain ⟨xs,cs,rfl,_,_⟩:=hsl
   apply Ru
   refine scl (hjn) ?_
   rintro _ _ ⟨va9,rfl⟩
   apply Ru
   refine scl (tZ va9 (A1++aH S1 [0] of) hlen) ?_
   rintro _ _ ⟨rfl,rfl⟩
   rw [show (A1++aH S1 [0] of).length=(dP bL (A1++aH S1 [0] of)).length from (List.length_mergeSort _).symm]
   apply Ru
   cases oe
   ·apply Ru
    rw [if_neg (by decide),List.append_nil]
    have hls:=oy ul ol (by omega)
    refine scl (hls) ?_
    rintro _ _ ⟨rfl,rfl⟩
    refine GO.ownShp (v:=ul) Tk.h fun x6 c6 e6=>?_
    subst e6
    apply Ru
    refine drT 13 6144 [mkP b77 (.slice xs S1.length cs) va9,jB (.slice xs S1.length cs) S1] ?_
    (apply Ru;(apply GR.step rfl;focus (intro Z;refine GO.addi rfl rfl rfl (by omega) ?_;exact KQ.z));apply Ru)
    (repeat refine GT.skip rfl ?_)
    refine GT.step rfl ?_
    refine scl (kQ va9 (dP bL (A1++aH S1 [0] of)) (by rw [List.length_mergeSort];exact hlen)) ?_
    rintro v5 _ rfl
    refine GO.ownShp Tk.h fun x5 c5 e5=>?_
    subst e5
    refine gtn ?_
    refine GT.step rfl ?_
    refine GO.build3 rfl rfl rfl rfl rfl ?_
    refine gtn ?_
    subst hg
    refine GO.storeW (vs:=[.int .i64 ((S1.length:Int)+1),.slice x6 (e9 ol).length c6,.slice x5 (dG (dP bL (A1++aH S1 [0] of))).length c5]) rfl rfl (Tk.t (Tk.t (Tk.t (Tk.t (Tk.t (Tk.t (Tk.t Tk.h))))))) ⟨rfl,rfl⟩ (by simp [Value.oneCell']) ?_
    apply Ru
    refine KF2.r2 rfl (RV.cW rfl rfl Tk.h rfl) (RV.t rfl) ⟨.slice x6 (e9 ol).length c6,.slice x5 (dG (dP bL (A1++aH S1 [0] of))).length c5,rfl,rfl⟩ (ImpS.trans (ImpS.sb (M:=aL [g6 b2 bt,cG bt mb vn vl,eT mb ns ls]::dV (.slice x6 (e9 ol).length c6) (e9 ol)::own 87 4 (dG (dP bL (A1++aH S1 [0] of))).length (.slice x5 (dG (dP bL (A1++aH S1 [0] of))).length c5) (aP (dG (dP bL (A1++aH S1 [0] of))))::z::zz::zb::F) SB) (ImpS.trans ImpS.openS (ImpS.sb SB)))
   ·apply Ru
    refine GO.buildSlice1 (n:=1) rfl rfl (fun v hv=>by rw [List.mem_singleton.1 hv];rfl) rfl ⟨by decide,by decide⟩ fun bs8=>?_
    refine GO.appendOwn (m:=1) (news:=[i64 0]) rfl rfl rfl (Tk.t (Tk.t (Tk.t (Tk.t (Tk.t (Tk.t (Tk.t Tk.h))))))) Tk.h rfl (by simp [Value.oneCell']) ⟨by decide,rfl⟩ Nat.one_pos (by unfold maxLen;omega) (by omega) fun v8=>?_
    rw [if_pos rfl]
    have hls:=oy v8 (ol++[0]) (by rw [List.length_append,List.length_cons,List.length_nil];omega)
    unfold dV at hls
    rw [List.length_append,cK,List.length_cons,List.length_nil,show az [0]=[i64 0] by unfold az;rfl] at hls
    apply Ru
    refine scl (hls) ?_
    rintro _ _ ⟨rfl,rfl⟩
    rw [show own 3 1 (e9 (ol++[0])).length v8 (az (e9 (ol++[0])))=dV v8 (e9 (ol++[0])) from rfl]
    refine GO.ownShp (v:=v8) Tk.h fun x6 c6 e6=>?_
    subst e6
    apply Ru
    refine drT 13 6144 [mkP b77 (.slice xs S1.length cs) va9,jB (.slice xs S1.length cs) S1] ?_
    (apply Ru;(apply GR.step rfl;focus (intro Z;refine GO.addi rfl rfl rfl (by omega) ?_;exact KQ.z));apply Ru)
    (repeat refine GT.skip rfl ?_)
    refine GT.step rfl ?_
    refine scl (kQ va9 (dP bL (A1++aH S1 [0] of)) (by rw [List.length_mergeSort];exact hlen)) ?_
    rintro v5 _ rfl
    refine GO.ownShp Tk.h fun x5 c5 e5=>?_
    subst e5
    refine gtn ?_
    refine GT.step rfl ?_
    refine GO.build3 rfl rfl rfl rfl rfl ?_
    refine gtn ?_
    subst hg
    refine GO.storeW (vs:=[.int .i64 ((S1.length:Int)+1),.slice x6 (e9 (ol++[0])).length c6,.slice x5 (dG (dP bL (A1++aH S1 [0] of))).length c5]) rfl rfl (Tk.t (Tk.t (Tk.t (Tk.t (Tk.t (Tk.t (Tk.t (Tk.t Tk.h)))))))) ⟨rfl,rfl⟩ (by simp [Value.oneCell']) ?_
    apply Ru
    refine KF2.r2 rfl (RV.cW rfl rfl Tk.h rfl) (RV.t rfl) ⟨.slice x6 (e9 (ol++[0])).length c6,.slice x5 (dG (dP bL (A1++aH S1 [0] of))).length c5,rfl,rfl⟩ (ImpS.trans (ImpS.sb (M:=aL [g6 b2 bt,cG bt mb vn vl,eT mb ns ls]::dV (.slice x6 (e9 (ol++[0])).length c6) (e9 (ol++[0]))::own 87 4 (dG (dP bL (A1++aH S1 [0] of))).length (.slice x5 (dG (dP bL (A1++aH S1 [0] of))).length c5) (aP (dG (dP bL (A1++aH S1 [0] of))))::z::zz::zb::F) SB) (ImpS.trans ImpS.openS (ImpS.sb SB)))
end
section
theorem Da {q:HP} {v:Value} {l:List ArD} {i:Nat} {x:ArD} (hq:Sl q v l.length 4 (aP l)) (h:l[i]?=some x):∃ b o cap,v=.slice (some ⟨b,o,none⟩) l.length cap∧∀ j u,(dY x)[j]?=some u→Rd q ⟨b,o+i * 4+j,none⟩ u:=by
 obtain ⟨a,cap,rfl,_,hr⟩:=hq
 have hi:=(List.getElem?_eq_some_iff.1 h).1
 obtain ⟨b,o,rfl,hr2⟩:=hr (by omega)
 refine ⟨b,o,cap,rfl,fun j u hu=>?_⟩
 have hj:j < 4:=(List.getElem?_eq_some_iff.1 hu).1
 rw [Nat.add_assoc]
 exact hr2 _ _ (by unfold aP;rw [ft (enc:=dY) (k:=4) (fun _=>rfl) h hj];exact hu)
structure AutoOK (n:Nat) (fs:List Nat) (xs:List ArD):Prop where
 n1:1≤n
 n65:n≤65
 fin:∀ q∈fs,q < n
 rise:∀ (i x y:Nat),fs[i]?=some x→fs[i+1]?=some y→x < y
 arc:∀ x∈xs,x.src < n∧x.dst < n
 ord:∀ (i:Nat) (x y:ArD),xs[i]?=some x→xs[i+1]?=some y→bL x y < 0
attribute [local irreducible] bO cz G GO GR GT GW Fn FnX FnV FnXV Dfr pt init exs pur sat own ImpS az aP cO aH bL
end
section
def oi (xs:List ArD) (s:SyD) (a:Nat→Bool):Nat→Bool:=fun q=>xs.any fun x=>a x.src && decide (x.sym=s) && decide (x.dst=q)
attribute [local irreducible] bO cz G GO GR GT GW Fn FnX FnV FnXV Dfr pt init exs pur sat own ImpS az aP cO aH bL oi
end
section
attribute [local irreducible] bO cz G GO GR GT GW Fn FnX FnV FnXV Dfr pt init exs pur sat own ImpS az aP cO aH bL oi
def wj (xs:List ArD) (w:List SyD) (a:Nat→Bool):Nat→Bool:=w.foldl (fun a s=>oi xs s a) a
attribute [local irreducible] wj
end
section
section
variable {α β:Type} {f:α→β} {K:α→Prop}
def Img (f:α→β) (K:α→Prop) (P:List α→Prop) (Q:List β→Prop):Prop:=(∀ w,P w→(∀ x∈w,K x)∧Q (w.map f))∧∀ v,Q v→∃ w,v=w.map f∧P w
theorem Img.nil:Img f K (fun w=>w=[]) (fun v=>v=[]):=⟨fun w h=>by subst h;exact ⟨fun x hx=>(by cases hx),rfl⟩,fun v h=>⟨[],by rw [h];rfl,rfl⟩⟩
theorem Img.no:Img f K (fun _=>False) (fun _=>False):=⟨fun _ h=>h.elim,fun _ h=>h.elim⟩
theorem Img.one {a:α} {b:β} (hk:K a) (h:f a=b):Img f K (fun w=>w=[a]) (fun v=>v=[b]):=
 ⟨fun w e=>by subst e;exact ⟨fun x hx=>by rw [List.mem_singleton.1 hx];exact hk,by rw [List.map_cons,h];rfl⟩,fun v e=>⟨[a],by rw [e,List.map_cons,h];rfl,rfl⟩⟩
theorem Img.or {P P':List α→Prop} {Q Q':List β→Prop} (h:Img f K P Q) (k:Img f K P' Q'):Img f K (fun w=>P w∨P' w) (fun v=>Q v∨Q' v):=
 ⟨fun w e=>e.elim (fun e=>⟨(h.1 w e).1,.inl (h.1 w e).2⟩) fun e=>⟨(k.1 w e).1,.inr (k.1 w e).2⟩,
  fun v e=>e.elim (fun e=>let ⟨w,a,b⟩:=h.2 v e;⟨w,a,.inl b⟩) fun e=>let ⟨w,a,b⟩:=k.2 v e;⟨w,a,.inr b⟩⟩
theorem Img.seq {P P':List α→Prop} {Q Q':List β→Prop} (h:Img f K P Q) (k:Img f K P' Q'):Img f K (fun w=>∃ u v,w=u++v∧P u∧P' v) (fun w=>∃ u v,w=u++v∧Q u∧Q' v):=by
 constructor
 ·rintro w ⟨u,v,rfl,h1,h2⟩
  obtain ⟨a1,b1⟩:=h.1 u h1
  obtain ⟨a2,b2⟩:=k.1 v h2
  exact ⟨fun x hx=>(List.mem_append.1 hx).elim (a1 x) (a2 x),u.map f,v.map f,List.map_append,b1,b2⟩
 ·rintro w ⟨u,v,rfl,h1,h2⟩
  obtain ⟨u',rfl,a1⟩:=h.2 u h1
  obtain ⟨v',rfl,a2⟩:=k.2 v h2
  exact ⟨u'++v',List.map_append.symm,u',v',rfl,a1,a2⟩
theorem Img.many {P:List α→Prop} {Q:List β→Prop} (h:Img f K P Q):Img f K (Many P) (Many Q):=by
 constructor
 ·intro w m
  induction m with
  | nil=>exact ⟨fun x hx=>(by cases hx),.nil⟩
  | cons p _ ih=>
   obtain ⟨a,b⟩:=h.1 _ p
   exact ⟨fun x hx=>(List.mem_append.1 hx).elim (a x) (ih.1 x),by rw [List.map_append];exact .cons b ih.2⟩
 ·intro w m
  induction m with
  | nil=>exact ⟨[],rfl,.nil⟩
  | cons p _ ih=>
   obtain ⟨u,rfl,a⟩:=h.2 _ p
   obtain ⟨v,rfl,b⟩:=ih
   exact ⟨u++v,List.map_append.symm,.cons a b⟩
theorem Img.plus {P:List α→Prop} {Q:List β→Prop} (h:Img f K P Q):Img f K (kK P) (kK Q):=h.seq h.many
variable {la:Nat→List UInt8→α} {lb:Nat→List UInt8→β}
theorem Img.seqs:∀ {ts:List Tree},(∀ t∈ts,Img f K (Lg la t) (Lg lb t))→Img f K (LgS la ts) (LgS lb ts)
 | [],_=>by
  rw [show LgS la []=fun w=>w=[] by funext w;rw [LgS],show LgS lb []=fun w=>w=[] by funext w;rw [LgS]]
  exact Img.nil
 | t::ts,h=>by
  rw [show LgS la (t::ts)=fun w=>∃ u v,w=u++v∧Lg la t u∧LgS la ts v by funext w;rw [LgS],show LgS lb (t::ts)=fun w=>∃ u v,w=u++v∧Lg lb t u∧LgS lb ts v by funext w;rw [LgS]]
  exact (h t (by simp)).seq (Img.seqs fun u hu=>h u (by simp [hu]))
theorem Img.alts:∀ {ts:List Tree},(∀ t∈ts,Img f K (Lg la t) (Lg lb t))→Img f K (LgA la ts) (LgA lb ts)
 | [],_=>by
  rw [show LgA la []=fun _=>False by funext w;rw [LgA],show LgA lb []=fun _=>False by funext w;rw [LgA]]
  exact Img.no
 | t::ts,h=>by
  rw [show LgA la (t::ts)=fun w=>Lg la t w∨LgA la ts w by funext w;rw [LgA],show LgA lb (t::ts)=fun w=>Lg lb t w∨LgA lb ts w by funext w;rw [LgA]]
  exact (h t (by simp)).or (Img.alts fun u hu=>h u (by simp [hu]))
theorem s6:∀ {ts:List Tree} {t:Tree} {m:NodeD},t∈ts→m∈flat t→m∈ay ts
 | u::ts,t,m,ht,hm=>by
  rw [ay,List.mem_append]
  rcases List.mem_cons.1 ht with rfl | ht
  ·exact .inl hm
  ·exact .inr (s6 ht hm)
theorem Img.tree (t:Tree):(∀ m∈flat t,m.kind=2∨m.kind=3→K (la m.kind m.name)∧f (la m.kind m.name)=lb m.kind m.name)→Img f K (Lg la t) (Lg lb t):=by
 refine Tree.ind (p:=fun t=>(∀ m∈flat t,m.kind=2∨m.kind=3→K (la m.kind m.name)∧f (la m.kind m.name)=lb m.kind m.name)→Img f K (Lg la t) (Lg lb t)) (fun t ih=>?_) t
 intro h
 have hk:∀ u∈t.kids,Img f K (Lg la u) (Lg lb u):=fun u hu=>ih u hu fun m hm=>h m (by rw [du];exact List.mem_cons_of_mem _ (s6 hu hm))
 have hr:=h ⟨t.kind,t.name,t.kids.length⟩ (by rw [du];exact List.mem_cons_self ..)
 clear ih h
 obtain ⟨k,n,ts⟩:=t
 change ∀ u∈ts,_ at hk
 change k=2∨k=3→K (la k n)∧f (la k n)=lb k n at hr
 have e:=fun {γ:Type} (l:Nat→List UInt8→γ)=>show Lg l (.node k n ts)=fun w=>if k=1 then w=[] else if k=2∨k=3 then w=[l k n] else if k=4 then LgS l ts w else if k=5 then LgA l ts w else if k=6 then Many (LgA l ts) w else if k=7 then kK (LgA l ts) w else w=[]∨LgA l ts w by funext w;rw [Lg]
 rw [e la,e lb]
 by_cases h1:k=1
 ·simp only [if_pos h1];exact Img.nil
 simp only [if_neg h1]
 by_cases h2:k=2∨k=3
 ·simp only [if_pos h2];exact Img.one (hr h2).1 (hr h2).2
 simp only [if_neg h2]
 by_cases h4:k=4
 ·simp only [if_pos h4];exact Img.seqs hk
 simp only [if_neg h4]
 by_cases h5:k=5
 ·simp only [if_pos h5];exact Img.alts hk
 simp only [if_neg h5]
 by_cases h6:k=6
 ·simp only [if_pos h6];exact (Img.alts hk).many
 simp only [if_neg h6]
 by_cases h7:k=7
 ·simp only [if_pos h7];exact (Img.alts hk).plus
 simp only [if_neg h7]
 exact Img.nil.or (Img.alts hk)
theorem xF {inj:∀ x y,K x→K y→f x=f y→x=y}:∀ {u v:List α},(∀ x∈u,K x)→(∀ x∈v,K x)→u.map f=v.map f→u=v
 | [],[],_,_,_=>rfl
 | [],y::v,_,_,h=>by cases h
 | x::u,[],_,_,h=>by cases h
 | x::u,y::v,hu,hv,h=>by
  rw [List.map_cons,List.map_cons,List.cons.injEq] at h
  rw [inj x y (hu x (by simp)) (hv y (by simp)) h.1,xF (inj:=inj) (fun a ha=>hu a (by simp [ha])) (fun a ha=>hv a (by simp [ha])) h.2]
end
end
section
section
variable {α:Type} [DecidableEq α] {cf:α→α→Int}
omit [DecidableEq α] in theorem sortB_mem {l:List α} {x:α}:x∈dP cf l↔x∈l:=(List.mergeSort_perm l _).mem_iff
theorem mK:∀ (r:List α) (x y:α),y∈x::eF x r↔y∈x::r
 | [],_,_=>Iff.rfl
 | z::r,x,y=>by
  simp only [eF]
  split
  ·rename_i h
   subst h
   rw [mK r z y]
   simp only [List.mem_cons]
   constructor
   ·rintro (h | h)
    ·exact .inl h
    ·exact .inr (.inr h)
   ·rintro (h | h | h)
    ·exact .inl h
    ·exact .inl h
    ·exact .inr h
  ·rw [List.mem_cons,mK r z y,List.mem_cons (a:=y) (b:=x)]
theorem zM {l:List α} {y:α}:y∈dG l↔y∈l:=by
 cases l with
 | nil=>exact Iff.rfl
 | cons x r=>exact mK r x y
theorem lm (h:TOrd cf):∀ (r:List α) (x:α),((x::r).Pairwise fun x y=>¬ cf y x < 0)→(x::eF x r).Pairwise fun x y=>cf x y < 0
 | [],_,_=>List.pairwise_singleton _ _
 | z::r,x,hp=>by
  have h1:=List.pairwise_cons.1 hp
  simp only [eF]
  split
  ·rename_i e
   subst e
   exact lm h r z h1.2
  ·rename_i e
   have ih:=lm h r z h1.2
   refine List.pairwise_cons.2 ⟨fun y hy=>?_,ih⟩
   have hzx:=h1.1 z (by simp)
   have a1:=h.anti x z
   have hxz:cf x z < 0:=by
    by_cases h0:cf x z=0
    ·exact absurd (h.eq _ _ h0).symm e
    ·omega
   rcases List.mem_cons.1 hy with rfl | hy
   ·exact hxz
   ·exact h.trans _ _ _ hxz ((List.pairwise_cons.1 ih).1 y hy)
theorem pL (h:TOrd cf) (l:List α):(dG (dP cf l)).Pairwise fun x y=>cf x y < 0:=by
 have hs:(dP cf l).Pairwise fun x y=>¬ cf y x < 0:=by
  have:=List.pairwise_mergeSort (le:=fun x y=>!(Go.Proofs.ltOf cf) y x) (fun a b c h1 h2=>by
   simp only [Go.Proofs.ltOf,Bool.not_eq_true',decide_eq_false_iff_not] at h1 h2 ⊢
   intro h3
   have a1:=h.anti a b
   have a2:=h.anti b c
   by_cases e1:cf a b=0
   ·rw [h.eq a b e1] at h3;exact h2 h3
   by_cases e2:cf b c=0
   ·rw [← h.eq b c e2] at h3;exact h1 h3
   exact h1 (h.trans b c a (by omega) h3)) (fun a b=>by
   simp only [Go.Proofs.ltOf,Bool.or_eq_true,Bool.not_eq_true',decide_eq_false_iff_not]
   have:=h.anti a b
   omega) l
  refine this.imp fun {a b} h1=>?_
  simpa [Go.Proofs.ltOf] using h1
 cases hc:dP cf l with
 | nil=>exact .nil
 | cons x r=>rw [hc] at hs;exact lm h r x hs
end
theorem yy {l:List Nat} {x:Nat}:x∈e9 l↔x∈l:=(List.mergeSort_perm l _).mem_iff
theorem mv {α:Type} {R:α→α→Prop} {l:List α} (h:l.Pairwise R) {i:Nat} {x y:α} (hx:l[i]?=some x) (hy:l[i+1]?=some y):R x y:=by
 obtain ⟨h1,e1⟩:=List.getElem?_eq_some_iff.1 hx
 obtain ⟨h2,e2⟩:=List.getElem?_eq_some_iff.1 hy
 have:=List.pairwise_iff_getElem.1 h i (i+1) h1 h2 (by omega)
 rwa [e1,e2] at this
theorem wh {l:List Nat} (h:l.Nodup) {i x y:Nat} (hx:(e9 l)[i]?=some x) (hy:(e9 l)[i+1]?=some y):x < y:=by
 have h1:(e9 l).Pairwise fun a b=>a≤b:=by
  have:=List.pairwise_mergeSort (le:=fun (x y:Nat)=>decide (x≤y)) (fun a b c h1 h2=>by simp only [decide_eq_true_eq] at *;omega) (fun a b=>by simp only [Bool.or_eq_true,decide_eq_true_eq];omega) l
  exact this.imp fun {a b} h=>of_decide_eq_true h
 have h2:(e9 l).Nodup:=(List.mergeSort_perm l _).nodup_iff.2 h
 have a1:=mv h1 hx hy
 have a2:x≠y:=mv h2 hx hy
 omega
theorem qY {xs:List ArD} {s:SyD} {a:Nat→Bool} {q:Nat}:oi xs s a q=true↔∃ x∈xs,a x.src=true∧x.sym=s∧x.dst=q:=by
 unfold oi
 rw [List.any_eq_true]
 constructor
 ·rintro ⟨x,h1,h2⟩
  rw [Bool.and_eq_true,Bool.and_eq_true] at h2
  exact ⟨x,h1,h2.1.1,of_decide_eq_true h2.1.2,of_decide_eq_true h2.2⟩
 ·rintro ⟨x,h1,h2,h3,h4⟩
  exact ⟨x,h1,by rw [h2,decide_eq_true h3,decide_eq_true h4];rfl⟩
theorem ly {xs:List ArD}:∀ (w:List SyD) (a:Nat→Bool) (q:Nat),wj xs w a q=true↔∃ p,a p=true∧Pth xs p w q
 | [],a,q=>⟨fun h=>⟨q,h,rfl⟩,fun ⟨p,h,e⟩=>by cases e;exact h⟩
 | s::w,a,q=>by
  have ih:=ly (xs:=xs) w (oi xs s a) q
  rw [show wj xs (s::w) a=wj xs w (oi xs s a) by unfold wj;rfl,ih]
  constructor
  ·rintro ⟨p,h,k⟩
   obtain ⟨x,h1,h2,h3,h4⟩:=qY.1 h
   exact ⟨x.src,h2,x,h1,rfl,h3,by rw [h4];exact k⟩
  ·rintro ⟨p,h,x,h1,h2,h3,h4⟩
   exact ⟨x.dst,qY.2 ⟨x,h1,by rw [h2];exact h,h3,rfl⟩,h4⟩
theorem rn {A B:List ArD} (h:∀ x,x∈A↔x∈B) {u:List SyD} {p q:Nat}:Pth A p u q↔Pth B p u q:=⟨eG fun x hx=>(h x).1 hx,eG fun x hx=>(h x).2 hx⟩
theorem A4 {S:List SyD} {hi:Nat} {A:List ArD} {pt:PtD} (h:GOK S 0 hi A pt) (w:List SyD):Acc S A pt w↔∃ q,(q∈pt.last∨(q=0∧pt.emp=true))∧Pth (A++aH S [0] pt.first) 0 w q:=by
 have stay:∀ (u:List SyD) (p q:Nat),0 < p→Pth (A++aH S [0] pt.first) p u q→Pth A p u q∧0 < q:=by
  intro u
  induction u with
  | nil=>rintro p q hp rfl;exact ⟨rfl,hp⟩
  | cons s u ih=>
   rintro p q hp ⟨x,h1,h2,h3,h4⟩
   rcases List.mem_append.1 h1 with h1 | h1
   ·have:=h.arc x h1
    obtain ⟨a,b⟩:=ih x.dst q this.2.1.1 h4
    exact ⟨⟨x,h1,h2,h3,a⟩,b⟩
   ·have:=(dw.1 h1).1
    rw [List.mem_singleton] at this
    omega
 constructor
 ·rintro (⟨rfl,he⟩ | ⟨f,hf,l,hl,v,rfl,hp⟩)
  ·exact ⟨0,.inr ⟨rfl,he⟩,rfl⟩
  ·exact ⟨l,.inl hl,⟨0,ce S f,f⟩,List.mem_append.2 (.inr (dw.2 ⟨List.mem_singleton.2 rfl,hf,rfl⟩)),rfl,rfl,eG (fun x hx=>List.mem_append.2 (.inl hx)) hp⟩
 ·rintro ⟨q,hq,hp⟩
  cases w with
  | nil=>
   have hp:0=q:=hp
   subst hp
   rcases hq with hq | hq
   ·have:=h.lst 0 hq;omega
   ·exact .inl ⟨rfl,hq.2⟩
  | cons s v=>
   obtain ⟨x,h1,h2,h3,h4⟩:=hp
   rcases List.mem_append.1 h1 with h1 | h1
   ·have:=h.arc x h1;omega
   ·obtain ⟨j1,j2,j3⟩:=dw.1 h1
    have:=h.fst _ j2
    obtain ⟨a,b⟩:=stay v x.dst q this.1 h4
    rcases hq with hq | hq
    ·exact .inr ⟨x.dst,j2,q,hq,v,by rw [← h3,j3],a⟩
    ·omega
section
variable {leaf:Nat→List UInt8→SyD} {ts:List Tree}
theorem i5 (hok:∀ t∈ts,okT t=true):(dl leaf ts).2.1.length=be ts∧GOK (dl leaf ts).2.1 0 (be ts) (dl leaf ts).2.2 (dl leaf ts).1∧∀ w,LgA leaf ts w↔Acc (dl leaf ts).2.1 (dl leaf ts).2.2 (dl leaf ts).1 w:=by
 obtain ⟨ext,new,h1,h2,h3⟩:=pr (leaf:=leaf) (k:=5) (by decide) ts (fun t ht st=>Bk t (hok t ht) st) ⟨false,[],[]⟩ (fun _=>False) [] [] ([],[]) 0 rfl (fun S r hS=>xE)
 obtain ⟨h4,h5⟩:=h3 ext [] (by rw [List.append_nil];rfl)
 have e:(dl leaf ts).2=(ext,new):=h1
 rw [e]
 dsimp only
 refine ⟨h2,?_,fun w=>?_⟩
 ·have:=h4
  rw [List.nil_append,show (([],[]):GSt).1.length+be ts=be ts from Nat.zero_add _] at this
  exact this
 ·have:=h5 w
  rw [List.nil_append,false_or] at this
  exact this
theorem k9 {x:ArD}:x∈cj leaf ts↔x∈(dl leaf ts).2.2++aH (dl leaf ts).2.1 [0] (dl leaf ts).1.first:=by
 unfold cj
 rw [zM,sortB_mem]
theorem pB {q:Nat}:q∈cN leaf ts↔q∈(dl leaf ts).1.last∨(q=0∧(dl leaf ts).1.emp=true):=by
 unfold cN
 rw [yy,List.mem_append]
 refine or_congr Iff.rfl ?_
 split
 ·rename_i h;rw [List.mem_singleton];exact ⟨fun e=>⟨e,h⟩,fun e=>e.1⟩
 ·rename_i h;exact ⟨fun e=>(by cases e),fun e=>absurd e.2 h⟩
theorem zR (hok:∀ t∈ts,okT t=true) (w:List SyD):((cN leaf ts).any (wj (cj leaf ts) w fun q=>decide (q=0)))=true↔LgA leaf ts w:=by
 obtain ⟨_,h2,h3⟩:=i5 (leaf:=leaf) hok
 rw [h3,A4 h2,List.any_eq_true]
 constructor
 ·rintro ⟨q,h4,h5⟩
  obtain ⟨p,h6,h7⟩:=(ly _ _ _).1 h5
  rw [of_decide_eq_true h6] at h7
  exact ⟨q,pB.1 h4,(rn fun x=>k9).1 h7⟩
 ·rintro ⟨q,h4,h5⟩
  exact ⟨q,pB.2 h4,(ly _ _ _).2 ⟨0,decide_eq_true rfl,(rn fun x=>k9).2 h5⟩⟩
theorem D5 (hok:∀ t∈ts,okT t=true) (h64:be ts≤64):AutoOK ((dl leaf ts).2.1.length+1) (cN leaf ts) (cj leaf ts):=by
 obtain ⟨h1,h2,_⟩:=i5 (leaf:=leaf) hok
 rw [h1]
 refine ⟨by omega,by omega,fun q hq=>?_,fun i x y hx hy=>?_,fun x hx=>?_,fun i x y hx hy=>?_⟩
 ·rcases pB.1 hq with h | h
  ·have:=h2.lst q h;omega
  ·omega
 ·unfold cN at hx hy
  refine wh ?_ hx hy
  split
  ·refine List.nodup_append.2 ⟨h2.nl,by simp,fun a ha b hb e=>?_⟩
   have:=h2.lst a ha
   rw [List.mem_singleton] at hb
   omega
  ·rw [List.append_nil];exact h2.nl
 ·rcases List.mem_append.1 (k9.1 hx) with h | h
  ·have:=h2.arc x h;omega
  ·obtain ⟨j1,j2,_⟩:=dw.1 h
   have:=h2.fst _ j2
   rw [List.mem_singleton] at j1
   omega
 ·unfold cj at hx hy
  exact mv (pL orderA_ord _) hx hy
end
end
section
section
variable (leaf:Nat→List UInt8→SyD)
theorem ve {S:List SyD} {a b:List Nat} (ha:a.length≤64) (hb:b.length≤64):(aH S a b).length≤4096:=by
 rw [eP];exact Nat.mul_le_mul ha hb
mutual
theorem D1:∀ (t:Tree) (st:GSt),(bC leaf t st).2.1.length≤64→(bC leaf t st).2.2.length+4096≤st.2.length+(flat t).length * 8192
 | .node k n ts,st,h64=>by
  have h:=tj k ts ⟨decide (k=1) || decide (k=4),[],[]⟩ st st.1.length PtB.nil
  have hB:=gE leaf k ts ⟨decide (k=1) || decide (k=4),[],[]⟩ st st.1.length PtB.nil
  rw [flat,List.length_cons]
  rw [bC] at h64 ⊢
  by_cases h23:k=2∨k=3
  ·rw [if_pos h23]
   show st.2.length+4096≤_
   omega
  ·rw [if_neg h23] at h64 ⊢
   generalize bQ leaf k ts ⟨decide (k=1) || decide (k=4),[],[]⟩ st=x at *
   obtain ⟨p,s,a⟩:=x
   dsimp only at h hB h64 ⊢
   by_cases h67:k=6∨k=7
   ·rw [if_pos h67] at h64 ⊢
    dsimp only at h64 ⊢
    have h:=h h64
    have b1:=hB.1.nf;have b2:=hB.1.nl
    have:=ve (S:=s) (a:=p.last) (b:=p.first) (by omega) (by omega)
    rw [List.length_append]
    omega
   ·rw [if_neg h67] at h64 ⊢
    have h:=h h64
    dsimp only
    omega
theorem tj (k:Nat):∀ (ts:List Tree) (out:PtD) (st:GSt) (lo:Nat),PtB lo st.1.length out→(bQ leaf k ts out st).2.1.length≤64→(bQ leaf k ts out st).2.2.length≤st.2.length+(ay ts).length * 8192
 | [],out,st,lo,h,h64=>by rw [bQ,ay];exact Nat.le_add_right _ _
 | t::ts,out,st,lo,h,h64=>by
  obtain ⟨h1,h2⟩:=ti leaf t st
  have hT:=D1 t st
  have h0:=h1.le
  rw [ay,List.length_append]
  rw [bQ] at h64 ⊢
  by_cases h4:k=4
  ·rw [if_pos h4] at h64 ⊢
   obtain ⟨_,h5,_⟩:=gE leaf k ts (ir out (bC leaf t st).1) ((bC leaf t st).2.1,(bC leaf t st).2.2++aH (bC leaf t st).2.1 out.last (bC leaf t st).1.first) lo (h.seq h1)
   have h3:=tj k ts (ir out (bC leaf t st).1) ((bC leaf t st).2.1,(bC leaf t st).2.2++aH (bC leaf t st).2.1 out.last (bC leaf t st).1.first) lo (h.seq h1) h64
   dsimp only at h5 h3
   have hT:=hT (by omega)
   have b1:=h.nl;have b2:=h1.nf
   have:=ve (S:=(bC leaf t st).2.1) (a:=out.last) (b:=(bC leaf t st).1.first) (by omega) (by omega)
   rw [List.length_append] at h3
   omega
  ·rw [if_neg h4] at h64 ⊢
   obtain ⟨_,h5,_⟩:=gE leaf k ts (gP out (bC leaf t st).1) (bC leaf t st).2 lo (h.alt h1)
   have h3:=tj k ts (gP out (bC leaf t st).1) (bC leaf t st).2 lo (h.alt h1) h64
   have hT:=hT (by omega)
   omega
end
end
end
section
def pj (m:NodeD):Bool:=decide (m.kind=2∨m.kind=3)
theorem fp:∀ (i:Nat) (l:List NodeD),(cy i l).length=(l.filter pj).length
 | _,[]=>rfl
 | i,m::r=>by
  have ih:=fp (i+1) r
  unfold cy
  rw [List.filter_cons]
  by_cases h:m.kind=2∨m.kind=3
  ·rw [if_pos h,if_pos (show pj m=true from decide_eq_true h),List.length_cons,List.length_cons,ih]
  ·rw [if_neg h,if_neg (show ¬ pj m=true by unfold pj;rw [decide_eq_true_eq];exact h),ih]
theorem AT (a b:List NodeD):dC (a++b)=dC a+dC b:=by
 unfold dC
 rw [fp,fp,fp,List.filter_append,List.length_append]
theorem yN (m:NodeD) (r:List NodeD):dC (m::r)=(if m.kind=2∨m.kind=3 then 1 else 0)+dC r:=by
 unfold dC
 rw [fp,fp,List.filter_cons]
 by_cases h:m.kind=2∨m.kind=3
 ·rw [if_pos h,if_pos (show pj m=true from decide_eq_true h),List.length_cons,Nat.add_comm]
 ·rw [if_neg h,if_neg (show ¬ pj m=true by unfold pj;rw [decide_eq_true_eq];exact h),Nat.zero_add]
mutual
theorem pd:∀ t:Tree,okT t=true→es t=dC (flat t)
 | .node k n ts,h=>by
  rw [okT,Bool.and_eq_true] at h
  rw [es,flat,yN]
  by_cases h2:k=2∨k=3
  ·rw [if_pos h2,if_pos h2]
   have h0:ts=[]:=by
    rcases eK h.1 with ⟨e,_,c⟩ | ⟨e,c,_⟩ | ⟨e,c,_⟩ | ⟨e,_,c⟩ | ⟨e,_,c⟩
    ·exact List.length_eq_zero_iff.1 c
    ·exact List.length_eq_zero_iff.1 c
    ·exact List.length_eq_zero_iff.1 c
    ·have e:k=4∨k=5:=e;omega
    ·have e:k=6∨k=7∨k=8:=e;omega
   subst h0
   rw [ay];rfl
  ·rw [if_neg h2,if_neg h2,Nat.zero_add]
   exact n9 ts h.2
theorem n9:∀ ts:List Tree,jq ts=true→be ts=dC (ay ts)
 | [],_=>by rw [be,ay];rfl
 | t::ts,h=>by
  rw [jq,Bool.and_eq_true] at h
  rw [be,ay,AT,pd t h.1,n9 ts h.2]
end
theorem Bo (t:Tree):okT t=true→∀ m∈flat t,fq m=true:=by
 refine Tree.ind (p:=fun t=>okT t=true→∀ m∈flat t,fq m=true) (fun t ih=>?_) t
 intro h m hm
 rw [l9,Bool.and_eq_true] at h
 rw [du] at hm
 rcases List.mem_cons.1 hm with rfl | hm
 ·exact h.1
 ·have:∀ ts:List Tree,(∀ u∈ts,∀ m∈flat u,fq m=true)→∀ m∈ay ts,fq m=true:=by
   intro ts
   induction ts with
   | nil=>intro _ m hm;rw [ay] at hm;cases hm
   | cons u us ihu=>
    intro hu m hm
    rw [ay,List.mem_append] at hm
    rcases hm with hm | hm
    ·exact hu u (by simp) m hm
    ·exact ihu (fun x hx=>hu x (by simp [hx])) m hm
  exact this t.kids (fun u hu=>ih u hu (gu h.2 hu)) m hm
theorem zw {n:List UInt8} (h:kA n=true):cT n eI=true:=by
 unfold kA at h
 obtain ⟨_,t,h1,h2,_⟩:=fy (of_decide_eq_true h)
 rw [l9,Bool.and_eq_true] at h2
 rw [du] at h1
 injection h1 with h1 _
 rw [h1] at h2
 have:=h2.1
 unfold fq at this
 simpa using this
structure GramOK (g:List RuleD):Prop where
 len:0 < g.length∧g.length≤64
 head:∀ r∈g,cT r.head eI=true
 body:∀ r∈g,bq r.body=0
 nts:(aS g).length≤16
 lbl:(bn g 3).length≤16
 occ:mw g≤64
 miss:f9 g=0
theorem kB {g:List RuleD} (h:bG g=0):GramOK g:=by
 unfold bG eu at h
 rw [bp] at h
 split at h
 ·cases h
 rename_i a1
 rw [bp] at h
 split at h
 ·cases h
 rename_i a2
 rw [bp] at h
 split at h
 ·cases h
 rename_i a3
 rw [bp] at h
 split at h
 ·cases h
 rename_i a4
 rw [bp] at h
 split at h
 ·cases h
 rename_i a5
 rw [bp] at h
 split at h
 ·cases h
 rw [bp] at h
 split at h
 ·cases h
 rename_i a7
 rw [bp] at h
 split at h
 ·cases h
 rename_i a8
 have a8:(fk g).2=true:=by simpa using a8
 simp only [Bool.or_eq_true,decide_eq_true_eq,not_or] at a1 a3 a4 a5 a7
 unfold fk at a8
 split at a8
 ·rename_i hok
  unfold okG at hok
  rw [List.all_eq_true] at hok
  refine ⟨by omega,fun r hr=>?_,fun r hr=>of_decide_eq_true (hok r hr),by omega,by omega,by omega,by omega⟩
  have hbad:tI r=false:=by
   cases hb:tI r with
   | false=>rfl
   | true=>exact absurd (List.any_eq_true.2 ⟨r,hr,hb⟩) a2
  unfold tI at hbad
  rw [Bool.or_eq_false_iff] at hbad
  exact zw (by simpa using hbad.1)
 ·cases a8
theorem GramOK.tree {g:List RuleD} (h:GramOK g) {r:RuleD} (hr:r∈g):okT (gj r.body)=true∧flat (gj r.body)=r.body∧¬ 2048 < r.body.length:=by
 obtain ⟨h1,t,h2,h3,_⟩:=fy (h.body r hr)
 rw [← h2,bW]
 exact ⟨h3,rfl,by rw [h2];exact h1⟩
theorem rA {s:List UInt8}:∀ {l:List (List UInt8)} {j:Nat},dS l s=some j→l[j]?=some s
 | [],j,h=>by cases h
 | x::l,j,h=>by
  change (if s=x then some 0 else (dS l s).map (·+1))=some j at h
  by_cases e:s=x
  ·rw [if_pos e] at h;cases h;rw [e];rfl
  ·rw [if_neg e] at h
   cases hp:dS l s with
   | none=>rw [hp] at h;cases h
   | some k=>rw [hp] at h;cases h;show l[k]?=some s;exact rA hp
theorem lB {s:List UInt8} {l:List (List UInt8)} (h:s∈l):∃ j,dS l s=some j:=by
 induction l with
 | nil=>cases h
 | cons x l ih=>
  show ∃ j,(if s=x then some 0 else (dS l s).map (·+1))=some j
  by_cases e:s=x
  ·exact ⟨0,if_pos e⟩
  ·rw [if_neg e]
   obtain ⟨j,hj⟩:=ih ((List.mem_cons.1 h).resolve_left e)
   exact ⟨j+1,by rw [hj];rfl⟩
structure TabOK (g:List RuleD) (ns ls:List (List UInt8)):Prop where
 gr:GramOK g
 hd:ns=aS g
 nd:ns.Nodup
 ld:ls.Nodup
 nts:∀ r∈g,∀ m∈r.body,m.kind=2→m.name∈ns
 lbs:∀ r∈g,∀ m∈r.body,m.kind=3→m.name∈ls
 lbe:∀ s∈ls,∃ r∈g,∃ m∈r.body,m.kind=3∧m.name=s
 up:∀ s∈ns,cT s eI=true
 low:∀ s∈ls,cT s ic=true
 ll:ls.length≤16
theorem CK {g:List RuleD} (h:bG g=0) {ss:List (List UInt8)} (hs:kc (bn g 3) ss):TabOK g (aS g) (dc ss):=by
 have hg:=kB h
 obtain ⟨h1,h2⟩:=jR g
 have hl:∀ s,s∈dc ss↔∃ r∈g,∃ m∈r.body,m.kind=3∧m.name=s:=fun s=>by
  rw [mA,hs.2,(oY g 3).2]
 have hlen:=lR hs.1 fun k hk=>(hs.2 k).1 hk
 refine ⟨hg,rfl,h1,gV hs.1,fun r hr m hm hk=>?_,fun r hr m hm hk=>(hl _).2 ⟨r,hr,m,hm,hk,rfl⟩,fun s hsm=>(hl s).1 hsm,fun s hsm=>?_,fun s hsm=>?_,?_⟩
 ·obtain ⟨x,hx,e⟩:=Cf hg.miss hr hm hk
  rw [← e]
  exact (h2 _).2 ⟨x,hx,rfl⟩
 ·obtain ⟨r,hr,e⟩:=(h2 s).1 hsm
  rw [← e]
  exact hg.head r hr
 ·obtain ⟨r,hr,m,hm,hk,e⟩:=(hl s).1 hsm
  obtain ⟨t1,t2,_⟩:=hg.tree hr
  have:=Bo _ t1 m (by rw [t2];exact hm)
  unfold fq at this
  rw [if_neg (by omega),if_neg (by omega),if_pos hk,Bool.and_eq_true] at this
  rw [← e]
  exact this.2
 ·have:=hg.lbl
  rw [List.length_mergeSort]
  omega
def aD (head:List UInt8) (g:List RuleD):List Tree:=(bl head g).map gj
section
variable {g:List RuleD} {ns ls:List (List UInt8)}
theorem pU {head:List UInt8} {b:List NodeD} (h:b∈bl head g):∃ r∈g,r.head=head∧r.body=b:=by
 unfold bl at h
 obtain ⟨r,hr,e⟩:=List.mem_map.1 h
 rw [List.mem_filter] at hr
 exact ⟨r,hr.1,of_decide_eq_true hr.2,e⟩
theorem cJ (h:TabOK g ns ls) {head:List UInt8} {t:Tree} (ht:t∈aD head g):∃ r∈g,r.head=head∧flat t=r.body∧okT t=true:=by
 unfold aD at ht
 obtain ⟨b,hb,rfl⟩:=List.mem_map.1 ht
 obtain ⟨r,hr,h1,rfl⟩:=pU hb
 obtain ⟨t1,t2,_⟩:=h.gr.tree hr
 exact ⟨r,hr,h1,t2,t1⟩
theorem kY (h:TabOK g ns ls) (head:List UInt8):(aD head g).map flat=bl head g:=by
 unfold aD
 rw [List.map_map]
 conv=>rhs;rw [← List.map_id (bl head g)]
 refine List.map_congr_left fun b hb=>?_
 obtain ⟨r,hr,_,rfl⟩:=pU hb
 exact (h.gr.tree hr).2.1
theorem oc {α:Type} (f:α→Nat) (p:α→Bool):∀ l:List α,((l.filter p).map f).sum≤(l.map f).sum
 | []=>Nat.le_refl _
 | x::l=>by
  have:=oc f p l
  rw [List.filter_cons]
  split
  ·rw [List.map_cons,List.map_cons,List.sum_cons,List.sum_cons];omega
  ·rw [List.map_cons,List.sum_cons];omega
theorem uJ (g:List RuleD):mw g=(g.map fun r=>dC r.body).sum:=by
 have:∀ (l:List RuleD) (n:Nat),l.foldl (fun n r=>n+dC r.body) n=n+(l.map fun r=>dC r.body).sum:=by
  intro l
  induction l with
  | nil=>intro n;rfl
  | cons r l ih=>intro n;rw [List.foldl_cons,ih,List.map_cons,List.sum_cons,Nat.add_assoc]
 unfold mw
 rw [this,Nat.zero_add]
theorem ik (h:TabOK g ns ls) (head:List UInt8):gM (aD head g)≤64:=by
 have h1:gM (aD head g)=((bl head g).map dC).sum:=by
  unfold gM
  rw [← kY h head,List.map_map]
  rfl
 have h2:=oc (fun r=>dC (RuleD.body r)) (fun r=>decide (r.head=head)) g
 have h3:=uJ g
 have h4:=h.gr.occ
 rw [h1]
 unfold bl
 rw [List.map_map]
 exact Nat.le_trans h2 (by omega)
theorem eW (h:TabOK g ns ls) (head:List UInt8):be (aD head g)=gM (aD head g):=by
 have:∀ ts:List Tree,(∀ t∈ts,okT t=true)→be ts=gM ts:=by
  intro ts
  induction ts with
  | nil=>intro _;rw [be];rfl
  | cons t ts ih=>
   intro ht
   rw [be,ih fun u hu=>ht u (by simp [hu]),pd t (ht t (by simp))]
   unfold gM
   rw [List.map_cons,List.sum_cons]
 exact this _ fun t ht=>let ⟨_,_,_,_,e⟩:=cJ h ht;e
theorem gY {b:Bool} {s:List UInt8} (h:s∈(if b=true then ls else ns)):∃ j,dS (if b=true then ls else ns) s=some j∧ci ns ls b s=(j,0):=by
 obtain ⟨j,hj⟩:=lB h
 exact ⟨j,hj,by unfold ci;rw [hj]⟩
theorem yl (h:TabOK g ns ls) {r:RuleD} (hr:r∈g) {m:NodeD} (hm:m∈r.body):(jv ns ls m).2≠4:=by
 unfold jv
 by_cases h3:m.kind=3
 ·obtain ⟨j,h1,h2⟩:=gY (b:=true) (ns:=ns) (ls:=ls) (s:=m.name) (h.lbs r hr m hm h3)
  rw [if_pos h3,h2,if_pos rfl];exact Nat.noConfusion
 ·rw [if_neg h3]
  by_cases h2:m.kind=2
  ·obtain ⟨j,h1,h2'⟩:=gY (b:=false) (ns:=ns) (ls:=ls) (s:=m.name) (h.nts r hr m hm h2)
   rw [if_pos h2,h2',if_pos rfl];exact Nat.noConfusion
  ·rw [if_neg h2];decide
theorem kZ (h:TabOK g ns ls) (head:List UInt8):¬ 1024 < (dl (aB ns ls) (aD head g)).2.1.length∧¬ 2147483648 < (dl (aB ns ls) (aD head g)).2.2.length:=by
 have hl:=(i5 (leaf:=aB ns ls) (ts:=aD head g) fun t ht=>let ⟨_,_,_,_,e⟩:=cJ h ht;e).1
 rw [eW h] at hl
 have h64:=ik h head
 refine ⟨by omega,?_⟩
 have hA:=tj (aB ns ls) 5 (aD head g) ⟨false,[],[]⟩ ([],[]) 0 PtB.nil (by unfold dl at hl;omega)
 have hfl:(ay (aD head g)).length≤64 * 2048:=by
  have:∀ (l:List RuleD),(∀ r∈l,r∈g)→(ay ((l.map RuleD.body).map gj)).length≤l.length * 2048:=by
   intro l
   induction l with
   | nil=>intro _;rw [List.map_nil,List.map_nil,ay];exact Nat.le_refl _
   | cons r l ih=>
    intro hr
    have h1:=ih fun x hx=>hr x (by simp [hx])
    obtain ⟨_,t2,t3⟩:=h.gr.tree (hr r (by simp))
    rw [List.map_cons,List.map_cons,ay,List.length_append,t2,List.length_cons]
    omega
  have h1:=this (g.filter fun r=>decide (r.head=head)) fun r hr=>(List.mem_filter.1 hr).1
  have h2:=List.length_filter_le (fun r=>decide (RuleD.head r=head)) g
  have h3:=h.gr.len
  unfold aD bl
  exact Nat.le_trans h1 (Nat.mul_le_mul_right _ (by omega))
 unfold dl
 rw [show (([],[]):GSt).2.length=0 from rfl,Nat.zero_add] at hA
 generalize (ay (aD head g)).length=x at *
 generalize (bQ (aB ns ls) 5 (aD head g) ⟨false,[],[]⟩ ([],[])).2.2.length=y at *
 clear hl h64
 omega
end
end
section
structure PaD where
 n:Nat
 fins:List Nat
 arcs:List ArD
 first:Nat
abbrev gL (p:PaD) (vf va:Value):List Value:=[i64 (p.n:Nat),vf,va,i64 (p.first:Nat)]
def PartsR (z:HP) (cells:List Value) (ps:List PaD):Prop:=cells.length=ps.length * 4∧∀ (i:Nat) (p:PaD),ps[i]?=some p→∃ vf va,bU z vf p.fins∧qI z va p.arcs∧∀ j u,(gL p vf va)[j]?=some u→cells[i * 4+j]?=some u
theorem PartsR.nil (z:HP):PartsR z [] []:=⟨rfl,fun i b h=>by simp at h⟩
theorem PartsR.sup {z z':HP} (hs:Sup z z') {cells:List Value} {ps:List PaD} (h:PartsR z cells ps):PartsR z' cells ps:=⟨h.1,fun i p hp=>let ⟨vf,va,h1,h2,h3⟩:=h.2 i p hp;⟨vf,va,h1.sup hs,h2.sup hs,h3⟩⟩
theorem PartsR.snoc {z:HP} {cells:List Value} {ps:List PaD} {p:PaD} {vf va:Value} (h:PartsR z cells ps) (h1:bU z vf p.fins) (h2:qI z va p.arcs):PartsR z (cells++gL p vf va) (ps++[p]):=by
 refine ⟨by rw [List.length_append,List.length_append,h.1,Nat.add_mul];rfl,fun i c hc=>?_⟩
 by_cases hi:i < ps.length
 ·rw [List.getElem?_append_left hi] at hc
  obtain ⟨uf,ua,k1,k2,k3⟩:=h.2 i c hc
  refine ⟨uf,ua,k1,k2,fun j u hu=>?_⟩
  have hj:j < 4:=(List.getElem?_eq_some_iff.1 hu).1
  rw [List.getElem?_append_left (by rw [h.1];omega)]
  exact k3 j u hu
 ·rw [List.getElem?_append_right (by omega)] at hc
  have:i - ps.length=0:=by
   have:=(List.getElem?_eq_some_iff.1 hc).1
   simp at this
   omega
  rw [this] at hc
  cases hc
  refine ⟨vf,va,h1,h2,fun j u hu=>?_⟩
  rw [List.getElem?_append_right (by rw [h.1];omega),h.1,show i * 4+j - ps.length * 4=j by omega]
  exact hu
abbrev bV (bm bt:Nat) (vp:Value) (st:Nat):HP:=pt bm (row [ah bt,vp,i64 (st:Nat)] 66)
attribute [local irreducible] bO cz G GO GR GT GW Fn FnX FnV FnXV Dfr pt init exs pur sat own ImpS az aP cO
theorem ec (bm bt:Nat) (vp:Value) (st:Nat):Fn Tryz.prog 34 #[ah bm] [bV bm bt vp st] (fun r Q=>r=.bool true∧Q=[bV bm bt vp st]):=by
 refine Fn.mk2 Tryz.func34 rfl rfl fun w0 F=>?_
 apply Ru
 exact kr1 rfl ⟨rfl,rfl⟩
theorem jA (bm bt mb:Nat) (vp vn vl:Value) (st:Nat) (ns:List (List UInt8)) (q:HP) (hq:dH q vn ns) (hl:¬ 1048576 < ns.length):Fn Tryz.prog 8 #[ah bm] [bV bm bt vp st,cG bt mb vn vl,q] (fun r Q=>Q=[own 9 1 ns.length r (aI ns),bV bm bt vp st,cG bt mb vn vl,q]):=by
 have hn:=js bt mb vn vl ns q hq hl
 refine Fn.mk2 Tryz.func8 rfl rfl fun w0 F=>?_
 apply Ru
 refine scl (ec bm bt vp st) ?_
 rintro _ _ ⟨rfl,rfl⟩
 (apply Ru;refine G.condF rfl rfl ?_;apply Ru)
 refine scl (hn) ?_
 rintro r _ rfl
 apply Ru
 exact kr1 rfl rfl
theorem lz (bm bt mb:Nat) (vp vn vl:Value) (st:Nat) (ls:List (List UInt8)) (q:HP) (hq:dH q vl ls) (hl:¬ 1048576 < ls.length):Fn Tryz.prog 11 #[ah bm] [bV bm bt vp st,cG bt mb vn vl,q] (fun r Q=>Q=[own 9 1 ls.length r (aI ls),bV bm bt vp st,cG bt mb vn vl,q]):=by
 have hn:=sH bt mb vn vl ls q hq hl
 refine Fn.mk2 Tryz.func11 rfl rfl fun w0 F=>?_
 apply Ru
 refine scl (ec bm bt vp st) ?_
 rintro _ _ ⟨rfl,rfl⟩
 (apply Ru;refine G.condF rfl rfl ?_;apply Ru)
 refine scl (hn) ?_
 rintro r _ rfl
 apply Ru
 exact kr1 rfl rfl
theorem sP (bm bt:Nat) (vp:Value) (st:Nat):Fn Tryz.prog 28 #[ah bm] [bV bm bt vp st] (fun r Q=>r=i64 (st:Nat)∧Q=[bV bm bt vp st]):=by
 refine Fn.mk2 Tryz.func28 rfl rfl fun w0 F=>?_
 apply Ru
 refine scl (ec bm bt vp st) ?_
 rintro _ _ ⟨rfl,rfl⟩
 (apply Ru;refine G.condF rfl rfl ?_;apply Ru)
 exact kr1 rfl ⟨rfl,rfl⟩
end
section
section
variable (leaf:Nat→List UInt8→SyD) (g:List RuleD)
def dD (s:List UInt8):Nat:=(dl leaf (aD s g)).2.1.length+1
def jZ (s:List UInt8) (k:Nat):PaD:=⟨dD leaf g s,cN leaf (aD s g),cj leaf (aD s g),k⟩
def cS:Nat→List (List UInt8)→List PaD
 | _,[]=>[]
 | k,s::r=>jZ leaf g s k::cS (k+dD leaf g s) r
def aU (l:List (List UInt8)):Nat:=(l.map (dD leaf g)).sum
theorem mY (s:List UInt8):∀ (l:List (List UInt8)) (k:Nat),cS leaf g k (l++[s])=cS leaf g k l++[jZ leaf g s (k+aU leaf g l)]
 | [],k=>rfl
 | x::l,k=>by
  show jZ leaf g x k::cS leaf g (k+dD leaf g x) (l++[s])=jZ leaf g x k::(cS leaf g (k+dD leaf g x) l++_)
  rw [mY s l]
  unfold aU
  rw [List.map_cons,List.sum_cons,Nat.add_assoc]
theorem oO:∀ (l:List (List UInt8)) (k:Nat),(cS leaf g k l).length=l.length
 | [],_=>rfl
 | x::l,k=>by show (cS leaf g _ l).length+1=_;rw [oO l];rfl
theorem oP:∀ (l:List (List UInt8)) (k i:Nat) (s:List UInt8),l[i]?=some s→∃ f,(cS leaf g k l)[i]?=some (jZ leaf g s f)
 | x::l,k,0,s,h=>by cases h;exact ⟨k,rfl⟩
 | x::l,k,i+1,s,h=>oP l (k+dD leaf g x) i s h
theorem sJ {l:List (List UInt8)} {i:Nat} {s:List UInt8} (h:l[i]?=some s):aU leaf g (l.take (i+1))=aU leaf g (l.take i)+dD leaf g s:=by
 unfold aU
 rw [aG h,List.map_append,List.sum_append]
 simp
end
theorem u0 {g:List RuleD} {ns ls:List (List UInt8)} (h:TabOK g ns ls) (s:List UInt8):dD (aB ns ls) g s≤65:=by
 have:=(i5 (leaf:=aB ns ls) (ts:=aD s g) fun t ht=>let ⟨_,_,_,_,e⟩:=cJ h ht;e).1
 have h2:=eW h s
 have h3:=ik h s
 unfold dD
 omega
theorem oq {g:List RuleD} {ns ls:List (List UInt8)} (h:TabOK g ns ls):∀ l:List (List UInt8),aU (aB ns ls) g l≤l.length * 65
 | []=>Nat.le_refl _
 | s::l=>by
  have h1:=oq h l
  have h2:=u0 h s
  unfold aU at h1 ⊢
  rw [List.map_cons,List.sum_cons,List.length_cons]
  omega
theorem qN (s:List UInt8) (g:List RuleD):(aD s g).length=(bl s g).length:=by unfold aD;rw [List.length_map]
theorem yf {g:List RuleD} {ns ls:List (List UInt8)} (h:TabOK g ns ls) (s:List UInt8):∀ t∈aD s g,okT t=true∧bq (flat t)=0∧¬ 2048 < (flat t).length∧∀ m∈flat t,(jv ns ls m).2≠4:=fun t ht=>by
 obtain ⟨r,hr,_,e,k⟩:=cJ h ht
 rw [e]
 exact ⟨k,h.gr.body r hr,(h.gr.tree hr).2.2,fun m hm=>yl h hr hm⟩
structure MachR (z:HP) (g:List RuleD) (ns ls:List (List UInt8)) (vn vl vp:Value) (cells:List Value):Prop where
 tab:TabOK g ns ls
 lab:∃ ss,kc (bn g 3) ss∧ls=dc ss
 vn:dH z vn ns
 vl:dH z vl ls
 vp:Sl z vp ns.length 4 cells
 parts:PartsR z cells (cS (aB ns ls) g 0 ns)
theorem xf (b:Nat):Tryz.prog.built 66 [(0,ah b)]=some [ah b,.slice none 0 0,i64 0].toArray:=by kernel_rfl
attribute [local irreducible] bO cz G GO GR GT GW Fn FnX FnV FnXV Dfr pt init exs pur sat own ImpS az aP cO aS bn bG dl cN cj aD bl cS aU dD lL fZ
theorem jz (q:HP) (v:Value) (g:List RuleD) (hq:RulesR q v g) (hf:FitG g) (hc:bG g=0) :
  Fn Tryz.prog 6 #[v] [q] (fun r Q=>∃ bm bt mb vn vl vp ls cells z,MachR z g (aS g) ls vn vl vp cells∧r=.tuple #[ah bm,i64 0]∧Q=[bV bm bt vp (aU (aB (aS g) ls) g (aS g)),cG bt mb vn vl,eT mb (aS g) ls,z,q]):=by
 have hS:=tR q v g hq hf hc
 have hB:=fun s=>k5 q v g s hq hf.len hf.body
 have htb:=fun ss hs=>CK hc (ss:=ss) hs
 have hn16:=(kB hc).nts
 have hlen:=(kB hc).len
 obtain ⟨ag,cg,rfl⟩:=bN hq
 generalize hns:aS g=ns at *
 refine Fn.mk2 Tryz.func6 rfl rfl fun w0 F=>?_
 refine G.ownNil (T:=76) (sz:=4) ?_
 apply Ru
 refine scl (hS) ?_
 rintro _ _ ⟨bt,mb,vn,vl,ss,z,hss,hvn,hvl,rfl,rfl⟩
 have htab:=htb ss hss
 clear htb
 have hls:∃ ss',kc (bn g 3) ss'∧dc ss=dc ss':=⟨ss,hss,rfl⟩
 generalize dc ss=ls at *
 clear hss
 have hnm:=js bt mb vn vl ns z hvn (by omega)
 apply Ru
 refine GO.buildPart1 (xf bt) rfl rfl ?_
 (refine sbx fun b21=>?_;apply Ru)
 refine scl (hnm) ?_
 rintro vm _ rfl
 refine GO.ownRdK Tk.h fun zm hzm=>?_
 have hrn:∀ i x,ns[i]?=some x→_:=fun i x h=>eX hzm h
 obtain ⟨am,cm,rfl⟩:=bX hzm
 apply Ru
 refine G.loopI (σ:=Nat × Value × List Value × HP) (fun x=>[(0,.slice ag g.length cg),(4,ah bt),(6,ah b21),(23,.slice am ns.length cm),(24,i64 (ns.length:Nat)),(25,i64 (x.1:Nat))]) (fun x=>bV b21 bt x.2.1 (aU (aB ns ls) g (ns.take x.1))::own 76 4 x.1 x.2.1 x.2.2.1::x.2.2.2::cG bt mb vn vl::eT mb ns ls::z::zm::q::F)
  (fun x=>x.1≤ns.length∧PartsR x.2.2.2 x.2.2.1 (cS (aB ns ls) g 0 (ns.take x.1))) (fun x=>ns.length - x.1) (0,.slice none 0 0,[],Go.Proofs.YtkeialpeabhaaaaGreat.pur True) ⟨Nat.zero_le _,by rw [List.take_zero,show cS (aB ns ls) g 0 []=[] by unfold cS;rfl];exact PartsR.nil _⟩ ?_ ?_ ?_
 ·exact SE rfl
 ·rw [List.take_zero,show aU (aB ns ls) g []=0 by unfold aU;rfl]
  refine ImpS.trans ImpS.tt (ImpS.sb ?_)
  exact SB
 rintro ⟨i,vp,cells,zc⟩ ⟨hi,hP⟩
 dsimp only at hi hP ⊢
 have hsl:=oq htab (ns.take i)
 rw [List.length_take] at hsl
 apply Ru
 by_cases hlt:i < ns.length
 ·have d1:decide ((i:Int) < (ns.length:Int))=true:=decide_eq_true (by omega)
  obtain ⟨s,hs⟩:∃ s,ns[i]?=some s:=⟨_,List.getElem?_eq_getElem hlt⟩
  obtain ⟨b,o,cap,e,_,rs⟩:=hrn i s hs
  injection e with e _ e2
  subst e e2
  have hsz:=u0 htab s
  have hss:=sJ (aB ns ls) g hs
  have hps:=mY (aB ns ls) g s (ns.take i) 0
  rw [← aG hs,Nat.zero_add] at hps
  (refine scT ?_;refine six ?_;refine sld (by assumption) ?_;apply Ru)
  refine scl (hB s) ?_
  rintro vv _ ⟨vals,zb,hzb,rfl⟩
  refine GO.ownRd Tk.h fun zz hzz=>?_
  have hof:=of_spec bt mb vn vl vv ns ls (aD s g) vals z zz zb hvn (by rw [qN];exact hzz) (by rw [kY htab s];exact hzb) (by omega) (by omega) (by have:=nz s g;rw [qN];omega) (yf htab s) (by have:=ik htab s;omega) (kZ htab s).1 (kZ htab s).2
  rw [show (dl (aB ns ls) (aD s g)).2.1.length+1=dD (aB ns ls) g s by unfold dD;rfl] at hof
  obtain ⟨av,cv,rfl,_,_⟩:=hzz
  refine scl (hof) ?_
  rintro _ _ ⟨vf,va,rfl,rfl⟩
  refine GO.ownRd (v:=vf) Tk.h fun qa hqa=>?_
  refine GO.ownRdK (v:=va) (Tk.t Tk.h) fun qb hqb=>?_
  have hqa':bU qa vf (cN (aB ns ls) (aD s g)):=hqa
  have hqb':qI qb va (cj (aB ns ls) (aD s g)):=hqb
  refine GO.merge (x:=qa) (y:=qb) (Tks.c (Tk.t Tk.h) (Tks.c Tk.h Tks.n)) ?_
  have hqa':=hqa'.sup (Sup.left qa qb)
  have hqb':=hqb'.sup (Sup.right qa qb)
  generalize aL [qa,qb]=q3 at *
  refine GO.merge (x:=zc) (y:=q3) (Tks.c (Tk.t (Tk.t (Tk.t (Tk.t (Tk.t (Tk.t (Tk.t (Tk.t (Tk.t Tk.h))))))))) (Tks.c Tk.h Tks.n)) ?_
  have hP:=hP.sup (Sup.left zc q3)
  have hqa':=hqa'.sup (Sup.right zc q3)
  have hqb':=hqb'.sup (Sup.right zc q3)
  generalize aL [zc,q3]=z3 at *
  clear hqa hqb
  have o1:=cE hqa';have o2:=hqb'.one
  (apply Ru;refine sal fun b9=>?_)
  refine GO.storeW (vs:=[i64 (dD (aB ns ls) g s:Nat),vf,va]) rfl rfl Tk.h ⟨rfl,rfl⟩ (by simp [Value.oneCell'];exact ⟨o1,o2⟩) ?_
  apply Ru
  refine drT 15 6144 [bV b21 bt vp (aU (aB ns ls) g (ns.take i)),Dn b9 (dD (aB ns ls) g s) vf va] ?_
  (apply Ru;(apply GR.step rfl;focus (intro Z;refine GO.loadW rfl rfl rfl (Tk.t Tk.h) rfl ?_;exact KQ.z));apply Ru)
  rw [show [i64 (dD (aB ns ls) g s:Nat),vf,va,i64 (aU (aB ns ls) g (ns.take i):Nat)]=gL (jZ (aB ns ls) g s (aU (aB ns ls) g (ns.take i))) vf va from rfl]
  (repeat refine GT.skip rfl ?_)
  refine GT.step rfl ?_
  refine GO.buildSlice1 (n:=4) (v1:=.agg (gL (jZ (aB ns ls) g s (aU (aB ns ls) g (ns.take i))) vf va).toArray) rfl rfl (fun v hv=>by rw [List.mem_singleton.1 hv];rfl) rfl ⟨by decide,by decide⟩ fun bs3=>?_
  refine gtn ?_
  refine GT.step rfl ?_
  refine GO.appendOwn (m:=1) (news:=gL (jZ (aB ns ls) g s (aU (aB ns ls) g (ns.take i))) vf va) rfl rfl rfl (Tk.t (Tk.t (Tk.t (Tk.t (Tk.t (Tk.t (Tk.t (Tk.t (Tk.t (Tk.t Tk.h)))))))))) (Tk.t (Tk.t Tk.h)) rfl (by simp [Value.oneCell'];exact ⟨o1,o2⟩) ⟨by decide,rfl⟩ Nat.one_pos (by unfold maxLen;omega) (by omega) fun v4=>?_
  refine GO.ownOne (v:=v4) Tk.h fun o4=>?_
  refine gtn ?_
  (refine GO.store1 rfl rfl (by assumption) Tk.h (by simp) ?_;apply Ru)
  refine dr 9 ?_
  (apply Ru;(apply GQ.step;focus (intro Z;refine GO.load1 rfl rfl rfl (Tk.t Tk.h) rfl ?_;exact KQ.z));(apply GQ.step;focus (intro Z;refine GO.addi rfl rfl rfl (by omega) ?_;exact KQ.z));apply Ru)
  (refine GO.store1 rfl rfl rfl Tk.h (by simp) ?_;apply Ru;refine sad ?_)
  rw [show ((aU (aB ns ls) g (ns.take i):Nat):Int)+(dD (aB ns ls) g s:Nat)=((aU (aB ns ls) g (ns.take (i+1)):Nat):Int) by rw [hss];exact (Int.natCast_add _ _).symm]
  refine ⟨(i+1,v4,cells++gL (jZ (aB ns ls) g s (aU (aB ns ls) g (ns.take i))) vf va,z3),⟨hlt,?_⟩,by dsimp only;omega,?_,?_⟩
  ·dsimp only
   rw [hps]
   refine hP.snoc ?_ ?_
   ·rw [show (jZ (aB ns ls) g s (aU (aB ns ls) g (ns.take i))).fins=cN (aB ns ls) (aD s g) from rfl];exact hqa'
   ·rw [show (jZ (aB ns ls) g s (aU (aB ns ls) g (ns.take i))).arcs=cj (aB ns ls) (aD s g) from rfl];exact hqb'
  ·exact SE rfl
  ·exact ImpS.sb (by ((refine Sb.c Tk.h ?_;exact SB);skip))
 ·have d1:decide ((i:Int) < (ns.length:Int))=false:=decide_eq_false (by omega)
  have hin:i=ns.length:=by omega
  subst hin
  rw [List.take_length] at hP ⊢
  refine G.ownRd (v:=vp) (Tk.t Tk.h) fun zp hzp=>?_
  refine G.merge (x:=zp) (y:=zc) (Tks.c Tk.h (Tks.c (Tk.t Tk.h) Tks.n)) ?_
  have hzp:=hzp.sup (Sup.left zp zc)
  have hP:=hP.sup (Sup.right zp zc)
  generalize aL [zp,zc]=z3 at *
  refine G.merge (x:=z3) (y:=z) (Tks.c Tk.h (Tks.c (Tk.t (Tk.t (Tk.t Tk.h))) Tks.n)) ?_
  have hzp:=hzp.sup (Sup.left z3 z)
  have hP:=hP.sup (Sup.left z3 z)
  have hvn:=hvn.sup (Sup.right z3 z)
  have hvl:=hvl.sup (Sup.right z3 z)
  generalize aL [z3,z]=z4 at *
  refine scF ?_
  exact kr2 rfl ⟨b21,bt,mb,vn,vl,vp,ls,cells,z4,⟨htab,hls,hvn,hvl,hzp,hP⟩,rfl,rfl⟩
end
section
def gn (l:List (List UInt8)) (s:List UInt8):Int:=match dS l s with
 | some j=>j
 | none=>-1
theorem sU {s:List UInt8}:∀ {l:List (List UInt8)} {i:Nat},l[i]?=some s→s ∉ l.take i→dS l s=some i
 | x::l,0,h,_=>by
  cases h
  show (if s=s then some 0 else _)=_
  rw [if_pos rfl]
 | x::l,i+1,h,k=>by
  rw [List.take_succ_cons,List.mem_cons,not_or] at k
  show (if s=x then some 0 else (dS l s).map (·+1))=_
  rw [if_neg k.1,sU (show l[i]?=some s from h) k.2]
  rfl
attribute [local irreducible] bO cz G GO GR GT GW Fn FnX FnV FnXV Dfr pt init exs pur sat own ImpS az aP cO dS
theorem jK (q:HP) (v:Value) (l:List (List UInt8)) (s:List UInt8) (hq:dH q v l) (hl:¬ 1048576 < l.length):Fn Tryz.prog 13 #[v,str s] [q] (fun r Q=>r=.int .i64 (gn l s)∧Q=[q]):=by
 have hrd:∀ i x,l[i]?=some x→_:=fun i x h=>eX hq h
 obtain ⟨a,cap,rfl⟩:=bX hq
 clear hq
 refine Fn.mk2 Tryz.func13 rfl rfl fun w0 F=>?_
 apply Ru
 refine G.loopI (σ:=Nat) (fun i=>[(0,.slice a l.length cap),(1,str s),(5,i64 (i:Nat))]) (fun _=>q::F) (fun i=>i≤l.length∧s ∉ l.take i) (fun i=>l.length - i) 0 ⟨Nat.zero_le _,by simp⟩ ?_ ?_ ?_
 ·exact SE rfl
 ·exact ImpS.sb SB
 rintro i ⟨hi,hp⟩
 apply Ru
 by_cases hlt:i < l.length
 ·have d1:decide ((i:Int) < (l.length:Int))=true:=decide_eq_true (by omega)
  obtain ⟨x,hx⟩:∃ x,l[i]?=some x:=⟨_,List.getElem?_eq_getElem hlt⟩
  obtain ⟨b,o,cap2,e,_,rx⟩:=hrd i x hx
  injection e with e _ e2
  subst e e2
  by_cases hxs:x=s
  ·have d2:decide (x=s)=true:=decide_eq_true hxs
   subst hxs
   have hres:=sU hx hp
   (refine scT ?_;refine six ?_;refine sld (by assumption) ?_;apply Ru;refine GO.binS rfl rfl rfl rfl ?_;apply Ru;refine scT ?_)
   exact kr1 rfl ⟨by unfold gn;rw [hres],rfl⟩
  ·have d2:decide (x=s)=false:=decide_eq_false hxs
   (refine scT ?_;refine six ?_;refine sld (by assumption) ?_;apply Ru;refine GO.binS rfl rfl rfl rfl ?_;apply Ru;refine scF ?_;refine sad ?_)
   refine ⟨i+1,⟨hlt,by rw [aG hx,List.mem_append,List.mem_singleton];exact fun h=>h.elim hp fun e=>hxs e.symm⟩,by omega,?_,ImpS.sb ?_⟩
   ·exact SE rfl
   ·exact SB
 ·have d1:decide ((i:Int) < (l.length:Int))=false:=decide_eq_false (by omega)
  rw [List.take_of_length_le (by omega)] at hp
  have hres:=kq hp
  refine scF ?_
  exact kr1 rfl ⟨by unfold gn;rw [hres],rfl⟩
end
section
theorem nq {α:Type} [DecidableEq α]:∀ (r:List α) (x:α),(eF x r).length≤r.length
 | [],_=>Nat.le_refl _
 | y::r,x=>by
  have:=nq r y
  simp only [eF]
  split
  ·rw [List.length_cons];omega
  ·rw [List.length_cons,List.length_cons];omega
theorem vG {α:Type} [DecidableEq α] (l:List α):(dG l).length≤l.length:=by
 cases l with
 | nil=>exact Nat.le_refl _
 | cons x r=>have:=nq r x;simp only [dG,List.length_cons];omega
theorem mL {g:List RuleD} {ns ls:List (List UInt8)} (h:TabOK g ns ls) (s:List UInt8):(cN (aB ns ls) (aD s g)).length≤65∧¬ 4294967296 < (cj (aB ns ls) (aD s g)).length:=by
 have hl:=(i5 (leaf:=aB ns ls) (ts:=aD s g) fun t ht=>let ⟨_,_,_,_,e⟩:=cJ h ht;e).1
 rw [eW h] at hl
 have h64:=ik h s
 have hA:=(kZ h s).2
 have hB:=(gE (aB ns ls) 5 (aD s g) ⟨false,[],[]⟩ ([],[]) 0 PtB.nil).1
 have h1:(dl (aB ns ls) (aD s g)).1.first.length≤64:=by have:=hB.nf;unfold dl at hl ⊢;omega
 have h2:(dl (aB ns ls) (aD s g)).1.last.length≤64:=by have:=hB.nl;unfold dl at hl ⊢;omega
 constructor
 ·unfold cN e9
  rw [List.length_mergeSort,List.length_append]
  split
  ·rw [List.length_cons,List.length_nil];omega
  ·rw [List.length_nil];omega
 ·have h3:=vG (dP bL ((dl (aB ns ls) (aD s g)).2.2++aH (dl (aB ns ls) (aD s g)).2.1 [0] (dl (aB ns ls) (aD s g)).1.first))
  rw [List.length_mergeSort,List.length_append,eP,List.length_cons,List.length_nil] at h3
  unfold cj
  omega
theorem gJ {g:List RuleD} {ns ls:List (List UInt8)} (h:TabOK g ns ls) (s:List UInt8):AutoOK (dD (aB ns ls) g s) (cN (aB ns ls) (aD s g)) (cj (aB ns ls) (aD s g)):=by
 have h1:=eW h s
 have h2:=ik h s
 exact D5 (fun t ht=>let ⟨_,_,_,_,e⟩:=cJ h ht;e) (by omega)
theorem uw {s:List UInt8} (h:(fo s).2.2=0):FitG (fo s).1∧bG (fo s).1=0:=by
 unfold fo at h ⊢
 split at h
 ·cases h
 rename_i hl
 rw [if_neg hl]
 cases hr:dL s (aj s) (cD s) ((aj s).length+1) [] 0 with
 | error p=>rw [hr] at h;cases h
 | ok g=>
  rw [hr] at h
  dsimp only at h ⊢
  split at h
  ·cases h
  rename_i h1
  rw [if_neg h1]
  split at h
  ·cases h
  rename_i h2
  rw [if_neg h2]
  split at h
  ·rename_i h3
   rw [if_pos h3]
   exact ⟨mW hl hr,h3⟩
  ·rename_i h3;exact absurd h h3
def xS:List UInt8:=[83,32,61,32,97,32,83,32,98,32,124,32,97,32,98,32,59]
def xR:Tree:=.node 5 [] [.node 4 [] [.node 3 [97] [],.node 2 [83] [],.node 3 [98] []],.node 4 [] [.node 3 [97] [],.node 3 [98] []]]
def iK:List RuleD:=[⟨[83],flat xR⟩]
theorem k7:fo xS=(iK,0,0):=by kernel_rfl
theorem BA:FitG iK∧bG iK=0:=by
 have:=uw (s:=xS) (by rw [k7])
 rw [k7] at this
 exact this
theorem vT:aS iK=[[83]]:=by kernel_rfl
theorem vS:aD [83] iK=[xR]:=by
 unfold aD
 rw [show bl [83] iK=[flat xR] by kernel_rfl,List.map_cons,List.map_nil,bW]
section
variable {α:Type} {leaf:Nat→List UInt8→α} {n:List UInt8} {t:Tree} {ts:List Tree} {w:List α}
theorem wG:Lg leaf (.node 4 n ts) w↔LgS leaf ts w:=by rw [Lg,if_neg (by decide),if_neg (by decide),if_pos rfl]
theorem CY:Lg leaf (.node 5 n ts) w↔LgA leaf ts w:=by rw [Lg,if_neg (by decide),if_neg (by decide),if_neg (by decide),if_pos rfl]
theorem nL {k:Nat} (h:k=2∨k=3):Lg leaf (.node k n ts) w↔w=[leaf k n]:=by rw [Lg,if_neg (by omega),if_pos h]
theorem gA:LgA leaf (t::ts) w↔Lg leaf t w∨LgA leaf ts w:=by rw [LgA]
theorem lO:LgA leaf [] w↔False:=by rw [LgA]
theorem co:LgS leaf (t::ts) w↔∃ u v,w=u++v∧Lg leaf t u∧LgS leaf ts v:=by rw [LgS]
theorem eH:LgS leaf [] w↔w=[]:=by rw [LgS]
end
theorem Sl.take {q:HP} {a:Option Addr} {n cap sz m:Nat} {l:List Value} (h:Sl q (.slice a n cap) n sz l) (hm:m≤n):Sl q (.slice a m cap) m sz (l.take (m * sz)):=by
 obtain ⟨a',cap',e,h1,h2⟩:=h
 injection e with e1 _ e2
 subst e1 e2
 have hle:=Nat.mul_le_mul_right sz hm
 refine ⟨a,cap,rfl,by rw [List.length_take];omega,fun hp=>?_⟩
 obtain ⟨b,o,h3,h4⟩:=h2 (by omega)
 exact ⟨b,o,h3,fun j u hu=>h4 j u (by rw [List.getElem?_take] at hu;split at hu;exact hu;cases hu)⟩
end
section
section
variable {α β:Type}
inductive Gen (R:α→List (Bool × α)→Prop):Nat→List (Bool × α)→List α→Prop
 | nil {n:Nat}:Gen R n [] []
 | lab {n:Nat} {x:α} {r:List (Bool × α)} {w:List α} (k:Gen R n r w):Gen R n ((true,x)::r) (x::w)
 | nt {n:Nat} {A:α} {b r:List (Bool × α)} {u v:List α} (h:R A b) (h1:Gen R n b u) (h2:Gen R (n+1) r v):Gen R (n+1) ((false,A)::r) (u++v)
def Has (R:α→List (Bool × α)→Prop) (A:α) (w:List α):Prop:=∃ n,Gen R n [(false,A)] w
variable {R S:α→List (Bool × α)→Prop}
theorem Gen.mono {n m:Nat} {s:List (Bool × α)} {w:List α} (h:Gen R n s w):n≤m→Gen R m s w:=by
 induction h generalizing m with
 | nil=>exact fun _=>.nil
 | lab _ ih=>exact fun hm=>.lab (ih hm)
 | nt h _ _ ih1 ih2=>
  intro hm
  obtain ⟨m,rfl⟩:∃ k,m=k+1:=⟨m - 1,by omega⟩
  exact .nt h (ih1 (by omega)) (ih2 hm)
theorem Gen.app {n:Nat} {s t:List (Bool × α)} {u v:List α} (h:Gen R n s u) (k:Gen R n t v):Gen R n (s++t) (u++v):=by
 induction h with
 | nil=>exact k
 | lab _ ih=>exact .lab (ih k)
 | nt h h1 _ _ ih2=>
  rw [List.append_assoc]
  exact .nt h h1 (ih2 k)
theorem Gen.split {n:Nat}:∀ {s t:List (Bool × α)} {w:List α},Gen R n (s++t) w→∃ u v,w=u++v∧Gen R n s u∧Gen R n t v
 | [],t,w,h=>⟨[],w,rfl,.nil,h⟩
 | x::s,t,w,h=>by
  cases h with
  | lab k=>
   obtain ⟨u,v,rfl,h1,h2⟩:=Gen.split k
   exact ⟨_::u,v,rfl,.lab h1,h2⟩
  | nt h h1 k=>
   obtain ⟨u,v,rfl,h3,h4⟩:=Gen.split k
   exact ⟨_++u,v,by rw [List.append_assoc],.nt h h1 h3,h4⟩
theorem Gen.one {n:Nat} {A:α} {w:List α} (h:Gen R n [(false,A)] w):∃ m b,n=m+1∧R A b∧Gen R m b w:=by
 cases h with
 | nt h h1 h2=>
  cases h2
  rw [List.append_nil]
  exact ⟨_,_,rfl,h,h1⟩
theorem Gen.of {n:Nat} {A:α} {b:List (Bool × α)} {w:List α} (h:R A b) (k:Gen R n b w):Gen R (n+1) [(false,A)] w:=by
 have:=Gen.nt (v:=[]) h k .nil
 rwa [List.append_nil] at this
theorem Gen.sub (hs:∀ A b,R A b→S A b) {n:Nat} {s:List (Bool × α)} {w:List α} (h:Gen R n s w):Gen S n s w:=by
 induction h with
 | nil=>exact .nil
 | lab _ ih=>exact .lab ih
 | nt h _ _ ih1 ih2=>exact .nt (hs _ _ h) ih1 ih2
theorem rW (hs:∀ A b,R A b↔S A b) (A:α) (w:List α):Has R A w↔Has S A w:=
 ⟨fun ⟨n,h⟩=>⟨n,h.sub fun A b=>(hs A b).1⟩,fun ⟨n,h⟩=>⟨n,h.sub fun A b=>(hs A b).2⟩⟩
theorem Gen.sound {I:β→List (Bool × α)} {T:β→List (Bool × β)→Prop} {f:β→α} (hS:∀ A b,T A b→(∀ n w,Gen R n (b.flatMap fun s=>if s.1=true then [(true,f s.2)] else I s.2) w→∃ m,Gen R m (I A) w))
  {n:Nat} {s:List (Bool × β)} {w:List β} (h:Gen T n s w):∃ m,Gen R m (s.flatMap fun s=>if s.1=true then [(true,f s.2)] else I s.2) (w.map f):=by
 induction h with
 | nil=>exact ⟨0,.nil⟩
 | lab _ ih=>
  obtain ⟨m,h⟩:=ih
  exact ⟨m,.lab h⟩
 | nt h _ _ ih1 ih2=>
  obtain ⟨m1,h1⟩:=ih1
  obtain ⟨m2,h2⟩:=ih2
  obtain ⟨m3,h3⟩:=hS _ _ h _ _ h1
  rw [List.map_append,List.flatMap_cons]
  exact ⟨max m3 m2,(h3.mono (Nat.le_max_left _ _)).app (h2.mono (Nat.le_max_right _ _))⟩
theorem Gen.back {I:β→List (Bool × α)} {T:β→List (Bool × β)→Prop} {f:β→α} {g:α→β} {rk:β→Nat} {Ok:β→Prop} (hgf:∀ x,f (g x)=x)
  (hT:∀ A,Ok A→(∃ A',I A=[(false,A')]∧∀ b,R A' b→∃ b',T A b'∧(∀ s∈b',s.1=false→Ok s.2)∧(∀ s∈b',s.1=true→g (f s.2)=s.2)∧b'.flatMap (fun s=>if s.1=true then [(true,f s.2)] else I s.2)=b) ∨
   ∃ b',T A b'∧(∀ s∈b',s.1=false→Ok s.2∧rk s.2 < rk A)∧(∀ s∈b',s.1=true→g (f s.2)=s.2)∧b'.flatMap (fun s=>if s.1=true then [(true,f s.2)] else I s.2)=I A) :
  ∀ (n k:Nat) (s:List (Bool × β)) (w:List α),(∀ x∈s,x.1=false→Ok x.2∧rk x.2 < k)→(∀ x∈s,x.1=true→g (f x.2)=x.2)→Gen R n (s.flatMap fun s=>if s.1=true then [(true,f s.2)] else I s.2) w→∃ m,Gen T m s (w.map g):=by
 intro n
 induction n with
 | zero=>
  intro k
  induction k with
  | zero=>
   intro s
   induction s with
   | nil=>intro w _ _ h;cases h;exact ⟨0,.nil⟩
   | cons x s ih=>
    intro w h1 h2 h
    obtain ⟨c,B⟩:=x
    cases c with
    | false=>have:=(h1 (false,B) (by simp) rfl).2;omega
    | true=>
     cases h with
     | lab k=>
      obtain ⟨m,h3⟩:=ih _ (fun x hx=>h1 x (by simp [hx])) (fun x hx=>h2 x (by simp [hx])) k
      refine ⟨m,?_⟩
      rw [List.map_cons,h2 (true,B) (by simp) rfl]
      exact .lab h3
  | succ k ihk=>
   intro s
   induction s with
   | nil=>intro w _ _ h;cases h;exact ⟨0,.nil⟩
   | cons x s ih=>
    intro w h1 h2 h
    obtain ⟨c,B⟩:=x
    cases c with
    | false=>
     rw [List.flatMap_cons] at h
     obtain ⟨u,v,rfl,h3,h4⟩:=h.split
     obtain ⟨m4,h4⟩:=ih v (fun x hx=>h1 x (by simp [hx])) (fun x hx=>h2 x (by simp [hx])) h4
     obtain ⟨hok,hrk⟩:Ok B∧rk B < k+1:=h1 (false,B) (by simp) rfl
     rcases hT B hok with ⟨A',e,_⟩ | ⟨b',hb,h5,h6,h7⟩
     ·rw [if_neg Bool.false_ne_true,e] at h3;cases h3
     ·rw [if_neg Bool.false_ne_true,← h7] at h3
      obtain ⟨m3,h3⟩:=ihk b' u (fun x hx hf=>⟨(h5 x hx hf).1,by have:=(h5 x hx hf).2;omega⟩) h6 h3
      refine ⟨max (m3+1) m4,?_⟩
      rw [List.map_append]
      exact ((Gen.of hb h3).mono (Nat.le_max_left _ _)).app (s:=[(false,B)]) (h4.mono (Nat.le_max_right _ _))
    | true=>
     cases h with
     | lab k=>
      obtain ⟨m,h3⟩:=ih _ (fun x hx=>h1 x (by simp [hx])) (fun x hx=>h2 x (by simp [hx])) k
      refine ⟨m,?_⟩
      rw [List.map_cons,h2 (true,B) (by simp) rfl]
      exact .lab h3
 | succ n ihn=>
  intro k
  induction k with
  | zero=>
   intro s
   induction s with
   | nil=>intro w _ _ h;cases h;exact ⟨0,.nil⟩
   | cons x s ih=>
    intro w h1 h2 h
    obtain ⟨c,B⟩:=x
    cases c with
    | false=>have:=(h1 (false,B) (by simp) rfl).2;omega
    | true=>
     cases h with
     | lab k=>
      obtain ⟨m,h3⟩:=ih _ (fun x hx=>h1 x (by simp [hx])) (fun x hx=>h2 x (by simp [hx])) k
      refine ⟨m,?_⟩
      rw [List.map_cons,h2 (true,B) (by simp) rfl]
      exact .lab h3
  | succ k ihk=>
   intro s
   induction s with
   | nil=>intro w _ _ h;cases h;exact ⟨0,.nil⟩
   | cons x s ih=>
    intro w h1 h2 h
    obtain ⟨c,B⟩:=x
    cases c with
    | false=>
     rw [List.flatMap_cons] at h
     obtain ⟨u,v,rfl,h3,h4⟩:=h.split
     obtain ⟨m4,h4⟩:=ih v (fun x hx=>h1 x (by simp [hx])) (fun x hx=>h2 x (by simp [hx])) h4
     obtain ⟨hok,hrk⟩:Ok B∧rk B < k+1:=h1 (false,B) (by simp) rfl
     have h3':∃ m3 b',T B b'∧Gen T m3 b' (u.map g):=by
      rcases hT B hok with ⟨A',e,hA⟩ | ⟨b',hb,h5,h6,h7⟩
      ·rw [if_neg Bool.false_ne_true,e] at h3
       obtain ⟨m,b,e2,hb,h3⟩:=h3.one
       cases e2
       obtain ⟨b',hb',h5,h6,h7⟩:=hA b hb
       rw [← h7] at h3
       obtain ⟨m3,h3⟩:=ihn (((b'.map fun s=>rk s.2).foldl max 0)+1) b' u (fun x hx hf=>⟨h5 x hx hf,Nat.lt_succ_of_le (by
        have:∀ (l:List Nat) (a y:Nat),(y∈l∨y≤a)→y≤l.foldl max a:=by
         intro l
         induction l with
         | nil=>intro a y h;exact h.elim (fun h=>by cases h) id
         | cons z l ih=>
          intro a y h
          refine ih (max a z) y ?_
          rcases h with h | h
          ·rcases List.mem_cons.1 h with rfl | h
           ·exact .inr (Nat.le_max_right _ _)
           ·exact .inl h
          ·exact .inr (Nat.le_trans h (Nat.le_max_left _ _))
        exact this _ 0 _ (.inl (List.mem_map_of_mem (f:=fun s=>rk s.2) hx)))⟩) h6 h3
       exact ⟨m3,b',hb',h3⟩
      ·rw [if_neg Bool.false_ne_true,← h7] at h3
       obtain ⟨m3,h3⟩:=ihk b' u (fun x hx hf=>⟨(h5 x hx hf).1,by have:=(h5 x hx hf).2;omega⟩) h6 h3
       exact ⟨m3,b',hb,h3⟩
     obtain ⟨m3,b',hb,h3⟩:=h3'
     refine ⟨max (m3+1) m4,?_⟩
     rw [List.map_append]
     exact ((Gen.of hb h3).mono (Nat.le_max_left _ _)).app (s:=[(false,B)]) (h4.mono (Nat.le_max_right _ _))
    | true=>
     cases h with
     | lab k=>
      obtain ⟨m,h3⟩:=ih _ (fun x hx=>h1 x (by simp [hx])) (fun x hx=>h2 x (by simp [hx])) k
      refine ⟨m,?_⟩
      rw [List.map_cons,h2 (true,B) (by simp) rfl]
      exact .lab h3
end
end
section
mutual
def bM:Tree→Tree
 | .node k n ts=>.node k n (if k=4 then (fO ts).reverse else fO ts)
def fO:List Tree→List Tree
 | []=>[]
 | t::ts=>bM t::fO ts
end
theorem kX:∀ ts:List Tree,fO ts=ts.map bM
 | []=>by rw [fO];rfl
 | t::ts=>by rw [fO,kX ts];rfl
section
variable {α:Type} {leaf:Nat→List UInt8→α}
theorem te:∀ {us vs:List Tree} {w:List α},LgS leaf (us++vs) w↔∃ u v,w=u++v∧LgS leaf us u∧LgS leaf vs v
 | [],vs,w=>⟨fun h=>⟨[],w,rfl,eH.2 rfl,h⟩,fun ⟨u,v,e,h1,h2⟩=>by rw [eH.1 h1] at e;rw [e];exact h2⟩
 | t::us,vs,w=>by
  rw [List.cons_append,co]
  constructor
  ·rintro ⟨u,v,rfl,h1,h2⟩
   obtain ⟨x,y,rfl,h3,h4⟩:=te.1 h2
   exact ⟨u++x,y,by rw [List.append_assoc],co.2 ⟨u,x,rfl,h1,h3⟩,h4⟩
  ·rintro ⟨u,v,rfl,h1,h2⟩
   obtain ⟨x,y,rfl,h3,h4⟩:=co.1 h1
   exact ⟨x,y++v,by rw [List.append_assoc],h3,te.2 ⟨y,v,rfl,h4,h2⟩⟩
theorem tf:∀ {ts:List Tree} {w:List α},LgA leaf ts w↔∃ t∈ts,Lg leaf t w
 | [],w=>⟨fun h=>(lO.1 h).elim,fun ⟨_,h,_⟩=>by cases h⟩
 | t::ts,w=>by rw [gA,tf (ts:=ts)];simp
def Rvs (P Q:List α→Prop):Prop:=∀ w,Q w↔P w.reverse
variable {P Q:List α→Prop}
theorem mD {w:List α} (h:Many P w):Rvs P Q→Many Q w.reverse:=by
 intro r
 induction h with
 | nil=>exact .nil
 | cons p _ ih=>
  rw [List.reverse_append]
  exact uV ih (uT ((r _).2 (by rw [List.reverse_reverse];exact p)))
theorem Rvs.swap (r:Rvs P Q):Rvs Q P:=fun w=>by rw [r,List.reverse_reverse]
theorem Rvs.many (r:Rvs P Q):Rvs (Many P) (Many Q):=fun w=>
 ⟨fun h=>mD h r.swap,fun h=>by have:=mD h r;rwa [List.reverse_reverse] at this⟩
theorem rB {w:List α} (h:kK P w) (r:Rvs P Q):kK Q w.reverse:=by
 obtain ⟨u,v,rfl,h1,h2⟩:=h
 rw [List.reverse_append]
 have a:=mD h2 r
 have b:Q u.reverse:=(r _).2 (by rw [List.reverse_reverse];exact h1)
 rcases p5.1 a with e | e
 ·rw [e];exact lC b
 ·exact yF e b
theorem Rvs.plus (r:Rvs P Q):Rvs (kK P) (kK Q):=fun w=>
 ⟨fun h=>rB h r.swap,fun h=>by have:=rB h r;rwa [List.reverse_reverse] at this⟩
theorem mf:∀ {ts:List Tree},(∀ t∈ts,Rvs (Lg leaf t) (Lg leaf (bM t)))→Rvs (LgA leaf ts) (LgA leaf (fO ts))
 | [],_,w=>by rw [fO,lO,lO]
 | t::ts,h,w=>by rw [fO,gA,gA,h t (by simp),mf (fun u hu=>h u (by simp [hu]))]
theorem qL:∀ {ts:List Tree},(∀ t∈ts,Rvs (Lg leaf t) (Lg leaf (bM t)))→Rvs (LgS leaf ts) (LgS leaf (fO ts).reverse)
 | [],_,w=>by rw [fO,List.reverse_nil,eH,eH,List.reverse_eq_nil_iff]
 | t::ts,h,w=>by
  have ih:=qL (ts:=ts) (fun u hu=>h u (by simp [hu]))
  have ht:=h t (by simp)
  rw [fO,List.reverse_cons,te,co]
  constructor
  ·rintro ⟨u,v,rfl,h1,h2⟩
   obtain ⟨x,y,rfl,h3,h4⟩:=co.1 h2
   rw [eH.1 h4,List.append_nil,List.reverse_append]
   exact ⟨_,_,rfl,(ht _).1 h3,(ih _).1 h1⟩
  ·rintro ⟨u,v,e,h1,h2⟩
   have e2:w=v.reverse++u.reverse:=by rw [← List.reverse_append,← e,List.reverse_reverse]
   exact ⟨_,_,e2,(ih _).2 (by rw [List.reverse_reverse];exact h2),co.2 ⟨_,[],(List.append_nil _).symm,(ht _).2 (by rw [List.reverse_reverse];exact h1),eH.2 rfl⟩⟩
theorem BP (t:Tree):Rvs (Lg leaf t) (Lg leaf (bM t)):=by
 refine Tree.ind (p:=fun t=>Rvs (Lg leaf t) (Lg leaf (bM t))) (fun t ih=>?_) t
 obtain ⟨k,n,ts⟩:=t
 have ih:∀ u∈ts,Rvs (Lg leaf u) (Lg leaf (bM u)):=ih
 intro w
 rw [bM]
 by_cases h1:k=1
 ·rw [Lg,Lg,if_pos h1,if_pos h1,List.reverse_eq_nil_iff]
 by_cases h2:k=2∨k=3
 ·rw [Lg,Lg,if_neg h1,if_neg h1,if_pos h2,if_pos h2]
  constructor
  ·intro e;rw [e];rfl
  ·intro e;rw [← List.reverse_reverse w,e];rfl
 by_cases h4:k=4
 ·rw [Lg,Lg,if_neg h1,if_neg h1,if_neg h2,if_neg h2,if_pos h4,if_pos h4,if_pos h4]
  exact qL ih w
 rw [if_neg h4]
 have ha:=mf ih
 by_cases h5:k=5
 ·rw [Lg,Lg,if_neg h1,if_neg h1,if_neg h2,if_neg h2,if_neg h4,if_neg h4,if_pos h5,if_pos h5]
  exact ha w
 by_cases h6:k=6
 ·rw [Lg,Lg,if_neg h1,if_neg h1,if_neg h2,if_neg h2,if_neg h4,if_neg h4,if_neg h5,if_neg h5,if_pos h6,if_pos h6]
  exact ha.many w
 by_cases h7:k=7
 ·rw [Lg,Lg,if_neg h1,if_neg h1,if_neg h2,if_neg h2,if_neg h4,if_neg h4,if_neg h5,if_neg h5,if_neg h6,if_neg h6,if_pos h7,if_pos h7]
  exact ha.plus w
 rw [Lg,Lg,if_neg h1,if_neg h1,if_neg h2,if_neg h2,if_neg h4,if_neg h4,if_neg h5,if_neg h5,if_neg h6,if_neg h6,if_neg h7,if_neg h7,ha,List.reverse_eq_nil_iff]
theorem Ah (ts:List Tree):Rvs (LgA leaf ts) (LgA leaf (ts.map bM)):=by
 rw [← kX]
 exact mf fun t _=>BP t
end
section
variable {α:Type} {R S:α→List (Bool × α)→Prop}
theorem Gen.turn (hs:∀ A b,R A b→S A b.reverse) {n:Nat} {s:List (Bool × α)} {w:List α} (h:Gen R n s w):Gen S n s.reverse w.reverse:=by
 induction h with
 | nil=>exact .nil
 | lab _ ih=>
  rw [List.reverse_cons,List.reverse_cons]
  exact ih.app (.lab .nil)
 | nt h _ _ ih1 ih2=>
  rw [List.reverse_cons,List.reverse_append]
  exact ih2.app (Gen.of (hs _ _ h) ih1)
theorem Bh (hs:∀ A b,S A b↔R A b.reverse) (A:α) (w:List α):Has S A w.reverse↔Has R A w:=by
 constructor
 ·rintro ⟨n,h⟩
  have:=h.turn (S:=R) fun A b h=>(hs A b).1 h
  rw [List.reverse_reverse] at this
  exact ⟨n,this⟩
 ·rintro ⟨n,h⟩
  exact ⟨n,h.turn (S:=S) fun A b h=>(hs A _).2 (by rw [List.reverse_reverse];exact h)⟩
end
end
section
abbrev l4 (s:SyD):Bool × Int:=(s.lab,(s.num:Int))
structure MchOK (n:Nat) (N:Nat→Nat) (arcs:Nat→List ArD) (own:Nat→Nat→Int):Prop where
 zero:∀ j,j < n→own j 0=j
 inj:∀ j j' q q',j < n→j' < n→q < N j→q' < N j'→own j q=own j' q'→j=j'∧q=q'
 pos:∀ j,j < n→0 < N j
 arc:∀ j,j < n→∀ x∈arcs j,x.src < N j∧x.dst < N j∧(x.sym.lab=false→x.sym.num < n)
def StR (n:Nat) (N:Nat→Nat) (fins:Nat→List Nat) (arcs:Nat→List ArD) (own:Nat→Nat→Int) (A:Int) (b:List (Bool × Int)):Prop:=
 ∃ j q,j < n∧q < N j∧A=own j q∧((b=[]∧q∈fins j)∨∃ x∈arcs j,x.src=q∧b=[l4 x.sym,(false,own j x.dst)])
def BxR (n:Nat) (fins:Nat→List Nat) (arcs:Nat→List ArD) (A:Int) (b:List (Bool × Int)):Prop:=
 ∃ j v,j < n∧A=(j:Nat)∧(∃ q∈fins j,Pth (arcs j) 0 v q)∧b=v.map l4
section
variable {n:Nat} {N:Nat→Nat} {fins:Nat→List Nat} {arcs:Nat→List ArD} {own:Nat→Nat→Int}
theorem xD (h:MchOK n N arcs own) {j:Nat} (hj:j < n):∀ (k q:Nat) (w:List Int),q < N j→Gen (StR n N fins arcs own) k [(false,own j q)] w→∃ k' v q',k=k'+1∧q'∈fins j∧Pth (arcs j) q v q'∧Gen (StR n N fins arcs own) k' (v.map l4) w
 | 0,q,w,hq,hg=>by obtain ⟨_,_,e,_⟩:=hg.one;omega
 | k+1,q,w,hq,hg=>by
  obtain ⟨m,b,e,⟨j',q',hj',hq',e2,hb⟩,h1⟩:=hg.one
  have e:m=k:=by omega
  subst e
  obtain ⟨rfl,rfl⟩:=h.inj _ _ _ _ hj hj' hq hq' e2
  rcases hb with ⟨rfl,hf⟩ | ⟨x,hx,rfl,rfl⟩
  ·cases h1
   exact ⟨m,[],q,rfl,hf,rfl,.nil⟩
  ·obtain ⟨u,v,rfl,h3,h4⟩:=Gen.split (s:=[l4 x.sym]) (t:=[(false,own j x.dst)]) h1
   obtain ⟨k',v',q2,e,hf,hp,h5⟩:=xD h hj m x.dst v (h.arc j hj x hx).2.1 h4
   subst e
   exact ⟨k'+1,x.sym::v',q2,rfl,hf,⟨x,hx,rfl,rfl,hp⟩,by
    rw [List.map_cons]
    exact Gen.app (s:=[l4 x.sym]) h3 (h5.mono (Nat.le_succ _))⟩
theorem uk (h:MchOK n N arcs own) {j:Nat} (hj:j < n):∀ {v:List SyD} {p q:Nat},Pth (arcs j) p v q→∀ x∈v.map l4,x.1=false→∃ i:Nat,i < n∧x.2=i
 | [],_,_,_,x,hx,_=>by cases hx
 | s::v,p,q,⟨y,h1,h2,h3,h4⟩,x,hx,hf=>by
  rw [List.map_cons] at hx
  rcases List.mem_cons.1 hx with rfl | hx
  ·exact ⟨s.num,(by rw [← h3];exact (h.arc j hj y h1).2.2 (by rw [h3];exact hf)),rfl⟩
  ·exact uk h hj h4 x hx hf
theorem tE (h:MchOK n N arcs own):∀ (k:Nat) (s:List (Bool × Int)) (w:List Int),(∀ x∈s,x.1=false→∃ i:Nat,i < n∧x.2=i)→Gen (StR n N fins arcs own) k s w→∃ m,Gen (BxR n fins arcs) m s w:=by
 intro k
 induction k with
 | zero=>
  intro s
  induction s with
  | nil=>intro w _ hg;cases hg;exact ⟨0,.nil⟩
  | cons x s ih=>
   intro w hs hg
   cases hg with
   | lab k=>
    obtain ⟨m,hm⟩:=ih _ (fun x hx=>hs x (by simp [hx])) k
    exact ⟨m,.lab hm⟩
 | succ k ihk=>
  intro s
  induction s with
  | nil=>intro w _ hg;cases hg;exact ⟨0,.nil⟩
  | cons x s ih=>
   intro w hs hg
   obtain ⟨u,v,rfl,h1,h2⟩:=Gen.split (s:=[x]) (t:=s) hg
   obtain ⟨m2,g2⟩:=ih v (fun x hx=>hs x (by simp [hx])) h2
   obtain ⟨c,A⟩:=x
   cases c with
   | true=>
    cases h1 with
    | lab k=>cases k;exact ⟨m2,.lab g2⟩
   | false=>
    obtain ⟨j,hj,e⟩:=hs (false,A) (by simp) rfl
    have e:A=j:=e
    subst e
    rw [← h.zero j hj] at h1
    obtain ⟨k',v',q',e,hf,hp,h3⟩:=xD h hj (k+1) 0 u (h.pos j hj) h1
    have e:k'=k:=by omega
    subst e
    obtain ⟨m3,h3⟩:=ihk _ u (uk h hj hp) h3
    refine ⟨max (m3+1) m2,?_⟩
    exact ((Gen.of ⟨j,v',hj,rfl,⟨q',hf,hp⟩,rfl⟩ h3).mono (Nat.le_max_left _ _)).app (s:=[(false,((j:Nat):Int))]) (g2.mono (Nat.le_max_right _ _))
theorem ot (h:MchOK n N arcs own) {j:Nat} (hj:j < n) {q':Nat} (hf:q'∈fins j):∀ (v:List SyD) (q m:Nat) (w:List Int),q < N j→Pth (arcs j) q v q'→Gen (StR n N fins arcs own) m (v.map l4) w→∃ m',Gen (StR n N fins arcs own) m' [(false,own j q)] w
 | [],q,m,w,hq,hp,hg=>by
  have hp:q=q':=hp
  subst hp
  cases hg
  exact ⟨_,Gen.of ⟨j,q,hj,hq,rfl,.inl ⟨rfl,hf⟩⟩ (Gen.nil (n:=0))⟩
 | s::v,q,m,w,hq,⟨x,h1,h2,h3,h4⟩,hg=>by
  obtain ⟨u,w2,rfl,h5,h6⟩:=Gen.split (s:=[l4 s]) (t:=v.map l4) hg
  obtain ⟨m2,h7⟩:=ot h hj hf v x.dst m w2 (h.arc j hj x h1).2.1 h4 h6
  refine ⟨_,Gen.of ⟨j,q,hj,hq,rfl,.inr ⟨x,h1,h2,rfl⟩⟩ (n:=max m m2) ?_⟩
  rw [h3]
  exact Gen.app (s:=[l4 s]) (h5.mono (Nat.le_max_left _ _)) (h7.mono (Nat.le_max_right _ _))
theorem sK (h:MchOK n N arcs own) {m:Nat} {s:List (Bool × Int)} {w:List Int} (hg:Gen (BxR n fins arcs) m s w):∃ m',Gen (StR n N fins arcs own) m' s w:=by
 induction hg with
 | nil=>exact ⟨0,.nil⟩
 | lab _ ih=>obtain ⟨m,h1⟩:=ih;exact ⟨m,.lab h1⟩
 | nt hb _ _ ih1 ih2=>
  obtain ⟨m1,h1⟩:=ih1
  obtain ⟨m2,h2⟩:=ih2
  obtain ⟨j,v,hj,rfl,⟨q,hf,hp⟩,rfl⟩:=hb
  obtain ⟨m3,h3⟩:=ot h hj hf v 0 m1 _ (h.pos j hj) hp h1
  rw [h.zero j hj] at h3
  exact ⟨max m3 m2,(h3.mono (Nat.le_max_left _ _)).app (s:=[(false,((j:Nat):Int))]) (h2.mono (Nat.le_max_right _ _))⟩
theorem zx (h:MchOK n N arcs own) {j:Nat} (hj:j < n) (w:List Int):Has (StR n N fins arcs own) (j:Nat) w↔Has (BxR n fins arcs) (j:Nat) w:=
 ⟨fun ⟨k,hg⟩=>tE h k _ w (fun x hx _=>⟨j,hj,by rw [List.mem_singleton.1 hx]⟩) hg,fun ⟨_,hg⟩=>sK h hg⟩
end
end
section
section
variable {α β:Type} {R:α→List (Bool × α)→Prop} {S:β→List (Bool × β)→Prop} {F:Bool→α→β} {K:Bool→α→Prop}
abbrev wE (F:Bool→α→β) (s:Bool × α):Bool × β:=(s.1,F s.1 s.2)
theorem Gen.map (h1:∀ A b,K false A→R A b→S (F false A) (b.map (wE F))∧∀ s∈b,K s.1 s.2) {n:Nat} {s:List (Bool × α)} {w:List α} (h:Gen R n s w):(∀ x∈s,K x.1 x.2)→Gen S n (s.map (wE F)) (w.map (F true))∧∀ x∈w,K true x:=by
 induction h with
 | nil=>exact fun _=>⟨.nil,fun x hx=>by cases hx⟩
 | lab _ ih=>
  intro hs
  obtain ⟨a,b⟩:=ih fun x hx=>hs x (by simp [hx])
  refine ⟨.lab a,fun x hx=>?_⟩
  rcases List.mem_cons.1 hx with rfl | hx
  ·exact hs (true,x) (by simp)
  ·exact b x hx
 | nt hb _ _ ih1 ih2=>
  intro hs
  obtain ⟨c,d⟩:=h1 _ _ (hs (false,_) (by simp)) hb
  obtain ⟨a1,b1⟩:=ih1 d
  obtain ⟨a2,b2⟩:=ih2 fun x hx=>hs x (by simp [hx])
  rw [List.map_append]
  exact ⟨.nt c a1 a2,fun x hx=>(List.mem_append.1 hx).elim (b1 x) (b2 x)⟩
theorem Gen.unmap (h1:∀ A b,K false A→R A b→∀ s∈b,K s.1 s.2) (h2:∀ A b,K false A→S (F false A) b→∃ b',R A b'∧b=b'.map (wE F)) {n:Nat} {s':List (Bool × β)} {w':List β} (h:Gen S n s' w') :
  ∀ s:List (Bool × α),s'=s.map (wE F)→(∀ x∈s,K x.1 x.2)→∃ w,w'=w.map (F true)∧Gen R n s w:=by
 induction h with
 | nil=>
  intro s e _
  rw [List.map_eq_nil_iff.1 e.symm]
  exact ⟨[],rfl,.nil⟩
 | lab _ ih=>
  intro s e hs
  match s,e with
  | (c,x)::s,e=>
   rw [List.map_cons,List.cons.injEq] at e
   obtain ⟨w,e2,hg⟩:=ih s e.2 fun x hx=>hs x (by simp [hx])
   obtain ⟨e3,_⟩:=e
   injection e3 with e3 e4
   have e3:c=true:=e3.symm
   subst e3
   exact ⟨x::w,by rw [List.map_cons,e2,e4],.lab hg⟩
 | nt hb _ _ ih1 ih2=>
  intro s e hs
  match s,e with
  | (c,x)::s,e=>
   rw [List.map_cons,List.cons.injEq] at e
   obtain ⟨w2,e5,hg2⟩:=ih2 s e.2 fun x hx=>hs x (by simp [hx])
   obtain ⟨e3,_⟩:=e
   injection e3 with e3 e4
   have e3:c=false:=e3.symm
   subst e3
   have hk:=hs (false,x) (by simp)
   rw [e4] at hb
   obtain ⟨b',hb',e6⟩:=h2 x _ hk hb
   obtain ⟨w1,e7,hg1⟩:=ih1 b' e6 (h1 x b' hk hb')
   exact ⟨w1++w2,by rw [List.map_append,e5,e7],.nt hb' hg1 hg2⟩
theorem xN (h1:∀ A b,K false A→R A b→S (F false A) (b.map (wE F))∧∀ s∈b,K s.1 s.2) (h2:∀ A b,K false A→S (F false A) b→∃ b',R A b'∧b=b'.map (wE F)) (inj:∀ x y,K true x→K true y→F true x=F true y→x=y)
  {A:α} (hA:K false A) {w:List α}:Has R A w↔(∀ x∈w,K true x)∧Has S (F false A) (w.map (F true)):=by
 constructor
 ·rintro ⟨n,h⟩
  obtain ⟨a,b⟩:=h.map h1 (fun x hx=>by rw [List.mem_singleton.1 hx];exact hA)
  exact ⟨b,n,a⟩
 ·rintro ⟨hk,n,h⟩
  obtain ⟨w2,e,hg⟩:=h.unmap (fun A b hk hr=>(h1 A b hk hr).2) h2 [(false,A)] rfl (fun x hx=>by rw [List.mem_singleton.1 hx];exact hA)
  obtain ⟨_,hk2⟩:=hg.map h1 (fun x hx=>by rw [List.mem_singleton.1 hx];exact hA)
  rw [xF (inj:=inj) hk hk2 e]
  exact ⟨n,hg⟩
end
def fc (k:Nat) (n:List UInt8):Bool × List UInt8:=(decide (k=3),n)
def GrR (g:List RuleD) (A:List UInt8) (b:List (Bool × List UInt8)):Prop:=LgA fc (aD A g) b
def gN (ns ls:List (List UInt8)) (c:Bool) (s:List UInt8):Nat:=(dS (if c=true then ls else ns) s).getD 0
def bZ (ns ls:List (List UInt8)) (c:Bool) (s:List UInt8):Int:=(gN ns ls c s:Nat)
def kb (ns ls:List (List UInt8)) (c:Bool) (s:List UInt8):Prop:=s∈(if c=true then ls else ns)
theorem gD {ns ls:List (List UInt8)} {c:Bool} {s:List UInt8} (h:kb ns ls c s):(if c=true then ls else ns)[gN ns ls c s]?=some s:=by
 unfold kb at h
 obtain ⟨j,hj⟩:=lB h
 unfold gN
 rw [hj]
 exact rA hj
theorem xM {ns ls:List (List UInt8)} {c:Bool} (x y:List UInt8) (hx:kb ns ls c x) (hy:kb ns ls c y) (e:gN ns ls c x=gN ns ls c y):x=y:=by
 have h1:=gD hx
 have h2:=gD hy
 rw [e] at h1
 exact Option.some.inj (h1.symm.trans h2)
theorem mu {l:List (List UInt8)} (hn:l.Nodup) {j:Nat} {s:List UInt8} (h:l[j]?=some s):dS l s=some j:=sU h (ku hn h)
section
variable {g:List RuleD} {ns ls:List (List UInt8)}
theorem rO (h:TabOK g ns ls) {r:RuleD} (hr:r∈g) {m:NodeD} (hm:m∈r.body) (hk:m.kind=2∨m.kind=3):kb ns ls (fc m.kind m.name).1 (fc m.kind m.name).2∧(⟨(fc m.kind m.name).1,gN ns ls (fc m.kind m.name).1 (fc m.kind m.name).2⟩:SyD)=aB ns ls m.kind m.name:=by
 unfold fc kb gN
 rcases hk with hk | hk
 ·have hn:=h.nts r hr m hm hk
  obtain ⟨j,h1,h2⟩:=gY (b:=false) (ns:=ns) (ls:=ls) (s:=m.name) hn
  rw [if_neg (by decide)] at h1
  rw [hk]
  refine ⟨hn,?_⟩
  have hf:aB ns ls 2 m.name=⟨false,j⟩:=by
   unfold aB jv
   rw [if_neg (show ¬ (2:Nat)=3 by decide),if_pos (show (2:Nat)=2 from rfl),h2,if_pos rfl]
  rw [hf]
  show (⟨false,(dS ns m.name).getD 0⟩:SyD)=_
  rw [h1]
  rfl
 ·have hl:=h.lbs r hr m hm hk
  obtain ⟨j,h1,h2⟩:=gY (b:=true) (ns:=ns) (ls:=ls) (s:=m.name) hl
  rw [if_pos rfl] at h1
  rw [hk]
  refine ⟨hl,?_⟩
  have hf:aB ns ls 3 m.name=⟨true,j⟩:=by
   unfold aB jv
   rw [if_pos (show (3:Nat)=3 from rfl),h2,if_pos rfl]
  rw [hf]
  show (⟨true,(dS ls m.name).getD 0⟩:SyD)=_
  rw [h1]
  rfl
theorem vo (h:TabOK g ns ls) (head:List UInt8):Img (fun s:Bool × List UInt8=>(⟨s.1,gN ns ls s.1 s.2⟩:SyD)) (fun s=>kb ns ls s.1 s.2) (LgA fc (aD head g)) (LgA (aB ns ls) (aD head g)):=
 Img.alts fun t ht=>Img.tree t fun m hm hk=>by
  obtain ⟨r,hr,_,e,_⟩:=cJ h ht
  exact rO h hr (by rw [← e];exact hm) hk
def iC (ns ls:List (List UInt8)) (g:List RuleD) (j:Nat):List Nat:=cN (aB ns ls) (aD (ns[j]?.getD []) g)
def i6 (ns ls:List (List UInt8)) (g:List RuleD) (j:Nat):List ArD:=cj (aB ns ls) (aD (ns[j]?.getD []) g)
theorem xe (h:TabOK g ns ls) (A:Int) (b:List (Bool × Int)):BxR ns.length (iC ns ls g) (i6 ns ls g) A b↔∃ j s v,ns[j]?=some s∧A=(j:Nat)∧LgA (aB ns ls) (aD s g) v∧b=v.map l4:=by
 have key:∀ s v,(∃ q∈cN (aB ns ls) (aD s g),Pth (cj (aB ns ls) (aD s g)) 0 v q)↔LgA (aB ns ls) (aD s g) v:=fun s v=>by
  rw [← zR (leaf:=aB ns ls) (ts:=aD s g) (fun t ht=>let ⟨_,_,_,_,e⟩:=cJ h ht;e) v,List.any_eq_true]
  refine exists_congr fun q=>and_congr Iff.rfl ?_
  rw [ly]
  exact ⟨fun k=>⟨0,decide_eq_true rfl,k⟩,fun ⟨p,e,k⟩=>by rw [of_decide_eq_true e] at k;exact k⟩
 constructor
 ·rintro ⟨j,v,hj,rfl,hp,rfl⟩
  have e:ns[j]?=some ns[j]:=List.getElem?_eq_getElem hj
  refine ⟨j,ns[j],v,e,rfl,(key _ v).1 ?_,rfl⟩
  unfold iC i6 at hp
  rw [e] at hp
  exact hp
 ·rintro ⟨j,s,v,e,rfl,hl,rfl⟩
  refine ⟨j,v,(List.getElem?_eq_some_iff.1 e).1,rfl,?_,rfl⟩
  unfold iC i6
  rw [e]
  exact (key s v).2 hl
theorem po (h:TabOK g ns ls) {A:List UInt8} (hA:A∈ns) (w:List (List UInt8)):Has (GrR g) A w↔(∀ x∈w,x∈ls)∧Has (BxR ns.length (iC ns ls g) (i6 ns ls g)) (bZ ns ls false A) (w.map (bZ ns ls true)):=by
 refine xN (F:=bZ ns ls) (K:=kb ns ls) (fun A b hA hb=>?_) (fun A b hA hb=>?_) (fun x y hx hy e=>xM x y hx hy (by unfold bZ at e;omega)) hA
 ·obtain ⟨h1,h2⟩:=(vo h A).1 b hb
  refine ⟨(xe h _ _).2 ⟨gN ns ls false A,A,_,gD hA,rfl,h2,?_⟩,fun s hs=>h1 s hs⟩
  rw [List.map_map]
  rfl
 ·obtain ⟨j,s,v,e,ej,hl,rfl⟩:=(xe h _ _).1 hb
  have e2:=gD hA
  have ej:gN ns ls false A=j:=by unfold bZ at ej;omega
  rw [if_neg (by decide),ej,e] at e2
  cases e2
  obtain ⟨b,rfl,hb2⟩:=(vo h A).2 v hl
  exact ⟨b,hb2,by rw [List.map_map];rfl⟩
end
end
section
abbrev cc:=Bool × Int
abbrev PrW:=Int × List cc
structure WkS where
 nts:Int
 prods:List PrW
 labs:List (Int × Int)
 emp:Int
def fj (l:List (Int × Int)) (n:Int):Option Int:=match l with
 | []=>none
 | x::r=>if n=x.1 then some x.2 else fj r n
def dz (st:WkS) (s:cc):WkS × Int:=if s.1=true then (match fj st.labs s.2 with
  | some k=>(st,k)
  | none=>(⟨st.nts+1,st.prods++[(st.nts,[s])],st.labs++[(s.2,st.nts)],st.emp⟩,st.nts)) else (st,s.2)
def cI:WkS→List cc→WkS × List Int
 | st,[]=>(st,[])
 | st,s::r=>((cI (dz st s).1 r).1,(dz st s).2::(cI (dz st s).1 r).2)
def bD (st:WkS):WkS × Int:=if st.emp=0 then (⟨st.nts+1,st.prods++[(st.nts,[])],st.labs,st.nts⟩,st.nts) else (st,st.emp)
def gR (head next:Int):List Int→List PrW
 | a::b::c::r=>(head,[(false,a),(false,next)])::gR next (next+1) (b::c::r)
 | [a,b]=>[(head,[(false,a),(false,b)])]
 | _=>[]
def eV (st:WkS) (head:Int) (l:List Int):WkS:=⟨st.nts+((l.length - 2:Nat):Int),st.prods++gR head st.nts l,st.labs,st.emp⟩
def jr (b:List cc):Bool:=match b with
 | []=>true
 | [s]=>s.1
 | _=>false
def md (st:WkS) (p:PrW):WkS:=if jr p.2=true then ⟨st.nts,st.prods++[p],st.labs,st.emp⟩ else
 if (cI st p.2).2.length=1 then eV (bD (cI st p.2).1).1 p.1 ((cI st p.2).2++[(bD (cI st p.2).1).2]) else eV (cI st p.2).1 p.1 (cI st p.2).2
def dK (st:WkS) (l:List PrW):WkS:=l.foldl md st
abbrev wJ (I:Int→List cc) (s:cc):List cc:=if s.1=true then [(true,s.2)] else I s.2
structure WInv (n0:Int) (dn:List PrW) (st:WkS) (I:Int→List cc) (rk:Int→Nat):Prop where
 one:1≤n0
 le:n0≤st.nts
 orig:∀ A,0≤A→A < n0→I A=[(false,A)]∧rk A=0
 rng:∀ p∈st.prods,(0≤p.1∧p.1 < st.nts)∧∀ s∈p.2,s.1=false→0≤s.2∧s.2 < st.nts
 old:∀ p∈st.prods,p.1 < n0→(p.1,p.2.flatMap (wJ I))∈dn
 new:∀ p∈st.prods,n0≤p.1→p.2.flatMap (wJ I)=I p.1
 done:∀ p∈dn,∃ b,(p.1,b)∈st.prods∧b.flatMap (wJ I)=p.2
 help:∀ A,n0≤A→A < st.nts→∃ b,(A,b)∈st.prods∧∀ s∈b,s.1=false→rk s.2 < rk A
 labs:∀ x∈st.labs,(n0≤x.2∧x.2 < st.nts)∧I x.2=[(true,x.1)]∧rk x.2=0
 emp:st.emp≠0→(n0≤st.emp∧st.emp < st.nts)∧I st.emp=[]∧rk st.emp=0
def u6 {γ:Type} (I:Int→γ) (A:Int) (v:γ):Int→γ:=fun x=>if x=A then v else I x
theorem dB {γ:Type} {I:Int→γ} {A x:Int} {v:γ} (h:x≠A):u6 I A v x=I x:=if_neg h
theorem g9 {γ:Type} {I:Int→γ} {A:Int} {v:γ}:u6 I A v A=v:=if_pos rfl
theorem kD {I I':Int→List cc}:∀ {b:List cc},(∀ s∈b,s.1=false→I' s.2=I s.2)→b.flatMap (wJ I')=b.flatMap (wJ I)
 | [],_=>rfl
 | s::b,h=>by
  rw [List.flatMap_cons,List.flatMap_cons,kD fun x hx=>h x (by simp [hx])]
  congr 1
  unfold wJ
  cases hs:s.1
  ·rw [if_neg (by decide),if_neg (by decide),h s (by simp) hs]
  ·rfl
section
variable {n0:Int} {dn:List PrW} {st:WkS} {I:Int→List cc} {rk:Int→Nat}
theorem WInv.more (h:WInv n0 dn st I rk) {b v:List cc} (hb:∀ s∈b,s.1=false→0≤s.2∧s.2 < st.nts∧rk s.2=0) (hv:b.flatMap (wJ I)=v) (hp:b=[]∨∃ n,b=[(true,n)]) :
  WInv n0 dn ⟨st.nts+1,st.prods++[(st.nts,b)],st.labs,st.emp⟩ (u6 I st.nts v) (u6 rk st.nts 0):=by
 have hle:=h.le;have h1:=h.one
 have hsame:∀ p∈st.prods,p.2.flatMap (wJ (u6 I st.nts v))=p.2.flatMap (wJ I):=fun p hp=>kD fun s hs hf=>dB (by have:=(h.rng p hp).2 s hs hf;omega)
 have hbs:b.flatMap (wJ (u6 I st.nts v))=v:=by rw [← hv];exact kD fun s hs hf=>dB (by have:=hb s hs hf;omega)
 refine ⟨h1,by show n0≤st.nts+1;omega,fun A h0 h2=>?_,fun p hp=>?_,fun p hp hlt=>?_,fun p hp hge=>?_,fun p hp=>?_,fun A hA hlt=>?_,fun x hx=>?_,fun he=>?_⟩
 ·rw [dB (by omega),dB (by omega)];exact h.orig A h0 h2
 ·rcases List.mem_append.1 hp with hp | hp
  ·obtain ⟨a,c⟩:=h.rng p hp
   exact ⟨⟨a.1,by show p.1 < st.nts+1;omega⟩,fun s hs hf=>⟨(c s hs hf).1,by show s.2 < st.nts+1;have:=(c s hs hf).2;omega⟩⟩
  ·rw [List.mem_singleton.1 hp]
   exact ⟨⟨by show 0≤st.nts;omega,by show st.nts < st.nts+1;omega⟩,fun s hs hf=>⟨(hb s hs hf).1,by show s.2 < st.nts+1;have:=(hb s hs hf).2.1;omega⟩⟩
 ·rcases List.mem_append.1 hp with hp | hp
  ·rw [hsame p hp];exact h.old p hp hlt
  ·rw [List.mem_singleton.1 hp] at hlt;dsimp only at hlt;omega
 ·rcases List.mem_append.1 hp with hp | hp
  ·rw [hsame p hp,dB (by have:=(h.rng p hp).1;omega)];exact h.new p hp hge
  ·rw [List.mem_singleton.1 hp,g9];exact hbs
 ·obtain ⟨b',a,c⟩:=h.done p hp
  exact ⟨b',List.mem_append.2 (.inl a),by rw [hsame _ a];exact c⟩
 ·by_cases e:A=st.nts
  ·subst e
   refine ⟨b,List.mem_append.2 (.inr (List.mem_singleton.2 rfl)),fun s hs hf=>?_⟩
   rcases hp with rfl | ⟨n,rfl⟩
   ·cases hs
   ·rw [List.mem_singleton.1 hs] at hf;cases hf
  ·have hlt:A < st.nts+1:=hlt
   obtain ⟨b',a,c⟩:=h.help A hA (by omega)
   refine ⟨b',List.mem_append.2 (.inl a),fun s hs hf=>?_⟩
   have:=(h.rng _ a).2 s hs hf
   rw [dB (by omega),dB e]
   exact c s hs hf
 ·obtain ⟨a,c,d⟩:=h.labs x hx
  rw [dB (by omega),dB (by omega)]
  exact ⟨⟨a.1,by show x.2 < st.nts+1;omega⟩,c,d⟩
 ·obtain ⟨a,c,d⟩:=h.emp he
  rw [dB (by show st.emp≠_;omega),dB (by show st.emp≠_;omega)]
  exact ⟨⟨a.1,by show st.emp < st.nts+1;omega⟩,c,d⟩
theorem qK:∀ {l:List (Int × Int)} {n k:Int},fj l n=some k→(n,k)∈l
 | x::r,n,k,h=>by
  change (if n=x.1 then some x.2 else fj r n)=some k at h
  by_cases e:n=x.1
  ·rw [if_pos e] at h;cases h;rw [e];simp
  ·rw [if_neg e] at h;exact List.mem_cons_of_mem _ (qK h)
def xZ (n:Int) (I I':Int→List cc):Prop:=∀ A,A < n→I' A=I A
theorem Ac (h:WInv n0 dn st I rk) {s:cc} (hs:s.1=false→0≤s.2∧s.2 < n0) :
  ∃ I' rk',WInv n0 dn (dz st s).1 I' rk'∧xZ st.nts I I'∧st.nts≤(dz st s).1.nts∧(0≤(dz st s).2∧(dz st s).2 < (dz st s).1.nts)∧I' (dz st s).2=[s]∧(∀ A,A < st.nts→rk' A=rk A)∧rk' (dz st s).2=0:=by
 have hle:=h.le;have h1:=h.one
 obtain ⟨c,n⟩:=s
 unfold dz
 cases c with
 | false=>
  rw [if_neg Bool.false_ne_true]
  have h2:=hs rfl
  dsimp only at h2
  exact ⟨I,rk,h,fun _ _=>rfl,Int.le_refl _,⟨h2.1,by show n < st.nts;omega⟩,(h.orig n h2.1 h2.2).1,fun _ _=>rfl,(h.orig n h2.1 h2.2).2⟩
 | true=>
  rw [if_pos rfl]
  cases hl:fj st.labs n with
  | some k=>
   obtain ⟨a,b,d⟩:=h.labs _ (qK hl)
   dsimp only at a b d ⊢
   exact ⟨I,rk,h,fun _ _=>rfl,Int.le_refl _,⟨by omega,a.2⟩,b,fun _ _=>rfl,d⟩
  | none=>
   dsimp only
   have hm:=h.more (b:=[(true,n)]) (v:=[(true,n)]) (fun s hs hf=>by rw [List.mem_singleton.1 hs] at hf;cases hf) rfl (.inr ⟨n,rfl⟩)
   refine ⟨u6 I st.nts [(true,n)],u6 rk st.nts 0,⟨hm.one,hm.le,hm.orig,hm.rng,hm.old,hm.new,hm.done,hm.help,fun x hx=>?_,hm.emp⟩,fun A hA=>dB (by omega),by omega,⟨by omega,by omega⟩,g9,fun A hA=>dB (by omega),g9⟩
   rcases List.mem_append.1 hx with hx | hx
   ·exact hm.labs x hx
   ·rw [List.mem_singleton.1 hx]
    exact ⟨⟨hle,by show st.nts < st.nts+1;omega⟩,g9,g9⟩
theorem tN:∀ (b:List cc) (st:WkS) (I:Int→List cc) (rk:Int→Nat),WInv n0 dn st I rk→(∀ s∈b,s.1=false→0≤s.2∧s.2 < n0) →
  ∃ I' rk',WInv n0 dn (cI st b).1 I' rk'∧xZ st.nts I I'∧st.nts≤(cI st b).1.nts∧(∀ k∈(cI st b).2,0≤k∧k < (cI st b).1.nts∧rk' k=0)∧(cI st b).2.flatMap I'=b∧(cI st b).2.length=b.length∧∀ A,A < st.nts→rk' A=rk A
 | [],st,I,rk,h,_=>⟨I,rk,h,fun _ _=>rfl,Int.le_refl _,fun k hk=>(by cases hk),rfl,rfl,fun _ _=>rfl⟩
 | s::r,st,I,rk,h,hb=>by
  obtain ⟨I1,rk1,h1,a1,l1,k1,e1,q1,z1⟩:=Ac h (s:=s) (hb s (by simp))
  obtain ⟨I2,rk2,h2,a2,l2,k2,e2,n2,q2⟩:=tN r (dz st s).1 I1 rk1 h1 fun x hx=>hb x (by simp [hx])
  refine ⟨I2,rk2,h2,fun A hA=>(a2 A (by omega)).trans (a1 A hA),by show st.nts≤(cI _ r).1.nts;omega,fun k hk=>?_,?_,?_,fun A hA=>(q2 A (by omega)).trans (q1 A hA)⟩
  ·rcases List.mem_cons.1 hk with rfl | hk
   ·exact ⟨k1.1,by show _ < (cI _ r).1.nts;omega,by rw [q2 _ k1.2];exact z1⟩
   ·exact k2 k hk
  ·show ((dz st s).2::(cI (dz st s).1 r).2).flatMap I2=s::r
   rw [List.flatMap_cons,e2,a2 _ k1.2,e1]
   rfl
  ·show (cI (dz st s).1 r).2.length+1=_
   rw [n2];rfl
theorem sG (h:WInv n0 dn st I rk):∃ I' rk',WInv n0 dn (bD st).1 I' rk'∧xZ st.nts I I'∧st.nts≤(bD st).1.nts∧(0≤(bD st).2∧(bD st).2 < (bD st).1.nts)∧I' (bD st).2=[]∧rk' (bD st).2=0∧∀ A,A < st.nts→rk' A=rk A:=by
 have hle:=h.le;have h1:=h.one
 unfold bD
 by_cases he:st.emp=0
 ·rw [if_pos he]
  have hm:=h.more (b:=[]) (v:=[]) (fun s hs=>by cases hs) rfl (.inl rfl)
  exact ⟨_,_,⟨hm.one,hm.le,hm.orig,hm.rng,hm.old,hm.new,hm.done,hm.help,hm.labs,fun _=>⟨⟨hle,by show st.nts < st.nts+1;omega⟩,g9,g9⟩⟩,fun A hA=>dB (by omega),by show st.nts≤st.nts+1;omega,⟨by show 0≤st.nts;omega,by show st.nts < st.nts+1;omega⟩,g9,g9,fun A hA=>dB (by omega)⟩
 ·rw [if_neg he]
  obtain ⟨a,b,c⟩:=h.emp he
  exact ⟨I,rk,h,fun _ _=>rfl,Int.le_refl _,⟨by show 0≤st.emp;omega,a.2⟩,b,c,fun _ _=>rfl⟩
end
end
section
section
variable {n0:Int} {dn:List PrW} {st:WkS} {I:Int→List cc} {rk:Int→Nat}
theorem WInv.grow (h:WInv n0 dn st I rk) {nts':Int} {ps:List PrW} {dn':List PrW} {I':Int→List cc} {rk':Int→Nat} (hn:st.nts≤nts') (hI:∀ A,A < st.nts→I' A=I A∧rk' A=rk A)
  (rng:∀ p∈ps,(0≤p.1∧p.1 < nts')∧∀ s∈p.2,s.1=false→0≤s.2∧s.2 < nts') (old:∀ p∈ps,p.1 < n0→(p.1,p.2.flatMap (wJ I'))∈dn') (new:∀ p∈ps,n0≤p.1→p.2.flatMap (wJ I')=I' p.1)
  (sub:∀ p∈dn,p∈dn') (done:∀ p∈dn',p∈dn∨∃ b,(p.1,b)∈ps∧b.flatMap (wJ I')=p.2) (help:∀ A,st.nts≤A→A < nts'→∃ b,(A,b)∈ps∧∀ s∈b,s.1=false→rk' s.2 < rk' A) :
  WInv n0 dn' ⟨nts',st.prods++ps,st.labs,st.emp⟩ I' rk':=by
 have hle:=h.le;have h1:=h.one
 have hsame:∀ p∈st.prods,p.2.flatMap (wJ I')=p.2.flatMap (wJ I):=fun p hp=>kD fun s hs hf=>(hI _ ((h.rng p hp).2 s hs hf).2).1
 refine ⟨h1,by show n0≤nts';omega,fun A h0 h2=>?_,fun p hp=>?_,fun p hp hlt=>?_,fun p hp hge=>?_,fun p hp=>?_,fun A hA hlt=>?_,fun x hx=>?_,fun he=>?_⟩
 ·rw [(hI A (by omega)).1,(hI A (by omega)).2];exact h.orig A h0 h2
 ·rcases List.mem_append.1 hp with hp | hp
  ·obtain ⟨a,c⟩:=h.rng p hp
   exact ⟨⟨a.1,by show p.1 < nts';omega⟩,fun s hs hf=>⟨(c s hs hf).1,by show s.2 < nts';have:=(c s hs hf).2;omega⟩⟩
  ·exact rng p hp
 ·rcases List.mem_append.1 hp with hp | hp
  ·rw [hsame p hp];exact sub _ (h.old p hp hlt)
  ·exact old p hp hlt
 ·rcases List.mem_append.1 hp with hp | hp
  ·rw [hsame p hp,(hI p.1 (h.rng p hp).1.2).1];exact h.new p hp hge
  ·exact new p hp hge
 ·rcases done p hp with hp | ⟨b,a,c⟩
  ·obtain ⟨b',a,c⟩:=h.done p hp
   exact ⟨b',List.mem_append.2 (.inl a),by rw [hsame _ a];exact c⟩
  ·exact ⟨b,List.mem_append.2 (.inr a),c⟩
 ·by_cases e:A < st.nts
  ·obtain ⟨b',a,c⟩:=h.help A hA e
   refine ⟨b',List.mem_append.2 (.inl a),fun s hs hf=>?_⟩
   rw [(hI _ ((h.rng _ a).2 s hs hf).2).2,(hI A e).2]
   exact c s hs hf
  ·obtain ⟨b,a,c⟩:=help A (by omega) hlt
   exact ⟨b,List.mem_append.2 (.inr a),c⟩
 ·obtain ⟨a,c,d⟩:=h.labs x hx
  rw [(hI x.2 a.2).1,(hI x.2 a.2).2]
  exact ⟨⟨a.1,by show x.2 < nts';omega⟩,c,d⟩
 ·obtain ⟨a,c,d⟩:=h.emp he
  rw [(hI _ a.2).1,(hI _ a.2).2]
  exact ⟨⟨a.1,by show st.emp < nts';omega⟩,c,d⟩
end
theorem so {I':Int→List cc}:∀ (l:List Int) (h x:Int),2≤l.length→(∀ i:Nat,i < l.length - 2→I' (x+i)=(l.drop (i+1)).flatMap I')→∀ p∈gR h x l,
  ((p.1=h∧p.2.flatMap (wJ I')=l.flatMap I')∨((x≤p.1∧p.1 < x+((l.length - 2:Nat):Int))∧p.2.flatMap (wJ I')=I' p.1))∧∀ s∈p.2,s.1=false∧(s.2∈l∨(x≤s.2∧s.2 < x+((l.length - 2:Nat):Int)))
 | [],_,_,h2,_,_,_=>by simp at h2
 | [_],_,_,h2,_,_,_=>by simp at h2
 | [a,b],h,x,_,_,p,hp=>by
  change p∈[(h,[(false,a),(false,b)])] at hp
  rw [List.mem_singleton.1 hp]
  exact ⟨.inl ⟨rfl,rfl⟩,fun s hs=>by
   simp only [List.mem_cons,List.not_mem_nil,or_false] at hs
   rcases hs with rfl | rfl
   ·exact ⟨rfl,.inl (by simp)⟩
   ·exact ⟨rfl,.inl (by simp)⟩⟩
 | a::b::c::r,h,x,_,hI,p,hp=>by
  have hlen:(a::b::c::r).length - 2=(b::c::r).length - 2+1:=by simp
  change p∈(h,[(false,a),(false,x)])::gR x (x+1) (b::c::r) at hp
  have h0:=hI 0 (by rw [hlen];omega)
  rw [Int.natCast_zero,Int.add_zero] at h0
  have h0:I' x=(b::c::r).flatMap I':=h0
  rcases List.mem_cons.1 hp with rfl | hp
  ·refine ⟨.inl ⟨rfl,?_⟩,fun s hs=>?_⟩
   ·show I' a++(I' x++[])=(a::b::c::r).flatMap I'
    rw [List.append_nil,h0];rfl
   ·simp only [List.mem_cons,List.not_mem_nil,or_false] at hs
    rcases hs with rfl | rfl
    ·exact ⟨rfl,.inl (by simp)⟩
    ·exact ⟨rfl,.inr ⟨Int.le_refl _,by show x < x+_;rw [hlen];omega⟩⟩
  ·obtain ⟨k1,k2⟩:=so (b::c::r) x (x+1) (by simp) (fun i hi=>by
    have:=hI (i+1) (by rw [hlen];omega)
    rw [show x+((i+1:Nat):Int)=x+1+i by omega] at this
    exact this) p hp
   refine ⟨.inr ?_,fun s hs=>?_⟩
   ·rcases k1 with ⟨e1,e2⟩ | ⟨e1,e2⟩
    ·rw [e1];exact ⟨⟨Int.le_refl _,by rw [hlen];omega⟩,by rw [e2,h0]⟩
    ·exact ⟨⟨by omega,by rw [hlen];omega⟩,e2⟩
   ·obtain ⟨e1,e2⟩:=k2 s hs
    refine ⟨e1,?_⟩
    rcases e2 with e2 | e2
    ·exact .inl (List.mem_cons_of_mem _ e2)
    ·exact .inr ⟨by omega,by rw [hlen];omega⟩
theorem x0:∀ (l:List Int) (h x:Int),2≤l.length→∃ b,(h,b)∈gR h x l
 | [],_,_,h2=>by simp at h2
 | [_],_,_,h2=>by simp at h2
 | [a,b],h,x,_=>⟨_,List.mem_singleton.2 rfl⟩
 | a::b::c::r,h,x,_=>⟨_,List.mem_cons_self ..⟩
theorem pN:∀ (l:List Int) (h x:Int) (i:Nat),i < l.length - 2→∃ b,(x+i,b)∈gR h x l∧∀ s∈b,s.2∈l∨(s.2=x+i+1∧i+1 < l.length - 2)
 | [],_,_,i,h2=>by simp at h2
 | [_],_,_,i,h2=>by simp at h2
 | [_,_],_,_,i,h2=>by simp at h2
 | a::b::c::r,h,x,0,_=>by
  match r with
  | []=>exact ⟨[(false,b),(false,c)],List.mem_cons_of_mem _ (by rw [Int.natCast_zero,Int.add_zero];exact List.mem_singleton.2 rfl),fun s hs=>by
    simp only [List.mem_cons,List.not_mem_nil,or_false] at hs
    rcases hs with rfl | rfl
    ·exact .inl (by simp)
    ·exact .inl (by simp)⟩
  | d::r=>exact ⟨[(false,b),(false,x+1)],List.mem_cons_of_mem _ (by rw [Int.natCast_zero,Int.add_zero];exact List.mem_cons_self ..),fun s hs=>by
    simp only [List.mem_cons,List.not_mem_nil,or_false] at hs
    rcases hs with rfl | rfl
    ·exact .inl (by simp)
    ·exact .inr ⟨by show x+1=x+((0:Nat):Int)+1;omega,by simp⟩⟩
 | a::b::c::r,h,x,i+1,hi=>by
  have hlen:(a::b::c::r).length - 2=(b::c::r).length - 2+1:=by simp
  obtain ⟨b',k1,k2⟩:=pN (b::c::r) x (x+1) i (by omega)
  refine ⟨b',List.mem_cons_of_mem _ (by rw [show x+((i+1:Nat):Int)=x+1+i by omega];exact k1),fun s hs=>?_⟩
  rcases k2 s hs with e | ⟨e1,e2⟩
  ·exact .inl (List.mem_cons_of_mem _ e)
  ·exact .inr ⟨by omega,by omega⟩
section
variable {n0:Int} {dn:List PrW} {st:WkS} {I:Int→List cc} {rk:Int→Nat}
theorem nV (h:WInv n0 dn st I rk) {A:Int} (hA:0≤A∧A < n0) {l:List Int} (hl:2≤l.length) (hr:∀ k∈l,0≤k∧k < st.nts∧rk k=0) {b0:List cc} (hb:l.flatMap I=b0) :
  ∃ I' rk',WInv n0 (dn++[(A,b0)]) (eV st A l) I' rk'∧xZ st.nts I I':=by
 have hle:=h.le;have h1:=h.one
 obtain ⟨k,hk⟩:∃ k,l.length - 2=k:=⟨_,rfl⟩
 let I':Int→List cc:=fun x=>if st.nts≤x∧x < st.nts+k then (l.drop ((x - st.nts).toNat+1)).flatMap I else I x
 let rk':Int→Nat:=fun x=>if st.nts≤x∧x < st.nts+k then (st.nts+k - x).toNat else rk x
 have hI:∀ x,x < st.nts→I' x=I x:=fun x hx=>if_neg (by omega)
 have hR:∀ x,x < st.nts→rk' x=rk x:=fun x hx=>if_neg (by omega)
 have hlI:∀ m:List Int,(∀ x∈m,x∈l)→m.flatMap I'=m.flatMap I:=fun m hm=>by
  induction m with
  | nil=>rfl
  | cons x m ih=>rw [List.flatMap_cons,List.flatMap_cons,ih fun y hy=>hm y (by simp [hy]),hI x (hr x (hm x (by simp))).2.1]
 have hch:∀ i:Nat,i < l.length - 2→I' (st.nts+i)=(l.drop (i+1)).flatMap I':=fun i hi=>by
  rw [hlI _ fun x hx=>List.mem_of_mem_drop hx]
  show (if _ then _ else _)=_
  rw [if_pos (by omega),show (st.nts+(i:Int) - st.nts).toNat=i by omega]
 have hall:=so l A st.nts hl hch
 rw [hk] at hall
 refine ⟨I',rk',?_,hI⟩
 unfold eV
 rw [hk]
 refine h.grow (by omega) (fun x hx=>⟨hI x hx,hR x hx⟩) (fun p hp=>?_) (fun p hp hlt=>?_) (fun p hp hge=>?_) (fun p hp=>List.mem_append.2 (.inl hp)) (fun p hp=>?_) (fun x hx hlt=>?_)
 ·obtain ⟨k1,k2⟩:=hall p hp
  refine ⟨?_,fun s hs hf=>?_⟩
  ·rcases k1 with ⟨e,_⟩ | ⟨e,_⟩
   ·omega
   ·omega
  ·rcases (k2 s hs).2 with e | e
   ·have:=hr _ e;omega
   ·omega
 ·rcases (hall p hp).1 with ⟨e,e2⟩ | ⟨e,_⟩
  ·rw [e,e2,hlI l fun _ hx=>hx,hb]
   exact List.mem_append.2 (.inr (List.mem_singleton.2 rfl))
  ·omega
 ·rcases (hall p hp).1 with ⟨e,e2⟩ | ⟨e,e2⟩
  ·omega
  ·exact e2
 ·rcases List.mem_append.1 hp with hp | hp
  ·exact .inl hp
  ·rw [List.mem_singleton.1 hp]
   obtain ⟨b,hb'⟩:=x0 l A st.nts hl
   refine .inr ⟨b,hb',?_⟩
   rcases (hall _ hb').1 with ⟨_,e2⟩ | ⟨e,_⟩
   ·rw [e2,hlI l fun _ hx=>hx,hb]
   ·dsimp only at e;omega
 ·obtain ⟨i,hi⟩:∃ i:Nat,x=st.nts+i:=⟨(x - st.nts).toNat,by omega⟩
  subst hi
  obtain ⟨b,k1,k2⟩:=pN l A st.nts i (by omega)
  refine ⟨b,k1,fun s hs _=>?_⟩
  have hx':rk' (st.nts+i)=k - i:=by
   show (if _ then _ else _)=_
   rw [if_pos (by omega)];omega
  rw [hx']
  rcases k2 s hs with e | ⟨e1,e2⟩
  ·have:=hr _ e
   rw [hR _ this.2.1];omega
  ·rw [e1]
   show (if _ then _ else _) < _
   rw [if_pos (by omega)];omega
theorem Ae (h:WInv n0 dn st I rk) {p:PrW} (hp:0≤p.1∧p.1 < n0) (hb:∀ s∈p.2,s.1=false→0≤s.2∧s.2 < n0):∃ I' rk',WInv n0 (dn++[p]) (md st p) I' rk':=by
 have hle:=h.le;have h1:=h.one
 unfold md
 by_cases hw:jr p.2=true
 ·rw [if_pos hw]
  have hno:∀ s∈p.2,s.1=false→False:=fun s hs hf=>by
   obtain ⟨A,b⟩:=p
   dsimp only at hw hs
   match b,hw,hs with
   | [t],hw,hs=>rw [List.mem_singleton.1 hs] at hf;rw [show jr [t]=t.1 from rfl] at hw;rw [hw] at hf;cases hf
  have hfl:p.2.flatMap (wJ I)=p.2:=by
   obtain ⟨A,b⟩:=p
   dsimp only at hw ⊢
   match b,hw with
   | [],_=>rfl
   | [t],hw=>
    rw [show jr [t]=t.1 from rfl] at hw
    obtain ⟨c,n⟩:=t
    dsimp only at hw
    subst hw
    rfl
  refine ⟨I,rk,h.grow (Int.le_refl _) (fun _ _=>⟨rfl,rfl⟩) (fun q hq=>?_) (fun q hq hlt=>?_) (fun q hq hge=>?_) (fun q hq=>List.mem_append.2 (.inl hq)) (fun q hq=>?_) (fun A hA hlt=>by omega)⟩
  ·rw [List.mem_singleton.1 hq];exact ⟨⟨hp.1,by omega⟩,fun s hs hf=>(hno s hs hf).elim⟩
  ·rw [List.mem_singleton.1 hq,hfl];exact List.mem_append.2 (.inr (List.mem_singleton.2 rfl))
  ·rw [List.mem_singleton.1 hq] at hge;omega
  ·rcases List.mem_append.1 hq with hq | hq
   ·exact .inl hq
   ·rw [List.mem_singleton.1 hq];exact .inr ⟨p.2,List.mem_singleton.2 rfl,hfl⟩
 ·rw [if_neg hw]
  obtain ⟨I1,rk1,h1,a1,l1,k1,e1,n1,_⟩:=tN p.2 st I rk h hb
  have hlen:1≤p.2.length:=by
   cases hb:p.2 with
   | nil=>rw [hb] at hw;exact absurd rfl hw
   | cons=>simp
  split
  ·rename_i hl1
   obtain ⟨I2,rk2,h2,a2,l2,k2,e2,z2,q2⟩:=sG h1
   obtain ⟨I3,rk3,h3,_⟩:=nV h2 hp (l:=(cI st p.2).2++[(bD (cI st p.2).1).2]) (by rw [List.length_append,hl1];exact Nat.le_refl _) (fun k hk=>by
    rcases List.mem_append.1 hk with hk | hk
    ·have:=k1 k hk
     exact ⟨this.1,by omega,by rw [q2 k this.2.1];exact this.2.2⟩
    ·rw [List.mem_singleton.1 hk];exact ⟨k2.1,k2.2,z2⟩) (b0:=p.2) (by
    rw [List.flatMap_append,List.flatMap_cons,e2]
    have:∀ m:List Int,(∀ x∈m,x∈(cI st p.2).2)→m.flatMap I2=m.flatMap I1:=fun m hm=>by
     induction m with
     | nil=>rfl
     | cons x m ih=>rw [List.flatMap_cons,List.flatMap_cons,ih fun y hy=>hm y (by simp [hy]),a2 x (k1 x (hm x (by simp))).2.1]
    rw [this _ fun _ hx=>hx,e1]
    simp)
   exact ⟨I3,rk3,h3⟩
  ·rename_i hl1
   obtain ⟨I3,rk3,h3,_⟩:=nV h1 hp (l:=(cI st p.2).2) (by omega) k1 e1
   exact ⟨I3,rk3,h3⟩
end
theorem nW {n0:Int}:∀ (l dn:List PrW) (st:WkS) (I:Int→List cc) (rk:Int→Nat),WInv n0 dn st I rk→(∀ p∈l,(0≤p.1∧p.1 < n0)∧∀ s∈p.2,s.1=false→0≤s.2∧s.2 < n0)→∃ I' rk',WInv n0 (dn++l) (dK st l) I' rk'
 | [],dn,st,I,rk,h,_=>⟨I,rk,by rw [List.append_nil];exact h⟩
 | p::l,dn,st,I,rk,h,hl=>by
  obtain ⟨hp,hb⟩:=hl p (by simp)
  obtain ⟨I1,rk1,h1⟩:=Ae h hp hb
  obtain ⟨I2,rk2,h2⟩:=nW l (dn++[p]) (md st p) I1 rk1 h1 fun q hq=>hl q (by simp [hq])
  rw [List.append_assoc] at h2
  exact ⟨I2,rk2,h2⟩
def PrR (ps:List PrW) (A:Int) (b:List cc):Prop:=(A,b)∈ps
theorem Ad {n0:Int} (h1:1≤n0) {l:List PrW} (hl:∀ p∈l,(0≤p.1∧p.1 < n0)∧∀ s∈p.2,s.1=false→0≤s.2∧s.2 < n0) {A:Int} (hA:0≤A∧A < n0) (w:List Int):Has (PrR (dK ⟨n0,[],[],0⟩ l).prods) A w↔Has (PrR l) A w:=by
 obtain ⟨I,rk,h⟩:=nW l [] ⟨n0,[],[],0⟩ (fun A=>[(false,A)]) (fun _=>0) ⟨h1,Int.le_refl _,fun _ _ _=>⟨rfl,rfl⟩,fun p hp=>(by cases hp),fun p hp=>(by cases hp),fun p hp=>(by cases hp),fun p hp=>(by cases hp),fun A h2 h3=>by
  have h3:A < n0:=h3
  omega,fun x hx=>(by cases hx),fun he=>absurd rfl he⟩ hl
 rw [List.nil_append] at h
 have hid:∀ w:List Int,w.map id=w:=List.map_id
 constructor
 ·rintro ⟨n,hg⟩
  obtain ⟨m,hm⟩:=hg.sound (R:=PrR l) (I:=I) (f:=id) (fun B b hB n w hn=>by
   have hr:=(h.rng _ hB).1
   by_cases e:B < n0
   ·rw [(h.orig B hr.1 e).1]
    exact ⟨n+1,Gen.of (h.old _ hB e) hn⟩
   ·exact ⟨n,by rw [← h.new _ hB (by show n0≤B;omega)];exact hn⟩)
  rw [hid] at hm
  rw [List.flatMap_cons,if_neg Bool.false_ne_true,(h.orig A hA.1 hA.2).1] at hm
  exact ⟨m,hm⟩
 ·rintro ⟨n,hg⟩
  have hle:=h.le
  obtain ⟨m,hm⟩:=Gen.back (R:=PrR l) (T:=PrR (dK ⟨n0,[],[],0⟩ l).prods) (I:=I) (f:=id) (g:=id) (rk:=rk) (Ok:=fun B=>0≤B∧B < (dK ⟨n0,[],[],0⟩ l).nts) (fun _=>rfl) (fun B hB=>by
   by_cases e:B < n0
   ·refine .inl ⟨B,(h.orig B hB.1 e).1,fun b hb=>?_⟩
    obtain ⟨b',k1,k2⟩:=h.done _ hb
    exact ⟨b',k1,fun s hs hf=>(h.rng _ k1).2 s hs hf,fun _ _ _=>rfl,k2⟩
   ·obtain ⟨b',k1,k2⟩:=h.help B (by omega) hB.2
    exact .inr ⟨b',k1,fun s hs hf=>⟨(h.rng _ k1).2 s hs hf,k2 s hs hf⟩,fun _ _ _=>rfl,h.new _ k1 (by show n0≤B;omega)⟩) n 1 [(false,A)] w (fun x hx _=>by
   rw [List.mem_singleton.1 hx]
   exact ⟨⟨hA.1,by show A < _;omega⟩,by show rk A < 1;rw [(h.orig A hA.1 hA.2).2];exact Nat.one_pos⟩) (fun x hx _=>rfl) (by
   rw [List.flatMap_cons,if_neg Bool.false_ne_true,(h.orig A hA.1 hA.2).1]
   exact hg)
  rw [hid] at hm
  exact ⟨m,hm⟩
end
section
def ka:Nat→List PaD→Prop
 | _,[]=>True
 | k,p::r=>p.first=k∧0 < p.n∧ka (k+p.n) r
def dt (ps:List PaD):Nat:=(ps.map PaD.n).sum
def ntF:List PaD→Nat→Nat
 | [],_=>0
 | p::r,q=>if q < p.first+p.n then 0 else ntF r q+1
def stF (ps:List PaD) (q:Nat):Bool:=ps.any fun p=>decide (p.first=q)
def nsF (ps:List PaD):Nat→Nat
 | 0=>0
 | q+1=>nsF ps q+if stF ps q=true then 0 else 1
def dU (ps:List PaD) (q:Nat):Int:=if stF ps q=true then (ntF ps q:Nat) else ((ps.length+nsF ps q:Nat):Int)
theorem t6 (ps:List PaD):∀ q,nsF ps q≤q
 | 0=>Nat.le_refl _
 | q+1=>by have:=t6 ps q;unfold nsF;split <;> omega
theorem oT (ps:List PaD) {p q:Nat} (h:p≤q):nsF ps p≤nsF ps q:=by
 induction q with
 | zero=>rw [Nat.le_zero.1 h];exact Nat.le_refl _
 | succ q ih=>
  by_cases e:p=q+1
  ·rw [e];exact Nat.le_refl _
  ·have:=ih (by omega)
   show _≤nsF ps q+_
   omega
theorem dJ:∀ {ps:List PaD} {k j:Nat} {p:PaD},ka k ps→ps[j]?=some p→k≤p.first∧p.first+p.n≤k+dt ps∧0 < p.n∧∀ i r,i < j→ps[i]?=some r→r.first+r.n≤p.first
 | x::ps,k,0,p,h,e=>by
  cases e
  obtain ⟨h1,h2,h3⟩:=h
  refine ⟨by omega,?_,h2,fun i r hi=>by omega⟩
  unfold dt
  rw [List.map_cons,List.sum_cons]
  omega
 | x::ps,k,j+1,p,h,e=>by
  obtain ⟨h1,h2,h3⟩:=h
  obtain ⟨a1,a2,a3,a4⟩:=dJ (ps:=ps) h3 (show ps[j]?=some p from e)
  refine ⟨by omega,?_,a3,fun i r hi hr=>?_⟩
  ·unfold dt at a2 ⊢
   rw [List.map_cons,List.sum_cons]
   omega
  ·match i,hr with
   | 0,hr=>cases hr;omega
   | i+1,hr=>exact a4 i r (by omega) hr
theorem ib:∀ {ps:List PaD} {k j:Nat} {p:PaD} {q:Nat},ka k ps→ps[j]?=some p→p.first≤q→q < p.first+p.n→ntF ps q=j
 | x::ps,k,0,p,q,h,e,h1,h2=>by cases e;unfold ntF;rw [if_pos h2]
 | x::ps,k,j+1,p,q,h,e,h1,h2=>by
  have e:ps[j]?=some p:=e
  have:=(dJ (ps:=x::ps) (j:=j+1) h e).2.2.2 0 x (by omega) rfl
  obtain ⟨_,_,h5⟩:=h
  unfold ntF
  rw [if_neg (by omega),ib h5 e h1 h2]
theorem jL:∀ {ps:List PaD} {k q:Nat},ka k ps→k≤q→q < k+dt ps→∃ (j:Nat) (p:PaD),ps[j]?=some p∧p.first≤q∧q < p.first+p.n
 | [],k,q,_,h1,h2=>by unfold dt at h2;simp at h2;omega
 | x::ps,k,q,h,h1,h2=>by
  obtain ⟨a1,a2,a3⟩:=h
  by_cases hq:q < x.first+x.n
  ·exact ⟨0,x,rfl,by omega,hq⟩
  ·unfold dt at h2
   rw [List.map_cons,List.sum_cons] at h2
   obtain ⟨j,p,e,h3,h4⟩:=jL a3 (q:=q) (by omega) (by unfold dt;omega)
   exact ⟨j+1,p,e,h3,h4⟩
section
variable {ps:List PaD}
theorem sL (h:ka 0 ps) {j:Nat} {p:PaD} {q:Nat} (hj:ps[j]?=some p) (h1:p.first≤q) (h2:q < p.first+p.n):stF ps q=decide (p.first=q):=by
 rw [Bool.eq_iff_iff]
 unfold stF
 rw [List.any_eq_true,decide_eq_true_iff]
 constructor
 ·rintro ⟨r,hr,e⟩
  have e:=of_decide_eq_true e
  obtain ⟨i,hi⟩:=List.getElem?_of_mem hr
  have hr1:=dJ h hi
  have:=ib h hi (q:=q) (by omega) (by omega)
  rw [ib h hj h1 h2] at this
  subst this
  rw [hj] at hi
  cases hi
  exact e
 ·intro e
  exact ⟨p,List.mem_of_getElem? hj,decide_eq_true e⟩
theorem yI (h:ka 0 ps) {j:Nat} {p:PaD} (hj:ps[j]?=some p):dU ps p.first=(j:Nat):=by
 have hp:=dJ h hj
 unfold dU
 rw [sL h hj (Nat.le_refl _) (by omega),if_pos (decide_eq_true rfl),ib h hj (Nat.le_refl _) (by omega)]
theorem C9 (h:ka 0 ps) {q q':Nat} (hq:q < dt ps) (hq':q' < dt ps) (e:dU ps q=dU ps q'):q=q':=by
 obtain ⟨j,p,hj,a1,a2⟩:=jL h (Nat.zero_le q) (by omega)
 obtain ⟨j',p',hj',a1',a2'⟩:=jL h (Nat.zero_le q') (by omega)
 have hl:=(List.getElem?_eq_some_iff.1 hj).1
 have hl':=(List.getElem?_eq_some_iff.1 hj').1
 have s:=sL h hj a1 a2
 have s':=sL h hj' a1' a2'
 unfold dU at e
 rw [ib h hj a1 a2,ib h hj' a1' a2'] at e
 by_cases b:stF ps q=true
 ·rw [if_pos b] at e
  by_cases b':stF ps q'=true
  ·rw [if_pos b'] at e
   have:j=j':=by omega
   subst this
   rw [hj] at hj'
   cases hj'
   rw [b] at s
   rw [b'] at s'
   have:=of_decide_eq_true s.symm
   have:=of_decide_eq_true s'.symm
   omega
  ·rw [if_neg b'] at e;omega
 ·rw [if_neg b] at e
  by_cases b':stF ps q'=true
  ·rw [if_pos b'] at e;omega
  ·rw [if_neg b'] at e
   rcases Nat.lt_trichotomy q q' with hlt | heq | hlt
   ·have:=oT ps (p:=q+1) (q:=q') hlt
    have h2:nsF ps (q+1)=nsF ps q+1:=by show nsF ps q+(if stF ps q=true then 0 else 1)=_;rw [if_neg b]
    omega
   ·exact heq
   ·have:=oT ps (p:=q'+1) (q:=q) hlt
    have h2:nsF ps (q'+1)=nsF ps q'+1:=by show nsF ps q'+(if stF ps q'=true then 0 else 1)=_;rw [if_neg b']
    omega
theorem CT (h:ka 0 ps) {q:Nat} (hq:q < dt ps):0≤dU ps q∧dU ps q < ((ps.length+nsF ps (dt ps):Nat):Int):=by
 obtain ⟨j,p,hj,a1,a2⟩:=jL h (Nat.zero_le q) (by omega)
 have hl:=(List.getElem?_eq_some_iff.1 hj).1
 unfold dU
 rw [ib h hj a1 a2]
 by_cases b:stF ps q=true
 ·rw [if_pos b];omega
 ·rw [if_neg b]
  have:=oT ps (p:=q+1) (q:=dt ps) hq
  have h2:nsF ps (q+1)=nsF ps q+1:=by show nsF ps q+(if stF ps q=true then 0 else 1)=_;rw [if_neg b]
  omega
end
section
variable (leaf:Nat→List UInt8→SyD) (g:List RuleD)
theorem lD:∀ (l:List (List UInt8)) (k:Nat),ka k (cS leaf g k l)
 | [],_=>trivial
 | s::l,k=>⟨rfl,Nat.succ_pos _,lD l _⟩
theorem iW:∀ (l:List (List UInt8)) (k:Nat),dt (cS leaf g k l)=aU leaf g l
 | [],_=>rfl
 | s::l,k=>by
  have ih:=iW l (k+dD leaf g s)
  unfold dt aU at ih ⊢
  show dD leaf g s+((cS leaf g (k+dD leaf g s) l).map PaD.n).sum=_
  rw [ih,List.map_cons,List.sum_cons]
end
end
namespace Pr
abbrev F3:=Int × Int × Int
def f3V (f:F3):Value:=.agg #[i64 f.1,i64 f.2.1,i64 f.2.2]
def fw (n:Nat):List (F3 × Value)→List MapEntry
 | []=>[]
 | (k,v)::l=>{ key:=f3V k,val:=v,born:=n }::fw (n+1) l
def cP (l:List (F3 × Value)):Obj:=.map (fw 0 l).toArray l.length
def iD (k:F3):List (F3 × Value)→Nat→Option (Nat × Value)
 | [],_=>none
 | (a,v)::l,i=>if k=a then some (i,v) else iD k l (i+1)
theorem nk (k:F3) (v:Value):∀ (l:List (F3 × Value)) (n:Nat),fw n (l++[(k,v)])=fw n l++[{ key:=f3V k,val:=v,born:=n+l.length }]
 | [],n=>rfl
 | (a,u)::l,n=>by
  show _::fw (n+1) (l++[(k,v)])=_::(fw (n+1) l++_)
  rw [nk k v l (n+1),List.length_cons,show n+1+l.length=n+(l.length+1) by omega]
class K3 (P:Program) (kt:TypeId):Prop where
 eq:∀ a b:F3,EqR P 10000 kt (f3V a) (f3V b) (decide (a=b))
 un:∃ fs,P.underlying kt=some (.struct fs)
 ck:∀ (e:Bool) (a:F3) (w:World),(Instr.checkKey e 10000 kt (f3V a)).run P w=.ok () w
class ZV (P:Program) (t:TypeId) (z:outParam Value):Prop where out:(P.info? t).bind (·.zero)=some z
theorem fE {P:Program} {t:TypeId} {z:Value} [h:ZV P t z] (w:World):(zeroValue t).run P w=.ok z w:=by
 have h1:=h.out
 cases hq:P.info? t with
 | none=>simp [hq] at h1
 | some i=>
  simp [hq] at h1
  simp [zeroValue,typeInfo,hq,h1]
section
variable {P:Program} {kt:TypeId} [hk:K3 P kt]
theorem vx (k:F3) (w:World):∀ (l:List (F3 × Value)) (n i:Nat),(Instr.findAsking kt (f3V k) (fw n l) i).run P w=.ok (iD k l i) w
 | [],n,i=>by simp [fw,Instr.findAsking,iD]
 | (a,v)::l,n,i=>by
  have he:(Op.equal kt (f3V k) (f3V a)).run P w=.ok (decide (k=a)) w:=by
   have:=hk.eq k a w
   simpa [Op.equal,Op.maxDepth] using this
  have ih:=vx k w l (n+1) (i+1)
  unfold iD
  simp only [fw,Instr.findAsking,Sem.run_bind,he,Result.andThen_ok]
  by_cases h:k=a
  ·rw [if_pos h,decide_eq_true h];simp
  ·rw [if_neg h,decide_eq_false h];simpa using ih
theorem ni (k:F3) (l:List (F3 × Value)) (w:World):(Instr.findKey kt (f3V k) (fw 0 l)).run P w=.ok (iD k l 0) w:=by
 obtain ⟨fs,hu⟩:=hk.un
 have hf:=vx (P:=P) (kt:=kt) k w l 0 0
 unfold Instr.findKey
 rw [Sem.run_bind,run_underlying hu,Result.andThen_ok]
 cases l with
 | nil=>simp [fw,Instr.findNow,iD]
 | cons x l=>
  obtain ⟨a,v⟩:=x
  have:Instr.findNow (.struct fs) (f3V k) (fw 0 ((a,v)::l)) 0=none:=rfl
  rw [this]
  exact hf
end
def xH (z:Value) (k:F3) (l:List (F3 × Value)):Value:=match iD k l 0 with
 | some (_,v)=>.tuple #[v,.bool true]
 | none=>.tuple #[z,.bool false]
section rules
variable {P:Program} {c:Cx} {A:Array Oper} {rest:List Oper} {K:aY} {L:Env} {H F:List HP} {t:TypeId} {p:String} {e:Array Edge}
variable {d b:Nat} {x y u:Operand} {mt kt et:TypeId} {k:F3} {l:List (F3 × Value)} {v z:Value}
theorem GO.makeMap (hN:Nat.blt d c.N=true) (k:∀ b,GO P c A rest K ((d,.map (some b))::L) (pt b (cP [])::H)):GO P c A (⟨some d,.makeMap mt none,t,p,e,none⟩::rest) K L H:=
 GO.gen hN rfl (fun v H'=>∃ b,v=.map (some b)∧H'=pt b (cP [])::H)
  (fun a w Y h s=>⟨.map (some w.heap.size),w.alloc (cP []),_,by
   simp only [execOp,Instr.makeMap,Option.map_none]
   simp [Result.andThen,cP,fw],Same.alloc w _,⟨w.heap.size,rfl,rfl⟩,bh s _⟩) (by rintro _ _ ⟨b,rfl,rfl⟩;exact k b)
theorem GO.lookupK [hm:UL P mt (.map kt et)] [hk:K3 P kt] [hz:ZV P et z] (hN:Nat.blt d c.N=true) (hx:evl L x=some (.map (some b))) (hy:evl L y=some (f3V k)) (tk:Tk (pt b (cP l)) H F)
  (g:GO P c A rest K ((d,xH z k l)::L) H):GO P c A (⟨some d,.lookup mt x y true,t,p,e,none⟩::rest) K L H:=
 GO.val hN rfl (fun a w Y h s=>by
  have hb:=aT (ai (List.Perm.append_right Y tk) s)
  simp only [execOp,h.eval hx,h.eval hy,Instr.lookup]
  simp only [Sem.run_bind,run_underlying hm.out,Result.andThen_ok,MapKept.run_getObj_map hb,Sem.run_pure]
  simp only [hk.ck,ni,Result.andThen_ok]
  unfold xH
  cases hf:iD k l 0 with
  | none=>simp [hf,fE,Result.andThen]
  | some q=>obtain ⟨i,v⟩:=q;simp [hf,Result.andThen]) g
theorem GO.insertK [hm:UL P mt (.map kt et)] [hk:K3 P kt] (hx:evl L x=some (.map (some b))) (hy:evl L y=some (f3V k)) (hu:evl L u=some v) (tk:Tk (pt b (cP l)) H F) (hn:iD k l 0=none)
  (g:GO P c A rest K L (pt b (cP (l++[(k,v)]))::F)):GO P c A (⟨none,.mapUpdate mt x y u,t,p,e,none⟩::rest) K L H:=
 GO.genS rfl (fun a w Y h s=>by
  have s':=ai (List.Perm.append_right Y tk) s
  have hb:=aT s'
  refine ⟨{ w with heap:=w.heap.setIfInBounds b (cP (l++[(k,v)])) },?_,⟨rfl,rfl,rfl,by simp,Nat.le_refl _⟩,bE s' ?_ ?_⟩
  ·simp only [execOp,h.eval hx,h.eval hy,h.eval hu,Instr.mapUpdate]
   simp only [Sem.run_bind,run_underlying hm.out,Result.andThen_ok,MapKept.run_getObj_map hb,hk.ck,ni,hn]
   rw [MapKept.run_setObj_map _ hb]
   simp [Result.andThen,cP,nk]
  ·have hlt:=(Array.getElem?_eq_some_iff.1 hb).1
   simp [hlt]
  ·intro j hj
   rw [Array.getElem?_setIfInBounds_ne (Ne.symm hj)]) g
end rules
end Pr
namespace Pr
abbrev bi:=Bool × Int
abbrev aF:=Int × List bi
structure CnfD where
 nts:Int
 prods:List aF
def symsV (ss:List bi):List Value:=ss.flatMap fun s=>[.bool s.1,i64 s.2]
theorem symsV_len (ss:List bi):(symsV ss).length=ss.length * 2:=by
 induction ss with
 | nil=>rfl
 | cons s ss ih=>simp only [symsV,List.flatMap_cons,List.length_append,List.length_cons,List.length_nil] at ih ⊢;omega
theorem yk (ss:List bi):∀ u∈symsV ss,u.oneCell'=true:=by
 intro u hu
 obtain ⟨s,_,h⟩:=List.mem_flatMap.1 hu
 simp at h
 rcases h with rfl | rfl <;> rfl
theorem qQ:∀ {ss:List bi} {k:Nat} {s:bi},ss[k]?=some s→(symsV ss)[k * 2]?=some (.bool s.1)∧(symsV ss)[k * 2+1]?=some (i64 s.2)
 | [],_,_,h=>by simp at h
 | t::ss,0,s,h=>by simp at h;subst h;simp [symsV]
 | t::ss,k+1,s,h=>by
  have:=qQ (ss:=ss) (k:=k) (by simpa using h)
  have e:symsV (t::ss)=.bool t.1::i64 t.2::symsV ss:=rfl
  rw [e,show (k+1) * 2=k * 2+2 by omega]
  simpa using this
def SymsR (q:HP) (v:Value) (ss:List bi):Prop:=Sl q v ss.length 2 (symsV ss)
def PrsR (q:HP) (v:Value) (ps:List aF):Prop:=
 ∃ cells,Sl q v ps.length 2 cells∧∀ k p,ps[k]?=some p→∃ bv,cells[k * 2]?=some (i64 p.1)∧cells[k * 2+1]?=some bv∧SymsR q bv p.2
def CnfR (q:HP) (v:Value) (C:CnfD):Prop:=∃ pv,v=.agg [i64 C.nts,pv].toArray∧PrsR q pv C.prods
theorem SymsR.sup {q q':HP} (h:Sup q q') {v:Value} {ss:List bi} (k:SymsR q v ss):SymsR q' v ss:=Sl.sup h k
theorem PrsR.sup {q q':HP} (h:Sup q q') {v:Value} {ps:List aF} (k:PrsR q v ps):PrsR q' v ps:=by
 obtain ⟨cells,h1,h2⟩:=k
 exact ⟨cells,Sl.sup h h1,fun k p hp=>let ⟨bv,a,b,c⟩:=h2 k p hp;⟨bv,a,b,c.sup h⟩⟩
theorem CnfR.sup {q q':HP} (h:Sup q q') {v:Value} {C:CnfD} (k:CnfR q v C):CnfR q' v C:=let ⟨pv,a,b⟩:=k;⟨pv,a,b.sup h⟩
theorem SymsR.form {q:HP} {v:Value} {ss:List bi} (h:SymsR q v ss):∃ a cap,v=.slice a ss.length cap:=let ⟨a,cap,e,_⟩:=h;⟨a,cap,e⟩
theorem PrsR.form {q:HP} {v:Value} {ps:List aF} (h:PrsR q v ps):∃ a cap,v=.slice a ps.length cap:=let ⟨_,⟨a,cap,e,_⟩,_⟩:=h;⟨a,cap,e⟩
theorem SymsR.at {q:HP} {a:Option Addr} {n cap k:Nat} {ss:List bi} {s:bi} (h:SymsR q (.slice a n cap) ss) (hk:ss[k]?=some s) :
  ∃ b o,a=some ⟨b,o,none⟩∧n=ss.length∧Rd q ⟨b,o+k * 2,none⟩ (.bool s.1)∧Rd q ⟨b,o+k * 2+1,none⟩ (i64 s.2):=by
 obtain ⟨a',cap',e,hl,hr⟩:=h
 injection e with e1 e2 e3
 subst e1 e2
 have hlt:=(List.getElem?_eq_some_iff.1 hk).1
 obtain ⟨b,o,rfl,hr'⟩:=hr (by omega)
 obtain ⟨h1,h2⟩:=qQ hk
 exact ⟨b,o,rfl,rfl,hr' _ _ h1,hr' _ _ h2⟩
theorem PrsR.at {q:HP} {a:Option Addr} {n cap k:Nat} {ps:List aF} {p:aF} (h:PrsR q (.slice a n cap) ps) (hk:ps[k]?=some p) :
  ∃ b o bv,a=some ⟨b,o,none⟩∧n=ps.length∧Rd q ⟨b,o+k * 2,none⟩ (i64 p.1)∧Rd q ⟨b,o+k * 2+1,none⟩ bv∧SymsR q bv p.2:=by
 obtain ⟨cells,⟨a',cap',e,hl,hr⟩,hc⟩:=h
 injection e with e1 e2 e3
 subst e1 e2
 have hlt:=(List.getElem?_eq_some_iff.1 hk).1
 obtain ⟨b,o,rfl,hr'⟩:=hr (by omega)
 obtain ⟨bv,h1,h2,h3⟩:=hc k p hk
 exact ⟨b,o,bv,rfl,rfl,hr' _ _ h1,hr' _ _ h2,h3⟩
def Fits (C:CnfD):Prop:=C.prods.length * 32≤140737488355328∧∀ p∈C.prods,p.2.length * 16≤140737488355328
end Pr
namespace Pr
attribute [local irreducible] G GO GR GT Fn pt init exs pur sat own ImpS
theorem sv (n:Int):Tryz.prog.built 33 [(0,i64 n)]=some [i64 n,.slice none 0 0].toArray:=by kernel_rfl
end Pr
namespace Pr
attribute [local irreducible] G GO GR GT Fn pt init exs pur sat own ImpS
def symOK (n:Int) (s:bi):Bool:=!(decide (s.2 < 0) || (s.1 && decide (16≤s.2)) || (!s.1 && decide (n≤s.2)))
def prodOK (n:Int) (p:aF):Bool:=!(decide (p.1 < 0) || decide (n≤p.1)) && p.2.all (symOK n)
def okC (C:CnfD):Bool:=!(decide (C.nts < 1) || decide (1024 < C.nts)) && C.prods.all (prodOK C.nts)
end Pr
namespace Pr
inductive Der (C:CnfD) (w:List Int):Int→Nat→Nat→Prop
 | none {A:Int} {i:Nat} (h:(A,[])∈C.prods) (hi:i≤w.length):Der C w A i i
 | one {A:Int} {s:bi} {i:Nat} (h:(A,[s])∈C.prods) (hi:w[i]?=some s.2):Der C w A i (i+1)
 | two {A:Int} {s t:bi} {i j k:Nat} (h:(A,[s,t])∈C.prods) (h1:Der C w s.2 i k) (h2:Der C w t.2 k j):Der C w A i j
theorem Der.le {C:CnfD} {w:List Int} {A:Int} {i j:Nat} (h:Der C w A i j):i≤j∧j≤w.length:=by
 induction h with
 | none _ hi=>exact ⟨Nat.le_refl _,hi⟩
 | one _ hi=>exact ⟨Nat.le_succ _,(List.getElem?_eq_some_iff.1 hi).1⟩
 | two _ _ _ ih1 ih2=>exact ⟨Nat.le_trans ih1.1 ih2.1,ih2.2⟩
theorem Der.head {C:CnfD} {w:List Int} {A:Int} {i j:Nat} (h:Der C w A i j):∃ b,(A,b)∈C.prods:=by
 cases h with
 | none h _=>exact ⟨_,h⟩
 | one h _=>exact ⟨_,h⟩
 | two h _ _=>exact ⟨_,h⟩
def bI (A:Int) (i j:Nat):F3:=(A,(i:Nat),(j:Nat))
def Sound (C:CnfD) (w:List Int) (fs:List F3):Prop:=∀ f∈fs,∃ A i j,f=bI A i j∧Der C w A i j
def BaseP (w:List Int) (p:aF) (fs:List F3):Prop:=
 (p.2=[]→∀ i,i≤w.length→bI p.1 i i∈fs)∧(∀ s,p.2=[s]→∀ i,w[i]?=some s.2→bI p.1 i (i+1)∈fs)
def JoinP (p:aF) (A:Int) (i j:Nat) (fs gs:List F3):Prop:=
 ∀ s t,p.2=[s,t]→(s.2=A→∀ k,bI t.2 j k∈fs→bI p.1 i k∈gs)∧(t.2=A→∀ k,bI s.2 k i∈fs→bI p.1 k j∈gs)
theorem mH {A B:Int} {i j k l:Nat} (h:bI A i j=bI B k l):A=B∧i=k∧j=l:=by
 unfold bI at h
 simp only [Prod.mk.injEq] at h
 omega
theorem wW {C:CnfD} {w:List Int} {fs:List F3} (hb:∀ p∈C.prods,BaseP w p fs)
  (hj:∀ p∈C.prods,∀ s t,p.2=[s,t]→∀ i k j,bI s.2 i k∈fs→bI t.2 k j∈fs→bI p.1 i j∈fs) {A:Int} {i j:Nat} (h:Der C w A i j):bI A i j∈fs:=by
 induction h with
 | none h hi=>exact (hb _ h).1 rfl _ hi
 | one h hi=>exact (hb _ h).2 _ rfl _ hi
 | two h _ _ ih1 ih2=>exact hj _ h _ _ rfl _ _ _ ih1 ih2
def xt (n m:Nat):List F3:=(List.range n).flatMap fun a=>(List.range (m+1)).flatMap fun i=>(List.range (m+1)).map fun j=>bI (a:Nat) i j
theorem yc (n m:Nat):(xt n m).length=n * ((m+1) * (m+1)):=by
 have h1:∀ (l:List Nat) (f:Nat→List F3) (k:Nat),(∀ x∈l,(f x).length=k)→(l.flatMap f).length=l.length * k:=by
  intro l f k
  induction l with
  | nil=>intro _;simp
  | cons x l ih=>
   intro h
   rw [List.flatMap_cons,List.length_append,h x (List.mem_cons_self ..),ih (fun y hy=>h y (List.mem_cons_of_mem _ hy)),List.length_cons,Nat.add_mul];omega
 unfold xt
 rw [h1 _ _ ((m+1) * (m+1)) (fun a _=>by
  rw [h1 _ _ (m+1) (fun i _=>by simp)];simp)]
 simp
theorem B1 {n m A i j:Nat} (h:A < n) (hi:i≤m) (hj:j≤m):bI (A:Nat) i j∈xt n m:=by
 unfold xt
 simp only [List.mem_flatMap,List.mem_map,List.mem_range]
 exact ⟨A,h,i,by omega,j,by omega,rfl⟩
theorem nodup_len {α:Type} [DecidableEq α]:∀ {l m:List α},l.Nodup→(∀ x∈l,x∈m)→l.length≤m.length
 | [],m,_,_=>Nat.zero_le _
 | a::l,m,hn,hs=>by
  rw [List.nodup_cons] at hn
  have ha:=hs a (List.mem_cons_self ..)
  have h1:l.length≤(m.erase a).length:=nodup_len hn.2 fun x hx=>by
   rw [List.mem_erase_of_ne (fun e=>hn.1 (by rw [← e];exact hx))]
   exact hs x (List.mem_cons_of_mem _ hx)
  rw [List.length_erase_of_mem ha] at h1
  have:=List.length_pos_of_mem ha
  simp only [List.length_cons];omega
theorem okC_nts {C:CnfD} (h:okC C=true):1≤C.nts∧C.nts≤1024:=by
 unfold okC at h
 simp only [Bool.and_eq_true,Bool.not_eq_true',Bool.or_eq_false_iff,decide_eq_false_iff_not] at h
 omega
theorem okC_prod {C:CnfD} (h:okC C=true) {p:aF} (hp:p∈C.prods):0≤p.1∧p.1 < C.nts:=by
 unfold okC at h
 rw [Bool.and_eq_true] at h
 have h2:=List.all_eq_true.1 h.2 p hp
 unfold prodOK at h2
 simp only [Bool.and_eq_true,Bool.not_eq_true',Bool.or_eq_false_iff,decide_eq_false_iff_not] at h2
 omega
theorem yu {C:CnfD} {w:List Int} {fs:List F3} (hC:okC C=true) (hs:Sound C w fs) (hn:fs.Nodup):fs.length≤C.nts.toNat * ((w.length+1) * (w.length+1)):=by
 rw [← yc]
 refine nodup_len hn fun f hf=>?_
 obtain ⟨A,i,j,rfl,hd⟩:=hs f hf
 obtain ⟨b,hb⟩:=hd.head
 have h1:=okC_prod hC hb
 dsimp only at h1
 have h2:=hd.le
 obtain ⟨a,rfl⟩:=Int.eq_ofNat_of_zero_le h1.1
 exact B1 (by omega) (by omega) (by omega)
def ij (fs:List F3) (f:F3):List F3:=if f∈fs then fs else fs++[f]
theorem qd {fs:List F3} {f g:F3}:g∈ij fs f↔g∈fs∨g=f:=by
 unfold ij
 split
 ·rename_i h
  constructor
  ·exact .inl
  ·rintro (h1 | rfl)
   ·exact h1
   ·exact h
 ·simp
theorem jm {fs:List F3} (h:fs.Nodup) (f:F3):(ij fs f).Nodup:=by
 unfold ij
 split
 ·exact h
 ·rename_i hf
  rw [List.nodup_append]
  exact ⟨h,by simp,fun a ha b hb=>by simp at hb;subst hb;exact fun e=>hf (e ▸ ha)⟩
theorem BE (fs:List F3) (f:F3):∃ t,ij fs f=fs++t:=by
 unfold ij
 split
 ·exact ⟨[],by simp⟩
 ·exact ⟨[f],rfl⟩
theorem jl {C:CnfD} {w:List Int} {fs:List F3} (h:Sound C w fs) {A:Int} {i j:Nat} (hd:Der C w A i j):Sound C w (ij fs (bI A i j)):=fun f hf=>by
 rcases qd.1 hf with h1 | rfl
 ·exact h f h1
 ·exact ⟨A,i,j,rfl,hd⟩
theorem JoinP.mono {p:aF} {A:Int} {i j:Nat} {fs gs hs:List F3} (h:JoinP p A i j fs gs) (k:∀ x∈gs,x∈hs):JoinP p A i j fs hs:=fun s t e=>
 ⟨fun h1 n hn=>k _ ((h s t e).1 h1 n hn),fun h1 n hn=>k _ ((h s t e).2 h1 n hn)⟩
theorem BaseP.mono {w:List Int} {p:aF} {fs gs:List F3} (h:BaseP w p fs) (k:∀ x∈fs,x∈gs):BaseP w p gs:=
 ⟨fun e i hi=>k _ (h.1 e i hi),fun s e i hi=>k _ (h.2 s e i hi)⟩
end Pr
namespace Pr
theorem EqFs.three {P:Program} {t:TypeId} {k:IntKind} [UL P t (.int k)] {d:Nat} {f1 f2 f3:Field} {a b c a' b' c':Int} (n1:f1.name ≠ "_") (n2:f2.name ≠ "_") (n3:f3.name ≠ "_") (t1:f1.type=t) (t2:f2.type=t) (t3:f3.type=t) (o1:f1.offset=0) (o2:f2.offset=1) (o3:f3.offset=2) :
  EqFs P (d+1) [i64 a,i64 b,i64 c] [i64 a',i64 b',i64 c'] [f1,f2,f3] (decide (a=a') && (decide (b=b') && decide (c=c'))):=by
 refine ⟨i64 a,i64 a',decide (a=a'),_,n1,?_,?_,?_,⟨i64 b,i64 b',decide (b=b'),_,n2,?_,?_,?_,⟨i64 c,i64 c',decide (c=c'),true,n3,?_,?_,?_,rfl,by simp⟩,rfl⟩,rfl⟩
 ·rw [t1,o1];exact PartR.one rfl rfl
 ·rw [t1,o1];exact PartR.one rfl rfl
 ·rw [t1];exact EqR.int
 ·rw [t2,o2];exact PartR.one rfl rfl
 ·rw [t2,o2];exact PartR.one rfl rfl
 ·rw [t2];exact EqR.int
 ·rw [t3,o3];exact PartR.one rfl rfl
 ·rw [t3,o3];exact PartR.one rfl rfl
 ·rw [t3];exact EqR.int
theorem EqR.f3 (a b:F3):EqR Tryz.prog 10000 195 (f3V a) (f3V b) (decide (a=b)):=by
 have h:EqR Tryz.prog (9998+1+1) 195 (.agg [i64 a.1,i64 a.2.1,i64 a.2.2].toArray) (.agg [i64 b.1,i64 b.2.1,i64 b.2.2].toArray) (decide (a.1=b.1) && (decide (a.2.1=b.2.1) && decide (a.2.2=b.2.2))):=
  EqR.struct (EqFs.three (t:=3) (by decide) (by decide) (by decide) rfl rfl rfl rfl rfl rfl)
 rwa [show (decide (a.1=b.1) && (decide (a.2.1=b.2.1) && decide (a.2.2=b.2.2)))=decide (a=b) by
  rw [Bool.eq_iff_iff];simp only [Bool.and_eq_true,decide_eq_true_iff];exact ⟨fun h=>Prod.ext h.1 (Prod.ext h.2.1 h.2.2),fun h=>by rw [h];exact ⟨rfl,rfl,rfl⟩⟩] at h
theorem Bx (e:Bool) (a:F3) (w:World):(Instr.checkKey e 10000 195 (f3V a)).run Tryz.prog w=.ok () w:=by
 have h3:∀ (v:Value) (w:World),(∃ n,v=i64 n)→(Instr.checkKey e 9999 3 v).run Tryz.prog w=.ok () w:=fun v w ⟨n,hv⟩=>by
  subst hv
  unfold Instr.checkKey
  rw [Sem.run_bind,run_underlying Tryz.underlying3,Result.andThen_ok]
  rfl
 have p0:∀ w,(part 3 [i64 a.1,i64 a.2.1,i64 a.2.2].toArray 0).run Tryz.prog w=.ok (i64 a.1) w:=fun w=>gd (P:=Tryz.prog) (t:=3) rfl rfl w
 have p1:∀ w,(part 3 [i64 a.1,i64 a.2.1,i64 a.2.2].toArray 1).run Tryz.prog w=.ok (i64 a.2.1) w:=fun w=>gd (P:=Tryz.prog) (t:=3) rfl rfl w
 have p2:∀ w,(part 3 [i64 a.1,i64 a.2.1,i64 a.2.2].toArray 2).run Tryz.prog w=.ok (i64 a.2.2) w:=fun w=>gd (P:=Tryz.prog) (t:=3) rfl rfl w
 unfold Instr.checkKey f3V
 rw [Sem.run_bind,run_underlying Tryz.underlying195,Result.andThen_ok]
 simp [Sem.run_bind,Result.andThen,p0,p1,p2,h3]
instance:K3 Tryz.prog 195:=⟨EqR.f3,⟨_,Tryz.underlying195⟩,Bx⟩
instance:ZV Tryz.prog 3 (i64 0):=⟨by kernel_rfl⟩
def fi (n:Nat):List F3→List (F3 × Value)
 | []=>[]
 | f::fs=>(f,i64 (n:Nat))::fi (n+1) fs
theorem rF (f:F3):∀ (fs:List F3) (n:Nat),fi n (fs++[f])=fi n fs++[(f,i64 ((n+fs.length:Nat):Int))]
 | [],n=>rfl
 | g::fs,n=>by
  show _::fi (n+1) (fs++[f])=_::(fi (n+1) fs++_)
  rw [rF f fs (n+1),List.length_cons,show n+1+fs.length=n+(fs.length+1) by omega]
theorem pC (f:F3):∀ (fs:List F3) (n i:Nat),(f∈fs→∃ j v,iD f (fi n fs) i=some (j,v))∧(f ∉ fs→iD f (fi n fs) i=none)
 | [],n,i=>⟨fun h=>by simp at h,fun _=>rfl⟩
 | g::fs,n,i=>by
  have ih:=pC f fs (n+1) (i+1)
  have e:iD f (fi n (g::fs)) i=if f=g then some (i,i64 (n:Nat)) else iD f (fi (n+1) fs) (i+1):=rfl
  rw [e]
  by_cases h:f=g
  ·rw [if_pos h]
   exact ⟨fun _=>⟨_,_,rfl⟩,fun hn=>absurd (by rw [h];exact List.mem_cons_self ..) hn⟩
  ·rw [if_neg h]
   simp only [List.mem_cons,h,false_or]
   exact ih
theorem B6 (f:F3) (fs:List F3) (z:Value):∃ v,xH z f (fi 0 fs)=.tuple #[v,.bool (decide (f∈fs))]:=by
 obtain ⟨h1,h2⟩:=pC f fs 0 0
 unfold xH
 by_cases h:f∈fs
 ·obtain ⟨j,v,e⟩:=h1 h
  rw [e,decide_eq_true h];exact ⟨v,rfl⟩
 ·rw [h2 h,decide_eq_false h];exact ⟨z,rfl⟩
def fJ (fs:List F3):List Value:=fs.flatMap fun f=>[i64 f.1,i64 f.2.1,i64 f.2.2]
theorem zG (fs:List F3) (f:F3):fJ (fs++[f])=fJ fs++[i64 f.1,i64 f.2.1,i64 f.2.2]:=by simp [fJ]
abbrev fm (b:Nat):Value:=.pointer (some ⟨b,0,none⟩)
abbrev nB (bt:Nat) (n:Int) (pv wv:Value) (bm:Nat) (rv:Value):HP:=pt bt (row [i64 n,pv,wv,.map (some bm),rv] 246)
abbrev fZ (bt:Nat) (n:Int) (pv wv:Value) (bm:Nat) (rv:Value) (fs:List F3):List HP:=[nB bt n pv wv bm rv,pt bm (cP (fi 0 fs)),own 195 3 fs.length rv (fJ fs)]
attribute [local irreducible] G GO GR GT Fn FnV pt init exs pur sat own ImpS fJ fi cP
theorem lS (bt:Nat) (n:Int) (pv wv:Value) (bm:Nat) (rv:Value) (fs:List F3) (f:F3) :
  Fn Tryz.prog 114 #[fm bt,f3V f] (fZ bt n pv wv bm rv fs) (fun r Q=>r=.bool (decide (f∈fs))∧Q=fZ bt n pv wv bm rv fs):=by
 obtain ⟨u,hu⟩:=B6 f fs (i64 0)
 obtain ⟨f1,f2,f3⟩:=f
 refine Fn.mk2 Tryz.func114 rfl rfl fun w0 F=>?_
 (apply Ru;refine GO.box rfl rfl rfl fun b3=>?_;apply Ru)
 refine dr 11 ?_
 (apply Ru;(apply GQ.step;focus (intro Z;refine GO.loadW rfl rfl rfl Tk.h rfl ?_;exact KQ.z)))
 apply GQ.step;focus (intro Z;refine GO.lookupK (l:=fi 0 fs) (k:=(f1,f2,f3)) rfl rfl rfl (Tk.t (Tk.t Tk.h)) ?_;rw [hu];exact KQ.z)
 apply Ru
 exact kr1 rfl ⟨rfl,rfl⟩
theorem m9 (bt:Nat) (n:Int) (pv wv:Value) (bm:Nat) (rv:Value) (fs:List F3) (f:F3) (hn:¬ 10000000≤fs.length) :
  Fn Tryz.prog 203 #[fm bt,f3V f] (fZ bt n pv wv bm rv fs) (fun r Q=>∃ rv',Q=fZ bt n pv wv bm rv' (ij fs f)):=by
 have hs:=lS bt n pv wv bm rv fs f
 obtain ⟨_,hnone⟩:=pC f fs 0 0
 have hsn:=zG fs f
 have hnum:=rF f fs 0
 rw [Nat.zero_add] at hnum
 unfold ij
 by_cases hf:f∈fs
 ·rw [decide_eq_true hf] at hs
  rw [if_pos hf]
  obtain ⟨f1,f2,f3⟩:=f
  refine Fn.mk2 Tryz.func203 rfl rfl fun w0 F=>?_
  (apply Ru;refine GO.box rfl rfl rfl fun b3=>?_;apply Ru;refine GO.loadW rfl rfl rfl Tk.h rfl ?_)
  refine scl (hs) ?_
  rintro _ _ ⟨rfl,rfl⟩
  (apply Ru;refine G.condF rfl rfl ?_;apply Ru)
  refine KF2.n0 rfl ⟨rv,rfl⟩ (ImpS.sb ?_)
  exact SB
 ·rw [decide_eq_false hf] at hs
  rw [if_neg hf]
  replace hnone:=hnone hf
  obtain ⟨f1,f2,f3⟩:=f
  dsimp only at hsn
  refine Fn.mk2 Tryz.func203 rfl rfl fun w0 F=>?_
  (apply Ru;refine GO.box rfl rfl rfl fun b3=>?_;apply Ru;refine GO.loadW rfl rfl rfl Tk.h rfl ?_)
  refine scl (hs) ?_
  rintro _ _ ⟨rfl,rfl⟩
  (apply Ru;refine G.condT rfl rfl ?_;apply Ru)
  refine dr 10 ?_
  (apply Ru;(apply GQ.step;focus (intro Z;refine GO.loadW rfl rfl rfl (Tk.t (Tk.t (Tk.t Tk.h))) rfl ?_;exact KQ.z));apply Ru)
  refine GO.insertK (l:=fi 0 fs) (k:=(f1,f2,f3)) rfl rfl rfl (Tk.t Tk.h) hnone ?_
  rw [← hnum]
  apply Ru
  refine drT 10 192 [nB bt n pv wv bm rv,pt b3 (row [i64 f1,i64 f2,i64 f3] 195)] ?_
  (apply Ru;(apply GR.step rfl;focus (intro Z;refine GO.loadW rfl rfl rfl (Tk.t Tk.h) rfl ?_;exact KQ.z));apply Ru)
  (repeat refine GT.skip rfl ?_)
  refine GT.step rfl ?_
  refine GO.buildSlice1 (n:=3) (v1:=.agg #[i64 f1,i64 f2,i64 f3]) rfl rfl (fun v hv=>by rw [List.mem_singleton.1 hv];rfl) rfl ⟨by omega,by omega⟩ fun bs=>?_
  refine gtn ?_
  refine GT.step rfl ?_
  refine GO.appendOwn (m:=1) (news:=[i64 f1,i64 f2,i64 f3]) rfl rfl rfl (Tk.t (Tk.t (Tk.t (Tk.t Tk.h)))) (Tk.t (Tk.t Tk.h)) rfl (by simp [Value.oneCell']) ⟨by decide,rfl⟩ Nat.one_pos (by unfold maxLen;omega) (by omega) fun v4=>?_
  refine gtn ?_
  refine GO.ownOne (Tk.t (Tk.t Tk.h)) fun hone=>?_
  refine GO.store1 (l:=[i64 n,pv,wv,.map (some bm),rv]) rfl rfl (by assumption) Tk.h (by simp) ?_
  apply Ru
  rw [← hsn,show fs.length+1=(fs++[(f1,f2,f3)]).length by rw [List.length_append];rfl]
  refine KF2.n0 (Q:=fZ bt n pv wv bm v4 (fs++[(f1,f2,f3)])) rfl ⟨v4,rfl⟩ (ImpS.sb ?_)
  ((refine Sb.c Tk.h ?_;exact SB);skip)
end Pr
end Go.Proofs.YtkeialpeabhaaaaGreat
