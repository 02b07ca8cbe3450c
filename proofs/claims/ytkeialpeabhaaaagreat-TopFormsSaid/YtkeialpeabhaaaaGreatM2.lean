/-
  The law TopForms, part 2.
-/
import Derived.Test.YtkeialpeabhaaaaGreatM1
import Derived.Laws.Strings
import Derived.Laws.Strings2
import Derived.Laws.Concat
import Derived.Deep.AppendSrc
import Derived.RecoverIn
import Derived.Lib.Builder
import Derived.Lib.UnsafeStr
import Derived.Lib.MakeNoZero
import Derived.Laws.Externs
import Derived.Test.YtkeialpeabhaaaaGreatProg
namespace Go.Proofs.YtkeialpeabhaaaaGreat
open Go
set_option synthInstance.maxHeartbeats 0
set_option synthInstance.maxSize 100000
set_option maxHeartbeats 128000000
set_option maxRecDepth 40000
set_option linter.all false
section
abbrev str (l:List UInt8):Value:=.string ⟨l.toArray⟩
abbrev ah (b:Nat):Value:=.pointer (some ⟨b,0,none⟩)
abbrev u8 (b:UInt8):Value:=.int .u8 (b.toNat:Int)
theorem BX (l:List UInt8) (j:Nat):(⟨l.toArray⟩:ByteArray)[j]?=l[j]?:=by
 by_cases h:j < l.length
 ·rw [ByteArray.getElem?_lt' _ _ (by simpa [ByteArray.size] using h),List.getElem?_eq_getElem h];rfl
 ·rw [ByteArray.getElem?_ge' _ _ (by simpa [ByteArray.size] using h),List.getElem?_eq_none (by omega)]
theorem fC (l:List UInt8):(⟨l.toArray⟩:ByteArray).size=l.length:=by simp [ByteArray.size]
theorem ip (l:List UInt8):(⟨l.toArray⟩:ByteArray).toList=l:=by rw [ByteArray.toList_eq]
theorem xv (l:List UInt8) (a b:Nat):(⟨l.toArray⟩:ByteArray).extract a b=⟨((l.drop a).take (b - a)).toArray⟩:=ByteArray.extract_mk l a b
def binS (op:BinOp) (a b:List UInt8):Option Value:=
 match op with
 | .eql=>some (.bool (decide (a=b)))
 | .neq=>some (.bool (decide (a≠b)))
 | .lss=>some (.bool (Op.bytesLess a b))
 | .leq=>some (.bool (Op.bytesLess a b || decide (a=b)))
 | .gtr=>some (.bool (!(Op.bytesLess a b || decide (a=b))))
 | .geq=>some (.bool (!Op.bytesLess a b))
 | _=>none
theorem Cv (a b:List UInt8):(a == b)=decide (a=b):=by
 by_cases h:a=b
 ·subst h;simp
 ·rw [decide_eq_false h];exact beq_eq_false_iff_ne.2 h
section rules
variable {P:Program} {c:Cx} {A:Array Oper} {rest:List Oper} {K:aY} {L:Env} {H:List HP} {t:TypeId} {p:String} {e:Array Edge} {d:Nat}
theorem AF {op:BinOp} {ty:TypeId} {a b:List UInt8} {v:Value} (h:binS op a b=some v) (w:World):(binOp op ty (str a) (str b)).run P w=.ok v w:=by
 cases op <;> simp only [binS] at h <;> first
  | (cases h;done)
  | (simp only [Option.some.injEq] at h;subst h;simp only [binOp,Op.stringOp,ip,Cv,decide_not];rfl)
theorem jn (op:BinOp) (ty:TypeId) (x y:Operand) (a b:List UInt8) (w:World):(eqGuard op ty x y (str a) (str b)).run P w=.ok () w:=by
 unfold eqGuard;split <;> rfl
theorem GO.binS {op:BinOp} {x y:Operand} {a b:List UInt8} {v:Value} {ty ty':TypeId} (hN:Nat.blt d c.N=true) (hx:evl L x=some (str a)) (hy:evl L y=some (str b)) (hv:YtkeialpeabhaaaaGreat.binS op a b=some v)
  (k:GO P c A rest K ((d,v)::L) H):GO P c A (⟨some d,.binOp op ty x y ty',t,p,e,none⟩::rest) K L H:=
 GO.val hN rfl (fun s w Y h _=>by
  simp only [execOp,h.eval hx,h.eval hy]
  simp [Sem.run_bind,jn,AF hv,Result.andThen]) k
theorem GO.strCat {x y:Operand} {a b:List UInt8} {ty ty':TypeId} (hN:Nat.blt d c.N=true) (hx:evl L x=some (str a)) (hy:evl L y=some (str b)) (hl:¬ 9223372036854775807 < a.length+b.length)
  (k:GO P c A rest K ((d,str (a++b))::L) H):GO P c A (⟨some d,.binOp .add ty x y ty',t,p,e,none⟩::rest) K L H:=
 GO.val hN rfl (fun s w Y h _=>by
  simp only [execOp,h.eval hx,h.eval hy]
  have:=run_string_add_sum (P:=P) (w:=w) ⟨a.toArray⟩ ⟨b.toArray⟩ (by rw [fC,fC];omega)
  rw [ByteArray.mk_append_mk] at this
  simp [Sem.run_bind,jn,binOp,this,Result.andThen]) k
theorem GO.strIdx {ty:TypeId} {kk:IntKind} {i:Int} {j:Nat} {l:List UInt8} {b:UInt8} {x y:Operand} [hu:UL P ty .string] (hN:Nat.blt d c.N=true) (hx:evl L x=some (str l)) (hy:evl L y=some (.int kk i)) (hi:i=(j:Int)) (hb:l[j]?=some b)
  (k:GO P c A rest K ((d,u8 b)::L) H):GO P c A (⟨some d,.index ty x y,t,p,e,none⟩::rest) K L H:=
 GO.val hN rfl (fun s w Y h _=>by
  subst hi
  simp only [execOp,h.eval hx,h.eval hy,Instr.index,asIntOf]
  simp [Sem.run_bind,run_underlying hu.out,Result.andThen,BX,hb]) k
theorem GO.strLen {at1:TypeId} {l:List UInt8} {x:Operand} [hu:UL P at1 .string] (hN:Nat.blt d c.N=true) (hx:evl L x=some (str l))
  (k:GO P c A rest K ((d,.int .i64 (l.length:Int))::L) H):GO P c A (⟨some d,.call ⟨.builtin .len,#[x],#[at1]⟩,t,p,e,none⟩::rest) K L H:=
 GO.val hN rfl (fun a w Y h _=>by
  simp only [execOp,resolve,invoke,builtin]
  simp [Sem.run_bind,Result.andThen,Builtin.len_,h.eval hx,run_underlying hu.out,goInt,fC]) k
theorem GO.strHi {ty:TypeId} {kk:IntKind} {i:Int} {b:Nat} {l:List UInt8} {x y:Operand} [hu:UL P ty .string] (hN:Nat.blt d c.N=true) (hx:evl L x=some (str l)) (hy:evl L y=some (.int kk i)) (hi:i=(b:Int)∧b≤l.length)
  (k:GO P c A rest K ((d,str (l.take b))::L) H):GO P c A (⟨some d,.slice ty x none (some y) none,t,p,e,none⟩::rest) K L H:=
 GO.val hN rfl (fun s w Y h _=>by
  obtain ⟨rfl,h1⟩:=hi
  have hle:(b:Int)≤l.length:=by omega
  simp only [execOp,h.eval hx,Option.map_none,Option.map_some,h.eval hy]
  simp [Instr.sliceAt,Instr.slice,Sem.run_bind,run_underlying hu.out,Instr.sliceBounds,run_sliceBound w _ _ _ _ (Int.natCast_nonneg b) hle,Result.andThen,fC,xv]) k
theorem GO.strLH {ty:TypeId} {kk kk':IntKind} {i i':Int} {a b:Nat} {l:List UInt8} {x y y':Operand} [hu:UL P ty .string] (hN:Nat.blt d c.N=true) (hx:evl L x=some (str l)) (hy:evl L y=some (.int kk i)) (hy':evl L y'=some (.int kk' i')) (hi:i=(a:Int)∧i'=(b:Int)∧a≤b∧b≤l.length)
  (k:GO P c A rest K ((d,str ((l.drop a).take (b - a)))::L) H):GO P c A (⟨some d,.slice ty x (some y) (some y') none,t,p,e,none⟩::rest) K L H:=
 GO.val hN rfl (fun s w Y h _=>by
  obtain ⟨rfl,rfl,h1,h2⟩:=hi
  have hle:(a:Int)≤b:=by omega
  have hle2:(b:Int)≤l.length:=by omega
  simp only [execOp,h.eval hx,Option.map_none,Option.map_some,h.eval hy,h.eval hy']
  simp [Instr.sliceAt,Instr.slice,Sem.run_bind,run_underlying hu.out,Instr.sliceBounds,run_sliceBound w _ _ _ _ (Int.natCast_nonneg b) hle2,run_sliceBound w _ _ _ _ (Int.natCast_nonneg a) hle,Result.andThen,fC,xv]) k
theorem GO.buildP2 {ty:TypeId} {i1 i2:Nat} {x1 x2:Operand} {v1 v2:Value} {l:List Value} (hb:P.built ty [(i1,v1),(i2,v2)]=some l.toArray) (hN:Nat.blt d c.N=true) (h1:evl L x1=some v1) (h2:evl L x2=some v2)
  (k:GO P c A rest K ((d,.agg l.toArray)::L) H):GO P c A (⟨some d,.build ty #[(i1,x1),(i2,x2)],t,p,e,none⟩::rest) K L H:=
 GO.buildPart (ps:=[(i1,x1),(i2,x2)]) hb hN ⟨rfl,h1,rfl,h2,trivial⟩ k
end rules
end
section
section
variable {P:Program} {b:Frame} {a:Act} {k:List Item} {cs:List Frame} {w:World}
theorem bS {x:Code}:step P (lone (b.atR a (.code (.scope x)::k)) cs w)=.next (lone (b.atR a (.code x::.inScope x::k)) cs w):=
 step_lone_go (by simp [stepG,stepG.exec,Frame.atR])
theorem fA {x:Code}:step P (lone (b.atR a (.inScope x::k)) cs w)=.next (lone (b.atR a k) cs w):=
 step_lone_go (by simp [stepG,stepG.exec,Frame.atR])
end
def j7 (J:Nat→Env→List HP→Prop) (K:aY):aY
 | .goto l,L,H=>J l L H
 | e,L,H=>K e L H
section
variable {P:Program} {c:Cx} {K:aY} {L:Env} {H:List HP} {J:Nat→Env→List HP→Prop}
theorem lQ (k:K .normal L H):j7 J K .normal L H:=k
theorem G.scope {x:Code} (E:Nat→Nat→Env→List HP→Prop)
  (hl:∀ l m L H,E l m L H→∃ rest,findLabel x l=some rest∧G P c rest (j7 (fun l' L' H'=>∃ m',m' < m∧E l' m' L' H') K) L H)
  (first:G P c x (j7 (fun l' L' H'=>∃ m',E l' m' L' H') K) L H):G P c (.scope x) K L H:=by
 intro a w hs b k cs hro hb hr
 have key:∀ m l L H a w,E l m L H→St c L H a w→∃ rest,findLabel x l=some rest ∧
   ∃ e a' w',gK c K e a' w'∧ArrivesIn (Machine.fenced P (fen c.r)) P (lone (b.atR a (.code rest::.inScope x::k)) cs w) b k cs e a' w':=by
  intro m
  induction m using Nat.strongRecOn with
  | _ m ih=>
   intro l L H a w hE hs
   obtain ⟨rest,hf,hg⟩:=hl l m L H hE
   refine ⟨rest,hf,?_⟩
   obtain ⟨e,a₁,w₁,⟨L',H',s1,hq⟩,harr⟩:=hg a w hs b (.inScope x::k) cs hro hb hr
   cases e with
   | normal=>exact ⟨_,a₁,w₁,⟨L',H',s1,hq⟩,StepsIn.trans harr (.one (fenced_calm hb hr rfl) fA)⟩
   | exit id=>exact ⟨_,a₁,w₁,⟨L',H',s1,hq⟩,⟨fun k' hk=>harr.1 k' (by simp [exitTo,hk]),fun hr hk=>harr.2 hr (by simp [exitTo,hk])⟩⟩
   | goto l'=>
    obtain ⟨m',hlt,hE'⟩:=hq
    obtain ⟨rest',hf',e₂,a₂,w₂,hq₂,harr₂⟩:=ih m' hlt l' L' H' a₁ w₁ hE' s1
    have hg:gotoIn l' (.inScope x::k)=some (.code rest'::.inScope x::k):=by simp [gotoIn,hf']
    exact ⟨e₂,a₂,w₂,hq₂,.of_steps (harr.1 _ hg) harr₂⟩
   | ret=>exact ⟨_,a₁,w₁,⟨L',H',s1,hq⟩,harr⟩
   | panic ch=>exact ⟨_,a₁,w₁,⟨L',H',s1,hq⟩,harr⟩
   | outgrown=>exact ⟨_,a₁,w₁,⟨L',H',s1,hq⟩,harr⟩
 have i0:(lone (b.atR a (.code (.scope x)::k)) cs w).fenced P (fen c.r):=fenced_calm hb hr rfl
 obtain ⟨e,a₁,w₁,⟨L',H',s1,hq⟩,harr⟩:=first a w hs b (.inScope x::k) cs hro hb hr
 cases e with
 | normal=>exact ⟨_,a₁,w₁,⟨L',H',s1,hq⟩,.head i0 bS (StepsIn.trans harr (.one (fenced_calm hb hr rfl) fA))⟩
 | exit id=>exact ⟨_,a₁,w₁,⟨L',H',s1,hq⟩,.of_steps (.one i0 bS) ⟨fun k' hk=>harr.1 k' (by simp [exitTo,hk]),fun hr hk=>harr.2 hr (by simp [exitTo,hk])⟩⟩
 | goto l'=>
  obtain ⟨m',hE'⟩:=hq
  obtain ⟨rest',hf',e₂,a₂,w₂,hq₂,harr₂⟩:=key m' l' L' H' a₁ w₁ hE' s1
  have hg:gotoIn l' (.inScope x::k)=some (.code rest'::.inScope x::k):=by simp [gotoIn,hf']
  exact ⟨e₂,a₂,w₂,hq₂,.of_steps (.head i0 bS (harr.1 _ hg)) harr₂⟩
 | ret=>exact ⟨_,a₁,w₁,⟨L',H',s1,hq⟩,.of_steps (.one i0 bS) harr⟩
 | panic ch=>exact ⟨_,a₁,w₁,⟨L',H',s1,hq⟩,.of_steps (.one i0 bS) harr⟩
 | outgrown=>exact ⟨_,a₁,w₁,⟨L',H',s1,hq⟩,.of_steps (.one i0 bS) harr⟩
theorem G.scope0 {x:Code} (k:G P c x (j7 (fun _ _ _=>False) K) L H):G P c (.scope x) K L H:=
 G.scope (fun _ _ _ _=>False) (fun _ _ _ _ h=>h.elim) (k.mono fun e L H h=>by cases e <;> first | exact h | exact h.elim)
end
end
section
set_option synthInstance.checkSynthOrder false
class Step (g:Prop) (r:outParam Prop):Prop where go:r→g
class Run (g:Prop) (r:outParam Prop):Prop where go:r→g
instance (priority:=100) Run.n {g:Prop}:Run g g:=⟨id⟩
instance Run.s {g h r:Prop} [a:Step g h] [b:Run h r]:Run g r:=⟨fun k=>a.go (b.go k)⟩
theorem Ru {g h r:Prop} [a:Step g h] [b:Run h r] (k:r):g:=a.go (b.go k)
class EqB (a b:Bool):Prop where e:a=b
instance EqB.r {a:Bool}:EqB a a:=⟨rfl⟩
class EqN (a b:Nat):Prop where e:a=b
instance EqN.r {a:Nat}:EqN a a:=⟨rfl⟩
class CN (c:Cx) (n:outParam Nat):Prop where e:c.N=n
instance CN.r {r:Option Nat} {n:Nat} {w:World} {X:List HP} {D:List Deferred} {b:Bool}:CN ⟨r,n,w,X,D,b⟩ n:=⟨rfl⟩
class NTf (f:Func) (n:outParam Nat):Prop where e:f.ntmps=n
instance (priority:=2000) CN.f {r:Option Nat} {f:Func} {n:Nat} {w:World} {X:List HP} {D:List Deferred} {b:Bool} [h:NTf f n]:CN ⟨r,f.ntmps,w,X,D,b⟩ n:=⟨h.e⟩
class DOK (c:Cx) (d:Nat):Prop where e:Nat.blt d c.N=true
instance DOK.r {c:Cx} {d n:Nat} [h:CN c n] [k:EqB (Nat.ble n d) false]:DOK c d:=⟨by
 have h1:=h.e;have h2:=k.e;subst h1
 have h3:¬ c.N≤d:=fun x=>by rw [Nat.ble_eq_true_of_le x] at h2;cases h2
 exact Nat.ble_eq_true_of_le (Nat.lt_of_not_le h3)⟩
class Lk (L:Env) (s:Nat) (v:outParam Value):Prop where e:aR L s=some v
instance (priority:=100) Lk.t {k s:Nat} {u v:Value} {L:Env} [h:EqB (Nat.beq k s) false] [j:Lk L s v]:Lk ((k,u)::L) s v:=⟨by unfold aR;rw [h.e];exact j.e⟩
instance Lk.h {k:Nat} {v:Value} {L:Env}:Lk ((k,v)::L) k v:=⟨by simp [aR]⟩
class Ev (L:Env) (x:Operand) (v:outParam Value):Prop where e:evl L x=some v
instance Ev.c {L:Env} {v:Value}:Ev L (.const v) v:=⟨rfl⟩
instance Ev.f {L:Env} {f:FuncId}:Ev L (.func f) (.func (.func f) #[] #[]):=⟨rfl⟩
instance Ev.t {L:Env} {s:Nat} {v:Value} [h:Lk L s v]:Ev L (.tmp s) v:=⟨h.e⟩
class SetX (l:List Value) (i:Nat) (v:Value) (r:outParam (List Value)):Prop where e:l.set i v=r
instance SetX.a {i:Nat} {x v:Value} {l:List Value} [h:EqN i 0]:SetX (x::l) i v (v::l):=⟨by rw [h.e];rfl⟩
instance SetX.b {i:Nat} {a x v:Value} {l:List Value} [h:EqN i 1]:SetX (a::x::l) i v (a::v::l):=⟨by rw [h.e];rfl⟩
class NV (l:List Value) (i:Nat) (v:outParam Value):Prop where e:l[i]?=some v
instance (priority:=100) NV.u {l m:List Value} {i j:Nat} {u v:Value} [k:SetX l j u m] [h:NV m i v]:NV (l.set j u) i v:=⟨by rw [k.e];exact h.e⟩
instance NV.a {l:List Value} {i:Nat} {v:Value} [h:EqN i 0]:NV (v::l) i v:=⟨by rw [h.e];rfl⟩
instance NV.b {l:List Value} {i:Nat} {a v:Value} [h:EqN i 1]:NV (a::v::l) i v:=⟨by rw [h.e];rfl⟩
instance NV.c {l:List Value} {i:Nat} {a b v:Value} [h:EqN i 2]:NV (a::b::v::l) i v:=⟨by rw [h.e];rfl⟩
instance NV.d {l:List Value} {i:Nat} {a b c v:Value} [h:EqN i 3]:NV (a::b::c::v::l) i v:=⟨by rw [h.e];rfl⟩
instance NV.f {l:List Value} {i:Nat} {a b c d v:Value} [h:EqN i 4]:NV (a::b::c::d::v::l) i v:=⟨by rw [h.e];rfl⟩
class Pt (b:Nat) (H:List HP) (l:outParam (List Value)) (T:outParam TypeId) (F:outParam (List HP)):Prop where e:Tk (pt b (row l T)) H F
instance (priority:=100) Pt.t {b:Nat} {x:HP} {H F:List HP} {l:List Value} {T:TypeId} [h:Pt b H l T F]:Pt b (x::H) l T (x::F):=⟨.t h.e⟩
instance Pt.h {b:Nat} {H:List HP} {l:List Value} {T:TypeId}:Pt b (pt b (row l T)::H) l T H:=⟨.h⟩
instance Pt.v {b:Nat} {l:List Value} {T:TypeId} {M Z:List HP}:Pt b ((pt b (row l T)::M)++Z) l T (M++Z):=⟨.h⟩
instance (priority:=100) Pt.w {b:Nat} {l:List Value} {T:TypeId} {M Z F:List HP} {q:HP} [h:Pt b (M++Z) l T F]:Pt b ((q::M)++Z) l T (q::F):=⟨.t h.e⟩
instance Pt.z {b:Nat} {l:List Value} {T:TypeId} {Z F:List HP} [h:Pt b Z l T F]:Pt b ([]++Z) l T F:=⟨h.e⟩
instance Pt.s {b:Nat} {l:List Value} {T:TypeId} {X Y Z F:List HP} [h:Pt b (X++(Y++Z)) l T F]:Pt b ((X++Y)++Z) l T F:=⟨by rw [List.append_assoc];exact h.e⟩
class NR (d:TypeDesc):Prop where e:d.isRow=false
instance:NR .bool:=⟨rfl⟩
instance {k:IntKind}:NR (.int k):=⟨rfl⟩
instance:NR .string:=⟨rfl⟩
instance {e:TypeId}:NR (.pointer e):=⟨rfl⟩
instance {e:TypeId}:NR (.slice e):=⟨rfl⟩
instance {a b:TypeId}:NR (.map a b):=⟨rfl⟩
instance {a b:Array TypeId} {v:Bool}:NR (.func a b v):=⟨rfl⟩
class RW (d:TypeDesc):Prop where e:d.isRow=true
instance {f:Array Field}:RW (.struct f):=⟨rfl⟩
class EqL {α:Type} (a:List α) (b:outParam (List α)):Prop where e:a=b
instance EqL.m {α:Type} {l:List α}:EqL (Array.mk l).toList l:=⟨rfl⟩
class EqI (a:Int) (n:outParam Nat):Prop where e:a=(n:Int)
instance EqI.n {n:Nat}:EqI (n:Int) n:=⟨rfl⟩
instance:EqI 0 0:=⟨rfl⟩
instance:EqI 1 1:=⟨rfl⟩
class GS (A:Array Oper) (j:Nat) (s:outParam Nat):Prop where e:lT A j=some s
class NO (l:List Oper) (j:Nat) (s:outParam Nat):Prop where e:(l[j]?).bind (·.dst)=some s
instance NO.h {s:Nat} {op:Op} {t:TypeId} {p:String} {e:Array Edge} {g:Option (Nat × Bool)} {l:List Oper}:NO (⟨some s,op,t,p,e,g⟩::l) 0 s:=⟨rfl⟩
instance NO.t {j s:Nat} {o:Oper} {l:List Oper} [h:NO l j s]:NO (o::l) (j+1) s:=⟨h.e⟩
instance GS.l {A:Array Oper} {l:List Oper} {j s:Nat} [h:EqL A.toList l] [k:NO l j s]:GS A j s:=⟨by
 have h1:=h.e;have h2:=k.e;subst h1;unfold lT;rw [← Array.getElem?_toList];exact h2⟩
class TkC (x:HP) (H:List HP) (F:outParam (List HP)):Prop where e:Tk x H F
instance (priority:=100) TkC.t {x y:HP} {H F:List HP} [h:TkC x H F]:TkC x (y::H) (y::F):=⟨.t h.e⟩
instance TkC.h {x:HP} {F:List HP}:TkC x (x::F) F:=⟨.h⟩
instance TkC.a {x:HP} {M Z:List HP}:TkC x ((x::M)++Z) (M++Z):=⟨.h⟩
instance (priority:=100) TkC.b {x y:HP} {M Z F:List HP} [h:TkC x (M++Z) F]:TkC x ((y::M)++Z) (y::F):=⟨.t h.e⟩
instance TkC.z {x:HP} {Z F:List HP} [h:TkC x Z F]:TkC x ([]++Z) F:=⟨h.e⟩
instance TkC.s {x:HP} {X Y Z F:List HP} [h:TkC x (X++(Y++Z)) F]:TkC x ((X++Y)++Z) F:=⟨by rw [List.append_assoc];exact h.e⟩
class TksC (X H:List HP) (F:outParam (List HP)):Prop where e:Tks X H F
instance TksC.n {H:List HP}:TksC [] H H:=⟨.n⟩
instance TksC.c {x:HP} {X H H' F:List HP} [h:TkC x H H'] [k:TksC X H' F]:TksC (x::X) H F:=⟨.c h.e k.e⟩
class SbC (T H:List HP):Prop where e:Sb T H
instance (priority:=100) SbC.s {x:HP} {T H:List HP} [h:SbC T H]:SbC T (x::H):=⟨.s h.e⟩
instance (priority:=500) SbC.c {x:HP} {T H H':List HP} [h:TkC x H H'] [k:SbC T H']:SbC (x::T) H:=⟨.c h.e k.e⟩
instance SbC.r {H:List HP}:SbC H H:=⟨.r⟩
instance SbC.a {x:HP} {T Y H H':List HP} [h:TkC x H H'] [k:SbC (T++Y) H']:SbC ((x::T)++Y) H:=⟨.c h.e k.e⟩
instance SbC.b {Y H:List HP} [k:SbC Y H]:SbC ([]++Y) H:=⟨k.e⟩
instance (priority:=100) SbC.d {x:HP} {T M Z:List HP} [h:SbC T (M++Z)]:SbC T ((x::M)++Z):=⟨.s h.e⟩
instance (priority:=300) SbC.e' {T Z:List HP} [h:SbC T Z]:SbC T ([]++Z):=⟨h.e⟩
instance SbC.f {T X Y Z:List HP} [h:SbC T (X++(Y++Z))]:SbC T ((X++Y)++Z):=⟨by rw [List.append_assoc];exact h.e⟩
instance SbC.g {X Y Z H:List HP} [h:SbC (X++(Y++Z)) H]:SbC ((X++Y)++Z) H:=⟨by rw [List.append_assoc];exact h.e⟩
class OC (v:Value):Prop where
 e:v.oneCell'=true
 k:v.cells=#[v]
instance OC.a {b:Bool}:OC (.bool b):=⟨rfl,rfl⟩
instance OC.b {k:IntKind} {n:Int}:OC (.int k n):=⟨rfl,rfl⟩
instance OC.c {s:ByteArray}:OC (.string s):=⟨rfl,rfl⟩
instance OC.d {a:Option Addr}:OC (.pointer a):=⟨rfl,rfl⟩
instance OC.f {a:Option Addr} {n c:Nat}:OC (.slice a n c):=⟨rfl,rfl⟩
instance OC.g {r:Option Nat}:OC (.map r):=⟨rfl,rfl⟩
instance OC.i {f:Go.Fn} {a b:Array Value}:OC (.func f a b):=⟨rfl,rfl⟩
class AOC (l:List Value):Prop where e:∀ u∈l,u.oneCell'=true
instance AOC.n:AOC []:=⟨by simp⟩
instance AOC.c {v:Value} {l:List Value} [h:OC v] [k:AOC l]:AOC (v::l):=⟨by intro u hu;cases hu with | head=>exact h.e | tail _ m=>exact k.e u m⟩
class Ln (l:List Value) (n:outParam Nat):Prop where e:l.length=n
instance Ln.n:Ln [] 0:=⟨rfl⟩
instance Ln.c {v:Value} {l:List Value} {n:Nat} [h:Ln l n]:Ln (v::l) (n+1):=⟨by rw [List.length_cons,h.e]⟩
class SetL (l:List Value) (i:Nat) (v:Value) (r:outParam (List Value)):Prop where e:l.set i v=r∧i < l.length
instance SetL.a {i:Nat} {x v:Value} {l:List Value} [h:EqN i 0]:SetL (x::l) i v (v::l):=⟨by rw [h.e];exact ⟨rfl,by simp⟩⟩
instance SetL.b {i:Nat} {a x v:Value} {l:List Value} [h:EqN i 1]:SetL (a::x::l) i v (a::v::l):=⟨by rw [h.e];exact ⟨rfl,by simp⟩⟩
instance SetL.c {i:Nat} {a b x v:Value} {l:List Value} [h:EqN i 2]:SetL (a::b::x::l) i v (a::b::v::l):=⟨by rw [h.e];exact ⟨rfl,by simp⟩⟩
instance SetL.d {i:Nat} {a b c x v:Value} {l:List Value} [h:EqN i 3]:SetL (a::b::c::x::l) i v (a::b::c::v::l):=⟨by rw [h.e];exact ⟨rfl,by simp⟩⟩
class AppV (l m:List Value) (r:outParam (List Value)):Prop where e:l++m=r
instance AppV.n {m:List Value}:AppV [] m m:=⟨rfl⟩
instance AppV.c {x:Value} {l m r:List Value} [h:AppV l m r]:AppV (x::l) m (x::r):=⟨by rw [List.cons_append,h.e]⟩
class PP (vs:List Value) (l:outParam (List Value)) (sz:outParam (List Nat)):Prop where e:aA vs=l∧vs.map (fun v=>v.cells.size)=sz
instance PP.n:PP [] [] []:=⟨rfl,rfl⟩
instance PP.c {v:Value} {vs l:List Value} {s:List Nat} [h:OC v] [k:PP vs l s]:PP (v::vs) (v::l) (1::s):=⟨by show v.cells.toList++aA vs=_;rw [h.k,k.e.1];rfl,by rw [List.map_cons,h.k,k.e.2];rfl⟩
instance PP.g {xs vs l r:List Value} {n:Nat} {s:List Nat} [q:Ln xs n] [k:PP vs l s] [h:AppV xs l r]:PP (.agg xs.toArray::vs) r (n::s):=⟨by show xs.toArray.toList++aA vs=_;rw [k.e.1];exact h.e,by
 rw [List.map_cons,k.e.2];show xs.toArray.size::s=_;rw [List.size_toArray,q.e]⟩
class CsC (v:Value) (l:outParam (List Value)):Prop where e:v.cells=l.toArray
instance (priority:=100) CsC.a {v:Value} [h:OC v]:CsC v [v]:=⟨h.k⟩
instance CsC.b {xs:List Value}:CsC (.agg xs.toArray) xs:=⟨rfl⟩
class NI (d:TypeDesc):Prop where e:(match d with | .interface _=>false | _=>true)=true
instance {f:Array Field}:NI (.struct f):=⟨rfl⟩
class Ow (v:Value) (H:List HP) (el:outParam TypeId) (sz n:outParam Nat) (xs:outParam (List Value)) (F:outParam (List HP)):Prop where e:Tk (own el sz n v xs) H F
instance (priority:=100) Ow.t {v:Value} {x:HP} {H F:List HP} {el:TypeId} {sz n:Nat} {xs:List Value} [h:Ow v H el sz n xs F]:Ow v (x::H) el sz n xs (x::F):=⟨.t h.e⟩
instance Ow.h {v:Value} {H:List HP} {el:TypeId} {sz n:Nat} {xs:List Value}:Ow v (own el sz n v xs::H) el sz n xs H:=⟨.h⟩
instance Ow.v {v:Value} {M Z:List HP} {el:TypeId} {sz n:Nat} {xs:List Value}:Ow v ((own el sz n v xs::M)++Z) el sz n xs (M++Z):=⟨.h⟩
instance (priority:=100) Ow.w {v:Value} {x:HP} {M Z F:List HP} {el:TypeId} {sz n:Nat} {xs:List Value} [h:Ow v (M++Z) el sz n xs F]:Ow v ((x::M)++Z) el sz n xs (x::F):=⟨.t h.e⟩
instance Ow.z {v:Value} {Z F:List HP} {el:TypeId} {sz n:Nat} {xs:List Value} [h:Ow v Z el sz n xs F]:Ow v ([]++Z) el sz n xs F:=⟨h.e⟩
instance Ow.s {v:Value} {X Y Z F:List HP} {el:TypeId} {sz n:Nat} {xs:List Value} [h:Ow v (X++(Y++Z)) el sz n xs F]:Ow v ((X++Y)++Z) el sz n xs F:=⟨by rw [List.append_assoc];exact h.e⟩
instance TkC.u {x:HP} {X Z F:List HP} [h:TkC x (X++Z) F]:TkC x (List.append X Z) F:=⟨h.e⟩
instance SbC.u {T X Z:List HP} [h:SbC T (X++Z)]:SbC T (List.append X Z):=⟨h.e⟩
instance SbC.w {X Z H:List HP} [h:SbC (X++Z) H]:SbC (List.append X Z) H:=⟨h.e⟩
instance Pt.u {b:Nat} {l:List Value} {T:TypeId} {X Z F:List HP} [h:Pt b (X++Z) l T F]:Pt b (List.append X Z) l T F:=⟨h.e⟩
theorem SB {T H:List HP} [h:SbC T H]:Sb T H:=h.e
theorem SE {S L:Env} (h:S.map (fun x=>aR L x.1)=S.map (fun x=>some x.2)):SubE S L:=by
 induction S with
 | nil=>exact .n
 | cons x S ih=>
  simp only [List.map_cons,List.cons.injEq] at h
  exact .c h.1 rfl (ih h.2)
section flow
variable {P:Program} {c:Cx} {K:aY} {L:Env} {H:List HP}
instance {x y:Code}:Step (G P c (.seq x y) K L H) (G P c x (cF (fun L H=>G P c y K L H) K) L H):=⟨.seq⟩
instance {id:Nat} {A:Array Oper} {l:List Oper} [h:EqL A.toList l]:Step (G P c (.region id A false) K L H) (GO P c A l K L H):=⟨fun k=>.region (h.e ▸ k)⟩
instance:Step (G P c .skip K L H) (K .normal L H):=⟨.skip⟩
instance {l:Nat}:Step (G P c (.label l) K L H) (K .normal L H):=⟨.label⟩
instance {i:Nat}:Step (G P c (.exit i) K L H) (K (.exit i) L H):=⟨.exit⟩
instance:Step (G P c .ret K L H) (K .ret L H):=⟨.ret⟩
instance {i:Nat} {x:Code}:Step (G P c (.block i x) K L H) (G P c x (cB i K) L H):=⟨.block⟩
instance {x:Code}:Step (G P c (.scope x) K L H) (G P c x (j7 (fun _ _ _=>False) K) L H):=⟨.scope0⟩
instance {t:Operand} {x y:Code} [h:Ev L t (.bool true)]:Step (G P c (.cond t x y) K L H) (G P c x K L H):=⟨.condT h.e rfl⟩
instance {t:Operand} {x y:Code} [h:Ev L t (.bool false)]:Step (G P c (.cond t x y) K L H) (G P c y K L H):=⟨.condF h.e rfl⟩
instance {n:Env→List HP→Prop}:Step (cF n K .normal L H) (n L H):=⟨ao⟩
instance {n:Env→List HP→Prop} {i:Nat}:Step (cF n K (.exit i) L H) (K (.exit i) L H):=⟨ga⟩
instance {n:Env→List HP→Prop}:Step (cF n K .ret L H) (K .ret L H):=⟨gZ⟩
instance {i:Nat}:Step (cB i K .normal L H) (K .normal L H):=⟨iA⟩
instance {i:Nat}:Step (cB i K .ret L H) (K .ret L H):=⟨pm⟩
instance {i:Nat}:Step (cB i K (.exit i) L H) (K .normal L H):=⟨jN⟩
instance (priority:=100) {i j:Nat} [h:EqB (Nat.beq j i) false]:Step (cB i K (.exit j) L H) (K (.exit j) L H):=⟨Bb h.e⟩
end flow
section ops
variable {P:Program} {c:Cx} {A:Array Oper} {rest:List Oper} {K:aY} {L:Env} {H F:List HP} {t ty ty' el T:TypeId} {p:String} {e:Array Edge} {d i j s b o n len cap:Nat} {x y z:Operand} {v u:Value} {l:List Value} {ds:TypeDesc} {r:Prop}
instance:Step (GO P c A [] K L H) (K .normal L H):=⟨.nil⟩
instance [h:DOK c d] [a:Ev L x v]:Step (GO P c A (⟨some d,.move x,t,p,e,none⟩::rest) K L H) (GO P c A rest K ((d,v)::L) H):=⟨.move h.e a.e⟩
instance [h:DOK c d] [a:Ev L x v]:Step (GO P c A (⟨some d,.assign x,t,p,e,none⟩::rest) K L H) (GO P c A rest K ((d,v)::L) H):=⟨.assign h.e a.e⟩
instance [h:DOK c d] [a:Ev L x (.bool true)] [k:Ev L y v]:Step (GO P c A (⟨some d,.pick x y z,t,p,e,none⟩::rest) K L H) (GO P c A rest K ((d,v)::L) H):=⟨.pickT h.e a.e k.e⟩
instance [h:DOK c d] [a:Ev L x (.bool false)] [k:Ev L z v]:Step (GO P c A (⟨some d,.pick x y z,t,p,e,none⟩::rest) K L H) (GO P c A rest K ((d,v)::L) H):=⟨.pickF h.e a.e k.e⟩
instance {vs:List Value} [h:DOK c d] [a:Ev L x (.tuple vs.toArray)] [k:NV vs i v]:Step (GO P c A (⟨some d,.extract x i,t,p,e,none⟩::rest) K L H) (GO P c A rest K ((d,v)::L) H):=⟨.extract h.e a.e ((t5 vs i).trans k.e)⟩
instance {b:Bool} [h:DOK c d] [a:Ev L x (.bool b)]:Step (GO P c A (⟨some d,.unOp .not ty x,t,p,e,none⟩::rest) K L H) (GO P c A rest K ((d,.bool (!b))::L) H):=⟨.not h.e a.e⟩
instance {ba:Option Addr} [hu:UL P ty (.slice el)] [h:DOK c d] [a:Ev L x (.slice ba n cap)]:Step (GO P c A (⟨some d,.call ⟨.builtin .len,#[x],#[ty]⟩,t,p,e,none⟩::rest) K L H) (GO P c A rest K ((d,.int .i64 (n:Int))::L) H):=⟨.lenS h.e a.e⟩
instance {ad:Addr} [h:DOK c d] [a:Ev L x (.pointer (some ad))]:Step (GO P c A (⟨some d,.nilCheck x,t,p,e,none⟩::rest) K L H) (GO P c A rest K ((d,.pointer (some ad))::L) H):=⟨.nilCheck h.e a.e⟩
instance {s f off:Nat} [hf:FO P s f off] [h:DOK c d] [a:Ev L x (.pointer (some ⟨b,o,none⟩))]:Step (GO P c A (⟨some d,.fieldAddr s x f,t,p,e,none⟩::rest) K L H) (GO P c A rest K ((d,.pointer (some ⟨b,o+off,none⟩))::L) H):=⟨.fieldAddr h.e a.e⟩
instance [hu:UL P ty ds] [hr:NR ds] [h:DOK c d] [a:Ev L x (.pointer (some ⟨b,o,none⟩))] [k:Pt b H l T F] [q:NV l o v]:Step (GO P c A (⟨some d,.load ty x,t,p,e,none⟩::rest) K L H) (GO P c A rest K ((d,v)::L) H):=⟨.load1 hr.e h.e a.e k.e q.e⟩
instance {n:Nat} {xs:List Value} [hu:UL P ty (.slice el)] [h:DOK c d] [a:Ev L x v] [k:Ow v H el s n xs F]:Step (GO P c A (⟨some d,.call ⟨.builtin .len,#[x],#[ty]⟩,t,p,e,none⟩::rest) K L H) (GO P c A rest K ((d,.int .i64 (n:Int))::L) H):=⟨.lenOwn h.e a.e k.e⟩
instance [hu:UL P T ds] [hi:NI ds] [h:DOK c d] [a:Ev L x v]:Step (GO P c A (⟨some d,.makeInterface T x,t,p,e,none⟩::rest) K L H) (GO P c A rest K ((d,.iface T v)::L) H):=⟨.mkIface hi.e h.e a.e⟩
instance {sz:List Nat} [hb:BLD P ty sz] [h:DOK c d] [a:Ev L x v] [k:PP [v] l sz]:Step (GO P c A (⟨some d,.build ty #[(0,x)],t,p,e,none⟩::rest) K L H) (GO P c A rest K ((d,.agg l.toArray)::L) H):=⟨fun j=>.build1 h.e a.e k.e.2 (by rw [k.e.1];exact j)⟩
instance {sz:List Nat} [hb:BLD P ty sz] [h:DOK c d] [a:Ev L x v] [a2:Ev L y u] [k:PP [v,u] l sz]:Step (GO P c A (⟨some d,.build ty #[(0,x),(1,y)],t,p,e,none⟩::rest) K L H) (GO P c A rest K ((d,.agg l.toArray)::L) H):=⟨fun j=>.build2 h.e a.e a2.e k.e.2 (by rw [k.e.1];exact j)⟩
instance {u2:Value} {sz:List Nat} [hb:BLD P ty sz] [h:DOK c d] [a:Ev L x v] [a2:Ev L y u] [a3:Ev L z u2] [k:PP [v,u,u2] l sz]:Step (GO P c A (⟨some d,.build ty #[(0,x),(1,y),(2,z)],t,p,e,none⟩::rest) K L H) (GO P c A rest K ((d,.agg l.toArray)::L) H):=⟨fun j=>.build3 h.e a.e a2.e a3.e k.e.2 (by rw [k.e.1];exact j)⟩
instance [hb:B0 P ty l] [h:DOK c d]:Step (GO P c A (⟨some d,.build ty #[],t,p,e,none⟩::rest) K L H) (GO P c A rest K ((d,.agg l.toArray)::L) H):=⟨.build0 h.e⟩
instance {m:List Value} [hs:SZ P ty 1] [a:Ev L x (.pointer (some ⟨b,o,none⟩))] [a2:Ev L y v] [h:OC v] [k:Pt b H l T F] [q:SetL l o v m]:Step (GO P c A (⟨none,.store ty x y,t,p,e,none⟩::rest) K L H) (GO P c A rest K L (pt b (row m T)::F)):=⟨fun j=>.store1 a.e a2.e h.e k.e q.e.2 (by rw [q.e.1];exact j)⟩
instance (priority:=900) {vs:List Value} {k1 k2:Nat} [hs:SZ P ty n] [a:Ev L x (.pointer (some ⟨b,0,none⟩))] [a2:Ev L y (.agg vs.toArray)] [h:AOC vs] [k:Pt b H l T F] [q1:Ln vs k1] [q2:Ln l k2] [q3:EqN k1 n] [q4:EqN k2 n]:Step (GO P c A (⟨none,.store ty x y,t,p,e,none⟩::rest) K L H) (GO P c A rest K L (pt b (row vs T)::F)):=⟨.storeW a.e a2.e k.e ⟨q1.e.trans q3.e,q2.e.trans q4.e⟩ h.e⟩
instance {f:Go.Fn} [h:DOK c d] [a:Ev L x v]:Step (GO P c A (⟨some d,.makeFunc f #[] #[x],t,p,e,none⟩::rest) K L H) (GO P c A rest K ((d,.func f #[] #[v])::L) H):=⟨.makeFunc1 h.e a.e⟩
instance {f:Go.Fn} [h:DOK c d] [a:Ev L x v] [a2:Ev L y u]:Step (GO P c A (⟨some d,.makeFunc f #[] #[x,y],t,p,e,none⟩::rest) K L H) (GO P c A rest K ((d,.func f #[] #[v,u])::L) H):=⟨.makeFunc2 h.e a.e a2.e⟩
instance {l1:List UInt8} [hu:UL P ty .string] [h:DOK c d] [a:Ev L x (str l1)]:Step (GO P c A (⟨some d,.call ⟨.builtin .len,#[x],#[ty]⟩,t,p,e,none⟩::rest) K L H) (GO P c A rest K ((d,.int .i64 (l1.length:Int))::L) H):=⟨.strLen h.e a.e⟩
theorem sal [hz:ZC P ty l] [h:DOK c d] (k:∀ b,GO P c A rest K ((d,.pointer (some ⟨b,0,none⟩))::L) (pt b (row l ty)::H)):GO P c A (⟨some d,.alloc ty,t,p,e,none⟩::rest) K L H:=.alloc h.e k
theorem sbx [h:DOK c d] [a:Ev L x v] [q:CsC v l] (k:∀ b,GO P c A rest K ((d,.pointer (some ⟨b,0,none⟩))::L) (pt b (row l ty)::H)):GO P c A (⟨some d,.box ty x,t,p,e,none⟩::rest) K L H:=.box h.e a.e q.e k
theorem sll [hu:UL P ty ds] [hr:NR ds] [h:DOK c d] [a:Ev L x (.pointer (some ⟨b,o,none⟩))] [k:Pt b H l T F] (hl:l[o]?=some v) (q:GO P c A rest K ((d,v)::L) H):GO P c A (⟨some d,.load ty x,t,p,e,none⟩::rest) K L H:=.load1 hr.e h.e a.e k.e hl q
theorem sld {z:HP} [hu:UL P ty ds] [hr:NR ds] [h:DOK c d] [a:Ev L x (.pointer (some ⟨b,o,none⟩))] (rd:Rd z ⟨b,o,none⟩ v) [k:TkC z H F] (q:GO P c A rest K ((d,v)::L) H):GO P c A (⟨some d,.load ty x,t,p,e,none⟩::rest) K L H:=.loadQ hr.e h.e a.e k.e rd q
theorem sl2 {z:HP} {u1 u2:Value} [hu:UL P ty ds] [hs:SZ P ty 2] [hr:RW ds] [h:DOK c d] [a:Ev L x (.pointer (some ⟨b,o,none⟩))] (r1:Rd z ⟨b,o,none⟩ u1) (r2:Rd z ⟨b,o+1,none⟩ u2) [k:TkC z H F] (q:GO P c A rest K ((d,.agg [u1,u2].toArray)::L) H):GO P c A (⟨some d,.load ty x,t,p,e,none⟩::rest) K L H:=.load2 hr.e h.e a.e k.e r1 r2 q
class IsN (a:Option Addr) (b:outParam Bool):Prop where e:a.isNone=b
instance IsN.a:IsN none true:=⟨rfl⟩
instance IsN.qb {a:Addr}:IsN (some a) false:=⟨rfl⟩
instance (priority:=100) IsN.qc {a:Option Addr}:IsN a a.isNone:=⟨rfl⟩
class IsS (a:Option Addr) (b:outParam Bool):Prop where e:a.isSome=b
instance IsS.qb {a:Addr}:IsS (some a) true:=⟨rfl⟩
section
variable {q:Option Addr} {bb:Bool} {m:Nat}
instance [hu:UL P ty (.slice el)] [h:DOK c d] [a:Ev L x (.slice q m cap)] [g:IsN q bb]:Step (GO P c A (⟨some d,.binOp .eql ty x (.const (.slice none 0 0)) ty',t,p,e,none⟩::rest) K L H) (GO P c A rest K ((d,.bool bb)::L) H):=⟨fun k=>.eqNilS h.e a.e (by rw [g.e];exact k)⟩
instance [hu:UL P ty (.pointer el)] [h:DOK c d] [a:Ev L x (.pointer q)] [g:IsN q bb]:Step (GO P c A (⟨some d,.binOp .eql ty x (.const (.pointer none)) ty',t,p,e,none⟩::rest) K L H) (GO P c A rest K ((d,.bool bb)::L) H):=⟨fun k=>.eqNilP h.e a.e (by rw [g.e];exact k)⟩
instance [hu:UL P ty (.pointer el)] [h:DOK c d] [a:Ev L x (.pointer q)] [g:IsS q bb]:Step (GO P c A (⟨some d,.binOp .neq ty x (.const (.pointer none)) ty',t,p,e,none⟩::rest) K L H) (GO P c A rest K ((d,.bool bb)::L) H):=⟨fun k=>.neqNilP h.e a.e (by rw [g.e];exact k)⟩
end
section
variable {kk:IntKind} {m q:Int} [h:DOK c d] [a:Ev L x (.int kk m)] [k:Ev L y (.int kk q)]
instance:Step (GO P c A (⟨some d,.binOp .eql ty x y ty',t,p,e,none⟩::rest) K L H) (GO P c A rest K ((d,.bool (decide (m=q)))::L) H):=⟨.eqi h.e a.e k.e⟩
instance:Step (GO P c A (⟨some d,.binOp .neq ty x y ty',t,p,e,none⟩::rest) K L H) (GO P c A rest K ((d,.bool (decide (m≠q)))::L) H):=⟨.nei h.e a.e k.e⟩
instance:Step (GO P c A (⟨some d,.binOp .lss ty x y ty',t,p,e,none⟩::rest) K L H) (GO P c A rest K ((d,.bool (decide (m < q)))::L) H):=⟨.lti h.e a.e k.e⟩
instance:Step (GO P c A (⟨some d,.binOp .leq ty x y ty',t,p,e,none⟩::rest) K L H) (GO P c A rest K ((d,.bool (decide (m≤q)))::L) H):=⟨.lei h.e a.e k.e⟩
instance:Step (GO P c A (⟨some d,.binOp .gtr ty x y ty',t,p,e,none⟩::rest) K L H) (GO P c A rest K ((d,.bool (decide (q < m)))::L) H):=⟨.gti h.e a.e k.e⟩
instance:Step (GO P c A (⟨some d,.binOp .geq ty x y ty',t,p,e,none⟩::rest) K L H) (GO P c A rest K ((d,.bool (decide (q≤m)))::L) H):=⟨.gei h.e a.e k.e⟩
end
section
variable {kk:IntKind} {m:Int} [h:DOK c d] [a:Ev L x (.int kk m)] [k:Ev L y (.int kk m)]
instance (priority:=2000):Step (GO P c A (⟨some d,.binOp .eql ty x y ty',t,p,e,none⟩::rest) K L H) (GO P c A rest K ((d,.bool true)::L) H):=⟨.eqT h.e a.e k.e rfl⟩
instance (priority:=2000):Step (GO P c A (⟨some d,.binOp .neq ty x y ty',t,p,e,none⟩::rest) K L H) (GO P c A rest K ((d,.bool false)::L) H):=⟨.neF h.e a.e k.e rfl⟩
end
section
variable {a' b':Bool} [hu:UL P ty .bool] [h:DOK c d] [a:Ev L x (.bool a')] [k:Ev L y (.bool b')]
instance (priority:=500):Step (GO P c A (⟨some d,.binOp .neq ty x y ty',t,p,e,none⟩::rest) K L H) (GO P c A rest K ((d,.bool (!(a' == b')))::L) H):=⟨.neqB h.e a.e k.e⟩
end
section
variable {a':Bool} [hu:UL P ty .bool] [h:DOK c d] [a:Ev L x (.bool a')] [k:Ev L y (.bool a')]
instance (priority:=600):Step (GO P c A (⟨some d,.binOp .neq ty x y ty',t,p,e,none⟩::rest) K L H) (GO P c A rest K ((d,.bool false)::L) H):=⟨.neqF h.e a.e k.e rfl⟩
end
section
variable {m q:Int} {x1 x2:BitVec 64} [ha:OfU m x1] [hb:OfU q x2] [h:DOK c d] [a:Ev L x (.int .u64 m)] [k:Ev L y (.int .u64 q)]
instance (priority:=1500):Step (GO P c A (⟨some d,.binOp .eql ty x y ty',t,p,e,none⟩::rest) K L H) (GO P c A rest K ((d,.bool (decide (x1=x2)))::L) H):=⟨.equ h.e a.e k.e⟩
instance:Step (GO P c A (⟨some d,.binOp .and ty x y ty',t,p,e,none⟩::rest) K L H) (GO P c A rest K ((d,u64 (x1 &&& x2))::L) H):=⟨.andu h.e a.e k.e⟩
instance:Step (GO P c A (⟨some d,.binOp .add ty x y ty',t,p,e,none⟩::rest) K L H) (GO P c A rest K ((d,u64 (x1+x2))::L) H):=⟨.addu h.e a.e k.e⟩
end
section
variable {m:Int} {x1:BitVec 64} {kk:IntKind} {j:Nat} [ha:OfU m x1] [h:DOK c d] [a:Ev L x (.int .u64 m)] [k:Ev L y (.int kk (j:Int))]
instance:Step (GO P c A (⟨some d,.binOp .shl ty x y ty',t,p,e,none⟩::rest) K L H) (GO P c A rest K ((d,u64 (x1 <<< j))::L) H):=⟨.shlu h.e a.e k.e⟩
instance:Step (GO P c A (⟨some d,.binOp .shr ty x y ty',t,p,e,none⟩::rest) K L H) (GO P c A rest K ((d,u64 (x1 >>> j))::L) H):=⟨.shru h.e a.e k.e⟩
end
section
variable {dd:Option Nat} {op:Op} {w:Bool} [hj:GS A j s]
instance [a:Lk L s (.bool w)]:Step (GO P c A (⟨dd,op,t,p,e,some (j,w)⟩::rest) K L H) (GO P c A (⟨dd,op,t,p,e,none⟩::rest) K L H):=⟨.gT hj.e a.e rfl⟩
instance [h:DOK c d] [a:Lk L s (.bool false)]:Step (GO P c A (⟨some d,op,t,p,e,some (j,true)⟩::rest) K L H) (GO P c A rest K ((d,undef)::L) H):=⟨.gF h.e hj.e a.e rfl⟩
instance [h:DOK c d] [a:Lk L s (.bool true)]:Step (GO P c A (⟨some d,op,t,p,e,some (j,false)⟩::rest) K L H) (GO P c A rest K ((d,undef)::L) H):=⟨.gF h.e hj.e a.e rfl⟩
instance [h:DOK c d] [a:Lk L s undef]:Step (GO P c A (⟨some d,op,t,p,e,some (j,w)⟩::rest) K L H) (GO P c A rest K ((d,undef)::L) H):=⟨.gU h.e hj.e a.e⟩
theorem sgT {w b:Bool} [a:Lk L s (.bool b)] [g:Run (GO P c A (⟨dd,op,t,p,e,none⟩::rest) K L H) r] (k:r) (hb:b=w:=by first | assumption | exact decide_eq_true (by omega) | exact decide_eq_false (by omega)):GO P c A (⟨dd,op,t,p,e,some (j,w)⟩::rest) K L H:=.gT hj.e a.e hb (g.go k)
theorem sgF {b:Bool} [h:DOK c d] [a:Lk L s (.bool b)] [g:Run (GO P c A rest K ((d,undef)::L) H) r] (k:r) (hb:b=!w:=by first | assumption | exact decide_eq_true (by omega) | exact decide_eq_false (by omega)):GO P c A (⟨some d,op,t,p,e,some (j,w)⟩::rest) K L H:=.gF h.e hj.e a.e hb (g.go k)
end
theorem spT {b:Bool} [h:DOK c d] [a:Ev L x (.bool b)] [q:Ev L y v] [g:Run (GO P c A rest K ((d,v)::L) H) r] (k:r) (hb:b=true:=by first | assumption | exact decide_eq_true (by omega)):GO P c A (⟨some d,.pick x y z,t,p,e,none⟩::rest) K L H:=.pickTa h.e a.e hb q.e (g.go k)
theorem spF {b:Bool} [h:DOK c d] [a:Ev L x (.bool b)] [q:Ev L z v] [g:Run (GO P c A rest K ((d,v)::L) H) r] (k:r) (hb:b=false:=by first | assumption | exact decide_eq_false (by omega)):GO P c A (⟨some d,.pick x y z,t,p,e,none⟩::rest) K L H:=.pickFa h.e a.e hb q.e (g.go k)
theorem scT {t:Operand} {x y:Code} {b:Bool} [a:Ev L t (.bool b)] [g:Run (G P c x K L H) r] (k:r) (hb:b=true:=by first | assumption | exact decide_eq_true (by omega)):G P c (.cond t x y) K L H:=.condT a.e hb (g.go k)
theorem scF {t:Operand} {x y:Code} {b:Bool} [a:Ev L t (.bool b)] [g:Run (G P c y K L H) r] (k:r) (hb:b=false:=by first | assumption | exact decide_eq_false (by omega)):G P c (.cond t x y) K L H:=.condF a.e hb (g.go k)
section
variable {m q:Int} [h:DOK c d] [a:Ev L x (.int .i64 m)] [k:Ev L y (.int .i64 q)]
theorem sad [g:Run (GO P c A rest K ((d,.int .i64 (m+q))::L) H) r] (kk:r) (hb:-9223372036854775808≤m+q∧m+q≤9223372036854775807:=by omega):GO P c A (⟨some d,.binOp .add ty x y ty',t,p,e,none⟩::rest) K L H:=.addi h.e a.e k.e hb (g.go kk)
theorem ssu [g:Run (GO P c A rest K ((d,.int .i64 (m - q))::L) H) r] (kk:r) (hb:-9223372036854775808≤m - q∧m - q≤9223372036854775807:=by omega):GO P c A (⟨some d,.binOp .sub ty x y ty',t,p,e,none⟩::rest) K L H:=.subi h.e a.e k.e hb (g.go kk)
end
theorem six {kk:IntKind} {m:Int} [hu:UL P ty (.slice el)] [hs:SZ P el n] [h:DOK c d] [a:Ev L x (.slice (some ⟨b,o,none⟩) len cap)] [k:Ev L y (.int kk m)] [hi:EqI m j] [g:Run (GO P c A rest K ((d,.pointer (some ⟨b,o+j * n,none⟩))::L) H) r] (q:r) (hb:j < len:=by omega):GO P c A (⟨some d,.indexAddr ty x y,t,p,e,none⟩::rest) K L H:=.idxS h.e a.e k.e ⟨hi.e,hb⟩ (g.go q)
class TakL (l:List Oper) (q:Nat) (a b:outParam (List Oper)):Prop where e:l.take q=a∧l.drop q=b
instance TakL.qz {l:List Oper}:TakL l 0 [] l:=⟨rfl,rfl⟩
instance TakL.qq {o:Oper} {l a b:List Oper} {q:Nat} [h:TakL l q a b]:TakL (o::l) (q+1) (o::a) b:=⟨by rw [List.take_succ_cons,h.e.1],by rw [List.drop_succ_cons,h.e.2]⟩
theorem dr {id:Nat} (q:Nat) {l a b:List Oper} [e1:EqL A.toList l] [e2:TakL l q a b] (h:GQ P c A a (fun L' H'=>GO P c A b K L' H') L H [] []) (ok:jW c.N q A=true:=by kernel_rfl):G P c (.region id A true) K L H:=by
 have h1:=e1.e;have h2:=e2.e.1;have h3:=e2.e.2
 subst h1;subst h2;subst h3
 exact G.draw q ok h
instance {k:Env→List HP→Prop} {M D:List HP}:Step (GQ P c A [] k L M D []) (k L (D++M)):=⟨.nil⟩
class VsC (L:Env) (xs:List Operand) (vs:outParam (List Value)):Prop where e:Vals L xs vs
instance VsC.qn:VsC L [] []:=⟨trivial⟩
instance VsC.qc {xs:List Operand} {vs:List Value} [h:Ev L x v] [k:VsC L xs vs]:VsC L (x::xs) (v::vs):=⟨⟨h.e,k.e⟩⟩
section
variable {f:FuncId} {xs:List Operand} {vs:List Value} {ats:Array TypeId} {Pre:List HP} {Rr E:Value→List HP→Prop} [hv:VsC L xs vs]
theorem scl [hc:Cal P f] [h:DOK c d] (spec:Fn P f vs.toArray Pre Rr) [tk:TksC Pre H F] (k:∀ v Q,Rr v Q→GO P c A rest K ((d,v)::L) (Q++F)):GO P c A (⟨some d,.call ⟨.value (.func f),xs.toArray,ats⟩,t,p,e,none⟩::rest) K L H:=GO.callG (dst:=some d) h.e hv.e spec tk.e k
theorem svl [h:DOK c d] [hx:Ev L x v] (spec:FnV P v vs Pre Rr) [tk:TksC Pre H F] (k:∀ v Q,Rr v Q→GO P c A rest K ((d,v)::L) (Q++F)):GO P c A (⟨some d,.call ⟨.value x,xs.toArray,ats⟩,t,p,e,none⟩::rest) K L H:=GO.callVG (dst:=some d) h.e hx.e hv.e spec tk.e k
theorem sxl [hc:Cal P f] [h:DOK c d] (spec:FnX P f vs.toArray Pre Rr E) [tk:TksC Pre H F] (kp:∀ v Q,E v Q→K (.panic (chn v)) L (Q++F)) (k:∀ v Q,Rr v Q→GO P c A rest K ((d,v)::L) (Q++F)):GO P c A (⟨some d,.call ⟨.value (.func f),xs.toArray,ats⟩,t,p,e,none⟩::rest) K L H:=GO.callXG (dst:=some d) h.e hv.e spec tk.e kp k
end
section
variable {op:Op} {g:Option (Nat × Bool)} {os:List Oper} {k:Env→List HP→Prop} {M D R:List HP}
instance [h:∀ (Z:List HP) (K:aY),Run (GO P c A [⟨some d,op,t,p,e,g⟩] K L (M++Z)) (K .normal ((d,v)::L) (M++Z))]:Step (GQ P c A (⟨some d,op,t,p,e,g⟩::os) k L M D R) (GQ P c A os k ((d,v)::L) M D R):=⟨.step fun Z=>(h Z _).go KQ.i⟩
end
section
variable {op:Op} {g:Option (Nat × Bool)} {os:List Oper} {k:Env→List HP→Prop} {M D R:List HP} {w:Bool}
theorem qgT {b:Bool} [hj:GS A j s] [a:Lk L s (.bool b)] [h:∀ (Z:List HP) (K:aY),Run (GO P c A [⟨some d,op,t,p,e,none⟩] K L (M++Z)) (K .normal ((d,v)::L) (M++Z))] [q:Run (GQ P c A os k ((d,v)::L) M D R) r] (x:r) (hb:b=w:=by first | assumption | exact decide_eq_true (by omega) | exact decide_eq_false (by omega)):GQ P c A (⟨some d,op,t,p,e,some (j,w)⟩::os) k L M D R:=.step (fun Z=>.gT hj.e a.e hb ((h Z _).go KQ.i)) (q.go x)
theorem qgF {b:Bool} [h:DOK c d] [hj:GS A j s] [a:Lk L s (.bool b)] [q:Run (GQ P c A os k ((d,undef)::L) M D R) r] (x:r) (hb:b=!w:=by first | assumption | exact decide_eq_true (by omega) | exact decide_eq_false (by omega)):GQ P c A (⟨some d,op,t,p,e,some (j,w)⟩::os) k L M D R:=.step (fun Z=>.gF h.e hj.e a.e hb KQ.z) (q.go x)
theorem qix {kk:IntKind} {m:Int} [hu:UL P ty (.slice el)] [hs:SZ P el n] [h:DOK c d] [a:Ev L x (.slice (some ⟨b,o,none⟩) len cap)] [i1:Ev L y (.int kk m)] [hi:EqI m j] [q:Run (GQ P c A os k ((d,.pointer (some ⟨b,o+j * n,none⟩))::L) M D R) r] (u:r) (hb:j < len:=by omega):GQ P c A (⟨some d,.indexAddr ty x y,t,p,e,none⟩::os) k L M D R:=.step (fun Z=>.idxS h.e a.e i1.e ⟨hi.e,hb⟩ KQ.z) (q.go u)
theorem Tk.app {z:HP} {M F Z:List HP} (h:Tk z M F):Tk z (M++Z) (F++Z):=List.Perm.append_right Z h
theorem qld {z:HP} [hu:UL P ty ds] [hr:NR ds] [h:DOK c d] [a:Ev L x (.pointer (some ⟨b,o,none⟩))] (rd:Rd z ⟨b,o,none⟩ v) [kk:TkC z M F] (q:GQ P c A os k ((d,v)::L) M D R):GQ P c A (⟨some d,.load ty x,t,p,e,none⟩::os) k L M D R:=.step (fun Z=>.loadQ hr.e h.e a.e kk.e.app rd KQ.z) q
theorem ql2 {z:HP} {u1 u2:Value} [hu:UL P ty ds] [hs:SZ P ty 2] [hr:RW ds] [h:DOK c d] [a:Ev L x (.pointer (some ⟨b,o,none⟩))] (r1:Rd z ⟨b,o,none⟩ u1) (r2:Rd z ⟨b,o+1,none⟩ u2) [kk:TkC z M F] (q:GQ P c A os k ((d,.agg [u1,u2].toArray)::L) M D R):GQ P c A (⟨some d,.load ty x,t,p,e,none⟩::os) k L M D R:=.step (fun Z=>.load2 hr.e h.e a.e kk.e.app r1 r2 KQ.z) q
theorem qpT {b:Bool} [h:DOK c d] [a:Ev L x (.bool b)] [a2:Ev L y v] [q:Run (GQ P c A os k ((d,v)::L) M D R) r] (u:r) (hb:b=true:=by first | assumption | exact decide_eq_true (by omega)):GQ P c A (⟨some d,.pick x y z,t,p,e,none⟩::os) k L M D R:=.step (fun Z=>.pickTa h.e a.e hb a2.e KQ.z) (q.go u)
theorem qpF {b:Bool} [h:DOK c d] [a:Ev L x (.bool b)] [a2:Ev L z v] [q:Run (GQ P c A os k ((d,v)::L) M D R) r] (u:r) (hb:b=false:=by first | assumption | exact decide_eq_false (by omega)):GQ P c A (⟨some d,.pick x y z,t,p,e,none⟩::os) k L M D R:=.step (fun Z=>.pickFa h.e a.e hb a2.e KQ.z) (q.go u)
end
class ExtC (d:Option Nat) (v:Value) (L:Env) (L1:outParam Env):Prop where e:ext d v L=L1
instance ExtC.qa:ExtC (some d) v L ((d,v)::L):=⟨rfl⟩
theorem Tks.sb {X H F:List HP} (h:Tks X H F):Sb (X++F) H:=⟨[],by rw [List.append_nil];exact h⟩
class TBt (m i:Nat) (b:outParam Bool):Prop where e:Nat.testBit m i=b
instance TBt.qa {m i:Nat} [h:EqB (Nat.beq (Nat.mod (Nat.div m (Nat.pow 2 i)) 2) 0) true]:TBt m i false:=⟨by
 have:=Nat.eq_of_beq_eq_true h.e
 rw [Nat.testBit_eq_decide_div_mod_eq];exact decide_eq_false (fun h=>by have h2:Nat.mod (Nat.div m (Nat.pow 2 i)) 2=1:=h;omega)⟩
instance TBt.qb {m i:Nat} [h:EqB (Nat.beq (Nat.mod (Nat.div m (Nat.pow 2 i)) 2) 1) true]:TBt m i true:=⟨by
 have:=Nat.eq_of_beq_eq_true h.e
 rw [Nat.testBit_eq_decide_div_mod_eq];exact decide_eq_true this⟩
section
variable {op:Op} {g:Option (Nat × Bool)} {os:List Oper} {k:Env→Prop} {kk:Env→List HP→Prop} {M R:List HP} {q tm ix nn:Nat} {oo:Oper}
instance [tb:TBt tm ix true]:Step (GR P c A tm ix (oo::os) k L M) (GR P c A tm (ix+1) os k L M):=⟨.skip tb.e⟩
instance [tb:TBt tm ix false] [h:∀ (Z:List HP) (K:aY),Run (GO P c A [⟨some d,op,t,p,e,g⟩] K L (M++Z)) (K .normal ((d,v)::L) (M++Z))]:Step (GR P c A tm ix (⟨some d,op,t,p,e,g⟩::os) k L M) (GR P c A tm (ix+1) os k ((d,v)::L) M):=⟨.step tb.e fun Z=>(h Z _).go KQ.i⟩
instance:Step (GR P c A tm ix [] k L M) (k L):=⟨.nil⟩
instance [tb:TBt tm ix false]:Step (GT P c A tm kk ix (oo::os) L M R) (GT P c A tm kk (ix+1) os L M R):=⟨.skip tb.e⟩
instance:Step (GT P c A tm kk ix [] L M R) (kk L (M++R)):=⟨.nil⟩
theorem rix {kv:IntKind} {m:Int} [tb:TBt tm ix false] [hu:UL P ty (.slice el)] [hs:SZ P el n] [h:DOK c d] [a:Ev L x (.slice (some ⟨b,o,none⟩) len cap)] [i1:Ev L y (.int kv m)] [hi:EqI m j] [q:Run (GR P c A tm (ix+1) os k ((d,.pointer (some ⟨b,o+j * n,none⟩))::L) M) r] (u:r) (hb:j < len:=by omega):GR P c A tm ix (⟨some d,.indexAddr ty x y,t,p,e,none⟩::os) k L M:=.step tb.e (fun Z=>.idxS h.e a.e i1.e ⟨hi.e,hb⟩ KQ.z) (q.go u)
theorem rll [tb:TBt tm ix false] [hu:UL P ty ds] [hr:NR ds] [h:DOK c d] [a:Ev L x (.pointer (some ⟨b,o,none⟩))] [pk:Pt b M l T F] (hl:l[o]?=some v) (q:GR P c A tm (ix+1) os k ((d,v)::L) M):GR P c A tm ix (⟨some d,.load ty x,t,p,e,none⟩::os) k L M:=.step tb.e (fun Z=>.load1 hr.e h.e a.e pk.e.app hl KQ.z) q
theorem rld {z:HP} [tb:TBt tm ix false] [hu:UL P ty ds] [hr:NR ds] [h:DOK c d] [a:Ev L x (.pointer (some ⟨b,o,none⟩))] (rd:Rd z ⟨b,o,none⟩ v) [pk:TkC z M F] (q:GR P c A tm (ix+1) os k ((d,v)::L) M):GR P c A tm ix (⟨some d,.load ty x,t,p,e,none⟩::os) k L M:=.step tb.e (fun Z=>.loadQ hr.e h.e a.e pk.e.app rd KQ.z) q
theorem drT {id:Nat} (q tm:Nat) (M:List HP) {lo a b:List Oper} [e1:EqL A.toList lo] [e2:TakL lo q a b] [tk:TksC M H R] (h:GR P c A tm 0 a (fun L'=>GT P c A tm (fun L' H'=>GO P c A b K L' H') 0 a L' M R) L M) (ok:tA c.N q tm A=true:=by kernel_rfl) (hL:∀ s v,aR L s=some v→s < c.N:=by exact nM rfl):G P c (.region id A true) K L H:=by
 have h1:=e1.e;have h2:=e2.e.1;have h3:=e2.e.2
 subst h1;subst h2;subst h3
 exact G.drawT q tm M R ok hL (ImpS.sb (Tks.sb tk.e)) h
theorem drW {id:Nat} (q tm n:Nat) (M:List HP) (kk:Env→List HP→Prop) {lo a b:List Oper} [e1:EqL A.toList lo] [e2:TakL lo q a b] [tk:TksC M H R] (h:GR P c A tm 0 a (fun L'=>GW P c A (qH A A.size) q tm kk n [] L' M R) L M) (hkk:∀ L' H',kk L' H'→GO P c A b K L' H') (ok:tz c.N q tm A=true:=by kernel_rfl) (hn:n8 q tm []=n:=by kernel_rfl) (hL:∀ s v,aR L s=some v→s < c.N:=by exact nM rfl):G P c (.region id A true) K L H:=by
 have h1:=e1.e;have h2:=e2.e.1;have h3:=e2.e.2
 subst h1;subst h2;subst h3
 exact G.drawW q tm n M R kk ok hn hL (ImpS.sb (Tks.sb tk.e)) h hkk
theorem gtn {r:Prop} {L1:Env} [x1:ExtC oo.dst v L L1] [tk:TksC M H F] [g:Run (GT P c A tm kk (ix+1) os L1 M F) r] (h:r):GO P c A [] (fun e L' H'=>e=.normal∧∃ v R',L'=ext oo.dst v L∧ImpS H' (M++R')∧GT P c A tm kk (ix+1) os (ext oo.dst v L) M R') (ext oo.dst v L) H:=GT.on (ImpS.sb (Tks.sb tk.e)) (by rw [x1.e];exact g.go h)
end
end ops
section
variable {P:Program} {L:Env} {H F Q:List HP} {fn:Func} {Rr E:Value→List HP→Prop} {q1 q2:ResultVar} {v1 v2:Value} {t b T:Nat} {l:List Value} {v:Value}
class RVC (P:Program) (L:Env) (H:List HP) (q:ResultVar) (v:outParam Value):Prop where e:RV P L H q v
instance RVC.qt [h:Lk L t v]:RVC P L H (.tmp t) v:=⟨.t h.e⟩
instance RVC.qw {d:TypeDesc} {n k:Nat} [hu:UL P T d] [hs:SZ P T n] [hd:RW d] [hx:Lk L t (.pointer (some ⟨b,0,none⟩))] {E:TypeId} [tk:Pt b H l E F] [hn:Ln l k] [hk:EqN k n]:RVC P L H (.cell t T) (.agg l.toArray):=⟨.cW hd.e hx.e tk.e (hn.e.trans hk.e)⟩
theorem kr1 (hr:fn.results=#[q1]) [h1:RVC P L H q1 v1] (h:Rr v1 Q) [sb:SbC (Q++F) H]:KF2 P fn Rr F .ret L H:=.r1 hr h1.e h (.sb sb.e)
theorem kr2 (hr:fn.results=#[q1,q2]) [h1:RVC P L H q1 v1] [h2:RVC P L H q2 v2] (h:Rr (.tuple #[v1,v2]) Q) [sb:SbC (Q++F) H]:KF2 P fn Rr F .ret L H:=.r2 hr h1.e h2.e h (.sb sb.e)
theorem kx1 (hr:fn.results=#[q1]) [h1:RVC P L H q1 v1] (h:Rr v1 Q) [sb:SbC (Q++F) H]:KFX P fn Rr E F .ret L H:=.r1 hr h1.e h (.sb sb.e)
end
end
section
section
variable {P:Program} {c:Cx} {A:Array Oper} {RR:List Nat} {q tm n i:Nat} {kk:Env→List HP→Prop} {D:List Nat} {o:Oper} {L:Env} {M H F R:List HP} {v:Value}
theorem gwn {L1:Env} [x1:ExtC o.dst v L L1] [t:TksC M H F] (k:GW P c A RR q tm kk n D L1 M F):GO P c A [] (WK P c A RR q tm kk n D o L M) (ext o.dst v L) H:=
 GO.nil ⟨rfl,v,F,rfl,ImpS.sb (Tks.sb t.e),by rw [x1.e];exact k⟩
class OpAt (l:List Oper) (i:Nat) (o:outParam Oper):Prop where e:l[i]?=some o
instance OpAt.qz {o:Oper} {l:List Oper}:OpAt (o::l) 0 o:=⟨rfl⟩
instance OpAt.qs {x o:Oper} {l:List Oper} {i:Nat} [h:OpAt l i o]:OpAt (x::l) (i+1) o:=⟨h.e⟩
theorem OpAt.of {A:Array Oper} {l:List Oper} {i:Nat} {o:Oper} (h:EqL A.toList l) (k:OpAt l i o):A[i]?=some o:=by
 have h1:=h.e;have h2:=k.e;subst h1;rw [← Array.getElem?_toList];exact h2
theorem gw1 {o1:Oper} {l:List Oper} (i:Nat) [e1:EqL A.toList l] [e2:OpAt l i o1] (g:GO P c A [o1] (WK P c A RR q tm kk n (i::D) o1 L M) L (M++R)) (h:oU RR q tm D=[i]:=by kernel_rfl):GW P c A RR q tm kk (n+1) D L M R:=.one h (OpAt.of e1 e2) g
theorem gw2 {o1 o2:Oper} {l:List Oper} (i j:Nat) [e1:EqL A.toList l] [e2:OpAt l i o1] [e3:OpAt l j o2] (g1:GO P c A [o1] (WK P c A RR q tm kk n (i::D) o1 L M) L (M++R)) (g2:GO P c A [o2] (WK P c A RR q tm kk n (j::D) o2 L M) L (M++R)) (h:oU RR q tm D=[i,j]:=by kernel_rfl):GW P c A RR q tm kk (n+1) D L M R:=.two h (OpAt.of e1 e2) (OpAt.of e1 e3) g1 g2
end
end
section
def bP (l:List UInt8):List Value:=l.map u8
theorem eN (l:List UInt8):(bP l).length=l.length:=by simp [bP]
theorem xc (l k:List UInt8):bP (l++k)=bP l++bP k:=by simp [bP]
theorem x9 (l:List UInt8):∀ u∈bP l,u.oneCell'=true:=fun u hu=>by
 obtain ⟨_,_,rfl⟩:=List.mem_map.1 hu;rfl
section
variable {P:Program}
theorem pA (l:List UInt8) (w:World):(Builtin.firstCells 1 l.length (str l)).run P w=.ok (bP l).toArray w:=by
 have:=firstCells_string (P:=P) (⟨l.toArray⟩:ByteArray) w
 rw [fC] at this
 exact this
theorem kI (w:World) (t tx ty e:TypeId) (i:TypeInfo) (ht:P.underlying t=some (.slice e)) (hk:P.underlying tx=some .string) (hi:P.info? e=some i) (h1:i.size=1)
  (g sLen sCap:Nat) (cur:Array Value) (hg:w.heap[g]?=some (.cells cur e (0,0))) (l:List UInt8) (hroom:sLen+l.length≤sCap) (hfit:sLen * i.size+(bP l).length≤cur.size) :
  (Builtin.append_ #[t,tx] ty #[.slice (some ⟨g,0,none⟩) sLen sCap,str l]).run P w =
   .ok (.slice (some ⟨g,0,none⟩) (sLen+l.length) sCap) (w.setRow g (cur.toList.take (sLen * i.size)++bP l++cur.toList.drop (sLen * i.size+(bP l).length)).toArray):=by
 have hf:=pA (P:=P) l w
 have hst:=run_storeCells_at P g (sLen * i.size) e (bP l) 0 cur w hg (by simpa using hfit) (x9 l)
 simp only [Nat.add_zero] at hst
 rw [h1] at hst hfit ⊢
 simp [Builtin.append_,run_underlying ht,run_underlying hk,sizeOf,typeInfo,hi,h1,Builtin.lenOf,fC,hroom,hf,Addr.add_lit]
 have hst':(storeCells ⟨g,sLen,none⟩ (bP l)).run P w=.ok () (w.setRow g (cur.toList.take sLen++(bP l++cur.toList.drop (sLen+(bP l).length))).toArray):=by simpa using hst
 rw [hst']
 rfl
theorem oS (w:World) {at1 tx t el:TypeId} {n:Nat} {zl xs:List Value} {v:Value} {l:List HP} (s:List UInt8) [hu:UL P at1 (.slice el)] [hk:UL P tx .string] [hs:SZ P el 1] [hb:BY P el 1] [hz:ZC P el zl]
  (hzl:zl.length=1) (h63:n+s.length≤maxLen) (hbytes:n+s.length≤140737488355328) (hm:0 < s.length)
  (st:sat (own el 1 n v xs::l) w):∃ v' w',(Builtin.append_ #[at1,tx] t #[v,str s]).run P w=.ok v' w'∧Same w w'∧sat (own el 1 (n+s.length) v' (xs++bP s)::l) w':=by
 have hso:=hs.out
 have hzo:=hz.out
 have hbo:=hb.out
 have hsmall:n+s.length≤9223372036854775807:=by simp only [maxLen] at h63;omega
 cases hqq:P.info? el with
 | none=>simp [hqq] at hso
 | some ie=>
  cases hzz:ie.zero with
  | none=>simp [hqq,hzz] at hzo
  | some z=>
   have hsz2:ie.size=1:=by simpa [hqq] using hso
   have hby:ie.bytes=1:=by simpa [hqq] using hbo
   have hzs:z.cells.size=1:=by
    have:z.cells.toList=zl:=by simpa [hqq,hzz] using hzo
    rw [← Array.length_toList,this,hzl]
   have hsrc:Src P ie.size tx (str s) s.length (bP s) w:=by
    rw [hsz2]
    have:=Src.ofString (P:=P) w hk.out (⟨s.toArray⟩:ByteArray)
    rw [fC] at this
    exact this
   have grow:∀ (base:Option Addr) (cap:Nat),cap < n+s.length→(Builtin.firstCells ie.size n (.slice base n cap)).run P w.drew=.ok xs.toArray w.drew→xs.length=n→sat l w→∃ v' w',(Builtin.append_ #[at1,tx] t #[.slice base n cap,str s]).run P w=.ok v' w'∧Same w w'∧sat (own el 1 (n+s.length) v' (xs++bP s)::l) w':=by
    intro base cap hg hf hxl s2
    have hr:=run_append_grow_src (P:=P) w at1 tx t el ie z hu.out hqq hzz base n cap xs hf (str s) s.length (bP s) hsrc hg (by omega) (growslice_fits (by omega) (by rw [hby];omega))
    have hge:=grownCap_ge w (n+s.length) cap el
    have hcm:grownCap w (n+s.length) cap el≤maxLen:=grownCap_le_maxLen w (n+s.length) cap el h63
    have e1:(Obj.cells ((xs++bP s).toArray++Builtin.zeroCells z.cells (grownCap w (n+s.length) cap el - (n+s.length))) el)=row ((xs++bP s)++(Builtin.zeroCells z.cells (grownCap w (n+s.length) cap el - (n+s.length))).toList) el:=by
     unfold row;congr 1;apply Array.ext';simp
    rw [e1] at hr
    have s3:=bh (w:=w.drew) (fD s2 rfl) (row ((xs++bP s)++(Builtin.zeroCells z.cells (grownCap w (n+s.length) cap el - (n+s.length))).toList) el)
    refine ⟨_,_,hr,Same.trans (Same.drawn _ (Nat.le_add_right _ _)) (Same.alloc _ _),?_⟩
    refine dM (cap:=grownCap w (n+s.length) cap el) rfl (by rw [List.length_append,hxl,eN,Nat.mul_one]) (by omega) hcm ?_ s3
    simp only [List.length_append,Array.length_toList,size_zeroCells,hzs,hxl,eN]
    omega
   rcases bK st with ⟨rfl,rfl,rfl,s0⟩ | ⟨b,cap,rest',rfl,g1,g2,g3,g4,s0⟩
   ·exact grow none 0 (by omega) (by simpa using run_firstCells_none (P:=P) (w:=w.drew) ie.size 0 0 0) rfl s0
   ·have hg:w.heap[b]?=some (row (xs++rest') el):=aT s0
    by_cases hroom:n+s.length≤cap
    ·have hr:=kI (P:=P) w at1 tx t el ie hu.out hk.out hqq hsz2 b n cap (xs++rest').toArray hg s hroom (by rw [hsz2,eN];simp only [List.size_toArray];omega)
     have e1:((xs++rest').toArray.toList.take (n * ie.size)++bP s++(xs++rest').toArray.toList.drop (n * ie.size+(bP s).length))=(xs++bP s)++rest'.drop (bP s).length:=by
      rw [List.toList_toArray,hsz2,← g1,List.take_left,List.drop_append,List.drop_of_length_le (by omega)]
      simp
     rw [e1] at hr
     refine ⟨_,_,hr,⟨rfl,rfl,rfl,by simp [World.setRow],Nat.le_refl _⟩,?_⟩
     refine dM (cap:=cap) rfl (by rw [List.length_append,g1,eN];omega) hroom g3 ?_ (bE s0 (setRow_heap w b _ _ el _ hg) (fun k hk=>setRow_other w b k _ hk))
     rw [List.length_append] at g4
     simp only [List.length_append,List.length_drop,eN];omega
    ·have holds:∀ j u,xs[j]?=some u→w.drew.cell? ((⟨b,0,none⟩:Addr).add j)=some u:=fun j u hj=>by
      rw [cL,Nat.zero_add]
      have hg':w.drew.heap[b]?=some (row (xs++rest') el):=hg
      simp only [World.cell?,hg',row]
      have hjl:j < xs.length:=(List.getElem?_eq_some_iff.1 hj).1
      simp [List.getElem?_append_left hjl,hj]
     exact grow _ cap (by omega) (run_firstCells_some w.drew ie.size n ⟨b,0,none⟩ n cap xs (by rw [hsz2];exact g1) holds) (by omega) (cx (l:=[pt b (row (xs++rest') el)]) s0)
variable {c:Cx} {A:Array Oper} {rest:List Oper} {K:aY} {L:Env} {H:List HP} {t:TypeId} {p:String} {e:Array Edge} {d:Nat}
theorem GO.appendStr {el at1 tx:TypeId} {n:Nat} {zl xs:List Value} {v:Value} {x y:Operand} {s:List UInt8} {F:List HP} [hu:UL P at1 (.slice el)] [hk:UL P tx .string] [hs:SZ P el 1] [hb:BY P el 1] [hz:ZC P el zl]
  (hN:Nat.blt d c.N=true) (hx:evl L x=some v) (hy:evl L y=some (str s)) (tk:Tk (own el 1 n v xs) H F) (hzl:zl.length=1) (hm:0 < s.length) (h63:n+s.length≤maxLen) (hbytes:n+s.length≤140737488355328)
  (k:∀ v',GO P c A rest K ((d,v')::L) (own el 1 (n+s.length) v' (xs++bP s)::F)):GO P c A (⟨some d,.call ⟨.builtin .append,#[x,y],#[at1,tx]⟩,t,p,e,none⟩::rest) K L H:=
 GO.gen hN rfl (fun v' H'=>H'=own el 1 (n+s.length) v' (xs++bP s)::F)
  (fun a w Y h st=>by
   have s1:sat (own el 1 n v xs::(F++Y)) w:=ai (List.Perm.append_right Y tk) st
   obtain ⟨v',w',hrun,hsame,hsat⟩:=oS (P:=P) w (t:=t) s (hu:=hu) (hk:=hk) hzl h63 hbytes hm s1
   refine ⟨v',w',_,?_,hsame,rfl,hsat⟩
   simp only [execOp,resolve,invoke,builtin]
   simp [Sem.run_bind,Result.andThen,h.eval hx,h.eval hy,hrun])
  (by rintro v' _ rfl;exact k v')
end
end
section
theorem G.midE {P:Program} {c:Cx} {K:aY} {L:Env} {H:List HP} {σ:Type} {x y:Code} (S:σ→Env) (M:σ→List HP) (I:σ→Prop) (hx:G P c x (cF (fun L' H'=>∃ s,I s∧SubE (S s) L'∧ImpS H' (M s)) K) L H) (hy:∀ s,I s→G P c y K (S s) (M s)):G P c x (cF (fun L H=>G P c y K L H) K) L H:=
 G.mono hx (fun e L' H' h=>by
  cases e with
  | normal=>obtain ⟨s,hi,hL,hH⟩:=h;exact G.subI hL hH (hy s hi)
  | _=>exact h)
section
variable {P:Program}
theorem FnV.star1 {y:Value} {u:List Value} {J J' S Sh:List HP} (h:FnV P y u (J++Sh) (fun v Q=>(v=.bool true∧Q=J'++Sh)∨(v=.bool false∧Q=S++Sh))) :
  FnV P y u (aL J::Sh) (fun v Q=>(v=.bool true∧Q=aL J'::Sh)∨(v=.bool false∧Q=aL S::Sh)):=by
 obtain ⟨fn,caps,hv,h⟩:=h
 refine ⟨fn,caps,hv,fun F w s=>?_⟩
 have s1:sat ((J++Sh)++F) w:=by rw [List.append_assoc];exact aJ.1 s
 obtain ⟨nx,h1,h2⟩:=h F w s1
 refine ⟨nx,h1,h2.mono fun e w'=>?_⟩
 rintro ⟨v,Q,a,b,x | x,d⟩
 ·obtain ⟨rfl,rfl⟩:=x
  rw [List.append_assoc] at d
  exact ⟨_,aL J'::Sh,a,b,.inl ⟨rfl,rfl⟩,aJ.2 d⟩
 ·obtain ⟨rfl,rfl⟩:=x
  rw [List.append_assoc] at d
  exact ⟨_,aL S::Sh,a,b,.inr ⟨rfl,rfl⟩,aJ.2 d⟩
theorem SeqOK.of1 {gf:FuncId} [hc:Cal P gf] {caps:Array Value} {xs:List (List Value)} {Sh Gm:List HP}
  (h:∀ (y:Value) (J S:Nat→HP),(∀ i u,xs[i]?=some u→FnV P y u (J i::Sh) (fun v Q=>(v=.bool true∧Q=J (i+1)::Sh)∨(v=.bool false∧Q=S i::Sh))) →
   Fn P gf (#[y]++caps) (J 0::(Sh++Gm)) (fun _ Q=>Q=J xs.length::(Sh++Gm)∨∃ i,i < xs.length∧Q=S i::(Sh++Gm))):SeqOK P (.func (.func gf) #[] caps) xs Sh Gm:=
 ⟨gf,caps,rfl,hc,fun y J X hy F w s=>by
  have s1:sat ((aL (J 0)::(Sh++Gm))++F) w:=by
   rw [List.append_assoc] at s
   exact aJ.2 s
  refine (h y (fun i=>aL (J i)) (fun i=>aL (X i)) (fun i u hu=>FnV.star1 (hy i u hu)) F w s1).mono fun e w'=>?_
  rintro ⟨v,Q,a,b,x | ⟨i,hi,x⟩,d⟩
  ·subst x
   exact ⟨v,J xs.length++(Sh++Gm),a,b,.inl rfl,by rw [List.append_assoc];exact aJ.1 d⟩
  ·subst x
   exact ⟨v,X i++(Sh++Gm),a,b,.inr ⟨i,hi,rfl⟩,by rw [List.append_assoc];exact aJ.1 d⟩⟩
end
def qe (b:Nat) (T el:TypeId) (sz n:Nat) (xs:List Value):HP:=exs fun v:Value=>aL [pt b (row [v] T),own el sz n v xs]
theorem nP {b:Nat} {T el:TypeId} {sz n:Nat} {xs:List Value} {H M:List HP} (v:Value) (h:ImpS H (pt b (row [v] T)::own el sz n v xs::M)):ImpS H (qe b T el sz n xs::M):=ImpS.exs v (ImpS.flat h)
theorem G.accOut {P:Program} {c:Cx} {K:aY} {L:Env} {H:List HP} {x:Code} {b:Nat} {T el:TypeId} {sz n:Nat} {xs:List Value} (k:∀ v,v.oneCell'=true→G P c x K L (pt b (row [v] T)::own el sz n v xs::H)):G P c x K L (qe b T el sz n xs::H):=
 G.exs fun v=>G.flat (G.ownOne (Tk.t Tk.h) fun h=>k v h)
theorem GO.accOut {P:Program} {c:Cx} {A:Array Oper} {os:List Oper} {K:aY} {L:Env} {H:List HP} {b:Nat} {T el:TypeId} {sz n:Nat} {xs:List Value} (k:∀ v,v.oneCell'=true→GO P c A os K L (pt b (row [v] T)::own el sz n v xs::H)):GO P c A os K L (qe b T el sz n xs::H):=
 GO.exs fun v=>GO.flat (GO.ownOne (Tk.t Tk.h) fun h=>k v h)
theorem G.keep {P:Program} {c:Cx} {x:Code} {K:aY} {L:Env} {H H':List HP} (h:ImpS H H') (k:G P c x K L H'):G P c x K L H:=G.imp (fun l w s=>h l w s) k
end
section
attribute [local irreducible] pt init exs pur own
inductive Rcv:FrameMode→Value→FrameMode→Prop where
 | calm:Rcv .returning .nilIface .returning
 | caught (v:Value):Rcv (.panicking (chn v)) v (.panicking [{ v:=v,recovered:=true }])
def Dfr (P:Program) (f:FuncId) (args:Array Value) (u u':FrameMode) (Pre:List HP) (R:Value→List HP→Prop):Prop:=
 ∀ F w,sat (Pre++F) w→CallsDIn Fence.wide 0 P f args u w (fun e m w'=>m=u'∧Ret w F R e w')
theorem uh {u u':FrameMode} {v:Value} (h:Rcv u v u') {c0:Frame} (hc:c0.mode=u) (cs:List Frame):(recoverD (c0::cs)=none∧v=.nilIface∧({ c0 with mode:=u' }:Frame)=c0)∨recoverD (c0::cs)=some (v,{ c0 with mode:=u' }::cs):=by
 subst hc
 cases hm:c0.mode with
 | returning=>
  rw [hm] at h
  cases h
  refine .inl ⟨by simp [recoverD,hm],rfl,?_⟩
  cases c0;simp at hm;subst hm;rfl
 | panicking ch=>
  rw [hm] at h
  cases h
  exact .inr (by simp [recoverD,hm])
 | run=>rw [hm] at h;cases h
theorem Dfr.mk {P:Program} {f:FuncId} {args:Array Value} {u u':FrameMode} {v:Value} {Pre:List HP} {R:Value→List HP→Prop} {fn:Func} {id d0 d1:Nat} {t0 t1:TypeId} {p0 p1:String} {e0 e1':Array Edge} {y:Code}
  (hf:P.funcs[f]?=some fn) (hb:fn.body=some (.seq (.region id #[⟨some d0,.call ⟨.builtin .recover,#[],#[]⟩,t0,p0,e0,none⟩,⟨some d1,.assign (.tmp d0),t1,p1,e1',none⟩] false) y)) (hN:Nat.ble args.size fn.ntmps=true)
  (hd0:Nat.blt d0 fn.ntmps=true) (hd1:Nat.blt d1 fn.ntmps=true) (hm:Rcv u v u')
  (h:∀ w0 F,G P ⟨none,fn.ntmps,w0,[],[],true⟩ y (KF2 P fn R F) ((d1,v)::(d0,v)::sW 0 args.toList) (Pre++F)):Dfr P f args u u' Pre R:=by
 intro F w s
 have hN':args.size≤fn.ntmps:=by simpa using hN
 refine callsDIn_of_wpSIn hf hb trivial fun c0 cs hc=>?_
 refine wpSIn_seq ?_
 have at0:At fn.ntmps (sW 0 args.toList) { tmps:=args++Array.replicate (fn.ntmps - args.size) undef,defers:=[] }:=by
  refine ⟨by simp;omega,fun t v e=>?_⟩
  obtain ⟨_,h2⟩:=gi _ _ _ _ e
  simp at h2
  have hlt:t < args.size:=(Array.getElem?_eq_some_iff.1 h2).1
  rw [Array.getElem?_append_left hlt];exact h2
 generalize ha:({ tmps:=args++Array.replicate (fn.ntmps - args.size) undef,defers:=[] }:Act)=a at at0 ⊢
 have hdef:a.defers=[]:=by rw [← ha]
 have rest:∀ cs',cs'={ c0 with mode:=u' }::cs→y.wpSIn Fence.wide 0 P (bodyPostS P fn c0 cs fun e m w'=>m=u'∧Ret w F R e w') ((a.put (some d0) v).put (some d1) v) cs' w:=by
  rintro cs' rfl
  refine wpSIn_of_wpIn rfl ?_
  have at2:=(at0.put (v:=v) hd0).put (v:=v) hd1
  refine wpIn_mono (h w F _ w ⟨at2,Same.refl w,[],by simpa [Act.put] using hdef,fun _=>rfl,by simpa using s⟩) ?_
  rintro e a' w' ⟨L',H',⟨h1,h2,ds,h3,h4,h5⟩,q⟩
  have hds:ds=[]:=h4 rfl
  subst hds
  have hdd:a'.defers=[]:=by simpa using h3
  have fin:(∃ v Q,Res P fn.ntmps fn L' H' v∧R v Q∧ImpS H' (Q++F))→a'.defers=[]∧∃ m,({ c0 with mode:=u' }:Frame)::cs={ c0 with mode:=m }::cs∧∃ v,(results fn a'.tmps).run P w'=.ok v w'∧(m=u'∧Ret w F R (.returned v) w'):=by
   rintro ⟨v,Q,hr,hR,hsb⟩
   refine ⟨hdd,u',rfl,v,hr a' w' [] h1 (by simpa using h5),rfl,v,Q,rfl,h2,hR,?_⟩
   have:=hsb [] w' (by simpa using h5)
   simpa using this
  cases e with
  | normal=>exact fin q
  | ret=>exact fin q
  | _=>exact q.elim
 have e1:∀ a:Act,(execOp a.eval ⟨some d0,.call ⟨.builtin .recover,#[],#[]⟩,t0,p0,e0,none⟩).run P w=.ok .recover w:=fun a=>by
  simp only [execOp,resolve,invoke,builtin]
  rfl
 have e2:∀ b:Act,(execOp b.eval ⟨some d1,.assign (.tmp d0),t1,p1,e1',none⟩).run P w=.ok (.value (b.eval (.tmp d0))) w:=fun b=>rfl
 refine wpSIn_region ?_
 show wpOpsSIn Fence.wide 0 P #[_,_] _ [0,1] a (c0::cs) w
 have step:∀ cs',cs'={ c0 with mode:=u' }::cs→wpOpsSIn Fence.wide 0 P #[⟨some d0,.call ⟨.builtin .recover,#[],#[]⟩,t0,p0,e0,none⟩,⟨some d1,.assign (.tmp d0),t1,p1,e1',none⟩] (Exit.thenS (y.wpSIn Fence.wide 0 P (bodyPostS P fn c0 cs fun e m w'=>m=u'∧Ret w F R e w')) (bodyPostS P fn c0 cs fun e m w'=>m=u'∧Ret w F R e w')) [1] (a.put (some d0) v) cs' w:=by
  intro cs' hcs
  have hev:(a.put (some d0) v).eval (.tmp d0)=v:=by
   have:=(at0.put (v:=v) hd0).2 d0 v (by simp [aR])
   simp [Act.eval,Array.getD_eq_getD_getElem?,this]
  simp only [wpOpsSIn,List.getElem?_toArray,List.getElem?_cons_succ,List.getElem?_cons_zero,Region.wanted,if_true,e2,hev]
  exact ⟨fun _ _=>trivial,rest cs' hcs⟩
 simp only [wpOpsSIn,List.getElem?_toArray,List.getElem?_cons_zero,Region.wanted,if_true,e1]
 refine ⟨fun _ _=>trivial,?_⟩
 rcases uh hm hc cs with ⟨h1,h2,h3⟩ | h1
 ·rw [h1]
  subst h2
  exact step _ (by rw [h3])
 ·rw [h1]
  exact step _ rfl
def dcl (g:FuncId) (caps:Array Value):Deferred:={ target:=.fn (.func g) caps,args:=#[] }
theorem pf {P:Program} {fn:Func} {tmps:Array Value} {R:Ending→World→Prop} {u:FrameMode} (hu:u≠.run) {d:Deferred} {l:List HP}:∀ (ds:List Nat) (w:World),sat (l++ds.map cA) w →
  (∀ w',Same w w'→sat l w'→LeavesInM Fence.wide 0 P fn tmps R [d] u w')→LeavesInM Fence.wide 0 P fn tmps R (ds.map dX++[d]) u w
 | [],w,s,h=>by
  simp at s
  exact h w (Same.refl w) s
 | x::ds,w,s,h=>by
  simp only [List.map_cons] at s
  have s':sat (cA x::(l++ds.map cA)) w:=ai List.perm_middle s
  have hb:=aT s'
  refine ⟨hu,.inl ⟨x,_,rfl,run_takeDeferred hb,?_⟩⟩
  refine pf hu ds _ ?_ (fun w' sm sl=>h w' ((Same.putObj _ _ _).trans sm) sl)
  have:=bE (o':=.deferred none) (w':=w.putObj x (.deferred none)) s' (World.putObj_heap_same (Array.getElem?_eq_some_iff.1 hb).1) (fun k hk=>World.putObj_heap_other hk)
  exact cx (l:=[pt x (.deferred none)]) this
def EndD (P:Program) (fn:Func) (g:FuncId) (caps:Array Value) (R:Value→List HP→Prop) (F:List HP) (u:FrameMode) (L:Env) (H:List HP):Prop:=
 ∃ u' Pre Q X,settle u'=.returning∧Dfr P g caps u u' Pre (fun _ Q'=>Q'=Q)∧ImpS H (Pre++X)∧∃ v Q2,Res P fn.ntmps fn L (Q++X) v∧R v Q2∧ImpS (Q++X) (Q2++F)
def KFD (P:Program) (fn:Func) (g:FuncId) (caps:Array Value) (R:Value→List HP→Prop) (F:List HP):aY
 | .normal,L,H=>EndD P fn g caps R F .returning L H
 | .ret,L,H=>EndD P fn g caps R F .returning L H
 | .panic ch,L,H=>EndD P fn g caps R F (.panicking ch) L H
 | _,_,_=>False
theorem EndD.leaves {P:Program} {fn:Func} {g:FuncId} [hc:Cal P g] {caps:Array Value} {R:Value→List HP→Prop} {F:List HP} {u:FrameMode} {L:Env} {H:List HP} (hu:u≠.run) (h:EndD P fn g caps R F u L H) {w0 w:World} (hs:Same w0 w) {a:Act} (ha:At fn.ntmps L a) (s:sat H w) :
  LeavesInM Fence.wide 0 P fn a.tmps (Ret w0 F R) [dcl g caps] u w:=by
 obtain ⟨u',Pre,Q,X,h1,h2,h3,v,Q2,h4,h5,h6⟩:=h
 refine ⟨hu,.inr ⟨fun h=>by simp [Fence.wide] at h,.func g,caps,g,caps,rfl,?_,fun _ _=>trivial,?_⟩⟩
 ·simp [dcl,invoke,hc.out]
 ·have s1:=h3 [] w (by simpa using s)
  refine (h2 X w (by simpa using s1)).mono ?_
  rintro e m w' ⟨rfl,r,Q',rfl,hs',rfl,hq⟩
  show LeavesInM Fence.wide 0 P fn a.tmps (Ret w0 F R) [] (settle m) w'
  rw [h1]
  refine ⟨v,h4 a w' [] ha (by simpa using hq),v,Q2,rfl,hs.trans hs',h5,?_⟩
  have:=h6 [] w' (by simpa using hq)
  simpa using this
def GZ (P:Program) (fn:Func) (w0:World) (F:List HP) (R:Value→List HP→Prop) (x:Code) (L:Env) (H:List HP):Prop:=
 ∀ a w,St ⟨none,fn.ntmps,w0,[],[],true⟩ L H a w→x.wpIn Fence.wide 0 P (bodyPostM Fence.wide 0 P fn (Ret w0 F R)) a w
theorem KF2.leaves {P:Program} {fn:Func} {R:Value→List HP→Prop} {F:List HP} {L:Env} {H:List HP} {w0 w:World} {a:Act} (hs:St ⟨none,fn.ntmps,w0,[],[],true⟩ L H a w) (q:∃ v Q,Res P fn.ntmps fn L H v∧R v Q∧ImpS H (Q++F)) :
  LeavesInM Fence.wide 0 P fn a.tmps (Ret w0 F R) a.defers .returning w:=by
 obtain ⟨h1,h2,ds,h3,_,h5⟩:=hs
 obtain ⟨v,Q,hr,hR,hsb⟩:=q
 rw [show a.defers=ds.map dX by simpa using h3]
 refine fb (l:=H) (v:=v) ds w (by simpa using h5) fun w2 sm sl=>⟨?_,v,Q,rfl,h2.trans sm,hR,?_⟩
 ·exact hr a w2 [] h1 (by simpa using sl)
 ·have:=hsb [] w2 (by simpa using sl)
  simpa using this
theorem GZ.seq {P:Program} {fn:Func} {w0:World} {F:List HP} {R:Value→List HP→Prop} {x y:Code} {L:Env} {H:List HP} (k:G P ⟨none,fn.ntmps,w0,[],[],true⟩ x (cF (fun L H=>GZ P fn w0 F R y L H) (KF2 P fn R F)) L H):GZ P fn w0 F R (.seq x y) L H:=by
 intro a w hs
 refine wpIn_seq (wpIn_mono (k a w hs) ?_)
 rintro e a' w' ⟨L',H',s1,q⟩
 cases e with
 | normal=>exact q a' w' s1
 | ret=>exact KF2.leaves s1 q
 | _=>exact q.elim
theorem GZ.defer {P:Program} {fn:Func} {w0:World} {F:List HP} {R:Value→List HP→Prop} {y:Code} {L:Env} {H:List HP} {id d:Nat} {g:FuncId} [hc:Cal P g] {xs:List Operand} {vs:List Value} {t0 t1:TypeId} {p0 p1:String} {e0 e1:Array Edge}
  (hN:Nat.blt d fn.ntmps=true) (hv:Vals L xs vs)
  (k:G P ⟨none,fn.ntmps,w0,[],[dcl g vs.toArray],false⟩ y (KFD P fn g vs.toArray R F) ((d,.func (.func g) #[] vs.toArray)::L) H) :
  GZ P fn w0 F R (.seq (.region id #[⟨some d,.makeFunc (.func g) #[] xs.toArray,t0,p0,e0,none⟩,⟨none,.defer ⟨.value (.tmp d),#[],#[]⟩,t1,p1,e1,none⟩] false) y) L H:=by
 rintro a w ⟨h1,h2,ds,h3,h4,h5⟩
 have hds:ds=[]:=h4 rfl
 refine wpIn_seq (wpIn_region (dh (fun _=>trivial) _ _ a w (kN _) ?_))
 have hargs:xs.toArray.map a.eval=vs.toArray:=by simp [Vals.map h1 hv]
 have e1':(execOp a.eval ⟨some d,.makeFunc (.func g) #[] xs.toArray,t0,p0,e0,none⟩).run P w=.ok (.value (.func (.func g) #[] vs.toArray)) w:=by
  simp [execOp,hargs,Instr.makeFunc,Result.andThen]
 have at2:=h1.put (d:=d) (v:=.func (.func g) #[] vs.toArray) hN
 have hev:(a.put (some d) (.func (.func g) #[] vs.toArray)).eval (.tmp d)=.func (.func g) #[] vs.toArray:=by
  have:=at2.2 d (.func (.func g) #[] vs.toArray) (by simp [aR])
  simp [Act.eval,Array.getD_eq_getD_getElem?,this]
 have e2':((⟨none,.defer ⟨.value (.tmp d),#[],#[]⟩,t1,p1,e1,none⟩:Oper).semAt Fence.wide.round (a.put (some d) (.func (.func g) #[] vs.toArray)).eval).run P w=.ok (.defer (dcl g vs.toArray)) w:=by
  rw [show Fence.wide.round=none from rfl,Oper.semAt_none]
  simp [execOp,resolve,hev,Deferred.ofValue,Sem.run_bind,Result.andThen,dcl]
 simp only [cQ,Region.wanted,if_true]
 rw [df _ _ _ rfl,e1']
 show Oper.uponIn Fence.wide 0 P _ (a.put (some d) (.func (.func g) #[] vs.toArray)) _ _ (((⟨none,.defer ⟨.value (.tmp d),#[],#[]⟩,t1,p1,e1,none⟩:Oper).semAt Fence.wide.round (a.put (some d) (.func (.func g) #[] vs.toArray)).eval).run P w)
 rw [e2']
 show y.wpIn Fence.wide 0 P _ _ w
 refine wpIn_mono (k _ w ⟨(At.defs at2:At fn.ntmps _ { (a.put (some d) (.func (.func g) #[] vs.toArray)) with defers:=dcl g vs.toArray::a.defers }),h2,[],?_,fun _=>rfl,?_⟩) ?_
 ·have h0:a.defers=[]:=by rw [h3,hds];rfl
  show dcl g vs.toArray::a.defers=[dcl g vs.toArray]
  rw [h0]
 ·have:sat (H++([]++([]:List Nat).map cA)) w:=by rw [hds] at h5;exact h5
  exact this
 ·rintro e a' w' ⟨L',H',⟨g1,g2,ds',g3,_,g5⟩,q⟩
  have fin:∀ u,u≠FrameMode.run→EndD P fn g vs.toArray R F u L' H'→LeavesInM Fence.wide 0 P fn a'.tmps (Ret w0 F R) a'.defers u w':=fun u hu hE=>by
   rw [show a'.defers=ds'.map dX++[dcl g vs.toArray] from g3]
   exact pf (l:=H') hu ds' w' (by simpa using g5) fun w2 sm sl=>EndD.leaves hu hE (g2.trans sm) g1 sl
  cases e with
  | normal=>exact fin _ (by simp) q
  | ret=>exact fin _ (by simp) q
  | panic ch=>exact fin _ (by simp) q
  | _=>exact q.elim
theorem Fn.mkD {P:Program} {f:FuncId} {args:Array Value} {Pre:List HP} {R:Value→List HP→Prop} {fn:Func} {x:Code} (hf:P.funcs[f]?=some fn) (hb:fn.body=some x) (hN:Nat.ble args.size fn.ntmps=true)
  (h:∀ w0 F,GZ P fn w0 F R x (sW 0 args.toList) (Pre++F)):Fn P f args Pre R:=by
 intro F w s
 have hN':args.size≤fn.ntmps:=by simpa using hN
 refine callsIn_of_wp_marks (fn:=fn) (c:=x) hf hb trivial ?_ rfl
 refine h w F _ w ⟨⟨?_,?_⟩,Same.refl w,[],rfl,fun _=>rfl,by simpa using s⟩
 ·simp;omega
 ·intro t v e
  obtain ⟨_,h2⟩:=gi _ _ _ _ e
  simp at h2
  have hlt:t < args.size:=by
   have:=(Array.getElem?_eq_some_iff.1 h2).1;exact this
  rw [Array.getElem?_append_left hlt];exact h2
end
section
section
variable {P:Program} {c:Cx} {A:Array Oper} {rest:List Oper} {K:aY} {L:Env} {H:List HP} {t:TypeId} {p:String} {e:Array Edge} {d:Nat} {ty ty':TypeId} {x:Operand}
theorem EqR.ifNil {T:TypeId} {v:Value} {ms:Array (String × TypeId)} [hu:UL P ty (.interface ms)] {n:Nat}:EqR P (n+1) ty (.iface T v) .nilIface false:=fun w=>by
 simp only [Op.equalIn]
 simp [Sem.run_bind,run_underlying hu.out,Result.andThen]
theorem EqR.nilNil {ms:Array (String × TypeId)} [hu:UL P ty (.interface ms)] {n:Nat}:EqR P (n+1) ty .nilIface .nilIface true:=fun w=>by
 simp only [Op.equalIn]
 simp [Sem.run_bind,run_underlying hu.out,Result.andThen]
theorem GO.neqIf {T:TypeId} {v:Value} {ms:Array (String × TypeId)} [hu:UL P ty (.interface ms)] (hN:Nat.blt d c.N=true) (hx:evl L x=some (.iface T v)) (k:GO P c A rest K ((d,.bool true)::L) H):GO P c A (⟨some d,.binOp .neq ty x (.const .nilIface) ty',t,p,e,none⟩::rest) K L H:=
 GO.val hN rfl (fun s w Y h _=>by
  have hc:s.eval (.const .nilIface)=.nilIface:=rfl
  simp only [execOp,h.eval hx,hc]
  have:=(EqR.ifNil:EqR P 10000 ty (.iface T v) .nilIface false) w
  simp [Sem.run_bind,eqGuard,binOp,Op.equal,Op.maxDepth,this,Result.andThen]) k
theorem GO.neqIfN {ms:Array (String × TypeId)} [hu:UL P ty (.interface ms)] (hN:Nat.blt d c.N=true) (hx:evl L x=some .nilIface) (k:GO P c A rest K ((d,.bool false)::L) H):GO P c A (⟨some d,.binOp .neq ty x (.const .nilIface) ty',t,p,e,none⟩::rest) K L H:=
 GO.val hN rfl (fun s w Y h _=>by
  have hc:s.eval (.const .nilIface)=.nilIface:=rfl
  simp only [execOp,h.eval hx,hc]
  have:=(EqR.nilNil:EqR P 10000 ty .nilIface .nilIface true) w
  simp [Sem.run_bind,eqGuard,binOp,Op.equal,Op.maxDepth,this,Result.andThen]) k
theorem GO.assertT {T xT:TypeId} {v:Value} {ds:TypeDesc} [hu:UL P T ds] (hi:(match ds with | .interface _=>false | _=>true)=true) (hN:Nat.blt d c.N=true) (hx:evl L x=some (.iface T v)) (k:GO P c A rest K ((d,.tuple [v,.bool true].toArray)::L) H):GO P c A (⟨some d,.typeAssert x xT T true,t,p,e,none⟩::rest) K L H:=
 GO.val hN rfl (fun s w Y h _=>by
  simp only [execOp,h.eval hx,Instr.typeAssert]
  simp only [Sem.run_bind,run_underlying hu.out,Result.andThen]
  cases ds <;> first | (simp at hi;done) | (simp [Sem.run_bind,Result.andThen];done)) k
end
section
variable {P:Program} {fn:Func} {g:FuncId} {caps:Array Value} {R:Value→List HP→Prop} {F:List HP} {L:Env} {H Q Q1 Pre X:List HP} {q1 q2 q3:ResultVar} {v0 v1 v2 v3:Value}
theorem KFD.r3 (calm:Dfr P g caps .returning .returning [] (fun _ Q'=>Q'=[])) (hr:fn.results=#[q1,q2,q3]) (h1:RV P L H q1 v1) (h2:RV P L H q2 v2) (h3:RV P L H q3 v3) (h:R (.tuple #[v1,v2,v3]) Q) (sb:ImpS H (Q++F)):KFD P fn g caps R F .ret L H:=
 ⟨.returning,[],[],H,rfl,calm,ImpS.refl,_,Q,RVs.res (rs:=[q1,q2,q3]) (vs:=[v1,v2,v3]) hr ⟨h1,h2,h3,trivial⟩,h,sb⟩
theorem KFD.p3 (hc:Dfr P g caps (.panicking (chn v0)) (.panicking [{ v:=v0,recovered:=true }]) Pre (fun _ Q'=>Q'=Q1)) (hi:ImpS H (Pre++X)) (hr:fn.results=#[q1,q2,q3]) (h1:RV P L (Q1++X) q1 v1) (h2:RV P L (Q1++X) q2 v2) (h3:RV P L (Q1++X) q3 v3) (h:R (.tuple #[v1,v2,v3]) Q) (sb:ImpS (Q1++X) (Q++F)):KFD P fn g caps R F (.panic (chn v0)) L H:=
 ⟨_,Pre,Q1,X,rfl,hc,hi,_,Q,RVs.res (rs:=[q1,q2,q3]) (vs:=[v1,v2,v3]) hr ⟨h1,h2,h3,trivial⟩,h,sb⟩
end
end
section
theorem mj {b:Nat} {l:List Value} {T:TypeId} {F:List HP} {w:World} (s:sat (pt b (row l T)::F) w):w.shape? b=some (T,l.length):=by
 have:=aT s
 simp [World.shape?,this,row]
section
variable {P:Program} {c:Cx} {A:Array Oper} {rest:List Oper} {K:aY} {L:Env} {H F:List HP} {t:TypeId} {p:String} {e:Array Edge} {d:Nat}
theorem nN {T:TypeId} {n:Nat} [h:SZ P T n]:∃ j,P.info? T=some j∧j.size=n:=by
 have:=h.out
 cases hq:P.info? T with
 | none=>simp [hq] at this
 | some j=>exact ⟨j,rfl,by simpa [hq] using this⟩
theorem GO.toUnsafe {src dst u T:TypeId} {b n:Nat} {l:List Value} {x:Operand} [hs:UL P src (.pointer u)] [hd:UL P dst .unsafePointer] [hz:SZ P u (n+1)] (hN:Nat.blt d c.N=true) (hx:evl L x=some (ah b)) (tk:Tk (pt b (row l T)) H F) (hl:0 < l.length)
  (k:GO P c A rest K ((d,ah b)::L) H):GO P c A (⟨some d,.convert src dst x,t,p,e,none⟩::rest) K L H:=
 GO.val hN rfl (fun a w Y h s=>by
  obtain ⟨j,hj,hj2⟩:=nN (P:=P) (T:=u) (n:=n+1)
  have hsh:=mj (ai (List.Perm.append_right Y tk) s)
  have:=Lib.run_to_unsafe (P:=P) w ⟨b,0,none⟩ hs.out hd.out hj (by omega) hsh hl
  simp only [execOp,h.eval hx]
  rw [Sem.run_bind,this];rfl) k
theorem GO.fromUnsafe {src dst u T:TypeId} {b n:Nat} {l:List Value} {x:Operand} [hs:UL P src .unsafePointer] [hd:UL P dst (.pointer u)] [hz:SZ P u n] (hN:Nat.blt d c.N=true) (hx:evl L x=some (ah b)) (tk:Tk (pt b (row l T)) H F) (hlies:liesAt P P.depth T (l.length / P.cellsOf T) 0 u 1=true)
  (k:GO P c A rest K ((d,ah b)::L) H):GO P c A (⟨some d,.convert src dst x,t,p,e,none⟩::rest) K L H:=
 GO.val hN rfl (fun a w Y h s=>by
  obtain ⟨j,hj,_⟩:=nN (P:=P) (T:=u) (n:=n)
  have hsh:=mj (ai (List.Perm.append_right Y tk) s)
  have:=Lib.run_from_unsafe (P:=P) w ⟨b,0,none⟩ hs.out hd.out hj hsh hlies
  simp only [execOp,h.eval hx]
  rw [Sem.run_bind,this];rfl) k
theorem GO.callExt1 {f:FuncId} {x1:Operand} {v1 r:Value} {ats:Array TypeId} (hN:Nat.blt d c.N=true) (h1:evl L x1=some v1) (hr:∀ w,(callFunc f #[v1]).run P w=.ok (.value r) w)
  (k:GO P c A rest K ((d,r)::L) H):GO P c A (⟨some d,.call ⟨.value (.func f),#[x1],ats⟩,t,p,e,none⟩::rest) K L H:=
 GO.val hN rfl (fun a w Y h s=>by
  simp only [execOp,resolve]
  have e0:a.eval (.func f)=.func (.func f) #[] #[]:=rfl
  simp [e0,Deferred.ofValue,invoke,h.eval h1,hr]) k
theorem GO.neqSame {ty ty' u:TypeId} {b n:Nat} {x y:Operand} [hu:UL P ty (.pointer u)] [hz:SZ P u n] (hN:Nat.blt d c.N=true) (hx:evl L x=some (ah b)) (hy:evl L y=some (ah b))
  (k:GO P c A rest K ((d,.bool false)::L) H):GO P c A (⟨some d,.binOp .neq ty x y ty',t,p,e,none⟩::rest) K L H:=
 GO.val hN rfl (fun a w Y h s=>by
  obtain ⟨j,hj,_⟩:=nN (P:=P) (T:=u) (n:=n)
  have:=Lib.run_neq_ptr_same (P:=P) w ⟨b,0,none⟩ hu.out hj
  simp only [execOp,h.eval hx,h.eval hy]
  simp [Sem.run_bind,eqGuard,this,Result.andThen]) k
theorem GO.capS {el m cap:Nat} {ba:Option Addr} {at1:TypeId} {x:Operand} [hu:UL P at1 (.slice el)] (hN:Nat.blt d c.N=true) (hx:evl L x=some (.slice ba m cap))
  (k:GO P c A rest K ((d,.int .i64 (cap:Int))::L) H):GO P c A (⟨some d,.call ⟨.builtin .cap,#[x],#[at1]⟩,t,p,e,none⟩::rest) K L H:=
 GO.val hN rfl (fun a w Y h _=>by
  simp only [execOp,resolve,invoke,builtin]
  simp [Sem.run_bind,Result.andThen,Builtin.cap_,h.eval hx,run_underlying hu.out,goInt]) k
theorem GO.copy0 {el cd:Nat} {a:Option Addr} {cs:Nat} {dT sT:TypeId} {x y:Operand} {n:Nat} [hu:UL P dT (.slice el)] [hs:SZ P el n] (hN:Nat.blt d c.N=true) (hx:evl L x=some (.slice a 0 cd)) (hy:evl L y=some (.slice none 0 cs))
  (k:GO P c A rest K ((d,i64 0)::L) H):GO P c A (⟨some d,.call ⟨.builtin .copy,#[x,y],#[dT,sT]⟩,t,p,e,none⟩::rest) K L H:=
 GO.val hN rfl (fun s w Y h _=>by
  obtain ⟨j,hj,_⟩:=nN (P:=P) (T:=el) (n:=n)
  simp only [execOp,resolve,invoke,builtin]
  cases a <;> simp [Sem.run_bind,Result.andThen,Builtin.copy_,h.eval hx,h.eval hy,run_underlying hu.out,goInt,Builtin.lenOf,Builtin.firstCells,sizeOf,typeInfo,hj,storeCells]) k
theorem GO.makeNoZero {f:FuncId} {el rt:TypeId} {ps:Array TypeId} {x1:Operand} {n:Nat} {ats:Array TypeId} [hu:UL P rt (.slice el)] (hN:Nat.blt d c.N=true) (h1:evl L x1=some (i64 (n:Nat))) (hn:n≤281474976710656) (hn2:n≤maxLen)
  (hr:∀ w,(callFunc f #[i64 (n:Nat)]).run P w=((Extern.BytealgMakeNoZero.makeNoZero ps #[rt] #[.int .i64 n]).run P w).andThen fun v w'=>.ok (.value v) w')
  (k:∀ b (l:List Value),n≤l.length→l.length≤maxLen→GO P c A rest K ((d,.slice (some ⟨b,0,none⟩) n l.length)::L) (pt b (row l el)::H)):GO P c A (⟨some d,.call ⟨.value (.func f),#[x1],ats⟩,t,p,e,none⟩::rest) K L H:=
 GO.gen hN rfl (fun v H'=>∃ b l,v=.slice (some ⟨b,0,none⟩) n (l:List Value).length∧n≤l.length∧l.length≤maxLen∧H'=pt b (row l el)::H)
  (fun a w Y h s=>by
   obtain ⟨cs,hrun,hc1,hc2⟩:=Lib.run_makeNoZero (P:=P) w ps rt el hu.out n hn
   refine ⟨.slice (some ⟨w.heap.size,0,none⟩) n cs.size,w.drew.drew.alloc (.cells cs el),pt w.heap.size (row cs.toList el)::H,?_,Same.trans (Same.drawn _ (Nat.le_add_right _ 2)) (Same.alloc _ _),⟨_,cs.toList,by simp,by simpa using hc1,by simpa using hc2 hn2,rfl⟩,?_⟩
   ·simp only [execOp,resolve]
    have e0:a.eval (.func f)=.func (.func f) #[] #[]:=rfl
    simp [e0,Deferred.ofValue,invoke,h.eval h1,hr,hrun,Result.andThen]
   ·have:=bh (w:=w.drew.drew) (fD s rfl) (row cs.toList el)
    simpa [row] using this)
  (by rintro _ _ ⟨b,l,rfl,h1,h2,rfl⟩;exact k b l h1 h2)
theorem GO.sliceData {at1:TypeId} {a:Option Addr} {n cap:Nat} {x:Operand} (hN:Nat.blt d c.N=true) (hx:evl L x=some (.slice a n cap)) (hc:a=none∨cap≠0)
  (k:GO P c A rest K ((d,.pointer a)::L) H):GO P c A (⟨some d,.call ⟨.builtin .unsafeSliceData,#[x],#[at1]⟩,t,p,e,none⟩::rest) K L H:=
 GO.val hN rfl (fun s w Y h _=>by
  simp only [execOp,resolve,invoke,builtin]
  cases a with
  | none=>simp [Sem.run_bind,Result.andThen,h.eval hx,Lib.run_unsafeSliceData_nil]
  | some a=>simp [Sem.run_bind,Result.andThen,h.eval hx,Lib.run_unsafeSliceData_row (P:=P) w #[at1] t a n cap (hc.resolve_left (by simp))]) k
theorem GO.unsafeStr {at1 at2 el:TypeId} {b cap:Nat} {l:List UInt8} {x y:Operand} [hu:UL P at1 (.pointer el)] (hc:P.cellsOf el=1) (hN:Nat.blt d c.N=true) (hx:evl L x=some (ah b)) (hy:evl L y=some (i64 (l.length:Nat))) (h0:l≠[])
  (tk:Tk (own el 1 l.length (.slice (some ⟨b,0,none⟩) l.length cap) (bP l)) H F)
  (k:GO P c A rest K ((d,str l)::L) F):GO P c A (⟨some d,.call ⟨.builtin .unsafeString,#[x,y],#[at1,at2]⟩,t,p,e,none⟩::rest) K L H:=
 GO.gen hN rfl (fun v H'=>v=str l∧H'=F)
  (fun a w Y h s=>by
   have hl:l.length≠0:=by simpa using h0
   have s1:=ai (List.Perm.append_right Y tk) s
   rcases bK s1 with ⟨hv,_⟩ | ⟨b',cap',rest',hv,g1,g2,g3,g4,s2⟩
   ·cases hv
   ·injection hv with e1 e2 e3
    injection e1 with e1
    injection e1 with e1
    subst e1 e3
    have hb:=aT s2
    have hsh:=mj s2
    have hcell:∀ j x,l[j]?=some x→w.cell? ((⟨b,0,none⟩:Addr).add j)=some (.int .u8 x.toNat):=fun j x hj=>by
     rw [cL,Nat.zero_add]
     have hjl:j < (bP l).length:=by rw [eN];exact (List.getElem?_eq_some_iff.1 hj).1
     simp only [World.cell?,hb,row,List.getElem?_toArray]
     rw [List.getElem?_append_left hjl]
     simp [bP,hj]
    rw [List.length_append] at g4 hsh
    have hrun:=Lib.run_unsafeString_row (P:=P) w at1 at2 t el hu.out hc b _ hsh l h0 (by rw [eN];omega) (by simp only [maxLen] at g3;omega) hcell
    refine ⟨str l,w.freeze ⟨b,0,none⟩ l.length,F,?_,?_,⟨rfl,rfl⟩,?_⟩
    ·simp only [execOp,resolve,invoke,builtin]
     simp [Sem.run_bind,Result.andThen,h.eval hx,h.eval hy,hrun]
    ·unfold World.freeze
     rw [if_neg hl]
     exact ⟨rfl,rfl,rfl,by simp,Nat.le_refl _⟩
    ·have hb':∃ o,(w.freeze ⟨b,0,none⟩ l.length).heap[b]?=some o:=by
      unfold World.freeze
      rw [if_neg hl]
      simp only [Array.getElem?_modify,if_true,hb,Option.map_some]
      exact ⟨_,rfl⟩
     obtain ⟨o,hb'⟩:=hb'
     have s3:=bE s2 hb' (fun k hk=>by
      unfold World.freeze
      rw [if_neg hl]
      simp only [Array.getElem?_modify]
      rw [if_neg (by simpa using fun h:b=k=>hk h.symm)])
     exact cx (l:=[pt b o]) s3)
  (by rintro _ _ ⟨rfl,rfl⟩;exact k)
theorem G.ownShape {el:TypeId} {sz n:Nat} {v:Value} {xs:List Value} {C:Code} (tk:Tk (own el sz n v xs) H F) (k:(v=.slice none 0 0∧n=0∧xs=[])∨(∃ b cap,v=.slice (some ⟨b,0,none⟩) n cap∧n≤cap)→G P c C K L H):G P c C K L H:=by
 rintro a w ⟨h1,h2,ds,h3,h4,h5⟩
 have s1:=ai (List.Perm.append_right _ tk) h5
 refine k ?_ a w ⟨h1,h2,ds,h3,h4,h5⟩
 rcases bK s1 with ⟨e1,e2,e3,_⟩ | ⟨b,cap,_,e1,_,e2,_⟩
 ·exact .inl ⟨e1,e2,e3⟩
 ·exact .inr ⟨b,cap,e1,e2⟩
end
end
theorem ae {P:Program} {f:FuncId} {fn:Func} (hf:P.funcs[f]?=some fn) (hn:(fn.name == "runtime.NumGoroutine")=false) (hb:fn.body.isNone=false):Cal P f:=⟨fun args w=>by
 have hn':¬ fn.name = "runtime.NumGoroutine" := by simpa using hn
 have hb':¬ fn.body=none:=by intro h;rw [h] at hb;cases hb
 simp [callFunc,Sem.run_bind,Result.andThen,hf,hn',hb']⟩
instance : UL Tryz.prog 3 (TypeDesc.int IntKind.i64) := ⟨Tryz.underlying3⟩
instance:SZ Tryz.prog 3 1:=⟨by kernel_rfl⟩
instance:BY Tryz.prog 3 8:=⟨by kernel_rfl⟩
instance:ZC Tryz.prog 3 ([Value.int IntKind.i64 0]):=⟨by kernel_rfl⟩
instance : UL Tryz.prog 4 (TypeDesc.bool) := ⟨Tryz.underlying4⟩
instance:SZ Tryz.prog 4 1:=⟨by kernel_rfl⟩
instance:BY Tryz.prog 4 1:=⟨by kernel_rfl⟩
instance:ZC Tryz.prog 4 ([Value.bool false]):=⟨by kernel_rfl⟩
instance : UL Tryz.prog 5 (TypeDesc.int IntKind.u8) := ⟨Tryz.underlying5⟩
instance:SZ Tryz.prog 5 1:=⟨by kernel_rfl⟩
instance:BY Tryz.prog 5 1:=⟨by kernel_rfl⟩
instance:ZC Tryz.prog 5 ([Value.int IntKind.u8 0]):=⟨by kernel_rfl⟩
instance : UL Tryz.prog 9 (TypeDesc.string) := ⟨Tryz.underlying9⟩
instance:SZ Tryz.prog 9 1:=⟨by kernel_rfl⟩
instance:BY Tryz.prog 9 16:=⟨by kernel_rfl⟩
instance:ZC Tryz.prog 9 ([Value.string { data:=#[] }]):=⟨by kernel_rfl⟩
instance : UL Tryz.prog 20 (TypeDesc.interface #[]) := ⟨Tryz.underlying20⟩
instance : UL Tryz.prog 22 (TypeDesc.slice 9) := ⟨Tryz.underlying22⟩
instance:SZ Tryz.prog 22 1:=⟨by kernel_rfl⟩
instance : UL Tryz.prog 23 (TypeDesc.slice 97) := ⟨Tryz.underlying23⟩
instance:SZ Tryz.prog 23 1:=⟨by kernel_rfl⟩
instance:ZC Tryz.prog 23 ([Value.slice none 0 0]):=⟨by kernel_rfl⟩
instance : UL Tryz.prog 24 (TypeDesc.int IntKind.i64) := ⟨Tryz.underlying24⟩
instance:SZ Tryz.prog 24 1:=⟨by kernel_rfl⟩
instance:ZC Tryz.prog 24 ([Value.int IntKind.i64 0]):=⟨by kernel_rfl⟩
instance : UL Tryz.prog 28 (TypeDesc.pointer 66) := ⟨Tryz.underlying28⟩
instance : UL Tryz.prog 31 (TypeDesc.slice 82) := ⟨Tryz.underlying31⟩
instance:SZ Tryz.prog 31 1:=⟨by kernel_rfl⟩
instance : UL Tryz.prog 33 (TypeDesc.struct #[{ name := "Nts", type := 3, offset := 0, embedded := false, tag := "", pkgPath := "", byteOffset := 0 }, { name := "Prods", type := 31, offset := 1, embedded := false, tag := "", pkgPath := "", byteOffset := 8 }]) := ⟨Tryz.underlying33⟩
instance:SZ Tryz.prog 33 2:=⟨by kernel_rfl⟩
instance:B0 Tryz.prog 33 ([Value.int IntKind.i64 0,Value.slice none 0 0]):=⟨by kernel_rfl⟩
instance:ZC Tryz.prog 33 ([Value.int IntKind.i64 0,Value.slice none 0 0]):=⟨by kernel_rfl⟩
instance:FO Tryz.prog 33 0 0:=⟨_,_,Tryz.underlying33,rfl,rfl,0,by kernel_rfl⟩
instance:FO Tryz.prog 33 1 1:=⟨_,_,Tryz.underlying33,rfl,rfl,0,by kernel_rfl⟩
instance : UL Tryz.prog 51 (TypeDesc.struct #[{ name := "at", type := 3, offset := 0, embedded := false, tag := "", pkgPath := "byway/bnf", byteOffset := 0 }]) := ⟨Tryz.underlying51⟩
instance:SZ Tryz.prog 51 1:=⟨by kernel_rfl⟩
instance:ZC Tryz.prog 51 ([Value.int IntKind.i64 0]):=⟨by kernel_rfl⟩
instance:BLD Tryz.prog 51 [1]:=fz Tryz.underlying51 (ZC.out (P:=Tryz.prog) (t:=51)) (by kernel_rfl) rfl
instance:FO Tryz.prog 51 0 0:=⟨_,_,Tryz.underlying51,rfl,rfl,0,by kernel_rfl⟩
instance : UL Tryz.prog 53 (TypeDesc.slice 125) := ⟨Tryz.underlying53⟩
instance:SZ Tryz.prog 53 1:=⟨by kernel_rfl⟩
instance:ZC Tryz.prog 53 ([Value.slice none 0 0]):=⟨by kernel_rfl⟩
instance:FO Tryz.prog 58 0 0:=⟨_,_,Tryz.underlying58,rfl,rfl,0,by kernel_rfl⟩
instance:FO Tryz.prog 58 1 1:=⟨_,_,Tryz.underlying58,rfl,rfl,0,by kernel_rfl⟩
instance:FO Tryz.prog 58 2 2:=⟨_,_,Tryz.underlying58,rfl,rfl,0,by kernel_rfl⟩
instance:FO Tryz.prog 58 3 3:=⟨_,_,Tryz.underlying58,rfl,rfl,0,by kernel_rfl⟩
instance : UL Tryz.prog 60 (TypeDesc.func #[23] #[4] false) := ⟨Tryz.underlying60⟩
instance : UL Tryz.prog 61 (TypeDesc.pointer 136) := ⟨Tryz.underlying61⟩
instance : UL Tryz.prog 64 (TypeDesc.slice 76) := ⟨Tryz.underlying64⟩
instance:SZ Tryz.prog 64 1:=⟨by kernel_rfl⟩
instance:FO Tryz.prog 66 0 0:=⟨_,_,Tryz.underlying66,rfl,rfl,0,by kernel_rfl⟩
instance:FO Tryz.prog 66 1 1:=⟨_,_,Tryz.underlying66,rfl,rfl,0,by kernel_rfl⟩
instance:FO Tryz.prog 66 2 2:=⟨_,_,Tryz.underlying66,rfl,rfl,0,by kernel_rfl⟩
instance : UL Tryz.prog 67 (TypeDesc.slice 3) := ⟨Tryz.underlying67⟩
instance:SZ Tryz.prog 67 1:=⟨by kernel_rfl⟩
instance:BY Tryz.prog 67 24:=⟨by kernel_rfl⟩
instance:ZC Tryz.prog 67 ([Value.slice none 0 0]):=⟨by kernel_rfl⟩
instance : UL Tryz.prog 68 (TypeDesc.slice 87) := ⟨Tryz.underlying68⟩
instance:SZ Tryz.prog 68 1:=⟨by kernel_rfl⟩
instance : UL Tryz.prog 70 (TypeDesc.struct #[{ name := "States", type := 3, offset := 0, embedded := false, tag := "", pkgPath := "", byteOffset := 0 }, { name := "Finals", type := 67, offset := 1, embedded := false, tag := "", pkgPath := "", byteOffset := 8 }, { name := "Arcs", type := 68, offset := 2, embedded := false, tag := "", pkgPath := "", byteOffset := 32 }]) := ⟨Tryz.underlying70⟩
instance:SZ Tryz.prog 70 3:=⟨by kernel_rfl⟩
instance:ZC Tryz.prog 70 ([Value.int IntKind.i64 0,Value.slice none 0 0,Value.slice none 0 0]):=⟨by kernel_rfl⟩
instance:BLD Tryz.prog 70 [1,1,1]:=fz Tryz.underlying70 (ZC.out (P:=Tryz.prog) (t:=70)) (by kernel_rfl) rfl
instance:FO Tryz.prog 70 0 0:=⟨_,_,Tryz.underlying70,rfl,rfl,0,by kernel_rfl⟩
instance:FO Tryz.prog 70 1 1:=⟨_,_,Tryz.underlying70,rfl,rfl,0,by kernel_rfl⟩
instance:FO Tryz.prog 70 2 2:=⟨_,_,Tryz.underlying70,rfl,rfl,0,by kernel_rfl⟩
instance : UL Tryz.prog 73 (TypeDesc.slice 95) := ⟨Tryz.underlying73⟩
instance : UL Tryz.prog 76 (TypeDesc.struct #[{ name := "Auto", type := 70, offset := 0, embedded := true, tag := "", pkgPath := "", byteOffset := 0 }, { name := "first", type := 3, offset := 3, embedded := false, tag := "", pkgPath := "byway/rsm", byteOffset := 56 }]) := ⟨Tryz.underlying76⟩
instance:SZ Tryz.prog 76 4:=⟨by kernel_rfl⟩
instance:BY Tryz.prog 76 64:=⟨by kernel_rfl⟩
instance:ZC Tryz.prog 76 ([Value.int IntKind.i64 0,Value.slice none 0 0,Value.slice none 0 0,Value.int IntKind.i64 0]):=⟨by kernel_rfl⟩
instance:BLD Tryz.prog 76 [3,1]:=fz Tryz.underlying76 (ZC.out (P:=Tryz.prog) (t:=76)) (by kernel_rfl) rfl
instance:FO Tryz.prog 76 0 0:=⟨_,_,Tryz.underlying76,rfl,rfl,2,by kernel_rfl⟩
instance:FO Tryz.prog 76 1 3:=⟨_,_,Tryz.underlying76,rfl,rfl,0,by kernel_rfl⟩
instance : UL Tryz.prog 80 (TypeDesc.slice 85) := ⟨Tryz.underlying80⟩
instance:SZ Tryz.prog 80 1:=⟨by kernel_rfl⟩
instance : UL Tryz.prog 82 (TypeDesc.struct #[{ name := "Head", type := 3, offset := 0, embedded := false, tag := "", pkgPath := "", byteOffset := 0 }, { name := "Body", type := 80, offset := 1, embedded := false, tag := "", pkgPath := "", byteOffset := 8 }]) := ⟨Tryz.underlying82⟩
instance:SZ Tryz.prog 82 2:=⟨by kernel_rfl⟩
instance:BY Tryz.prog 82 32:=⟨by kernel_rfl⟩
instance:ZC Tryz.prog 82 ([Value.int IntKind.i64 0,Value.slice none 0 0]):=⟨by kernel_rfl⟩
instance:BLD Tryz.prog 82 [1,1]:=fz Tryz.underlying82 (ZC.out (P:=Tryz.prog) (t:=82)) (by kernel_rfl) rfl
instance:FO Tryz.prog 82 0 0:=⟨_,_,Tryz.underlying82,rfl,rfl,0,by kernel_rfl⟩
instance:FO Tryz.prog 82 1 1:=⟨_,_,Tryz.underlying82,rfl,rfl,0,by kernel_rfl⟩
instance : UL Tryz.prog 85 (TypeDesc.struct #[{ name := "Label", type := 4, offset := 0, embedded := false, tag := "", pkgPath := "", byteOffset := 0 }, { name := "N", type := 3, offset := 1, embedded := false, tag := "", pkgPath := "", byteOffset := 8 }]) := ⟨Tryz.underlying85⟩
instance:SZ Tryz.prog 85 2:=⟨by kernel_rfl⟩
instance:BY Tryz.prog 85 16:=⟨by kernel_rfl⟩
instance:SH Tryz.prog 85:=⟨by kernel_rfl⟩
instance:B0 Tryz.prog 85 ([Value.bool false,Value.int IntKind.i64 0]):=⟨by kernel_rfl⟩
instance:ZC Tryz.prog 85 ([Value.bool false,Value.int IntKind.i64 0]):=⟨by kernel_rfl⟩
instance:BLD Tryz.prog 85 [1,1]:=fz Tryz.underlying85 (ZC.out (P:=Tryz.prog) (t:=85)) (by kernel_rfl) rfl
instance:FO Tryz.prog 85 0 0:=⟨_,_,Tryz.underlying85,rfl,rfl,0,by kernel_rfl⟩
instance:FO Tryz.prog 85 1 1:=⟨_,_,Tryz.underlying85,rfl,rfl,0,by kernel_rfl⟩
instance : UL Tryz.prog 87 (TypeDesc.struct #[{ name := "From", type := 3, offset := 0, embedded := false, tag := "", pkgPath := "", byteOffset := 0 }, { name := "Sym", type := 85, offset := 1, embedded := false, tag := "", pkgPath := "", byteOffset := 8 }, { name := "To", type := 3, offset := 3, embedded := false, tag := "", pkgPath := "", byteOffset := 24 }]) := ⟨Tryz.underlying87⟩
instance:SZ Tryz.prog 87 4:=⟨by kernel_rfl⟩
instance:BY Tryz.prog 87 32:=⟨by kernel_rfl⟩
instance:EG Tryz.prog 87:=⟨by kernel_rfl⟩
instance:SH Tryz.prog 87:=⟨by kernel_rfl⟩
instance:ZC Tryz.prog 87 ([Value.int IntKind.i64 0,Value.bool false,Value.int IntKind.i64 0,Value.int IntKind.i64 0]):=⟨by kernel_rfl⟩
instance:BLD Tryz.prog 87 [1,2,1]:=fz Tryz.underlying87 (ZC.out (P:=Tryz.prog) (t:=87)) (by kernel_rfl) rfl
instance:FO Tryz.prog 87 0 0:=⟨_,_,Tryz.underlying87,rfl,rfl,0,by kernel_rfl⟩
instance:FO Tryz.prog 87 1 1:=⟨_,_,Tryz.underlying87,rfl,rfl,1,by kernel_rfl⟩
instance:FO Tryz.prog 87 2 3:=⟨_,_,Tryz.underlying87,rfl,rfl,0,by kernel_rfl⟩
instance : UL Tryz.prog 91 (TypeDesc.int IntKind.i64) := ⟨Tryz.underlying91⟩
instance : UL Tryz.prog 93 (TypeDesc.struct #[{ name := "Kind", type := 91, offset := 0, embedded := false, tag := "", pkgPath := "", byteOffset := 0 }, { name := "Name", type := 9, offset := 1, embedded := false, tag := "", pkgPath := "", byteOffset := 8 }, { name := "Kids", type := 3, offset := 2, embedded := false, tag := "", pkgPath := "", byteOffset := 24 }]) := ⟨Tryz.underlying93⟩
instance:SZ Tryz.prog 93 3:=⟨by kernel_rfl⟩
instance:BY Tryz.prog 93 32:=⟨by kernel_rfl⟩
instance:ZC Tryz.prog 93 ([Value.int IntKind.i64 0,Value.string { data:=#[] },Value.int IntKind.i64 0]):=⟨by kernel_rfl⟩
instance:FO Tryz.prog 93 0 0:=⟨_,_,Tryz.underlying93,rfl,rfl,0,by kernel_rfl⟩
instance:FO Tryz.prog 93 1 1:=⟨_,_,Tryz.underlying93,rfl,rfl,0,by kernel_rfl⟩
instance:FO Tryz.prog 93 2 2:=⟨_,_,Tryz.underlying93,rfl,rfl,0,by kernel_rfl⟩
instance : UL Tryz.prog 95 (TypeDesc.slice 93) := ⟨Tryz.underlying95⟩
instance:SZ Tryz.prog 95 1:=⟨by kernel_rfl⟩
instance:BY Tryz.prog 95 24:=⟨by kernel_rfl⟩
instance:ZC Tryz.prog 95 ([Value.slice none 0 0]):=⟨by kernel_rfl⟩
instance : UL Tryz.prog 97 (TypeDesc.struct #[{ name := "Head", type := 9, offset := 0, embedded := false, tag := "", pkgPath := "", byteOffset := 0 }, { name := "Body", type := 95, offset := 1, embedded := false, tag := "", pkgPath := "", byteOffset := 16 }]) := ⟨Tryz.underlying97⟩
instance:SZ Tryz.prog 97 2:=⟨by kernel_rfl⟩
instance:BY Tryz.prog 97 40:=⟨by kernel_rfl⟩
instance:ZC Tryz.prog 97 ([Value.string { data:=#[] },Value.slice none 0 0]):=⟨by kernel_rfl⟩
instance:BLD Tryz.prog 97 [1,1]:=fz Tryz.underlying97 (ZC.out (P:=Tryz.prog) (t:=97)) (by kernel_rfl) rfl
instance:FO Tryz.prog 97 0 0:=⟨_,_,Tryz.underlying97,rfl,rfl,0,by kernel_rfl⟩
instance:FO Tryz.prog 97 1 1:=⟨_,_,Tryz.underlying97,rfl,rfl,0,by kernel_rfl⟩
instance : UL Tryz.prog 98 (TypeDesc.slice 5) := ⟨Tryz.underlying98⟩
instance:SZ Tryz.prog 98 1:=⟨by kernel_rfl⟩
instance : UL Tryz.prog 101 (TypeDesc.slice 104) := ⟨Tryz.underlying101⟩
instance : UL Tryz.prog 104 (TypeDesc.struct #[{ name := "wrong", type := 60, offset := 0, embedded := false, tag := "", pkgPath := "byway/bnf", byteOffset := 0 }, { name := "e", type := 24, offset := 1, embedded := false, tag := "", pkgPath := "byway/bnf", byteOffset := 8 }]) := ⟨Tryz.underlying104⟩
instance:SZ Tryz.prog 104 2:=⟨by kernel_rfl⟩
instance:ZC Tryz.prog 104 ([Value.nilFunc,Value.int IntKind.i64 0]):=⟨by kernel_rfl⟩
instance:BLD Tryz.prog 104 [1,1]:=fz Tryz.underlying104 (ZC.out (P:=Tryz.prog) (t:=104)) (by kernel_rfl) rfl
instance:FO Tryz.prog 104 0 0:=⟨_,_,Tryz.underlying104,rfl,rfl,0,by kernel_rfl⟩
instance:FO Tryz.prog 104 1 1:=⟨_,_,Tryz.underlying104,rfl,rfl,0,by kernel_rfl⟩
instance : UL Tryz.prog 105 (TypeDesc.slice 4) := ⟨Tryz.underlying105⟩
instance:SZ Tryz.prog 105 1:=⟨by kernel_rfl⟩
instance:ZC Tryz.prog 105 ([Value.slice none 0 0]):=⟨by kernel_rfl⟩
instance : UL Tryz.prog 108 (TypeDesc.slice 67) := ⟨Tryz.underlying108⟩
instance : UL Tryz.prog 113 (TypeDesc.map 3 3) := ⟨Tryz.underlying113⟩
instance:FO Tryz.prog 115 0 0:=⟨_,_,Tryz.underlying115,rfl,rfl,1,by kernel_rfl⟩
instance:FO Tryz.prog 115 1 2:=⟨_,_,Tryz.underlying115,rfl,rfl,0,by kernel_rfl⟩
instance:FO Tryz.prog 115 2 3:=⟨_,_,Tryz.underlying115,rfl,rfl,0,by kernel_rfl⟩
instance : UL Tryz.prog 123 (TypeDesc.int IntKind.i64) := ⟨Tryz.underlying123⟩
instance : UL Tryz.prog 125 (TypeDesc.struct #[{ name := "Kind", type := 123, offset := 0, embedded := false, tag := "", pkgPath := "", byteOffset := 0 }, { name := "At", type := 3, offset := 1, embedded := false, tag := "", pkgPath := "", byteOffset := 8 }, { name := "Text", type := 9, offset := 2, embedded := false, tag := "", pkgPath := "", byteOffset := 16 }]) := ⟨Tryz.underlying125⟩
instance:SZ Tryz.prog 125 3:=⟨by kernel_rfl⟩
instance:BY Tryz.prog 125 32:=⟨by kernel_rfl⟩
instance:ZC Tryz.prog 125 ([Value.int IntKind.i64 0,Value.int IntKind.i64 0,Value.string { data:=#[] }]):=⟨by kernel_rfl⟩
instance:FO Tryz.prog 125 0 0:=⟨_,_,Tryz.underlying125,rfl,rfl,0,by kernel_rfl⟩
instance:FO Tryz.prog 125 1 1:=⟨_,_,Tryz.underlying125,rfl,rfl,0,by kernel_rfl⟩
instance:FO Tryz.prog 125 2 2:=⟨_,_,Tryz.underlying125,rfl,rfl,0,by kernel_rfl⟩
instance : UL Tryz.prog 132 (TypeDesc.func #[97] #[4] false) := ⟨Tryz.underlying132⟩
instance : UL Tryz.prog 134 (TypeDesc.map 138 3) := ⟨Tryz.underlying134⟩
instance:ZC Tryz.prog 136 ([Value.slice none 0 0,Value.slice none 0 0,Value.map none]):=⟨by kernel_rfl⟩
instance:BLD Tryz.prog 136 [1,1,1]:=fz Tryz.underlying136 (ZC.out (P:=Tryz.prog) (t:=136)) (by kernel_rfl) rfl
instance:FO Tryz.prog 136 0 0:=⟨_,_,Tryz.underlying136,rfl,rfl,0,by kernel_rfl⟩
instance:FO Tryz.prog 136 1 1:=⟨_,_,Tryz.underlying136,rfl,rfl,0,by kernel_rfl⟩
instance:FO Tryz.prog 136 2 2:=⟨_,_,Tryz.underlying136,rfl,rfl,0,by kernel_rfl⟩
instance : UL Tryz.prog 138 (TypeDesc.struct #[{ name := "label", type := 4, offset := 0, embedded := false, tag := "", pkgPath := "byway/symbols", byteOffset := 0 }, { name := "name", type := 9, offset := 1, embedded := false, tag := "", pkgPath := "byway/symbols", byteOffset := 8 }]) := ⟨Tryz.underlying138⟩
instance:SZ Tryz.prog 138 2:=⟨by kernel_rfl⟩
instance:SH Tryz.prog 138:=⟨by kernel_rfl⟩
instance:ZC Tryz.prog 138 ([Value.bool false,Value.string { data:=#[] }]):=⟨by kernel_rfl⟩
instance:BLD Tryz.prog 138 [1,1]:=fz Tryz.underlying138 (ZC.out (P:=Tryz.prog) (t:=138)) (by kernel_rfl) rfl
instance:B0 Tryz.prog 146 ([Value.slice none 0 0,Value.slice none 0 0]):=⟨by kernel_rfl⟩
instance:FO Tryz.prog 146 0 0:=⟨_,_,Tryz.underlying146,rfl,rfl,0,by kernel_rfl⟩
instance:FO Tryz.prog 146 1 1:=⟨_,_,Tryz.underlying146,rfl,rfl,0,by kernel_rfl⟩
instance : UL Tryz.prog 148 (TypeDesc.struct #[{ name := "empty", type := 4, offset := 0, embedded := false, tag := "", pkgPath := "byway/box", byteOffset := 0 }, { name := "first", type := 67, offset := 1, embedded := false, tag := "", pkgPath := "byway/box", byteOffset := 8 }, { name := "last", type := 67, offset := 2, embedded := false, tag := "", pkgPath := "byway/box", byteOffset := 32 }]) := ⟨Tryz.underlying148⟩
instance:SZ Tryz.prog 148 3:=⟨by kernel_rfl⟩
instance:B0 Tryz.prog 148 ([Value.bool false,Value.slice none 0 0,Value.slice none 0 0]):=⟨by kernel_rfl⟩
instance:ZC Tryz.prog 148 ([Value.bool false,Value.slice none 0 0,Value.slice none 0 0]):=⟨by kernel_rfl⟩
instance:BLD Tryz.prog 148 [1,1,1]:=fz Tryz.underlying148 (ZC.out (P:=Tryz.prog) (t:=148)) (by kernel_rfl) rfl
instance:FO Tryz.prog 148 0 0:=⟨_,_,Tryz.underlying148,rfl,rfl,0,by kernel_rfl⟩
instance:FO Tryz.prog 148 1 1:=⟨_,_,Tryz.underlying148,rfl,rfl,0,by kernel_rfl⟩
instance:FO Tryz.prog 148 2 2:=⟨_,_,Tryz.underlying148,rfl,rfl,0,by kernel_rfl⟩
instance : UL Tryz.prog 171 (TypeDesc.func #[3] #[4] false) := ⟨Tryz.underlying171⟩
instance:SZ Tryz.prog 171 1:=⟨by kernel_rfl⟩
instance:ZC Tryz.prog 171 ([Value.nilFunc]):=⟨by kernel_rfl⟩
instance : UL Tryz.prog 195 (TypeDesc.struct #[{ name := "nt", type := 3, offset := 0, embedded := false, tag := "", pkgPath := "byway/derive", byteOffset := 0 }, { name := "from", type := 3, offset := 1, embedded := false, tag := "", pkgPath := "byway/derive", byteOffset := 8 }, { name := "to", type := 3, offset := 2, embedded := false, tag := "", pkgPath := "byway/derive", byteOffset := 16 }]) := ⟨Tryz.underlying195⟩
instance:SZ Tryz.prog 195 3:=⟨by kernel_rfl⟩
instance:BY Tryz.prog 195 24:=⟨by kernel_rfl⟩
instance:SH Tryz.prog 195:=⟨by kernel_rfl⟩
instance:ZC Tryz.prog 195 ([Value.int IntKind.i64 0,Value.int IntKind.i64 0,Value.int IntKind.i64 0]):=⟨by kernel_rfl⟩
instance:BLD Tryz.prog 195 [1,1,1]:=fz Tryz.underlying195 (ZC.out (P:=Tryz.prog) (t:=195)) (by kernel_rfl) rfl
instance:FO Tryz.prog 195 0 0:=⟨_,_,Tryz.underlying195,rfl,rfl,0,by kernel_rfl⟩
instance:FO Tryz.prog 195 1 1:=⟨_,_,Tryz.underlying195,rfl,rfl,0,by kernel_rfl⟩
instance:FO Tryz.prog 195 2 2:=⟨_,_,Tryz.underlying195,rfl,rfl,0,by kernel_rfl⟩
instance : UL Tryz.prog 207 (TypeDesc.map 9 3) := ⟨Tryz.underlying207⟩
instance : UL Tryz.prog 228 (TypeDesc.pointer 230) := ⟨Tryz.underlying228⟩
instance:SZ Tryz.prog 228 1:=⟨by kernel_rfl⟩
instance:SZ Tryz.prog 230 2:=⟨by kernel_rfl⟩
instance:ZC Tryz.prog 230 ([Value.pointer none,Value.slice none 0 0]):=⟨by kernel_rfl⟩
instance:FO Tryz.prog 230 0 0:=⟨_,_,Tryz.underlying230,rfl,rfl,0,by kernel_rfl⟩
instance:FO Tryz.prog 230 1 1:=⟨_,_,Tryz.underlying230,rfl,rfl,0,by kernel_rfl⟩
instance : UL Tryz.prog 243 (TypeDesc.map 195 3) := ⟨Tryz.underlying243⟩
instance : UL Tryz.prog 244 (TypeDesc.slice 195) := ⟨Tryz.underlying244⟩
instance:SZ Tryz.prog 244 1:=⟨by kernel_rfl⟩
instance:FO Tryz.prog 246 0 0:=⟨_,_,Tryz.underlying246,rfl,rfl,1,by kernel_rfl⟩
instance:FO Tryz.prog 246 1 2:=⟨_,_,Tryz.underlying246,rfl,rfl,0,by kernel_rfl⟩
instance:FO Tryz.prog 246 2 3:=⟨_,_,Tryz.underlying246,rfl,rfl,0,by kernel_rfl⟩
instance:FO Tryz.prog 246 3 4:=⟨_,_,Tryz.underlying246,rfl,rfl,0,by kernel_rfl⟩
instance : UL Tryz.prog 249 (TypeDesc.struct #[{ name := "at", type := 3, offset := 0, embedded := false, tag := "", pkgPath := "byway/regex", byteOffset := 0 }]) := ⟨Tryz.underlying249⟩
instance:SZ Tryz.prog 249 1:=⟨by kernel_rfl⟩
instance:ZC Tryz.prog 249 ([Value.int IntKind.i64 0]):=⟨by kernel_rfl⟩
instance:BLD Tryz.prog 249 [1]:=fz Tryz.underlying249 (ZC.out (P:=Tryz.prog) (t:=249)) (by kernel_rfl) rfl
instance:FO Tryz.prog 249 0 0:=⟨_,_,Tryz.underlying249,rfl,rfl,0,by kernel_rfl⟩
instance : UL Tryz.prog 251 (TypeDesc.pointer 253) := ⟨Tryz.underlying251⟩
instance:FO Tryz.prog 253 0 0:=⟨_,_,Tryz.underlying253,rfl,rfl,0,by kernel_rfl⟩
instance:FO Tryz.prog 253 1 1:=⟨_,_,Tryz.underlying253,rfl,rfl,0,by kernel_rfl⟩
instance:FO Tryz.prog 253 2 2:=⟨_,_,Tryz.underlying253,rfl,rfl,0,by kernel_rfl⟩
instance : UL Tryz.prog 281 (TypeDesc.pointer 5) := ⟨Tryz.underlying281⟩
instance : UL Tryz.prog 301 (TypeDesc.unsafePointer) := ⟨Tryz.underlying301⟩
instance:Cal Tryz.prog 4:=ae Tryz.func4 (by kernel_rfl) (by kernel_rfl)
instance:Cal Tryz.prog 5:=ae Tryz.func5 (by kernel_rfl) (by kernel_rfl)
instance:Cal Tryz.prog 6:=ae Tryz.func6 (by kernel_rfl) (by kernel_rfl)
instance:Cal Tryz.prog 7:=ae Tryz.func7 (by kernel_rfl) (by kernel_rfl)
instance:Cal Tryz.prog 8:=ae Tryz.func8 (by kernel_rfl) (by kernel_rfl)
instance:Cal Tryz.prog 9:=ae Tryz.func9 (by kernel_rfl) (by kernel_rfl)
instance:Cal Tryz.prog 10:=ae Tryz.func10 (by kernel_rfl) (by kernel_rfl)
instance:Cal Tryz.prog 11:=ae Tryz.func11 (by kernel_rfl) (by kernel_rfl)
instance:Cal Tryz.prog 12:=ae Tryz.func12 (by kernel_rfl) (by kernel_rfl)
instance:Cal Tryz.prog 13:=ae Tryz.func13 (by kernel_rfl) (by kernel_rfl)
instance:Cal Tryz.prog 14:=ae Tryz.func14 (by kernel_rfl) (by kernel_rfl)
instance:Cal Tryz.prog 15:=ae Tryz.func15 (by kernel_rfl) (by kernel_rfl)
instance:Cal Tryz.prog 16:=ae Tryz.func16 (by kernel_rfl) (by kernel_rfl)
instance:Cal Tryz.prog 17:=ae Tryz.func17 (by kernel_rfl) (by kernel_rfl)
instance:Cal Tryz.prog 18:=ae Tryz.func18 (by kernel_rfl) (by kernel_rfl)
instance:Cal Tryz.prog 19:=ae Tryz.func19 (by kernel_rfl) (by kernel_rfl)
instance:Cal Tryz.prog 20:=ae Tryz.func20 (by kernel_rfl) (by kernel_rfl)
instance:Cal Tryz.prog 21:=ae Tryz.func21 (by kernel_rfl) (by kernel_rfl)
instance:Cal Tryz.prog 22:=ae Tryz.func22 (by kernel_rfl) (by kernel_rfl)
instance:Cal Tryz.prog 23:=ae Tryz.func23 (by kernel_rfl) (by kernel_rfl)
instance:Cal Tryz.prog 24:=ae Tryz.func24 (by kernel_rfl) (by kernel_rfl)
instance:Cal Tryz.prog 25:=ae Tryz.func25 (by kernel_rfl) (by kernel_rfl)
instance:Cal Tryz.prog 26:=ae Tryz.func26 (by kernel_rfl) (by kernel_rfl)
instance:Cal Tryz.prog 27:=ae Tryz.func27 (by kernel_rfl) (by kernel_rfl)
instance:Cal Tryz.prog 28:=ae Tryz.func28 (by kernel_rfl) (by kernel_rfl)
instance:Cal Tryz.prog 29:=ae Tryz.func29 (by kernel_rfl) (by kernel_rfl)
instance:Cal Tryz.prog 30:=ae Tryz.func30 (by kernel_rfl) (by kernel_rfl)
instance:Cal Tryz.prog 31:=ae Tryz.func31 (by kernel_rfl) (by kernel_rfl)
instance:Cal Tryz.prog 32:=ae Tryz.func32 (by kernel_rfl) (by kernel_rfl)
instance:Cal Tryz.prog 33:=ae Tryz.func33 (by kernel_rfl) (by kernel_rfl)
instance:Cal Tryz.prog 34:=ae Tryz.func34 (by kernel_rfl) (by kernel_rfl)
instance:Cal Tryz.prog 35:=ae Tryz.func35 (by kernel_rfl) (by kernel_rfl)
instance:Cal Tryz.prog 36:=ae Tryz.func36 (by kernel_rfl) (by kernel_rfl)
instance:Cal Tryz.prog 37:=ae Tryz.func37 (by kernel_rfl) (by kernel_rfl)
instance:Cal Tryz.prog 38:=ae Tryz.func38 (by kernel_rfl) (by kernel_rfl)
instance:Cal Tryz.prog 39:=ae Tryz.func39 (by kernel_rfl) (by kernel_rfl)
instance:Cal Tryz.prog 40:=ae Tryz.func40 (by kernel_rfl) (by kernel_rfl)
instance:Cal Tryz.prog 41:=ae Tryz.func41 (by kernel_rfl) (by kernel_rfl)
instance:Cal Tryz.prog 42:=ae Tryz.func42 (by kernel_rfl) (by kernel_rfl)
instance:Cal Tryz.prog 43:=ae Tryz.func43 (by kernel_rfl) (by kernel_rfl)
instance:Cal Tryz.prog 44:=ae Tryz.func44 (by kernel_rfl) (by kernel_rfl)
instance:Cal Tryz.prog 45:=ae Tryz.func45 (by kernel_rfl) (by kernel_rfl)
instance:Cal Tryz.prog 46:=ae Tryz.func46 (by kernel_rfl) (by kernel_rfl)
instance:Cal Tryz.prog 47:=ae Tryz.func47 (by kernel_rfl) (by kernel_rfl)
instance:Cal Tryz.prog 48:=ae Tryz.func48 (by kernel_rfl) (by kernel_rfl)
instance:Cal Tryz.prog 49:=ae Tryz.func49 (by kernel_rfl) (by kernel_rfl)
instance:Cal Tryz.prog 50:=ae Tryz.func50 (by kernel_rfl) (by kernel_rfl)
instance:Cal Tryz.prog 51:=ae Tryz.func51 (by kernel_rfl) (by kernel_rfl)
instance:Cal Tryz.prog 52:=ae Tryz.func52 (by kernel_rfl) (by kernel_rfl)
instance:Cal Tryz.prog 53:=ae Tryz.func53 (by kernel_rfl) (by kernel_rfl)
instance:Cal Tryz.prog 54:=ae Tryz.func54 (by kernel_rfl) (by kernel_rfl)
instance:Cal Tryz.prog 55:=ae Tryz.func55 (by kernel_rfl) (by kernel_rfl)
instance:Cal Tryz.prog 56:=ae Tryz.func56 (by kernel_rfl) (by kernel_rfl)
instance:Cal Tryz.prog 57:=ae Tryz.func57 (by kernel_rfl) (by kernel_rfl)
instance:Cal Tryz.prog 58:=ae Tryz.func58 (by kernel_rfl) (by kernel_rfl)
instance:Cal Tryz.prog 59:=ae Tryz.func59 (by kernel_rfl) (by kernel_rfl)
instance:Cal Tryz.prog 60:=ae Tryz.func60 (by kernel_rfl) (by kernel_rfl)
instance:Cal Tryz.prog 61:=ae Tryz.func61 (by kernel_rfl) (by kernel_rfl)
instance:Cal Tryz.prog 62:=ae Tryz.func62 (by kernel_rfl) (by kernel_rfl)
instance:Cal Tryz.prog 63:=ae Tryz.func63 (by kernel_rfl) (by kernel_rfl)
instance:Cal Tryz.prog 64:=ae Tryz.func64 (by kernel_rfl) (by kernel_rfl)
instance:Cal Tryz.prog 65:=ae Tryz.func65 (by kernel_rfl) (by kernel_rfl)
instance:Cal Tryz.prog 66:=ae Tryz.func66 (by kernel_rfl) (by kernel_rfl)
instance:Cal Tryz.prog 67:=ae Tryz.func67 (by kernel_rfl) (by kernel_rfl)
instance:Cal Tryz.prog 68:=ae Tryz.func68 (by kernel_rfl) (by kernel_rfl)
instance:Cal Tryz.prog 69:=ae Tryz.func69 (by kernel_rfl) (by kernel_rfl)
instance:Cal Tryz.prog 70:=ae Tryz.func70 (by kernel_rfl) (by kernel_rfl)
instance:Cal Tryz.prog 71:=ae Tryz.func71 (by kernel_rfl) (by kernel_rfl)
instance:Cal Tryz.prog 72:=ae Tryz.func72 (by kernel_rfl) (by kernel_rfl)
instance:Cal Tryz.prog 73:=ae Tryz.func73 (by kernel_rfl) (by kernel_rfl)
instance:Cal Tryz.prog 74:=ae Tryz.func74 (by kernel_rfl) (by kernel_rfl)
instance:Cal Tryz.prog 75:=ae Tryz.func75 (by kernel_rfl) (by kernel_rfl)
instance:Cal Tryz.prog 76:=ae Tryz.func76 (by kernel_rfl) (by kernel_rfl)
instance:Cal Tryz.prog 77:=ae Tryz.func77 (by kernel_rfl) (by kernel_rfl)
instance:Cal Tryz.prog 78:=ae Tryz.func78 (by kernel_rfl) (by kernel_rfl)
instance:Cal Tryz.prog 79:=ae Tryz.func79 (by kernel_rfl) (by kernel_rfl)
instance:Cal Tryz.prog 80:=ae Tryz.func80 (by kernel_rfl) (by kernel_rfl)
instance:Cal Tryz.prog 81:=ae Tryz.func81 (by kernel_rfl) (by kernel_rfl)
instance:Cal Tryz.prog 82:=ae Tryz.func82 (by kernel_rfl) (by kernel_rfl)
instance:Cal Tryz.prog 83:=ae Tryz.func83 (by kernel_rfl) (by kernel_rfl)
instance:Cal Tryz.prog 84:=ae Tryz.func84 (by kernel_rfl) (by kernel_rfl)
instance:Cal Tryz.prog 85:=ae Tryz.func85 (by kernel_rfl) (by kernel_rfl)
instance:Cal Tryz.prog 86:=ae Tryz.func86 (by kernel_rfl) (by kernel_rfl)
instance:Cal Tryz.prog 87:=ae Tryz.func87 (by kernel_rfl) (by kernel_rfl)
instance:Cal Tryz.prog 88:=ae Tryz.func88 (by kernel_rfl) (by kernel_rfl)
instance:Cal Tryz.prog 89:=ae Tryz.func89 (by kernel_rfl) (by kernel_rfl)
instance:Cal Tryz.prog 90:=ae Tryz.func90 (by kernel_rfl) (by kernel_rfl)
instance:Cal Tryz.prog 91:=ae Tryz.func91 (by kernel_rfl) (by kernel_rfl)
instance:Cal Tryz.prog 92:=ae Tryz.func92 (by kernel_rfl) (by kernel_rfl)
instance:Cal Tryz.prog 93:=ae Tryz.func93 (by kernel_rfl) (by kernel_rfl)
instance:Cal Tryz.prog 94:=ae Tryz.func94 (by kernel_rfl) (by kernel_rfl)
instance:Cal Tryz.prog 95:=ae Tryz.func95 (by kernel_rfl) (by kernel_rfl)
instance:Cal Tryz.prog 96:=ae Tryz.func96 (by kernel_rfl) (by kernel_rfl)
instance:Cal Tryz.prog 97:=ae Tryz.func97 (by kernel_rfl) (by kernel_rfl)
instance:Cal Tryz.prog 98:=ae Tryz.func98 (by kernel_rfl) (by kernel_rfl)
instance:Cal Tryz.prog 99:=ae Tryz.func99 (by kernel_rfl) (by kernel_rfl)
instance:Cal Tryz.prog 100:=ae Tryz.func100 (by kernel_rfl) (by kernel_rfl)
instance:Cal Tryz.prog 101:=ae Tryz.func101 (by kernel_rfl) (by kernel_rfl)
instance:Cal Tryz.prog 102:=ae Tryz.func102 (by kernel_rfl) (by kernel_rfl)
instance:Cal Tryz.prog 103:=ae Tryz.func103 (by kernel_rfl) (by kernel_rfl)
instance:Cal Tryz.prog 104:=ae Tryz.func104 (by kernel_rfl) (by kernel_rfl)
instance:Cal Tryz.prog 105:=ae Tryz.func105 (by kernel_rfl) (by kernel_rfl)
instance:Cal Tryz.prog 106:=ae Tryz.func106 (by kernel_rfl) (by kernel_rfl)
instance:Cal Tryz.prog 107:=ae Tryz.func107 (by kernel_rfl) (by kernel_rfl)
instance:Cal Tryz.prog 108:=ae Tryz.func108 (by kernel_rfl) (by kernel_rfl)
instance:Cal Tryz.prog 109:=ae Tryz.func109 (by kernel_rfl) (by kernel_rfl)
instance:Cal Tryz.prog 110:=ae Tryz.func110 (by kernel_rfl) (by kernel_rfl)
instance:Cal Tryz.prog 111:=ae Tryz.func111 (by kernel_rfl) (by kernel_rfl)
instance:Cal Tryz.prog 112:=ae Tryz.func112 (by kernel_rfl) (by kernel_rfl)
instance:Cal Tryz.prog 113:=ae Tryz.func113 (by kernel_rfl) (by kernel_rfl)
instance:Cal Tryz.prog 114:=ae Tryz.func114 (by kernel_rfl) (by kernel_rfl)
instance:Cal Tryz.prog 115:=ae Tryz.func115 (by kernel_rfl) (by kernel_rfl)
instance:Cal Tryz.prog 116:=ae Tryz.func116 (by kernel_rfl) (by kernel_rfl)
instance:Cal Tryz.prog 117:=ae Tryz.func117 (by kernel_rfl) (by kernel_rfl)
instance:Cal Tryz.prog 118:=ae Tryz.func118 (by kernel_rfl) (by kernel_rfl)
instance:Cal Tryz.prog 119:=ae Tryz.func119 (by kernel_rfl) (by kernel_rfl)
instance:Cal Tryz.prog 120:=ae Tryz.func120 (by kernel_rfl) (by kernel_rfl)
instance:Cal Tryz.prog 121:=ae Tryz.func121 (by kernel_rfl) (by kernel_rfl)
instance:Cal Tryz.prog 122:=ae Tryz.func122 (by kernel_rfl) (by kernel_rfl)
instance:Cal Tryz.prog 123:=ae Tryz.func123 (by kernel_rfl) (by kernel_rfl)
instance:Cal Tryz.prog 124:=ae Tryz.func124 (by kernel_rfl) (by kernel_rfl)
instance:Cal Tryz.prog 125:=ae Tryz.func125 (by kernel_rfl) (by kernel_rfl)
instance:Cal Tryz.prog 126:=ae Tryz.func126 (by kernel_rfl) (by kernel_rfl)
instance:Cal Tryz.prog 127:=ae Tryz.func127 (by kernel_rfl) (by kernel_rfl)
instance:Cal Tryz.prog 128:=ae Tryz.func128 (by kernel_rfl) (by kernel_rfl)
instance:Cal Tryz.prog 129:=ae Tryz.func129 (by kernel_rfl) (by kernel_rfl)
instance:Cal Tryz.prog 130:=ae Tryz.func130 (by kernel_rfl) (by kernel_rfl)
instance:Cal Tryz.prog 131:=ae Tryz.func131 (by kernel_rfl) (by kernel_rfl)
instance:Cal Tryz.prog 132:=ae Tryz.func132 (by kernel_rfl) (by kernel_rfl)
instance:Cal Tryz.prog 135:=ae Tryz.func135 (by kernel_rfl) (by kernel_rfl)
instance:Cal Tryz.prog 136:=ae Tryz.func136 (by kernel_rfl) (by kernel_rfl)
instance:Cal Tryz.prog 137:=ae Tryz.func137 (by kernel_rfl) (by kernel_rfl)
instance:Cal Tryz.prog 139:=ae Tryz.func139 (by kernel_rfl) (by kernel_rfl)
instance:Cal Tryz.prog 140:=ae Tryz.func140 (by kernel_rfl) (by kernel_rfl)
instance:Cal Tryz.prog 142:=ae Tryz.func142 (by kernel_rfl) (by kernel_rfl)
instance:Cal Tryz.prog 143:=ae Tryz.func143 (by kernel_rfl) (by kernel_rfl)
instance:Cal Tryz.prog 144:=ae Tryz.func144 (by kernel_rfl) (by kernel_rfl)
instance:Cal Tryz.prog 145:=ae Tryz.func145 (by kernel_rfl) (by kernel_rfl)
instance:Cal Tryz.prog 146:=ae Tryz.func146 (by kernel_rfl) (by kernel_rfl)
instance:Cal Tryz.prog 147:=ae Tryz.func147 (by kernel_rfl) (by kernel_rfl)
instance:Cal Tryz.prog 148:=ae Tryz.func148 (by kernel_rfl) (by kernel_rfl)
instance:Cal Tryz.prog 149:=ae Tryz.func149 (by kernel_rfl) (by kernel_rfl)
instance:Cal Tryz.prog 150:=ae Tryz.func150 (by kernel_rfl) (by kernel_rfl)
instance:Cal Tryz.prog 151:=ae Tryz.func151 (by kernel_rfl) (by kernel_rfl)
instance:Cal Tryz.prog 152:=ae Tryz.func152 (by kernel_rfl) (by kernel_rfl)
instance:Cal Tryz.prog 153:=ae Tryz.func153 (by kernel_rfl) (by kernel_rfl)
instance:Cal Tryz.prog 154:=ae Tryz.func154 (by kernel_rfl) (by kernel_rfl)
instance:Cal Tryz.prog 155:=ae Tryz.func155 (by kernel_rfl) (by kernel_rfl)
instance:Cal Tryz.prog 156:=ae Tryz.func156 (by kernel_rfl) (by kernel_rfl)
instance:Cal Tryz.prog 157:=ae Tryz.func157 (by kernel_rfl) (by kernel_rfl)
instance:Cal Tryz.prog 158:=ae Tryz.func158 (by kernel_rfl) (by kernel_rfl)
instance:Cal Tryz.prog 159:=ae Tryz.func159 (by kernel_rfl) (by kernel_rfl)
instance:Cal Tryz.prog 160:=ae Tryz.func160 (by kernel_rfl) (by kernel_rfl)
instance:Cal Tryz.prog 161:=ae Tryz.func161 (by kernel_rfl) (by kernel_rfl)
instance:Cal Tryz.prog 162:=ae Tryz.func162 (by kernel_rfl) (by kernel_rfl)
instance:Cal Tryz.prog 163:=ae Tryz.func163 (by kernel_rfl) (by kernel_rfl)
instance:Cal Tryz.prog 164:=ae Tryz.func164 (by kernel_rfl) (by kernel_rfl)
instance:Cal Tryz.prog 165:=ae Tryz.func165 (by kernel_rfl) (by kernel_rfl)
instance:Cal Tryz.prog 166:=ae Tryz.func166 (by kernel_rfl) (by kernel_rfl)
instance:Cal Tryz.prog 167:=ae Tryz.func167 (by kernel_rfl) (by kernel_rfl)
instance:Cal Tryz.prog 168:=ae Tryz.func168 (by kernel_rfl) (by kernel_rfl)
instance:Cal Tryz.prog 169:=ae Tryz.func169 (by kernel_rfl) (by kernel_rfl)
instance:Cal Tryz.prog 170:=ae Tryz.func170 (by kernel_rfl) (by kernel_rfl)
instance:Cal Tryz.prog 181:=ae Tryz.func181 (by kernel_rfl) (by kernel_rfl)
instance:Cal Tryz.prog 199:=ae Tryz.func199 (by kernel_rfl) (by kernel_rfl)
instance:Cal Tryz.prog 200:=ae Tryz.func200 (by kernel_rfl) (by kernel_rfl)
instance:Cal Tryz.prog 201:=ae Tryz.func201 (by kernel_rfl) (by kernel_rfl)
instance:Cal Tryz.prog 202:=ae Tryz.func202 (by kernel_rfl) (by kernel_rfl)
instance:Cal Tryz.prog 203:=ae Tryz.func203 (by kernel_rfl) (by kernel_rfl)
instance:Cal Tryz.prog 204:=ae Tryz.func204 (by kernel_rfl) (by kernel_rfl)
instance:Cal Tryz.prog 205:=ae Tryz.func205 (by kernel_rfl) (by kernel_rfl)
instance:Cal Tryz.prog 206:=ae Tryz.func206 (by kernel_rfl) (by kernel_rfl)
instance:Cal Tryz.prog 207:=ae Tryz.func207 (by kernel_rfl) (by kernel_rfl)
instance:Cal Tryz.prog 208:=ae Tryz.func208 (by kernel_rfl) (by kernel_rfl)
instance:Cal Tryz.prog 210:=ae Tryz.func210 (by kernel_rfl) (by kernel_rfl)
instance:Cal Tryz.prog 211:=ae Tryz.func211 (by kernel_rfl) (by kernel_rfl)
instance:Cal Tryz.prog 212:=ae Tryz.func212 (by kernel_rfl) (by kernel_rfl)
instance:Cal Tryz.prog 213:=ae Tryz.func213 (by kernel_rfl) (by kernel_rfl)
instance:Cal Tryz.prog 214:=ae Tryz.func214 (by kernel_rfl) (by kernel_rfl)
instance:Cal Tryz.prog 227:=ae Tryz.func227 (by kernel_rfl) (by kernel_rfl)
instance:Cal Tryz.prog 228:=ae Tryz.func228 (by kernel_rfl) (by kernel_rfl)
instance:Cal Tryz.prog 229:=ae Tryz.func229 (by kernel_rfl) (by kernel_rfl)
instance:Cal Tryz.prog 230:=ae Tryz.func230 (by kernel_rfl) (by kernel_rfl)
instance:Cal Tryz.prog 240:=ae Tryz.func240 (by kernel_rfl) (by kernel_rfl)
instance:Cal Tryz.prog 244:=ae Tryz.func244 (by kernel_rfl) (by kernel_rfl)
instance:Cal Tryz.prog 249:=ae Tryz.func249 (by kernel_rfl) (by kernel_rfl)
section
abbrev iJ (b:Nat) (p v:Value):HP:=pt b (row [p,v] 230)
abbrev xg (v:Value) (l:List UInt8):HP:=own 5 1 l.length v (bP l)
theorem Dj (x:Value) (w:World):(callFunc 226 #[x]).run Tryz.prog w=.ok (.value x) w:=by
 rw [run_callFunc_extern Tryz.func226 (by kernel_rfl) (by kernel_rfl) (by kernel_rfl) (e:=Extern.AbiNoEscape.same) (by kernel_rfl)]
 rfl
theorem CW (n:Nat) (w:World):(callFunc 251 #[i64 (n:Nat)]).run Tryz.prog w=((Extern.BytealgMakeNoZero.makeNoZero #[3] #[98] #[.int .i64 n]).run Tryz.prog w).andThen fun v w'=>.ok (.value v) w':=
 run_callFunc_extern Tryz.func251 (by kernel_rfl) (by kernel_rfl) (by kernel_rfl) (e:=Extern.BytealgMakeNoZero.makeNoZero #[3] #[98]) (by kernel_rfl) _ w
attribute [local irreducible] G GO GR GT Fn FnX FnV FnXV pt init exs pur sat own ImpS
theorem xP (b:Nat) (v:Value):Fn Tryz.prog 199 #[ah b] [iJ b (.pointer none) v] (fun r Q=>Q=[iJ b (ah b) v]):=by
 refine Fn.mk2 Tryz.func199 rfl rfl fun w0 F=>?_
 apply Ru
 refine GO.toUnsafe rfl rfl Tk.h (Nat.zero_lt_succ 1) ?_
 refine GO.callExt1 rfl rfl (Dj _) ?_
 refine GO.fromUnsafe rfl rfl Tk.h (by kernel_rfl) ?_
 apply Ru
 refine KF2.n0 rfl rfl (ImpS.sb ?_)
 exact SB
theorem D4 (b:Nat) (v:Value):Fn Tryz.prog 199 #[ah b] [iJ b (ah b) v] (fun r Q=>Q=[iJ b (ah b) v]):=by
 refine Fn.mk2 Tryz.func199 rfl rfl fun w0 F=>?_
 apply Ru
 refine GO.neqSame rfl rfl rfl ?_
 apply Ru
 refine KF2.n0 rfl rfl (ImpS.sb ?_)
 exact SB
def Df (b:Nat) (p:Value):Prop:=p=.pointer none∨p=ah b
theorem Cs (b:Nat) (p v:Value) (hp:Df b p):Fn Tryz.prog 199 #[ah b] [iJ b p v] (fun r Q=>Q=[iJ b (ah b) v]):=by
 rcases hp with rfl | rfl
 ·exact xP b v
 ·exact D4 b v
theorem hG (b:Nat) (p v:Value) (hp:Df b p) (l s:List UInt8) (hs:0 < s.length) (hb:¬ 140737488355328 < l.length+s.length):Fn Tryz.prog 150 #[ah b,str s] [iJ b p v,xg v l]
  (fun r Q=>r=.tuple #[i64 (s.length:Nat),.nilIface]∧∃ v',Q=[iJ b (ah b) v',xg v' (l++s)]):=by
 refine Fn.mk2 Tryz.func150 rfl rfl fun w0 F=>?_
 apply Ru
 refine scl (Cs b p v hp) ?_
 rintro _ _ rfl
 refine GO.ownOne (Tk.t Tk.h) fun hone=>?_
 apply Ru
 refine GO.appendStr rfl rfl rfl (Tk.t Tk.h) rfl hs (by unfold maxLen;omega) (by omega) fun v'=>?_
 refine GO.ownOne Tk.h fun hone'=>?_
 rw [← xc,← List.length_append]
 (apply Ru;refine GO.store1 rfl rfl (by assumption) (Tk.t Tk.h) (by simp) ?_;apply Ru)
 refine KF2.r2 rfl (RV.t rfl) (RV.t rfl) ⟨rfl,v',rfl⟩ (ImpS.sb ?_)
 ((refine Sb.c Tk.h ?_;exact SB);skip)
theorem sw (b:Nat) (p v:Value) (l:List UInt8) (h0:l≠[]):Fn Tryz.prog 151 #[ah b] [iJ b p v,xg v l] (fun r Q=>r=str l∧Q=[iJ b p v]):=by
 refine Fn.mk2 Tryz.func151 rfl rfl fun w0 F=>?_
 apply Ru
 refine G.ownShape (Tk.t Tk.h) fun hv=>?_
 have hl:l.length≠0:=by simpa using h0
 rcases hv with ⟨_,h,_⟩ | ⟨g,cap,rfl,hcap⟩
 ·exact absurd h hl
 refine dr 10 ?_
 apply Ru
 apply GQ.step;focus (intro Z;refine GO.sliceData rfl rfl (.inr (by omega)) ?_;exact KQ.z)
 apply Ru
 refine GO.unsafeStr (el:=5) (b:=g) (cap:=cap) (l:=l) (by kernel_rfl) rfl rfl rfl h0 (Tk.t Tk.h) ?_
 apply Ru
 refine KF2.r1 rfl (RV.t rfl) ⟨rfl,rfl⟩ (ImpS.sb ?_)
 exact SB
theorem vR (b n:Nat) (p:Value) (hn:0 < n) (hn2:¬ 1048576 < n):Fn Tryz.prog 249 #[ah b,i64 (n:Nat)] [iJ b p (.slice none 0 0)] (fun _ Q=>∃ v,Q=[iJ b p v,xg v []]):=by
 refine Fn.mk2 Tryz.func249 rfl rfl fun w0 F=>?_
 apply Ru
 refine G.drawT 16 49408 [iJ b p (.slice none 0 0)] F (by kernel_rfl) (nM rfl) (ImpS.sb SB) ?_
 ((apply GR.step rfl;focus (intro Z;refine GO.move rfl rfl ?_;exact KQ.z));(apply GR.step rfl;focus (intro Z;refine GO.nilCheck rfl rfl ?_;exact KQ.z));(apply GR.step rfl;focus (intro Z;refine GO.fieldAddr rfl rfl ?_;exact KQ.z));(apply GR.step rfl;focus (intro Z;refine GO.load1 rfl rfl rfl Tk.h rfl ?_;exact KQ.z)))
 apply GR.step rfl;focus (intro Z;refine GO.capS rfl rfl ?_;exact KQ.z)
 ((apply GR.step rfl;focus (intro Z;refine GO.muli rfl rfl rfl (by omega) ?_;exact KQ.z));(apply GR.step rfl;focus (intro Z;refine GO.move rfl rfl ?_;exact KQ.z));(apply GR.step rfl;focus (intro Z;refine GO.addi rfl rfl rfl (by omega) ?_;exact KQ.z));refine GR.skip rfl ?_;(apply GR.step rfl;focus (intro Z;refine GO.move rfl rfl ?_;exact KQ.z));(apply GR.step rfl;focus (intro Z;refine GO.nilCheck rfl rfl ?_;exact KQ.z));(apply GR.step rfl;focus (intro Z;refine GO.fieldAddr rfl rfl ?_;exact KQ.z));(apply GR.step rfl;focus (intro Z;refine GO.load1 rfl rfl rfl Tk.h rfl ?_;exact KQ.z));(apply GR.step rfl;focus (intro Z;refine GO.lenS rfl rfl ?_;exact KQ.z));refine GR.skip rfl ?_;refine GR.skip rfl ?_;refine GR.nil ?_)
 (repeat refine GT.skip rfl ?_)
 refine GT.step rfl ?_
 refine GO.makeNoZero (n:=n) (el:=5) rfl (show some (Value.int .i64 (2 * ((0:Nat):Int)+(n:Int)))=some (i64 (n:Nat)) by congr 2;omega) (by omega) (by unfold maxLen;omega) (CW n) fun bg lg hg1 hg2=>?_
 refine GO.nil ⟨rfl,_,pt bg (row lg 5)::F,rfl,ImpS.sb SB,?_⟩
 (repeat refine GT.skip rfl ?_)
 refine GT.step rfl ?_
 refine GO.sliceHi (l:=0) rfl rfl rfl ⟨rfl,Nat.zero_le _⟩ ?_
 refine GO.nil ⟨rfl,_,pt bg (row lg 5)::F,rfl,ImpS.sb SB,?_⟩
 (repeat refine GT.skip rfl ?_)
 refine GT.step rfl ?_
 refine GO.assign rfl rfl ?_
 refine GO.nil ⟨rfl,_,pt bg (row lg 5)::F,rfl,ImpS.sb SB,?_⟩
 refine GT.nil ?_
 (refine GO.nil ?_;apply Ru;refine GO.move rfl rfl ?_;refine GO.move rfl rfl ?_;apply Ru)
 refine GO.copy0 rfl rfl rfl ?_
 (apply Ru;refine GO.move rfl rfl ?_;refine GO.move rfl rfl ?_;apply Ru)
 refine KF2.n0 rfl ⟨.slice (some ⟨bg,0,none⟩) 0 lg.length,rfl⟩ ?_
 refine ImpS.trans (ImpS.sb (M:=pt bg (row lg 5)::iJ b p (.slice (some ⟨bg,0,none⟩) 0 lg.length)::F) SB) ?_
 refine ImpS.trans (ImpS.own (xs:=[]) (rest':=lg) (sz:=1) (n:=0) (cap:=lg.length) rfl rfl (Nat.zero_le _) hg2 (by simp) ImpS.refl) ?_
 refine ImpS.sb ?_
 ((refine Sb.c (Tk.t Tk.h) ?_;refine Sb.c Tk.h ?_;exact SB);skip)
theorem xj (b n:Nat) (hn:0 < n) (hn2:¬ 1048576 < n):Fn Tryz.prog 240 #[ah b,i64 (n:Nat)] [iJ b (.pointer none) (.slice none 0 0)] (fun _ Q=>∃ v,Q=[iJ b (ah b) v,xg v []]):=by
 refine Fn.mk2 Tryz.func240 rfl rfl fun w0 F=>?_
 have d1:decide ((n:Int) < 0)=false:=decide_eq_false (by omega)
 apply Ru
 refine scl (xP b (.slice none 0 0)) ?_
 rintro _ _ rfl
 (apply Ru;refine G.condF rfl rfl ?_;apply Ru)
 refine dr 13 ?_
 apply Ru
 apply GQ.step;focus (intro Z;refine GO.capS rfl rfl ?_;exact KQ.z)
 (apply Ru;(apply GQ.step;focus (intro Z;refine GO.subi rfl rfl rfl (by omega) ?_;exact KQ.z));apply Ru)
 have d2:decide ((((0:Nat):Int) - ((0:Nat):Int)) < (n:Int))=true:=decide_eq_true (by omega)
 refine scT ?_
 refine scl (vR b n (ah b) hn hn2) ?_
 rintro _ _ ⟨v,rfl⟩
 apply Ru
 refine KF2.n0 rfl ⟨v,rfl⟩ (ImpS.sb ?_)
 exact SB
end
def fU (b:UInt8):Bool:=decide ((b.toNat:Int)=32) || decide ((b.toNat:Int)=9) || decide ((b.toNat:Int)=10) || decide ((b.toNat:Int)=13)
def fe (b:UInt8):Bool:=(decide (97≤(b.toNat:Int)) && decide ((b.toNat:Int)≤122)) || (decide (65≤(b.toNat:Int)) && decide ((b.toNat:Int)≤90)) || (decide (48≤(b.toNat:Int)) && decide ((b.toNat:Int)≤57)) || decide ((b.toNat:Int)=95)
def eB (b:UInt8):Nat:=
 if (b.toNat:Int)=61 then 4 else if (b.toNat:Int)=59 then 5 else if (b.toNat:Int)=124 then 6 else if (b.toNat:Int)=42 then 7 else if (b.toNat:Int)=43 then 8
 else if (b.toNat:Int)=63 then 9 else if (b.toNat:Int)=40 then 10 else if (b.toNat:Int)=41 then 11 else if (b.toNat:Int)=37 then 12
 else if 65≤(b.toNat:Int)∧(b.toNat:Int)≤90 then 1 else if 97≤(b.toNat:Int)∧(b.toNat:Int)≤122 then 2 else if fe b=true then 3 else 0
structure MarkD where
 kind:Nat
 place:Nat
 text:List UInt8
 deriving DecidableEq
def mC (m:MarkD):List Value:=[i64 (m.kind:Nat),i64 (m.place:Nat),str m.text]
def bH (s:List UInt8) (i:Nat):Nat:=i+((s.drop i).takeWhile fU).length
def dZ (s:List UInt8) (i:Nat):Nat:=i+((s.drop i).takeWhile fe).length
theorem dg {α:Type} {s:List α} {i:Nat} {b:α} (h:s[i]?=some b):s.drop i=b::s.drop (i+1):=by
 obtain ⟨hlt,rfl⟩:=List.getElem?_eq_some_iff.1 h
 exact List.drop_eq_getElem_cons hlt
theorem ub {f:UInt8→Bool} {s:List UInt8} {i:Nat} {b:UInt8} (h:s[i]?=some b) (hb:f b=true):i+1+((s.drop (i+1)).takeWhile f).length=i+((s.drop i).takeWhile f).length:=by
 rw [dg h,List.takeWhile_cons,if_pos hb,List.length_cons];omega
theorem oE {f:UInt8→Bool} {s:List UInt8} {i:Nat} {b:UInt8} (h:s[i]?=some b) (hb:f b=false):i+((s.drop i).takeWhile f).length=i:=by
 rw [dg h,List.takeWhile_cons,if_neg (by rw [hb];decide),List.length_nil,Nat.add_zero]
theorem xz {f:UInt8→Bool} {s:List UInt8} {i:Nat} (h:s.length≤i):i+((s.drop i).takeWhile f).length=i:=by
 rw [List.drop_eq_nil_of_le h];rfl
theorem AE (f:UInt8→Bool) {s:List UInt8} {i:Nat} (h:i≤s.length):i+((s.drop i).takeWhile f).length≤s.length:=by
 have:((s.drop i).takeWhile f).length≤(s.drop i).length:=(List.takeWhile_sublist f).length_le
 rw [List.length_drop] at this;omega
theorem Ax {s:List UInt8} {i:Nat} (h:i≤s.length):bH s i≤s.length:=AE fU h
theorem tK {s:List UInt8} {i:Nat} (h:i≤s.length):dZ s i≤s.length:=AE fe h
def aC (s:List UInt8) (i:Nat):MarkD:=
 match s[bH s i]? with
 | none=>⟨0,bH s i,[]⟩
 | some b=>if eB b=0 then ⟨0,bH s i,[]⟩ else if eB b≤3 then ⟨eB b,bH s i,(s.drop (bH s i)).take (dZ s (bH s i+1) - bH s i)⟩ else ⟨eB b,bH s i,(s.drop (bH s i)).take 1⟩
theorem f7 {s:List UInt8} {i:Nat} (h:i≤s.length):i≤(aC s i).place∧(aC s i).place+(aC s i).text.length≤s.length∧((aC s i).kind≠0→0 < (aC s i).text.length):=by
 have h1:=Ax h
 have h0:i≤bH s i:=by unfold bH;omega
 unfold aC
 cases hb:s[bH s i]? with
 | none=>exact ⟨h0,by simpa using h1,fun h=>absurd rfl h⟩
 | some b=>
  have hlt:bH s i < s.length:=(List.getElem?_eq_some_iff.1 hb).1
  have h2:dZ s (bH s i+1)≤s.length:=tK (by omega)
  have h3:bH s i+1≤dZ s (bH s i+1):=by unfold dZ;omega
  dsimp only
  split
  ·exact ⟨h0,by simpa using h1,fun h=>absurd rfl h⟩
  ·split
   ·refine ⟨h0,?_,fun _=>?_⟩ <;> simp only [List.length_take,List.length_drop] <;> omega
   ·refine ⟨h0,?_,fun _=>?_⟩ <;> simp only [List.length_take,List.length_drop] <;> omega
def bz (s:List UInt8):Nat→Nat→List MarkD
 | 0,_=>[]
 | n+1,i=>if (aC s i).kind=0 then [] else aC s i::bz s n ((aC s i).place+(aC s i).text.length)
def bY (s:List UInt8):Nat→Nat→Nat
 | 0,i=>i
 | n+1,i=>if (aC s i).kind=0 then (aC s i).place else bY s n ((aC s i).place+(aC s i).text.length)
def aj (s:List UInt8):List MarkD:=bz s (s.length+1) 0
def cD (s:List UInt8):Nat:=bY s (s.length+1) 0
def jS (ms:List MarkD):Nat→Nat
 | 0=>0
 | i+1=>match ms[i]? with
  | some m=>m.place+m.text.length
  | none=>0
section
attribute [local irreducible] G GO GR GT Fn FnV pt init exs pur sat own ImpS
theorem xi (b:UInt8):Fn Tryz.prog 116 #[u8 b] [] (fun r Q=>r=.bool (fU b)∧Q=[]):=by
 refine Fn.mk2 Tryz.func116 rfl rfl fun w0 F=>?_
 unfold fU
 cases e1:decide ((b.toNat:Int)=32)
 ·cases e2:decide ((b.toNat:Int)=9)
  ·cases e3:decide ((b.toNat:Int)=10)
   ·(apply Ru;refine sgT ?_;refine sgT ?_;refine spF ?_;refine sgT ?_;refine sgT ?_;refine spF ?_;refine sgT ?_;refine sgT ?_;refine spF ?_)
    exact kr1 rfl ⟨rfl,rfl⟩
   ·(apply Ru;refine sgT ?_;refine sgT ?_;refine spF ?_;refine sgT ?_;refine sgT ?_;refine spF ?_;refine sgF ?_;refine sgF ?_;refine spT ?_)
    exact kr1 rfl ⟨rfl,rfl⟩
  ·(apply Ru;refine sgT ?_;refine sgT ?_;refine spF ?_;refine sgF ?_;refine sgF ?_;refine spT ?_)
   exact kr1 rfl ⟨rfl,rfl⟩
 ·(apply Ru;refine sgF ?_;refine sgF ?_;refine spT ?_)
  exact kr1 rfl ⟨rfl,rfl⟩
theorem j9 (b:UInt8):Fn Tryz.prog 118 #[u8 b] [] (fun r Q=>r=.bool (fe b)∧Q=[]):=by
 have hc:((b.toNat:Int) < 48)∨(48≤(b.toNat:Int)∧(b.toNat:Int)≤57)∨(57 < (b.toNat:Int)∧(b.toNat:Int) < 65)∨(65≤(b.toNat:Int)∧(b.toNat:Int)≤90)∨(90 < (b.toNat:Int)∧(b.toNat:Int) < 95)∨((b.toNat:Int)=95)∨((b.toNat:Int)=96)∨(97≤(b.toNat:Int)∧(b.toNat:Int)≤122)∨(122 < (b.toNat:Int)):=by omega
 refine Fn.mk2 Tryz.func118 rfl rfl fun w0 F=>?_
 unfold fe
 rcases hc with h | h | h | h | h | h | h | h | h
 ·have e1:decide (97≤(b.toNat:Int))=false:=decide_eq_false (by omega)
  have e2:decide ((b.toNat:Int)≤122)=true:=decide_eq_true (by omega)
  have e3:decide (65≤(b.toNat:Int))=false:=decide_eq_false (by omega)
  have e4:decide ((b.toNat:Int)≤90)=true:=decide_eq_true (by omega)
  have e5:decide (48≤(b.toNat:Int))=false:=decide_eq_false (by omega)
  have e6:decide ((b.toNat:Int)≤57)=true:=decide_eq_true (by omega)
  have e7:decide ((b.toNat:Int)=95)=false:=decide_eq_false (by omega)
  clear h
  (apply Ru;refine sgF ?_;refine sgF ?_;refine spF ?_;refine sgF ?_;refine sgF ?_;refine spF ?_;refine sgF ?_;refine sgF ?_;refine spF ?_)
  exact kr1 rfl ⟨by rw [e1,e2,e3,e4,e5,e6,e7];rfl,rfl⟩
 ·have e1:decide (97≤(b.toNat:Int))=false:=decide_eq_false (by omega)
  have e2:decide ((b.toNat:Int)≤122)=true:=decide_eq_true (by omega)
  have e3:decide (65≤(b.toNat:Int))=false:=decide_eq_false (by omega)
  have e4:decide ((b.toNat:Int)≤90)=true:=decide_eq_true (by omega)
  have e5:decide (48≤(b.toNat:Int))=true:=decide_eq_true (by omega)
  have e6:decide ((b.toNat:Int)≤57)=true:=decide_eq_true (by omega)
  have e7:decide ((b.toNat:Int)=95)=false:=decide_eq_false (by omega)
  clear h
  (apply Ru;refine sgF ?_;refine sgF ?_;refine spF ?_;refine sgF ?_;refine sgF ?_;refine spF ?_;refine sgT ?_;refine sgT ?_;refine spT ?_;refine sgF ?_;refine sgF ?_;refine spT ?_)
  exact kr1 rfl ⟨by rw [e1,e2,e3,e4,e5,e6,e7];rfl,rfl⟩
 ·have e1:decide (97≤(b.toNat:Int))=false:=decide_eq_false (by omega)
  have e2:decide ((b.toNat:Int)≤122)=true:=decide_eq_true (by omega)
  have e3:decide (65≤(b.toNat:Int))=false:=decide_eq_false (by omega)
  have e4:decide ((b.toNat:Int)≤90)=true:=decide_eq_true (by omega)
  have e5:decide (48≤(b.toNat:Int))=true:=decide_eq_true (by omega)
  have e6:decide ((b.toNat:Int)≤57)=false:=decide_eq_false (by omega)
  have e7:decide ((b.toNat:Int)=95)=false:=decide_eq_false (by omega)
  clear h
  (apply Ru;refine sgF ?_;refine sgF ?_;refine spF ?_;refine sgF ?_;refine sgF ?_;refine spF ?_;refine sgT ?_;refine sgT ?_;refine spT ?_;refine sgT ?_;refine sgT ?_;refine spF ?_)
  exact kr1 rfl ⟨by rw [e1,e2,e3,e4,e5,e6,e7];rfl,rfl⟩
 ·have e1:decide (97≤(b.toNat:Int))=false:=decide_eq_false (by omega)
  have e2:decide ((b.toNat:Int)≤122)=true:=decide_eq_true (by omega)
  have e3:decide (65≤(b.toNat:Int))=true:=decide_eq_true (by omega)
  have e4:decide ((b.toNat:Int)≤90)=true:=decide_eq_true (by omega)
  have e5:decide (48≤(b.toNat:Int))=true:=decide_eq_true (by omega)
  have e6:decide ((b.toNat:Int)≤57)=false:=decide_eq_false (by omega)
  have e7:decide ((b.toNat:Int)=95)=false:=decide_eq_false (by omega)
  clear h
  (apply Ru;refine sgF ?_;refine sgF ?_;refine spF ?_;refine sgT ?_;refine sgT ?_;refine spT ?_;refine sgF ?_;refine sgF ?_;refine sgF ?_;refine sgF ?_;refine spT ?_)
  exact kr1 rfl ⟨by rw [e1,e2,e3,e4,e5,e6,e7];rfl,rfl⟩
 ·have e1:decide (97≤(b.toNat:Int))=false:=decide_eq_false (by omega)
  have e2:decide ((b.toNat:Int)≤122)=true:=decide_eq_true (by omega)
  have e3:decide (65≤(b.toNat:Int))=true:=decide_eq_true (by omega)
  have e4:decide ((b.toNat:Int)≤90)=false:=decide_eq_false (by omega)
  have e5:decide (48≤(b.toNat:Int))=true:=decide_eq_true (by omega)
  have e6:decide ((b.toNat:Int)≤57)=false:=decide_eq_false (by omega)
  have e7:decide ((b.toNat:Int)=95)=false:=decide_eq_false (by omega)
  clear h
  (apply Ru;refine sgF ?_;refine sgF ?_;refine spF ?_;refine sgT ?_;refine sgT ?_;refine spT ?_;refine sgT ?_;refine sgT ?_;refine sgT ?_;refine sgT ?_;refine sgT ?_;refine sgT ?_;refine spT ?_;refine spF ?_;refine sgT ?_;refine sgT ?_;refine spF ?_)
  exact kr1 rfl ⟨by rw [e1,e2,e3,e4,e5,e6,e7];rfl,rfl⟩
 ·have e1:decide (97≤(b.toNat:Int))=false:=decide_eq_false (by omega)
  have e2:decide ((b.toNat:Int)≤122)=true:=decide_eq_true (by omega)
  have e3:decide (65≤(b.toNat:Int))=true:=decide_eq_true (by omega)
  have e4:decide ((b.toNat:Int)≤90)=false:=decide_eq_false (by omega)
  have e5:decide (48≤(b.toNat:Int))=true:=decide_eq_true (by omega)
  have e6:decide ((b.toNat:Int)≤57)=false:=decide_eq_false (by omega)
  have e7:decide ((b.toNat:Int)=95)=true:=decide_eq_true (by omega)
  clear h
  (apply Ru;refine sgF ?_;refine sgF ?_;refine spF ?_;refine sgT ?_;refine sgT ?_;refine spT ?_;refine sgT ?_;refine sgT ?_;refine sgT ?_;refine sgT ?_;refine sgT ?_;refine sgT ?_;refine spT ?_;refine spF ?_;refine sgT ?_;refine sgT ?_;refine spF ?_)
  exact kr1 rfl ⟨by rw [e1,e2,e3,e4,e5,e6,e7];rfl,rfl⟩
 ·have e1:decide (97≤(b.toNat:Int))=false:=decide_eq_false (by omega)
  have e2:decide ((b.toNat:Int)≤122)=true:=decide_eq_true (by omega)
  have e3:decide (65≤(b.toNat:Int))=true:=decide_eq_true (by omega)
  have e4:decide ((b.toNat:Int)≤90)=false:=decide_eq_false (by omega)
  have e5:decide (48≤(b.toNat:Int))=true:=decide_eq_true (by omega)
  have e6:decide ((b.toNat:Int)≤57)=false:=decide_eq_false (by omega)
  have e7:decide ((b.toNat:Int)=95)=false:=decide_eq_false (by omega)
  clear h
  (apply Ru;refine sgF ?_;refine sgF ?_;refine spF ?_;refine sgT ?_;refine sgT ?_;refine spT ?_;refine sgT ?_;refine sgT ?_;refine sgT ?_;refine sgT ?_;refine sgT ?_;refine sgT ?_;refine spT ?_;refine spF ?_;refine sgT ?_;refine sgT ?_;refine spF ?_)
  exact kr1 rfl ⟨by rw [e1,e2,e3,e4,e5,e6,e7];rfl,rfl⟩
 ·have e1:decide (97≤(b.toNat:Int))=true:=decide_eq_true (by omega)
  have e2:decide ((b.toNat:Int)≤122)=true:=decide_eq_true (by omega)
  have e3:decide (65≤(b.toNat:Int))=true:=decide_eq_true (by omega)
  have e4:decide ((b.toNat:Int)≤90)=false:=decide_eq_false (by omega)
  have e5:decide (48≤(b.toNat:Int))=true:=decide_eq_true (by omega)
  have e6:decide ((b.toNat:Int)≤57)=false:=decide_eq_false (by omega)
  have e7:decide ((b.toNat:Int)=95)=false:=decide_eq_false (by omega)
  clear h
  (apply Ru;refine sgT ?_;refine sgT ?_;refine spT ?_;refine sgF ?_;refine sgF ?_;refine sgF ?_;refine sgF ?_;refine spT ?_)
  exact kr1 rfl ⟨by rw [e1,e2,e3,e4,e5,e6,e7];rfl,rfl⟩
 ·have e1:decide (97≤(b.toNat:Int))=true:=decide_eq_true (by omega)
  have e2:decide ((b.toNat:Int)≤122)=false:=decide_eq_false (by omega)
  have e3:decide (65≤(b.toNat:Int))=true:=decide_eq_true (by omega)
  have e4:decide ((b.toNat:Int)≤90)=false:=decide_eq_false (by omega)
  have e5:decide (48≤(b.toNat:Int))=true:=decide_eq_true (by omega)
  have e6:decide ((b.toNat:Int)≤57)=false:=decide_eq_false (by omega)
  have e7:decide ((b.toNat:Int)=95)=false:=decide_eq_false (by omega)
  clear h
  (apply Ru;refine sgT ?_;refine sgT ?_;refine spT ?_;refine sgT ?_;refine sgT ?_;refine sgT ?_;refine sgT ?_;refine sgT ?_;refine sgT ?_;refine spT ?_;refine spF ?_;refine sgT ?_;refine sgT ?_;refine sgT ?_;refine sgT ?_;refine sgT ?_;refine sgT ?_;refine spT ?_;refine spF ?_;refine sgT ?_;refine sgT ?_;refine spF ?_)
  exact kr1 rfl ⟨by rw [e1,e2,e3,e4,e5,e6,e7];rfl,rfl⟩
theorem rP (b:UInt8):Fn Tryz.prog 117 #[u8 b] [] (fun r Q=>r=i64 (eB b:Nat)∧Q=[]):=by
 refine Fn.mk2 Tryz.func117 rfl rfl fun w0 F=>?_
 unfold eB
 apply Ru
 refine G.condD rfl (fun h=>?_) (fun h=>?_)
 ·rw [if_pos h]
  apply Ru
  exact kr1 rfl ⟨rfl,rfl⟩
 rw [if_neg h]
 clear h
 apply Ru
 refine G.condD rfl (fun h=>?_) (fun h=>?_)
 ·rw [if_pos h]
  apply Ru
  exact kr1 rfl ⟨rfl,rfl⟩
 rw [if_neg h]
 clear h
 apply Ru
 refine G.condD rfl (fun h=>?_) (fun h=>?_)
 ·rw [if_pos h]
  apply Ru
  exact kr1 rfl ⟨rfl,rfl⟩
 rw [if_neg h]
 clear h
 apply Ru
 refine G.condD rfl (fun h=>?_) (fun h=>?_)
 ·rw [if_pos h]
  apply Ru
  exact kr1 rfl ⟨rfl,rfl⟩
 rw [if_neg h]
 clear h
 apply Ru
 refine G.condD rfl (fun h=>?_) (fun h=>?_)
 ·rw [if_pos h]
  apply Ru
  exact kr1 rfl ⟨rfl,rfl⟩
 rw [if_neg h]
 clear h
 apply Ru
 refine G.condD rfl (fun h=>?_) (fun h=>?_)
 ·rw [if_pos h]
  apply Ru
  exact kr1 rfl ⟨rfl,rfl⟩
 rw [if_neg h]
 clear h
 apply Ru
 refine G.condD rfl (fun h=>?_) (fun h=>?_)
 ·rw [if_pos h]
  apply Ru
  exact kr1 rfl ⟨rfl,rfl⟩
 rw [if_neg h]
 clear h
 apply Ru
 refine G.condD rfl (fun h=>?_) (fun h=>?_)
 ·rw [if_pos h]
  apply Ru
  exact kr1 rfl ⟨rfl,rfl⟩
 rw [if_neg h]
 clear h
 apply Ru
 refine G.condD rfl (fun h=>?_) (fun h=>?_)
 ·rw [if_pos h]
  apply Ru
  exact kr1 rfl ⟨rfl,rfl⟩
 rw [if_neg h]
 clear h
 apply Ru
 have hc:((b.toNat:Int) < 65)∨(65≤(b.toNat:Int)∧(b.toNat:Int)≤90)∨(90 < (b.toNat:Int)∧(b.toNat:Int) < 97)∨(97≤(b.toNat:Int)∧(b.toNat:Int)≤122)∨(122 < (b.toNat:Int)):=by omega
 rcases hc with h | h | h | h | h
 ·have e1:decide (65≤(b.toNat:Int))=false:=decide_eq_false (by omega)
  have e2:decide ((b.toNat:Int)≤90)=true:=decide_eq_true (by omega)
  have e3:decide (97≤(b.toNat:Int))=false:=decide_eq_false (by omega)
  have e4:decide ((b.toNat:Int)≤122)=true:=decide_eq_true (by omega)
  rw [if_neg (by omega),if_neg (by omega)]
  clear h
  (refine sgF ?_;refine sgF ?_;refine spF ?_;refine sgF ?_;refine sgF ?_;refine spF ?_)
  refine scl (j9 b) ?_
  rintro _ _ ⟨rfl,rfl⟩
  cases e5:fe b
  ·apply Ru
   exact kr1 rfl ⟨rfl,rfl⟩
  ·apply Ru
   exact kr1 rfl ⟨rfl,rfl⟩
 ·have e1:decide (65≤(b.toNat:Int))=true:=decide_eq_true (by omega)
  have e2:decide ((b.toNat:Int)≤90)=true:=decide_eq_true (by omega)
  have e3:decide (97≤(b.toNat:Int))=false:=decide_eq_false (by omega)
  have e4:decide ((b.toNat:Int)≤122)=true:=decide_eq_true (by omega)
  rw [if_pos (by omega)]
  clear h
  (refine sgT ?_;refine sgT ?_;refine spT ?_;refine scT ?_)
  exact kr1 rfl ⟨rfl,rfl⟩
 ·have e1:decide (65≤(b.toNat:Int))=true:=decide_eq_true (by omega)
  have e2:decide ((b.toNat:Int)≤90)=false:=decide_eq_false (by omega)
  have e3:decide (97≤(b.toNat:Int))=false:=decide_eq_false (by omega)
  have e4:decide ((b.toNat:Int)≤122)=true:=decide_eq_true (by omega)
  rw [if_neg (by omega),if_neg (by omega)]
  clear h
  (refine sgT ?_;refine sgT ?_;refine spT ?_;refine scF ?_;refine sgF ?_;refine sgF ?_;refine spF ?_)
  refine scl (j9 b) ?_
  rintro _ _ ⟨rfl,rfl⟩
  cases e5:fe b
  ·apply Ru
   exact kr1 rfl ⟨rfl,rfl⟩
  ·apply Ru
   exact kr1 rfl ⟨rfl,rfl⟩
 ·have e1:decide (65≤(b.toNat:Int))=true:=decide_eq_true (by omega)
  have e2:decide ((b.toNat:Int)≤90)=false:=decide_eq_false (by omega)
  have e3:decide (97≤(b.toNat:Int))=true:=decide_eq_true (by omega)
  have e4:decide ((b.toNat:Int)≤122)=true:=decide_eq_true (by omega)
  rw [if_neg (by omega),if_pos (by omega)]
  clear h
  (refine sgT ?_;refine sgT ?_;refine spT ?_;refine scF ?_;refine sgT ?_;refine sgT ?_;refine spT ?_;refine scT ?_)
  exact kr1 rfl ⟨rfl,rfl⟩
 ·have e1:decide (65≤(b.toNat:Int))=true:=decide_eq_true (by omega)
  have e2:decide ((b.toNat:Int)≤90)=false:=decide_eq_false (by omega)
  have e3:decide (97≤(b.toNat:Int))=true:=decide_eq_true (by omega)
  have e4:decide ((b.toNat:Int)≤122)=false:=decide_eq_false (by omega)
  rw [if_neg (by omega),if_neg (by omega)]
  clear h
  (refine sgT ?_;refine sgT ?_;refine spT ?_;refine scF ?_;refine sgT ?_;refine sgT ?_;refine spT ?_;refine scF ?_)
  refine scl (j9 b) ?_
  rintro _ _ ⟨rfl,rfl⟩
  cases e5:fe b
  ·apply Ru
   exact kr1 rfl ⟨rfl,rfl⟩
  ·apply Ru
   exact kr1 rfl ⟨rfl,rfl⟩
end
section
theorem ny (i:Nat):Tryz.prog.built 125 [(1,i64 (i:Nat))]=some [i64 0,i64 (i:Nat),str []].toArray:=by kernel_rfl
theorem vN (k i:Nat):Tryz.prog.built 125 [(0,i64 (k:Nat)),(1,i64 (i:Nat))]=some [i64 (k:Nat),i64 (i:Nat),str []].toArray:=by kernel_rfl
attribute [local irreducible] G GO GR GT Fn FnV pt init exs pur sat own ImpS fU fe eB bH dZ
theorem yR (s:List UInt8) (i:Nat) (hs:¬ 9223372036854775807≤s.length) (hi:i≤s.length):Fn Tryz.prog 48 #[str s,i64 (i:Nat)] [] (fun r Q=>r=.agg (mC (aC s i)).toArray∧Q=[]):=by
 refine Fn.mk2 Tryz.func48 rfl rfl fun w0 F=>?_
 (apply Ru;refine sal fun b4=>?_;apply Ru)
 refine G.loopI (σ:=Nat) (fun j=>[(0,str s),(1,i64 (j:Nat)),(4,ah b4)]) (fun _=>pt b4 (row [i64 0,i64 0,str []] 125)::F) (fun j=>j≤s.length∧bH s j=bH s i) (fun j=>s.length - j) i ⟨hi,rfl⟩ ?_ ?_ ?_
 ·exact SE rfl
 ·exact ImpS.sb SB
 rintro j ⟨hj,hsk⟩
 apply Ru
 by_cases hlt:j < s.length
 ·obtain ⟨b,hb⟩:∃ b,s[j]?=some b:=⟨_,List.getElem?_eq_getElem hlt⟩
  have e1:decide ((j:Int) < (s.length:Int))=true:=decide_eq_true (by omega)
  have e0:decide ((j:Int)=(s.length:Int))=false:=decide_eq_false (by omega)
  (refine sgT ?_;refine sgT ?_;refine sgT ?_;refine GO.strIdx rfl rfl rfl rfl (by assumption) ?_;refine sgT ?_)
  refine scl (xi b) ?_
  rintro _ _ ⟨rfl,rfl⟩
  cases h2:fU b
  ·have hsj:bH s i=j:=by rw [← hsk];unfold bH;exact oE hb h2
   (refine spT ?_;refine sgT ?_;refine sgT ?_;refine sgT ?_;refine GO.strIdx rfl rfl rfl rfl (by assumption) ?_;refine sgT ?_)
   refine scl (rP b) ?_
   rintro _ _ ⟨rfl,rfl⟩
   by_cases hk:eB b=0
   ·have hn:aC s i=⟨0,j,[]⟩:=by unfold aC;rw [hsj,hb];dsimp only;rw [if_pos hk]
    rw [hn]
    have e3:decide (((eB b:Nat):Int)=0)=true:=decide_eq_true (by omega)
    (refine sgT ?_;refine spF ?_;refine scT ?_)
    refine GO.buildPart1 (ny j) rfl rfl ?_
    apply Ru
    exact kr1 rfl ⟨rfl,rfl⟩
   ·have e3:decide (((eB b:Nat):Int)=0)=false:=decide_eq_false (by omega)
    (refine sgT ?_;refine spF ?_;refine scF ?_;refine GO.strIdx rfl rfl rfl rfl (by assumption) ?_)
    refine scl (rP b) ?_
    rintro _ _ ⟨rfl,rfl⟩
    apply Ru
    refine GO.buildP2 (vN (eB b) j) rfl rfl rfl ?_
    by_cases hk3:eB b≤3
    ·have e4:decide (((eB b:Nat):Int)≤3)=true:=decide_eq_true (by omega)
     have hn:aC s i=⟨eB b,j,(s.drop j).take (dZ s (j+1) - j)⟩:=by unfold aC;rw [hsj,hb];dsimp only;rw [if_neg hk,if_pos hk3]
     (refine sal fun b5=>?_;apply Ru;refine sad ?_;refine scT ?_)
     refine G.loopI (σ:=Nat) (fun k=>[(0,str s),(1,i64 (j:Nat)),(4,ah b4),(5,ah b5),(6,i64 (k:Nat))]) (fun _=>pt b5 (row [i64 (eB b:Nat),i64 (j:Nat),str []] 125)::pt b4 (row [i64 0,i64 0,str []] 125)::F) (fun k=>j+1≤k∧k≤s.length∧dZ s k=dZ s (j+1)) (fun k=>s.length - k) (j+1) ⟨Nat.le_refl _,by omega,rfl⟩ ?_ ?_ ?_
     ·exact SE rfl
     ·exact ImpS.sb SB
     rintro k ⟨hk1,hk2,hwk⟩
     apply Ru
     by_cases hlk:k < s.length
     ·obtain ⟨b',hb'⟩:∃ b,s[k]?=some b:=⟨_,List.getElem?_eq_getElem hlk⟩
      have e5:decide ((k:Int) < (s.length:Int))=true:=decide_eq_true (by omega)
      (refine scT ?_;refine GO.strIdx rfl rfl rfl rfl (by assumption) ?_)
      refine scl (j9 b') ?_
      rintro _ _ ⟨rfl,rfl⟩
      cases h3:fe b'
      ·have hwj:dZ s (j+1)=k:=by rw [← hwk];unfold dZ;exact oE hb' h3
       rw [hwj] at hn
       (apply Ru;refine G.condT rfl rfl ?_;apply Ru;refine lQ ?_;apply Ru)
       refine GO.strLH rfl rfl rfl rfl ⟨rfl,rfl,by omega,by omega⟩ ?_
       (apply Ru;refine GO.loadW rfl rfl rfl Tk.h rfl ?_;apply Ru)
       exact KF2.r1 rfl (RV.cW rfl rfl Tk.h rfl) ⟨by rw [hn];rfl,rfl⟩ (ImpS.sb SB)
      ·(apply Ru;refine G.condF rfl rfl ?_;apply Ru;refine sad ?_)
       refine ⟨k+1,⟨by omega,by omega,?_⟩,by omega,?_,ImpS.sb ?_⟩
       ·rw [← hwk];unfold dZ;exact ub hb' h3
       ·exact SE rfl
       ·exact SB
     ·obtain rfl:k=s.length:=by omega
      have e5:decide ((s.length:Int) < (s.length:Int))=false:=decide_eq_false (by omega)
      have hwj:dZ s (j+1)=s.length:=by rw [← hwk];unfold dZ;exact xz (Nat.le_refl _)
      rw [hwj] at hn
      (refine scF ?_;refine lQ ?_;apply Ru)
      refine GO.strLH rfl rfl rfl rfl ⟨rfl,rfl,by omega,by omega⟩ ?_
      (apply Ru;refine GO.loadW rfl rfl rfl Tk.h rfl ?_;apply Ru)
      exact KF2.r1 rfl (RV.cW rfl rfl Tk.h rfl) ⟨by rw [hn];rfl,rfl⟩ (ImpS.sb SB)
    ·have e4:decide (((eB b:Nat):Int)≤3)=false:=decide_eq_false (by omega)
     have hn:aC s i=⟨eB b,j,(s.drop j).take (j+1 - j)⟩:=by unfold aC;rw [hsj,hb];dsimp only;rw [if_neg hk,if_neg hk3,Nat.add_sub_cancel_left]
     (refine sal fun b5=>?_;apply Ru;refine sad ?_;refine scF ?_)
     refine GO.strLH (b:=j+1) rfl rfl rfl rfl ⟨rfl,by omega,by omega,by omega⟩ ?_
     (apply Ru;refine GO.loadW rfl rfl rfl Tk.h rfl ?_;apply Ru)
     exact KF2.r1 rfl (RV.cW rfl rfl Tk.h rfl) ⟨by rw [hn];rfl,rfl⟩ (ImpS.sb SB)
  ·(refine spT ?_;refine sad ?_)
   refine ⟨j+1,⟨by omega,?_⟩,by omega,?_,ImpS.sb ?_⟩
   ·rw [← hsk];unfold bH;exact ub hb h2
   ·exact SE rfl
   ·exact SB
 ·obtain rfl:j=s.length:=by omega
  have e1:decide ((s.length:Int) < (s.length:Int))=false:=decide_eq_false (by omega)
  have hsj:bH s i=s.length:=by rw [← hsk];unfold bH;exact xz (Nat.le_refl _)
  have hn:aC s i=⟨0,s.length,[]⟩:=by unfold aC;rw [hsj,List.getElem?_eq_none (Nat.le_refl _)]
  rw [hn]
  (refine sgF ?_;refine sgF ?_;refine sgF ?_;refine sgF ?_;refine spF ?_)
  refine GO.buildPart1 (ny s.length) rfl rfl ?_
  apply Ru
  exact kr1 rfl ⟨rfl,rfl⟩
end
section
abbrev uR (m:MarkD):List Value:=[.agg (mC m).toArray]
def zI (i:Nat):List MarkD→Nat
 | []=>i
 | m::l=>zI (m.place+m.text.length) l
theorem sf:∀ (l:List MarkD) (i:Nat) (m:MarkD),zI i (l++[m])=m.place+m.text.length
 | [],_,_=>rfl
 | _::l,_,m=>sf l _ m
theorem zB (l:List MarkD):jS l l.length=zI 0 l:=by
 rcases List.eq_nil_or_concat l with rfl | ⟨k,m,rfl⟩
 ·rfl
 ·rw [List.concat_eq_append,sf,List.length_append]
  show (match (k++[m])[k.length]? with | some m=>m.place+m.text.length | none=>0)=_
  rw [List.getElem?_append_right (Nat.le_refl _),Nat.sub_self]
  rfl
theorem re (s:List UInt8):∀ (f i:Nat),i≤s.length→s.length - i < f→(aC s (zI i (bz s f i))).kind=0∧(aC s (zI i (bz s f i))).place=bY s f i∧zI i (bz s f i)≤s.length
 | 0,_,_,h=>by omega
 | f+1,i,hi,hf=>by
  obtain ⟨h1,h2,h3⟩:=f7 hi
  simp only [bz,bY]
  split
  ·rename_i hk
   exact ⟨hk,rfl,hi⟩
  ·rename_i hk
   have:=h3 hk
   exact re s f _ h2 (by omega)
theorem u9 (s:List UInt8):∀ (f i:Nat),i≤s.length→s.length - i < f→bY s f i≤s.length
 | 0,_,_,h=>by omega
 | f+1,i,hi,hf=>by
  obtain ⟨h1,h2,h3⟩:=f7 hi
  simp only [bY]
  split
  ·omega
  ·rename_i hk
   have:=h3 hk
   exact u9 s f _ h2 (by omega)
theorem nO (s:List UInt8):cD s≤s.length:=u9 s _ _ (Nat.zero_le _) (by omega)
def AtM (s:List UInt8) (i p:Nat):Prop:=p≤s.length∧i≤(aj s).length∧∃ f,s.length - p < f∧bz s f p=(aj s).drop i
theorem AtM.start (s:List UInt8):AtM s 0 0:=⟨Nat.zero_le _,Nat.zero_le _,s.length+1,by omega,rfl⟩
theorem AtM.stop {s:List UInt8} {i p:Nat} (h:AtM s i p) (hk:(aC s p).kind=0):i=(aj s).length:=by
 obtain ⟨_,h2,f,h3,h4⟩:=h
 obtain ⟨f,rfl⟩:∃ g,f=g+1:=⟨f - 1,by omega⟩
 simp only [bz,if_pos hk] at h4
 have:=congrArg List.length h4
 simp only [List.length_nil,List.length_drop] at this
 omega
theorem AtM.next {s:List UInt8} {i p:Nat} (h:AtM s i p) (hk:(aC s p).kind≠0):(aj s)[i]?=some (aC s p)∧AtM s (i+1) ((aC s p).place+(aC s p).text.length)∧p < (aC s p).place+(aC s p).text.length:=by
 obtain ⟨h1,h2,f,h3,h4⟩:=h
 obtain ⟨f,rfl⟩:∃ g,f=g+1:=⟨f - 1,by omega⟩
 obtain ⟨g1,g2,g3⟩:=f7 h1
 have:=g3 hk
 simp only [bz,if_neg hk] at h4
 have e1:(aj s)[i]?=some (aC s p):=by
  have:=congrArg (·[0]?) h4
  simpa [List.getElem?_drop] using this.symm
 have hlt:i < (aj s).length:=(List.getElem?_eq_some_iff.1 e1).1
 refine ⟨e1,⟨g2,hlt,f,by omega,?_⟩,by omega⟩
 rw [dg e1] at h4
 exact (List.cons.injEq _ _ _ _ ▸ h4).2
theorem oV (s:List UInt8) (i:Nat) (hs:¬ 9223372036854775807≤s.length) (hi:i≤s.length):Fn Tryz.prog 48 #[str s,i64 (i:Nat)] [] (fun r Q=>r=.agg [i64 ((aC s i).kind:Nat),i64 ((aC s i).place:Nat),str (aC s i).text].toArray∧Q=[]):=yR s i hs hi
attribute [local irreducible] G GO GR GT Fn FnV pt init exs pur sat own ImpS fU fe eB bH dZ aC aj cD
theorem A3 (s:List UInt8) (hs:¬ 9223372036854775807≤s.length) (bx:Nat) (y:Value) (J S:Nat→HP)
  (hy:∀ i u,((aj s).map uR)[i]?=some u→FnV Tryz.prog y u [J i] (fun v Q=>(v=.bool true∧Q=[J (i+1)])∨(v=.bool false∧Q=[S i]))) :
  Fn Tryz.prog 115 #[y,ah bx] [J 0,pt bx (row [str s] 9)] (fun _ Q=>Q=[J (aj s).length,pt bx (row [str s] 9)]∨∃ i,i < (aj s).length∧Q=[S i,pt bx (row [str s] 9)]):=by
 refine Fn.mk2 Tryz.func115 rfl rfl fun w0 F=>?_
 apply Ru
 refine G.loopI (σ:=Nat × Nat) (fun z=>[(0,y),(1,ah bx),(3,i64 (z.2:Nat))]) (fun z=>J z.1::pt bx (row [str s] 9)::F) (fun z=>AtM s z.1 z.2) (fun z=>s.length - z.2) (0,0) (AtM.start s) ?_ ?_ ?_
 ·exact SE rfl
 ·exact ImpS.sb SB
 rintro ⟨i,p⟩ hz
 dsimp only at hz ⊢
 apply Ru
 refine scl (oV s p hs hz.1) ?_
 rintro _ _ ⟨rfl,rfl⟩
 by_cases hk:(aC s p).kind=0
 ·have e1:decide (((aC s p).kind:Int)=0)=true:=decide_eq_true (by omega)
  have hi:=hz.stop hk
  generalize aC s p=m at *
  (refine sal fun b4=>?_;apply Ru;refine sgF ?_;refine sgF ?_;refine sgF ?_;refine sgF ?_;refine spT ?_)
  refine KF2.r0 rfl (.inl rfl) (ImpS.sb ?_)
  rw [hi]
  exact SB
 ·have e1:decide (((aC s p).kind:Int)=0)=false:=decide_eq_false (by omega)
  obtain ⟨h1,h2,h3⟩:=hz.next hk
  have h0:=hz.1
  have hyi:=hy i (uR (aC s p)) (by rw [List.getElem?_map,h1];rfl)
  have hle:=h2.1
  generalize aC s p=m at *
  (refine sal fun b4=>?_;apply Ru;refine sgT ?_;refine sgT ?_;refine GO.loadW rfl rfl rfl Tk.h rfl ?_;refine sgT ?_)
  refine svl (hyi) ?_
  rintro _ _ (⟨rfl,rfl⟩ | ⟨rfl,rfl⟩)
  ·(refine sgT ?_;refine spF ?_;refine G.condF rfl rfl ?_;apply Ru;refine sad ?_)
   refine ⟨(i+1,m.place+m.text.length),h2,by dsimp only;omega,?_,ImpS.sb ?_⟩
   ·exact SE rfl
   ·exact SB
  ·(refine sgT ?_;refine spF ?_;refine G.condT rfl rfl ?_;apply Ru)
   refine KF2.r0 rfl (.inr ⟨i,(List.getElem?_eq_some_iff.1 h1).1,rfl⟩) (ImpS.sb ?_)
   exact SB
end
section
attribute [local irreducible] G GO GR GT Fn FnV pt init exs pur sat own ImpS
theorem q8 (s:List UInt8):Fn Tryz.prog 47 #[str s] [] (fun r Q=>∃ bx,r=.func (.func 115) #[] #[ah bx]∧Q=[pt bx (row [str s] 9)]):=by
 refine Fn.mk2 Tryz.func47 rfl rfl fun w0 F=>?_
 (apply Ru;refine sbx fun b1=>?_;apply Ru)
 exact kr1 rfl ⟨_,rfl,rfl⟩
theorem CC (s:List UInt8) (hs:¬ 9223372036854775807≤s.length) (bx:Nat):SeqOK Tryz.prog (.func (.func 115) #[] #[ah bx]) ((aj s).map uR) [] [pt bx (row [str s] 9)]:=
 SeqOK.of1 (caps:=#[ah bx]) fun y J S hy=>by rw [List.length_map];exact A3 s hs bx y J S hy
def eL (l:List MarkD):List Value:=l.flatMap mC
theorem uQ (l:List MarkD) (m:MarkD):eL (l++[m])=eL l++[i64 (m.kind:Nat),i64 (m.place:Nat),str m.text]:=by
 simp [eL,mC]
theorem pu {l:List MarkD} {i:Nat} {m:MarkD} (h:l[i]?=some m):jS l (i+1)=m.place+m.text.length:=by
 show (match l[i]? with | some m=>m.place+m.text.length | none=>0)=_
 rw [h]
theorem aG {α:Type} {l:List α} {i:Nat} {m:α} (h:l[i]?=some m):l.take (i+1)=l.take i++[m]:=by
 obtain ⟨hlt,rfl⟩:=List.getElem?_eq_some_iff.1 h
 exact List.take_succ_eq_append_getElem hlt
theorem jx (s:List UInt8):∀ (f i:Nat),i≤s.length→(bz s f i).length≤s.length - i∧∀ m∈bz s f i,m.place+m.text.length≤s.length
 | 0,_,_=>⟨by simp [bz],fun _ h=>by simp [bz] at h⟩
 | f+1,i,hi=>by
  obtain ⟨h1,h2,h3⟩:=f7 hi
  simp only [bz]
  split
  ·exact ⟨by simp,fun _ h=>by simp at h⟩
  ·rename_i hk
   have:=h3 hk
   obtain ⟨g1,g2⟩:=jx s f _ h2
   refine ⟨by rw [List.length_cons];omega,fun m hm=>?_⟩
   rcases List.mem_cons.1 hm with rfl | hm
   ·exact h2
   ·exact g2 m hm
theorem gz (s:List UInt8):(aj s).length≤s.length:=(jx s _ 0 (Nat.zero_le _)).1
theorem mB {s:List UInt8} {m:MarkD} (h:m∈aj s):m.place+m.text.length≤s.length:=(jx s _ 0 (Nat.zero_le _)).2 m h
theorem wD (s:List UInt8):(aC s (jS (aj s) (aj s).length)).kind=0∧(aC s (jS (aj s) (aj s).length)).place=cD s∧jS (aj s) (aj s).length≤s.length:=by
 rw [zB]
 exact re s _ 0 (Nat.zero_le _) (by omega)
theorem Bn {s:List UInt8} (i:Nat) (hi:i≤(aj s).length):jS (aj s) i≤s.length:=by
 cases i with
 | zero=>exact Nat.zero_le _
 | succ i=>
  have e:(aj s)[i]?=some (aj s)[i]:=List.getElem?_eq_getElem (by omega)
  rw [pu e]
  exact mB (List.mem_of_getElem? e)
attribute [local irreducible] fU fe eB bH dZ aC aj cD
theorem ml (s:List UInt8) (hs:¬ 1048576 < s.length):Fn Tryz.prog 21 #[str s] []
  (fun r Q=>(cD s < s.length∧r=.tuple #[.slice none 0 0,i64 (cD s:Nat),i64 160]∧Q=[])∨(cD s=s.length∧∃ v,r=.tuple #[v,i64 0,i64 0]∧v.oneCell'=true∧Q=[own 125 3 (aj s).length v (eL (aj s))])):=by
 have hn:=gz s
 have hbad:=nO s
 have hfl:=@Bn s
 have hlast:=wD s
 refine Fn.mk2 Tryz.func21 rfl rfl fun w0 F=>?_
 (apply Ru;refine sal fun b5=>?_;apply Ru;refine sal fun b6=>?_;apply Ru)
 refine scl (q8 s) ?_
 rintro _ _ ⟨bx,rfl,rfl⟩
 apply Ru
 refine G.ownNil (T:=125) (sz:=3) ?_
 refine G.keep (H':=qe b5 53 125 3 0 []::pt b6 (row [i64 (0:Nat)] 3)::pt bx (row [str s] 9)::F) (nP (.slice none 0 0) (ImpS.sb SB)) ?_
 refine G.rangeF (F:=F) (psl:=[11]) (v:=.func (.func 115) #[] #[ah bx]) (xs:=(aj s).map uR) (Sh:=[]) (Gm:=[pt bx (row [str s] 9)])
  (fun i=>[qe b5 53 125 3 i (eL ((aj s).take i)),pt b6 (row [i64 (jS (aj s) i:Nat)] 3)])
  (fun _ _=>[pur False]) (fun _ h=>by cases h) rfl (fun u hu=>by obtain ⟨p,_,rfl⟩:=List.mem_map.1 hu;rfl) rfl (CC s (by omega) bx) ?_ (fun lp Lr Lb w1 F1 i u hu=>?_) ?_ ?_
 ·rw [List.take_zero,show eL []=[] from rfl,show jS (aj s) 0=0 from rfl]
  (exact Tks.n)
 ·obtain ⟨m,hm,rfl⟩:∃ m,(aj s)[i]?=some m∧u=uR m:=by
   rw [List.getElem?_map] at hu
   cases hc:(aj s)[i]? with
   | none=>simp [hc] at hu
   | some p=>simp [hc] at hu;exact ⟨p,rfl,hu.symm⟩
  have hil:=(List.getElem?_eq_some_iff.1 hm).1
  have hpl:=mB (List.mem_of_getElem? hm)
  rw [aG hm,uQ,pu hm]
  change G _ _ _ _ ((11,.agg [i64 (m.kind:Nat),i64 (m.place:Nat),str m.text].toArray)::_) (qe b5 53 125 3 i (eL ((aj s).take i))::pt b6 (row [i64 (jS (aj s) i:Nat)] 3)::F1)
  refine G.accOut fun v hv=>?_
  (apply Ru;refine GO.alloc rfl fun b7=>?_;apply Ru)
  refine Bc ?_
  (apply Ru;refine GO.load1 rfl rfl rfl (Tk.t Tk.h) rfl ?_;refine GO.loadW rfl rfl rfl Tk.h rfl ?_)
  refine GO.buildSlice1 rfl rfl (by simp;rfl) rfl ⟨by omega,by omega⟩ fun bs=>?_
  refine GO.appendOwn (m:=1) (news:=[i64 (m.kind:Nat),i64 (m.place:Nat),str m.text]) rfl rfl rfl (Tk.t (Tk.t (Tk.t Tk.h))) Tk.h rfl (by simp [Value.oneCell']) ⟨by decide,rfl⟩ Nat.one_pos (by unfold maxLen;omega) (by omega) fun v4=>?_
  refine GO.ownOne Tk.h fun hone4=>?_
  (refine GO.store1 rfl rfl (by assumption) (Tk.t (Tk.t (Tk.t Tk.h))) (by simp) ?_;apply Ru;refine GO.fieldAddr rfl rfl ?_;refine GO.load1 rfl rfl rfl (Tk.t (Tk.t (Tk.t Tk.h))) rfl ?_;refine GO.fieldAddr rfl rfl ?_;refine GO.load1 rfl rfl rfl (Tk.t (Tk.t (Tk.t Tk.h))) rfl ?_;refine GO.strLen rfl rfl ?_;refine GO.addi rfl rfl rfl (by omega) ?_;apply Ru)
  refine zd (nP v4 (ImpS.sb ?_))
  ((refine Sb.c (Tk.t Tk.h) ?_;refine Sb.c (Tk.t Tk.h) ?_;refine Sb.c Tk.h ?_);(refine Sb.s ?_;refine Sb.s ?_;exact Sb.r))
 ·rw [List.length_map,List.take_length]
  change cB _ _ _ _ (qe b5 53 125 3 (aj s).length (eL (aj s))::pt b6 (row [i64 (jS (aj s) (aj s).length:Nat)] 3)::pt bx (row [str s] 9)::F)
  generalize jS (aj s) (aj s).length=q at *
  apply Ru
  refine GO.accOut fun v hv=>?_
  refine scl (oV s q (by omega) hlast.2.2) ?_
  rintro _ _ ⟨rfl,rfl⟩
  rw [hlast.2.1]
  generalize aC s q=m at *
  by_cases hb:cD s < s.length
  ·have e1:decide ((cD s:Int) < (s.length:Int))=true:=decide_eq_true (by omega)
   generalize cD s=bd at *
   (refine sal fun b8=>?_;apply Ru;refine scT ?_)
   refine dr 5 ?_
   apply Ru
   refine KF2.r3 rfl (RV.t rfl) (RV.t rfl) (RV.t rfl) (.inl ⟨hb,rfl,rfl⟩) (ImpS.sb ?_)
   exact SB
  ·have e1:decide ((cD s:Int) < (s.length:Int))=false:=decide_eq_false (by omega)
   have e2:cD s=s.length:=by omega
   generalize cD s=bd at *
   (refine sal fun b8=>?_;apply Ru;refine scF ?_)
   refine KF2.r3 rfl (RV.t rfl) (RV.t rfl) (RV.t rfl) (.inr ⟨e2,v,rfl,hv,rfl⟩) (ImpS.sb ?_)
   exact SB
 ·intro i jc hi
  exact G.pur fun h=>h.elim
end
/-- A node: its kind,its name,how many kids. -/
structure NodeD where
 kind:Nat
 name:List UInt8
 kids:Nat
 deriving DecidableEq
def fS (m:NodeD):List Value:=[i64 (m.kind:Nat),str m.name,i64 (m.kids:Nat)]
def aO (l:List NodeD):List Value:=l.flatMap fS
theorem iY (l:List NodeD):(aO l).length=l.length * 3:=by
 induction l with
 | nil=>rfl
 | cons m l ih=>simp only [aO,List.flatMap_cons,List.length_append,fS,List.length_cons,List.length_nil] at ih ⊢;omega
theorem gv (l k:List NodeD):aO (l++k)=aO l++aO k:=by simp [aO]
abbrev PR:=Except Nat (List NodeD × Nat)
def kAt (ms:List MarkD) (i:Nat):Nat:=match ms[i]? with | some m=>m.kind | none=>0
def au (ms:List MarkD) (e i:Nat):Nat:=match ms[i]? with | some m=>m.place | none=>e
def fB (k:Nat):Bool:=decide ((k:Int)=1) || decide ((k:Int)=2) || decide ((k:Int)=12) || decide ((k:Int)=10)
def fg (ms:List MarkD) (ex:Nat→PR) (i:Nat):PR:=
 match ms[i]? with
 | none=>.error i
 | some m=>
  if m.kind=1 then .ok ([⟨2,m.text,0⟩],i+1) else if m.kind=2 then .ok ([⟨3,m.text,0⟩],i+1) else if m.kind=12 then .ok ([⟨1,[],0⟩],i+1)
  else if m.kind=10 then match ex (i+1) with
   | .error j=>.error j
   | .ok (l,j)=>if kAt ms j=11 then .ok (l,j+1) else .error j
  else .error i
def f6 (ms:List MarkD):Nat→List NodeD→Nat→List NodeD × Nat
 | 0,l,i=>(l,i)
 | f+1,l,i=>if kAt ms i=7 then f6 ms f (⟨6,[],1⟩::l) (i+1) else if kAt ms i=8 then f6 ms f (⟨7,[],1⟩::l) (i+1) else if kAt ms i=9 then f6 ms f (⟨8,[],1⟩::l) (i+1) else (l,i)
def eO (ms:List MarkD) (ex:Nat→PR) (i:Nat):PR:=match fg ms ex i with
 | .error j=>.error j
 | .ok (l,j)=>.ok (f6 ms ms.length l j)
def fX (u:Nat→PR) (go:Nat→Option Nat):Nat→List NodeD→Nat→Nat→Except Nat ((List NodeD × Nat) × Nat)
 | 0,all,n,i=>.ok ((all,n),i)
 | f+1,all,n,i=>match go i with
  | none=>.ok ((all,n),i)
  | some j=>match u j with
   | .error e=>.error e
   | .ok (l,k)=>fX u go f (all++l) (n+1) k
def lM (kind:Nat):Except Nat ((List NodeD × Nat) × Nat)→PR
 | .error e=>.error e
 | .ok ((all,n),k)=>.ok (if n=1 then all else ⟨kind,[],n⟩::all,k)
def goU (ms:List MarkD) (i:Nat):Option Nat:=if fB (kAt ms i)=true then some i else none
def goA (ms:List MarkD) (i:Nat):Option Nat:=if kAt ms i=6 then some (i+1) else none
def dQ (ms:List MarkD) (ex:Nat→PR) (i:Nat):PR:=match eO ms ex i with
 | .error j=>.error j
 | .ok (l,j)=>lM 4 (fX (eO ms ex) (goU ms) ms.length l 1 j)
def fK (ms:List MarkD):Nat→Nat→PR
 | 0,i=>.error i
 | f+1,i=>match dQ ms (fK ms f) i with
  | .error j=>.error j
  | .ok (l,j)=>lM 5 (fX (dQ ms (fK ms f)) (goA ms) ms.length l 1 j)
def ma (ms:List MarkD) (u:Nat→PR):Prop:=∀ i l k,u i=.ok (l,k)→i < k∧k≤ms.length∧l.length+1≤2 * (k - i)
theorem jO {ms:List MarkD} {i:Nat} (h:kAt ms i≠0):i < ms.length:=by
 unfold kAt at h
 cases e:ms[i]? with
 | none=>rw [e] at h;exact absurd rfl h
 | some m=>exact (List.getElem?_eq_some_iff.1 e).1
theorem pV {ms:List MarkD} {ex:Nat→PR} (h:ma ms ex):ma ms (fg ms ex):=by
 intro i l k e
 unfold fg at e
 cases hm:ms[i]? with
 | none=>rw [hm] at e;cases e
 | some m=>
  rw [hm] at e
  have hi:=(List.getElem?_eq_some_iff.1 hm).1
  dsimp only at e
  split at e
  ·cases e;exact ⟨by omega,by omega,by simp⟩
  split at e
  ·cases e;exact ⟨by omega,by omega,by simp⟩
  split at e
  ·cases e;exact ⟨by omega,by omega,by simp⟩
  split at e
  ·cases hx:ex (i+1) with
   | error j=>rw [hx] at e;cases e
   | ok z=>
    obtain ⟨l',j⟩:=z
    rw [hx] at e
    dsimp only at e
    obtain ⟨h1,h2,h3⟩:=h _ _ _ hx
    split at e
    ·rename_i hk
     cases e
     have:=jO (ms:=ms) (i:=j) (by omega)
     exact ⟨by omega,by omega,by omega⟩
    ·cases e
  ·cases e
theorem oL (ms:List MarkD):∀ (f:Nat) (l:List NodeD) (i a:Nat),a < i→i≤ms.length→l.length+1≤2 * (i - a)→i≤(f6 ms f l i).2∧(f6 ms f l i).2≤ms.length∧(f6 ms f l i).1.length+1≤2 * ((f6 ms f l i).2 - a)
 | 0,l,i,a,h1,h2,h3=>⟨Nat.le_refl _,h2,h3⟩
 | f+1,l,i,a,h1,h2,h3=>by
  have key:∀ k:Nat,kAt ms i≠0→i≤(f6 ms f (⟨k,[],1⟩::l) (i+1)).2∧(f6 ms f (⟨k,[],1⟩::l) (i+1)).2≤ms.length∧(f6 ms f (⟨k,[],1⟩::l) (i+1)).1.length+1≤2 * ((f6 ms f (⟨k,[],1⟩::l) (i+1)).2 - a):=fun k hk=>by
   have:=jO hk
   obtain ⟨g1,g2,g3⟩:=oL ms f (⟨k,[],1⟩::l) (i+1) a (by omega) (by omega) (by rw [List.length_cons];omega)
   exact ⟨by omega,g2,g3⟩
  simp only [f6]
  split
  ·exact key 6 (by omega)
  split
  ·exact key 7 (by omega)
  split
  ·exact key 8 (by omega)
  ·exact ⟨Nat.le_refl _,h2,h3⟩
theorem kW {ms:List MarkD} {ex:Nat→PR} (h:ma ms ex):ma ms (eO ms ex):=by
 intro i l k e
 unfold eO at e
 cases ha:fg ms ex i with
 | error j=>rw [ha] at e;cases e
 | ok z=>
  obtain ⟨l',j⟩:=z
  rw [ha] at e
  simp only [Except.ok.injEq] at e
  obtain ⟨h1,h2,h3⟩:=pV h _ _ _ ha
  obtain ⟨g1,g2,g3⟩:=oL ms ms.length l' j i h1 h2 h3
  rw [e] at g1 g2 g3
  exact ⟨by dsimp only at g1;omega,g2,g3⟩
theorem p7 {ms:List MarkD} {u:Nat→PR} {go:Nat→Option Nat} (hu:ma ms u) (hg:∀ i j,go i=some j→i≤j):∀ (f:Nat) (all:List NodeD) (n i a:Nat) {all':List NodeD} {n' k:Nat},a < i→i≤ms.length→1≤n→all.length+n≤2 * (i - a)→fX u go f all n i=.ok ((all',n'),k) →
  i≤k∧k≤ms.length∧1≤n'∧all'.length+n'≤2 * (k - a)
 | 0,all,n,i,a,all',n',k,h1,h2,h3,h4,e=>by cases e;exact ⟨Nat.le_refl _,h2,h3,h4⟩
 | f+1,all,n,i,a,all',n',k,h1,h2,h3,h4,e=>by
  simp only [fX] at e
  cases hgo:go i with
  | none=>rw [hgo] at e;cases e;exact ⟨Nat.le_refl _,h2,h3,h4⟩
  | some j=>
   rw [hgo] at e
   dsimp only at e
   have hij:=hg _ _ hgo
   cases huj:u j with
   | error x=>rw [huj] at e;cases e
   | ok z=>
    obtain ⟨l,m⟩:=z
    rw [huj] at e
    dsimp only at e
    obtain ⟨g1,g2,g3⟩:=hu _ _ _ huj
    obtain ⟨k1,k2,k3,k4⟩:=p7 hu hg f (all++l) (n+1) m a (by omega) g2 (by omega) (by rw [List.length_append];omega) e
    exact ⟨by omega,k2,k3,k4⟩
theorem p6 {kind:Nat} {ms:List MarkD} {u:Nat→PR} {go:Nat→Option Nat} (hu:ma ms u) (hg:∀ i j,go i=some j→i≤j) {f:Nat} {l:List NodeD} {i a:Nat} (h1:a < i) (h2:i≤ms.length) (h3:l.length+1≤2 * (i - a)) {l':List NodeD} {k:Nat} (e:lM kind (fX u go f l 1 i)=.ok (l',k)) :
  a < k∧k≤ms.length∧l'.length+1≤2 * (k - a):=by
 cases hm:fX u go f l 1 i with
 | error x=>rw [hm] at e;cases e
 | ok z=>
  obtain ⟨⟨all,n⟩,m⟩:=z
  rw [hm] at e
  simp only [lM,Except.ok.injEq,Prod.mk.injEq] at e
  obtain ⟨e1,rfl⟩:=e
  obtain ⟨g1,g2,g3,g4⟩:=p7 hu hg f l 1 i a h1 h2 (Nat.le_refl _) h3 hm
  refine ⟨by omega,g2,?_⟩
  rw [← e1]
  split
  ·omega
  ·rw [List.length_cons];omega
theorem Bi {ms:List MarkD} {i j:Nat} (h:goU ms i=some j):i≤j:=by unfold goU at h;split at h <;> simp at h;omega
theorem Bj {ms:List MarkD} {i j:Nat} (h:goA ms i=some j):i≤j:=by unfold goA at h;split at h <;> simp at h;omega
theorem l8 {ms:List MarkD} {ex:Nat→PR} (h:ma ms ex):ma ms (dQ ms ex):=by
 intro i l k e
 unfold dQ at e
 cases hu:eO ms ex i with
 | error j=>rw [hu] at e;cases e
 | ok z=>
  obtain ⟨l',j⟩:=z
  rw [hu] at e
  obtain ⟨h1,h2,h3⟩:=kW h _ _ _ hu
  exact p6 (kW h) (fun _ _=>Bi) h1 h2 h3 e
theorem fu (ms:List MarkD):∀ f,ma ms (fK ms f)
 | 0=>fun i l k e=>by cases e
 | f+1=>fun i l k e=>by
  simp only [fK] at e
  have h:=fu ms f
  cases hu:dQ ms (fK ms f) i with
  | error j=>rw [hu] at e;cases e
  | ok z=>
   obtain ⟨l',j⟩:=z
   rw [hu] at e
   obtain ⟨h1,h2,h3⟩:=l8 h _ _ _ hu
   exact p6 (l8 h) (fun _ _=>Bj) h1 h2 h3 e
section
abbrev rdP (br:Nat) (v:Value) (e i:Nat):HP:=pt br (row [v,i64 (i:Nat),i64 (e:Nat)] 253)
abbrev dN (q:HP) (v:Value) (ms:List MarkD):Prop:=Sl q v ms.length 3 (eL ms)
theorem s8 {α:Type} {enc:α→List Value} {k:Nat} (hk:∀ x,(enc x).length=k):∀ (l:List α),(l.flatMap enc).length=l.length * k
 | []=>by simp
 | x::l=>by rw [List.flatMap_cons,List.length_append,hk,s8 hk l,List.length_cons,Nat.add_mul];omega
theorem ft {α:Type} {enc:α→List Value} {k:Nat} (hk:∀ x,(enc x).length=k):∀ {l:List α} {i:Nat} {x:α} {j:Nat},l[i]?=some x→j < k→(l.flatMap enc)[i * k+j]?=(enc x)[j]?
 | [],_,_,_,h,_=>by simp at h
 | y::l,0,x,j,h,hj=>by
  simp at h;subst h
  rw [List.flatMap_cons,Nat.zero_mul,Nat.zero_add,List.getElem?_append_left (by rw [hk];exact hj)]
 | y::l,i+1,x,j,h,hj=>by
  simp only [List.getElem?_cons_succ] at h
  rw [List.flatMap_cons,List.getElem?_append_right (by rw [hk,Nat.add_mul];omega),hk,show (i+1) * k+j - k=i * k+j by rw [Nat.add_mul];omega]
  exact ft hk h hj
theorem iy {q:HP} {v:Value} {ms:List MarkD} {i:Nat} {m:MarkD} (hq:dN q v ms) (h:ms[i]?=some m):∃ b o cap,v=.slice (some ⟨b,o,none⟩) ms.length cap∧Rd q ⟨b,o+i * 3+0,none⟩ (i64 (m.kind:Nat))∧Rd q ⟨b,o+i * 3+1,none⟩ (i64 (m.place:Nat))∧Rd q ⟨b,o+i * 3+2,none⟩ (str m.text):=by
 obtain ⟨a,cap,rfl,_,hr⟩:=hq
 have hi:=(List.getElem?_eq_some_iff.1 h).1
 obtain ⟨b,o,rfl,hr2⟩:=hr (by omega)
 have key:∀ (j:Nat) (u:Value),j < 3→(mC m)[j]?=some u→Rd q ⟨b,o+i * 3+j,none⟩ u:=fun j u hj hu=>by
  rw [Nat.add_assoc]
  exact hr2 _ _ (by unfold eL;rw [ft (enc:=mC) (k:=3) (fun _=>rfl) h hj];exact hu)
 exact ⟨b,o,cap,rfl,key 0 _ (by omega) rfl,key 1 _ (by omega) rfl,key 2 _ (by omega) rfl⟩
theorem eA {q:HP} {v:Value} {ms:List MarkD} (hq:dN q v ms):∃ a cap,v=.slice a ms.length cap:=let ⟨a,cap,h,_⟩:=hq;⟨a,cap,h⟩
theorem vd {ms:List MarkD} {i:Nat} (h:ms.length≤i):kAt ms i=0:=by unfold kAt;rw [List.getElem?_eq_none h]
theorem uZ {ms:List MarkD} {i:Nat} {m:MarkD} (h:ms[i]?=some m):kAt ms i=m.kind:=by unfold kAt;rw [h]
theorem ep {ms:List MarkD} {e i:Nat} (h:ms.length≤i):au ms e i=e:=by unfold au;rw [List.getElem?_eq_none h]
theorem iT {ms:List MarkD} {e i:Nat} {m:MarkD} (h:ms[i]?=some m):au ms e i=m.place:=by unfold au;rw [h]
abbrev fN (i:Nat):Value:=.iface 249 (.agg [i64 (i:Nat)].toArray)
attribute [local irreducible] G GO GR GT Fn FnX FnV pt init exs pur sat own ImpS kAt au
theorem gl (q:HP) (v:Value) (ms:List MarkD) (hq:dN q v ms) (br e i:Nat) (hi:i≤ms.length):Fn Tryz.prog 207 #[ah br] [rdP br v e i,q] (fun r Q=>r=i64 (kAt ms i:Nat)∧Q=[rdP br v e i,q]):=by
 by_cases hlt:i < ms.length
 ·obtain ⟨m,hm⟩:∃ m,ms[i]?=some m:=⟨_,List.getElem?_eq_getElem hlt⟩
  obtain ⟨b,o,cap,rfl,r0,_,_⟩:=iy hq hm
  rw [uZ hm]
  have e1:decide ((i:Int)=(ms.length:Int))=false:=decide_eq_false (by omega)
  clear hq
  refine Fn.mk2 Tryz.func207 rfl rfl fun w0 F=>?_
  apply Ru
  refine dr 10 ?_
  apply Ru
  refine scF ?_
  refine dr 12 ?_
  (apply Ru;refine qix ?_;refine qld (by assumption) ?_;apply Ru)
  exact kr1 rfl ⟨rfl,rfl⟩
 ·obtain rfl:i=ms.length:=by omega
  obtain ⟨a,cap,rfl⟩:=eA hq
  rw [vd (Nat.le_refl _)]
  have e1:decide ((ms.length:Int)=(ms.length:Int))=true:=decide_eq_true rfl
  clear hq
  refine Fn.mk2 Tryz.func207 rfl rfl fun w0 F=>?_
  apply Ru
  refine dr 10 ?_
  apply Ru
  exact kr1 rfl ⟨rfl,rfl⟩
theorem iE (q:HP) (v:Value) (ms:List MarkD) (hq:dN q v ms) (br e i:Nat) (hi:i≤ms.length):FnX Tryz.prog 162 #[ah br] [rdP br v e i,q] (fun _ _=>False) (fun x Q=>x=fN (au ms e i)∧Q=[rdP br v e i,q]):=by
 by_cases hlt:i < ms.length
 ·obtain ⟨m,hm⟩:∃ m,ms[i]?=some m:=⟨_,List.getElem?_eq_getElem hlt⟩
  obtain ⟨b,o,cap,rfl,_,r1,_⟩:=iy hq hm
  rw [iT hm]
  have e1:decide ((i:Int)=(ms.length:Int))=false:=decide_eq_false (by omega)
  clear hq
  refine FnX.mk Tryz.func162 rfl rfl fun w0 F=>?_
  apply Ru
  refine dr 10 ?_
  apply Ru
  refine scF ?_
  refine dr 12 ?_
  (apply Ru;refine qix ?_;refine qld (by assumption) ?_;apply Ru)
  refine GO.panic rfl ?_
  refine KFX.p (v:=fN m.place) ⟨rfl,rfl⟩ (ImpS.sb ?_)
  exact SB
 ·obtain rfl:i=ms.length:=by omega
  obtain ⟨a,cap,rfl⟩:=eA hq
  rw [ep (Nat.le_refl _)]
  have e1:decide ((ms.length:Int)=(ms.length:Int))=true:=decide_eq_true rfl
  clear hq
  refine FnX.mk Tryz.func162 rfl rfl fun w0 F=>?_
  apply Ru
  refine dr 10 ?_
  apply Ru
  refine GO.panic rfl ?_
  (repeat (first | refine aV ?_ | refine aM ?_ | refine kscope_p ?_))
  refine KFX.p (v:=fN e) ⟨rfl,rfl⟩ (ImpS.sb ?_)
  exact SB
theorem k6 (k:Nat):Fn Tryz.prog 230 #[i64 (k:Nat)] [] (fun r Q=>r=.bool (fB k)∧Q=[]):=by
 refine Fn.mk2 Tryz.func230 rfl rfl fun w0 F=>?_
 unfold fB
 cases e1:decide ((k:Int)=1)
 ·cases e2:decide ((k:Int)=2)
  ·cases e3:decide ((k:Int)=12)
   ·cases e4:decide ((k:Int)=10)
    ·(apply Ru;refine scF ?_;refine scF ?_;refine scF ?_;refine scF ?_)
     exact kr1 rfl ⟨rfl,rfl⟩
    ·(apply Ru;refine scF ?_;refine scF ?_;refine scF ?_;refine scT ?_)
     exact kr1 rfl ⟨rfl,rfl⟩
   ·(apply Ru;refine scF ?_;refine scF ?_;refine scT ?_;refine scT ?_)
    exact kr1 rfl ⟨rfl,rfl⟩
  ·(apply Ru;refine scF ?_;refine scT ?_;refine scT ?_)
   exact kr1 rfl ⟨rfl,rfl⟩
 ·(apply Ru;refine scT ?_;refine scT ?_)
  exact kr1 rfl ⟨rfl,rfl⟩
end
section
def qf (q:HP) (br:Nat) (v:Value) (e:Nat) (res:PR):Value→List HP→Prop:=fun r Q=>∃ l k,res=.ok (l,k)∧Q=[own 93 3 l.length r (aO l),rdP br v e k,q]
def qg (q:HP) (br:Nat) (v:Value) (ms:List MarkD) (e:Nat) (res:PR):Value→List HP→Prop:=fun x Q=>∃ k,res=.error k∧x=fN (au ms e k)∧Q=[rdP br v e k,q]
def xp (q:HP) (br:Nat) (v:Value) (ms:List MarkD) (e i:Nat) (res:PR):Prop:=FnX Tryz.prog 161 #[ah br] [rdP br v e i,q] (qf q br v e res) (qg q br v ms e res)
theorem eS (k:Int) (t:List UInt8):Tryz.prog.built 93 [(0,i64 k),(1,str t)]=some [i64 k,str t,i64 0].toArray:=by kernel_rfl
theorem nw (k:Int):Tryz.prog.built 93 [(0,i64 k)]=some [i64 k,str [],i64 0].toArray:=by kernel_rfl
theorem fL (k n:Int):Tryz.prog.built 93 [(0,i64 k),(2,i64 n)]=some [i64 k,str [],i64 n].toArray:=by kernel_rfl
attribute [local irreducible] G GO GR GT Fn FnX FnV pt init exs pur sat own ImpS kAt au
theorem zU (q:HP) (v:Value) (ms:List MarkD) (hq:dN q v ms) (br e i:Nat) (hi:i≤ms.length) (hms:¬ 1048576 < ms.length) (ex:Nat→PR) (hg:ma ms ex) (hex:∀ j,i < j→j≤ms.length→xp q br v ms e j (ex j)) :
  FnX Tryz.prog 244 #[ah br] [rdP br v e i,q] (qf q br v e (fg ms ex i)) (qg q br v ms e (fg ms ex i)):=by
 have hkind:=gl q v ms hq br e i hi
 have hfail:=iE q v ms hq br e i hi
 by_cases hlt:i < ms.length
 ·obtain ⟨m,hm⟩:∃ m,ms[i]?=some m:=⟨_,List.getElem?_eq_getElem hlt⟩
  have hko:∀ k,k≤ms.length→Fn Tryz.prog 207 #[ah br] [rdP br v e k,q] (fun r Q=>r=i64 (kAt ms k:Nat)∧Q=[rdP br v e k,q]):=fun k hk=>gl q v ms hq br e k hk
  have hfo:∀ k,k≤ms.length→FnX Tryz.prog 162 #[ah br] [rdP br v e k,q] (fun _ _=>False) (fun x Q=>x=fN (au ms e k)∧Q=[rdP br v e k,q]):=fun k hk=>iE q v ms hq br e k hk
  obtain ⟨b,o,cap,rfl,r0,r1,r2⟩:=iy hq hm
  have rm:∀ j u,[i64 (m.kind:Nat),i64 (m.place:Nat),str m.text][j]?=some u→Rd q ⟨b,o+i * 3+j,none⟩ u:=fun j u hj=>by
   match j,hj with
   | 0,hj=>obtain rfl:=Option.some.inj hj;exact r0
   | 1,hj=>obtain rfl:=Option.some.inj hj;exact r1
   | 2,hj=>obtain rfl:=Option.some.inj hj;exact r2
  rw [uZ hm] at hkind
  clear hq r0 r1 r2
  refine FnX.mk Tryz.func244 rfl rfl fun w0 F=>?_
  apply Ru
  refine scl (hkind) ?_
  rintro _ _ ⟨rfl,rfl⟩
  refine scl (k6 m.kind) ?_
  rintro _ _ ⟨rfl,rfl⟩
  by_cases hb:m.kind=1∨m.kind=2∨m.kind=12∨m.kind=10
  ·have hbk:fB m.kind=true:=by
    unfold fB
    rcases hb with h | h | h | h <;> rw [h] <;> rfl
   rw [hbk]
   (apply Ru;refine G.condF rfl rfl ?_;apply Ru)
   refine drT 12 3072 [rdP br (.slice (some ⟨b,o,none⟩) ms.length cap) e i,q] ?_
   (apply Ru;refine rix ?_)
   apply GR.step rfl;focus (intro Z;refine GO.loadM (vs:=[i64 (m.kind:Nat),i64 (m.place:Nat),str m.text]) rfl rfl rfl (Tk.t Tk.h) rfl rm ?_;exact KQ.z)
   apply Ru
   (repeat refine GT.skip rfl ?_)
   refine GT.step rfl ?_
   refine GO.alloc rfl fun b3=>?_
   refine gtn ?_
   refine GT.step rfl ?_
   refine GO.storeW (vs:=[i64 (m.kind:Nat),i64 (m.place:Nat),str m.text]) rfl rfl (Tk.t (Tk.t Tk.h)) ⟨rfl,rfl⟩ (by simp [Value.oneCell']) ?_
   refine GO.nil ⟨rfl,.tuple #[],pt b3 (row [i64 (m.kind:Nat),i64 (m.place:Nat),str m.text] 125)::F,rfl,ImpS.sb SB,?_⟩
   refine GT.nil ?_
   by_cases h1:m.kind=1
   ·have hres:fg ms ex i=.ok ([⟨2,m.text,0⟩],i+1):=by unfold fg;rw [hm];dsimp only;rw [if_pos h1]
    rw [hres]
    have c1:decide ((m.kind:Int)=1)=true:=decide_eq_true (by omega)
    (apply Ru;refine GO.move rfl rfl ?_;apply Ru;refine sad ?_;refine GO.fieldAddr rfl rfl ?_;apply Ru;refine scT ?_;refine GO.fieldAddr rfl rfl ?_;apply Ru)
    refine GO.buildP2 (eS 2 m.text) rfl rfl rfl ?_
    refine GO.buildSlice1 rfl rfl (by simp;rfl) rfl ⟨by omega,by omega⟩ fun bs=>?_
    refine GO.ownIn (n:=1) (sz:=3) Tk.h rfl (by decide) ?_
    apply Ru
    refine KFX.r1 rfl (RV.t rfl) ⟨_,_,rfl,rfl⟩ (ImpS.sb ?_)
    ((refine Sb.c Tk.h ?_;refine Sb.c Tk.h ?_;exact SB);skip)
   have c1:decide ((m.kind:Int)=1)=false:=decide_eq_false (by omega)
   by_cases h2:m.kind=2
   ·have hres:fg ms ex i=.ok ([⟨3,m.text,0⟩],i+1):=by unfold fg;rw [hm];dsimp only;rw [if_neg (by omega),if_pos h2]
    rw [hres]
    have c2:decide ((m.kind:Int)=2)=true:=decide_eq_true (by omega)
    (apply Ru;refine GO.move rfl rfl ?_;apply Ru;refine sad ?_;refine GO.fieldAddr rfl rfl ?_;apply Ru;refine scF ?_;refine scT ?_;refine GO.fieldAddr rfl rfl ?_;apply Ru)
    refine GO.buildP2 (eS 3 m.text) rfl rfl rfl ?_
    refine GO.buildSlice1 rfl rfl (by simp;rfl) rfl ⟨by omega,by omega⟩ fun bs=>?_
    refine GO.ownIn (n:=1) (sz:=3) Tk.h rfl (by decide) ?_
    apply Ru
    refine KFX.r1 rfl (RV.t rfl) ⟨_,_,rfl,rfl⟩ (ImpS.sb ?_)
    ((refine Sb.c Tk.h ?_;refine Sb.c Tk.h ?_;exact SB);skip)
   have c2:decide ((m.kind:Int)=2)=false:=decide_eq_false (by omega)
   by_cases h12:m.kind=12
   ·have hres:fg ms ex i=.ok ([⟨1,[],0⟩],i+1):=by unfold fg;rw [hm];dsimp only;rw [if_neg (by omega),if_neg (by omega),if_pos h12]
    rw [hres]
    have c12:decide ((m.kind:Int)=12)=true:=decide_eq_true (by omega)
    (apply Ru;refine GO.move rfl rfl ?_;apply Ru;refine sad ?_;refine GO.fieldAddr rfl rfl ?_;apply Ru;refine scF ?_;refine scF ?_;refine scT ?_)
    refine GO.buildPart1 (nw 1) rfl rfl ?_
    refine GO.buildSlice1 rfl rfl (by simp;rfl) rfl ⟨by omega,by omega⟩ fun bs=>?_
    refine GO.ownIn (n:=1) (sz:=3) Tk.h rfl (by decide) ?_
    apply Ru
    refine KFX.r1 rfl (RV.t rfl) ⟨_,_,rfl,rfl⟩ (ImpS.sb ?_)
    ((refine Sb.c Tk.h ?_;refine Sb.c Tk.h ?_;exact SB);skip)
   have c12:decide ((m.kind:Int)=12)=false:=decide_eq_false (by omega)
   have h10:m.kind=10:=by omega
   have hres:fg ms ex i=match ex (i+1) with
    | .error j=>.error j
    | .ok (l,j)=>if kAt ms j=11 then .ok (l,j+1) else .error j:=by unfold fg;rw [hm];dsimp only;rw [if_neg h1,if_neg h2,if_neg h12,if_pos h10];try (cases ex (i+1) <;> rfl)
   rw [hres]
   have hx:=hex (i+1) (by omega) (by omega)
   have hgi:=hg (i+1)
   unfold xp at hx
   generalize ex (i+1)=rs at *
   clear hres hex hg
   (apply Ru;refine GO.move rfl rfl ?_;apply Ru;refine sad ?_;refine GO.fieldAddr rfl rfl ?_;apply Ru;refine scF ?_;refine scF ?_;refine scF ?_;refine GO.move rfl rfl ?_)
   refine GO.callX1 rfl rfl (hx) (Tks.c Tk.h (Tks.c Tk.h Tks.n)) ?_ ?_
   ·rintro _ _ ⟨k,rfl,rfl,rfl⟩
    (repeat (first | refine aV ?_ | refine aM ?_ | refine kscope_p ?_))
    refine KFX.p ⟨k,rfl,rfl,rfl⟩ (ImpS.sb ?_)
    exact SB
   rintro r _ ⟨l,k,rfl,rfl⟩
   obtain ⟨g1,g2,g3⟩:=hgi l k rfl
   dsimp only
   (apply Ru;refine GO.move rfl rfl ?_)
   refine scl (hko k g2) ?_
   rintro _ _ ⟨rfl,rfl⟩
   by_cases hk:kAt ms k=11
   ·rw [if_pos hk]
    have c11:decide ((kAt ms k:Int)≠11)=false:=decide_eq_false (by omega)
    (apply Ru;refine scF ?_;refine GO.move rfl rfl ?_;apply Ru;refine sad ?_)
    refine KFX.r1 rfl (RV.t rfl) ⟨_,_,rfl,rfl⟩ (ImpS.sb ?_)
    ((refine Sb.c (Tk.t (Tk.t Tk.h)) ?_;refine Sb.c Tk.h ?_;exact SB);skip)
   ·rw [if_neg hk]
    have c11:decide ((kAt ms k:Int)≠11)=true:=decide_eq_true (by omega)
    (apply Ru;refine scT ?_;refine GO.move rfl rfl ?_)
    refine sxl (hfo k g2) ?_ ?_
    ·rintro _ _ ⟨rfl,rfl⟩
     (repeat (first | refine aV ?_ | refine aM ?_ | refine kscope_p ?_))
     refine KFX.p ⟨k,rfl,rfl,rfl⟩ (ImpS.sb ?_)
     exact SB
    ·intro _ _ h
     exact h.elim
  ·have hbk:fB m.kind=false:=by
    unfold fB
    rw [decide_eq_false (show ¬ (m.kind:Int)=1 by omega),decide_eq_false (show ¬ (m.kind:Int)=2 by omega),decide_eq_false (show ¬ (m.kind:Int)=12 by omega),decide_eq_false (show ¬ (m.kind:Int)=10 by omega)]
    rfl
   have hres:fg ms ex i=.error i:=by unfold fg;rw [hm];dsimp only;rw [if_neg (by omega),if_neg (by omega),if_neg (by omega),if_neg (by omega)]
   rw [hres,hbk]
   (apply Ru;refine G.condT rfl rfl ?_;apply Ru)
   refine sxl (hfail) ?_ ?_
   ·rintro _ _ ⟨rfl,rfl⟩
    (repeat (first | refine aV ?_ | refine aM ?_ | refine kscope_p ?_))
    refine KFX.p ⟨i,rfl,rfl,rfl⟩ (ImpS.sb ?_)
    exact SB
   ·intro _ _ h
    exact h.elim
 ·have hk0:=vd (ms:=ms) (i:=i) (by omega)
  have hres:fg ms ex i=.error i:=by unfold fg;rw [List.getElem?_eq_none (by omega)]
  rw [hk0] at hkind
  rw [hres]
  clear hq
  refine FnX.mk Tryz.func244 rfl rfl fun w0 F=>?_
  apply Ru
  refine scl (hkind) ?_
  rintro _ _ ⟨rfl,rfl⟩
  refine scl (k6 0) ?_
  rintro _ _ ⟨rfl,rfl⟩
  rw [show fB 0=false by rfl]
  (apply Ru;refine G.condT rfl rfl ?_;apply Ru)
  refine sxl (hfail) ?_ ?_
  ·rintro _ _ ⟨rfl,rfl⟩
   (repeat (first | refine aV ?_ | refine aM ?_ | refine kscope_p ?_))
   refine KFX.p ⟨i,rfl,rfl,rfl⟩ (ImpS.sb ?_)
   exact SB
  ·intro _ _ h
   exact h.elim
end
section
theorem eJ (l:List NodeD):∀ u∈aO l,u.oneCell'=true:=by
 intro u hu
 obtain ⟨m,_,hm⟩:=List.mem_flatMap.1 hu
 simp only [fS,List.mem_cons,List.not_mem_nil,or_false] at hm
 rcases hm with rfl | rfl | rfl <;> rfl
attribute [local irreducible] G GO GR GT Fn FnX FnV pt init exs pur sat own ImpS kAt au
theorem yd (q:HP) (v:Value) (ms:List MarkD) (hq:dN q v ms) (br e i:Nat) (hi:i≤ms.length) (hms:¬ 1048576 < ms.length) (ex:Nat→PR) (hg:ma ms ex) (hex:∀ j,i < j→j≤ms.length→xp q br v ms e j (ex j)) :
  FnX Tryz.prog 228 #[ah br] [rdP br v e i,q] (qf q br v e (eO ms ex i)) (qg q br v ms e (eO ms ex i)):=by
 have ha:=zU q v ms hq br e i hi hms ex hg hex
 have hko:∀ k,k≤ms.length→Fn Tryz.prog 207 #[ah br] [rdP br v e k,q] (fun r Q=>r=i64 (kAt ms k:Nat)∧Q=[rdP br v e k,q]):=fun k hk=>gl q v ms hq br e k hk
 have hag:=pV hg i
 unfold eO
 generalize fg ms ex i=ra at *
 clear hex hg hq
 refine FnX.mk Tryz.func228 rfl rfl fun w0 F=>?_
 apply Ru
 refine sxl (ha) ?_ ?_
 ·rintro _ _ ⟨k,rfl,rfl,rfl⟩
  (repeat (first | refine aV ?_ | refine aM ?_ | refine kscope_p ?_))
  refine KFX.p ⟨k,rfl,rfl,rfl⟩ (ImpS.sb ?_)
  exact SB
 rintro r0 _ ⟨l0,k0,rfl,rfl⟩
 obtain ⟨h1,h2,h3⟩:=hag l0 k0 rfl
 clear hag
 dsimp only
 generalize hfin:f6 ms ms.length l0 k0=fin
 apply Ru
 refine G.loopI (σ:=List NodeD × Nat × Value) (fun z=>[(0,ah br),(3,z.2.2)]) (fun z=>own 93 3 z.1.length z.2.2 (aO z.1)::rdP br v e z.2.1::q::F) (fun z=>i < z.2.1∧z.2.1≤ms.length∧z.1.length+1≤2 * (z.2.1 - i)∧∃ f,ms.length - z.2.1≤f∧f6 ms f z.1 z.2.1=fin) (fun z=>ms.length - z.2.1) (l0,k0,r0) ⟨h1,h2,h3,ms.length,by dsimp only;omega,hfin⟩ ?_ ?_ ?_
 ·exact SE rfl
 ·exact ImpS.sb SB
 clear hfin h1 h2 h3
 rintro ⟨l,k,r⟩ ⟨h1,h2,h3,f,hf,hfin⟩
 dsimp only at h1 h2 h3 hf hfin ⊢
 apply Ru
 refine scl (hko k h2) ?_
 rintro _ _ ⟨rfl,rfl⟩
 by_cases c7:kAt ms k=7
 ·have hk:=jO (ms:=ms) (i:=k) (by omega)
  obtain ⟨f,rfl⟩:∃ g,f=g+1:=⟨f - 1,by omega⟩
  simp only [f6] at hfin
  rw [if_pos c7] at hfin
  have d7:decide ((kAt ms k:Int)=7)=true:=decide_eq_true (by omega)
  (apply Ru;refine scT ?_;refine sad ?_)
  refine GO.buildP2 (fL 6 1) rfl rfl rfl ?_
  refine GO.buildSlice1 rfl rfl (by simp;rfl) rfl ⟨by omega,by omega⟩ fun bs=>?_
  refine GO.ownIn (n:=1) (sz:=3) Tk.h rfl (by decide) ?_
  refine GO.ownRd (n:=l.length) (xs:=aO l) (Tk.t (Tk.t (Tk.t Tk.h))) fun q2 hq2=>?_
  apply Ru
  refine GO.appendFrom (n:=1) (m:=l.length) (q:=q2) rfl rfl rfl (Tk.t Tk.h) Tk.h hq2 (eJ l) ⟨by decide,rfl⟩ (by unfold maxLen;omega) (by omega) fun v'=>?_
  rw [show 1+l.length=((⟨6,[],1⟩:NodeD)::l).length by rw [List.length_cons];omega]
  apply Ru
  refine ⟨(⟨6,[],1⟩::l,k+1,v'),⟨by dsimp only;omega,by dsimp only;omega,by dsimp only;rw [List.length_cons];omega,f,by dsimp only;omega,hfin⟩,by dsimp only;omega,?_,ImpS.sb ?_⟩
  ·exact SE rfl
  ·((refine Sb.c Tk.h ?_;refine Sb.c (Tk.t Tk.h) ?_;exact SB);skip)
 have d7:decide ((kAt ms k:Int)=7)=false:=decide_eq_false (by omega)
 by_cases c8:kAt ms k=8
 ·have hk:=jO (ms:=ms) (i:=k) (by omega)
  obtain ⟨f,rfl⟩:∃ g,f=g+1:=⟨f - 1,by omega⟩
  simp only [f6] at hfin
  rw [if_neg (by omega),if_pos c8] at hfin
  have d8:decide ((kAt ms k:Int)=8)=true:=decide_eq_true (by omega)
  (apply Ru;refine scF ?_;refine scT ?_;refine sad ?_)
  refine GO.buildP2 (fL 7 1) rfl rfl rfl ?_
  refine GO.buildSlice1 rfl rfl (by simp;rfl) rfl ⟨by omega,by omega⟩ fun bs=>?_
  refine GO.ownIn (n:=1) (sz:=3) Tk.h rfl (by decide) ?_
  refine GO.ownRd (n:=l.length) (xs:=aO l) (Tk.t (Tk.t (Tk.t Tk.h))) fun q2 hq2=>?_
  apply Ru
  refine GO.appendFrom (n:=1) (m:=l.length) (q:=q2) rfl rfl rfl (Tk.t Tk.h) Tk.h hq2 (eJ l) ⟨by decide,rfl⟩ (by unfold maxLen;omega) (by omega) fun v'=>?_
  rw [show 1+l.length=((⟨7,[],1⟩:NodeD)::l).length by rw [List.length_cons];omega]
  apply Ru
  refine ⟨(⟨7,[],1⟩::l,k+1,v'),⟨by dsimp only;omega,by dsimp only;omega,by dsimp only;rw [List.length_cons];omega,f,by dsimp only;omega,hfin⟩,by dsimp only;omega,?_,ImpS.sb ?_⟩
  ·exact SE rfl
  ·((refine Sb.c Tk.h ?_;refine Sb.c (Tk.t Tk.h) ?_;exact SB);skip)
 have d8:decide ((kAt ms k:Int)=8)=false:=decide_eq_false (by omega)
 by_cases c9:kAt ms k=9
 ·have hk:=jO (ms:=ms) (i:=k) (by omega)
  obtain ⟨f,rfl⟩:∃ g,f=g+1:=⟨f - 1,by omega⟩
  simp only [f6] at hfin
  rw [if_neg (by omega),if_neg (by omega),if_pos c9] at hfin
  have d9:decide ((kAt ms k:Int)=9)=true:=decide_eq_true (by omega)
  (apply Ru;refine scF ?_;refine scF ?_;refine scT ?_;refine sad ?_)
  refine GO.buildP2 (fL 8 1) rfl rfl rfl ?_
  refine GO.buildSlice1 rfl rfl (by simp;rfl) rfl ⟨by omega,by omega⟩ fun bs=>?_
  refine GO.ownIn (n:=1) (sz:=3) Tk.h rfl (by decide) ?_
  refine GO.ownRd (n:=l.length) (xs:=aO l) (Tk.t (Tk.t (Tk.t Tk.h))) fun q2 hq2=>?_
  apply Ru
  refine GO.appendFrom (n:=1) (m:=l.length) (q:=q2) rfl rfl rfl (Tk.t Tk.h) Tk.h hq2 (eJ l) ⟨by decide,rfl⟩ (by unfold maxLen;omega) (by omega) fun v'=>?_
  rw [show 1+l.length=((⟨8,[],1⟩:NodeD)::l).length by rw [List.length_cons];omega]
  apply Ru
  refine ⟨(⟨8,[],1⟩::l,k+1,v'),⟨by dsimp only;omega,by dsimp only;omega,by dsimp only;rw [List.length_cons];omega,f,by dsimp only;omega,hfin⟩,by dsimp only;omega,?_,ImpS.sb ?_⟩
  ·exact SE rfl
  ·((refine Sb.c Tk.h ?_;refine Sb.c (Tk.t Tk.h) ?_;exact SB);skip)
 have d9:decide ((kAt ms k:Int)=9)=false:=decide_eq_false (by omega)
 have hend:fin=(l,k):=by
  cases f with
  | zero=>exact hfin.symm
  | succ f=>simp only [f6] at hfin;rw [if_neg c7,if_neg c8,if_neg c9] at hfin;exact hfin.symm
 subst hend
 (apply Ru;refine scF ?_;refine scF ?_;refine scF ?_)
 exact kx1 rfl ⟨l,k,rfl,rfl⟩
end
section
attribute [local irreducible] G GO GR GT Fn FnX FnV FnXV pt init exs pur sat own ImpS kAt au
theorem rJ (q X:HP) (v:Value) (ms:List MarkD) (br e i:Nat) (hi:i≤ms.length) (hms:¬ 1048576 < ms.length) (u:Nat→PR) (go:Nat→Option Nat) (hu:ma ms u) (hg:∀ i j,go i=some j→i≤j∧i < ms.length) (y:Value) (kind:Nat)
  (hy:∀ i',i≤i'→i'≤ms.length→FnXV Tryz.prog y [] [rdP br v e i',q,X] (fun r Q=>(go i'=none∧r=.tuple #[.slice none 0 0,.bool false]∧Q=[rdP br v e i',q,X])∨(∃ j l k vv,go i'=some j∧u j=.ok (l,k)∧r=.tuple #[vv,.bool true]∧Q=[own 93 3 l.length vv (aO l),rdP br v e k,q,X]))
   (fun x Q=>∃ j k,go i'=some j∧u j=.error k∧x=fN (au ms e k)∧Q=[rdP br v e k,q,X]))
  (v0:Value) (l0:List NodeD) (a:Nat) (ha:a < i) (hl0:l0.length+1≤2 * (i - a)) :
  FnX Tryz.prog 204 #[v0,i64 (kind:Nat),y] [own 93 3 l0.length v0 (aO l0),rdP br v e i,q,X]
   (fun r Q=>∃ l k,lM kind (fX u go ms.length l0 1 i)=.ok (l,k)∧Q=[own 93 3 l.length r (aO l),rdP br v e k,q,X])
   (fun x Q=>∃ k,lM kind (fX u go ms.length l0 1 i)=.error k∧x=fN (au ms e k)∧Q=[rdP br v e k,q,X]):=by
 refine FnX.mk Tryz.func204 rfl rfl fun w0 F=>?_
 generalize hfin:fX u go ms.length l0 1 i=fin
 apply Ru
 refine G.loopI (σ:=List NodeD × Nat × Nat × Value) (fun z=>[(0,v0),(1,i64 (kind:Nat)),(2,y),(7,z.2.2.2),(8,i64 (z.2.1:Nat))]) (fun z=>own 93 3 z.1.length z.2.2.2 (aO z.1)::rdP br v e z.2.2.1::q::X::F)
  (fun z=>1≤z.2.1∧(z.2.1=1→z.1=l0∧z.2.2.2=v0)∧i≤z.2.2.1∧z.2.2.1≤ms.length∧z.1.length+z.2.1≤2 * (z.2.2.1 - a)∧∃ f,ms.length - z.2.2.1≤f∧fX u go f z.1 z.2.1 z.2.2.1=fin) (fun z=>ms.length - z.2.2.1) (l0,1,i,v0) ⟨Nat.le_refl _,fun _=>⟨rfl,rfl⟩,Nat.le_refl _,hi,hl0,ms.length,by dsimp only;omega,hfin⟩ ?_ ?_ ?_
 ·exact SE rfl
 ·refine ImpS.sb ?_
  exact SB
 clear hfin hl0
 rintro ⟨l,n,k,r⟩ ⟨hn,hn1,h1,h2,h3,f,hf,hfin⟩
 dsimp only at hn hn1 h1 h2 h3 hf hfin ⊢
 apply Ru
 refine GO.callXV0 rfl rfl (hy k h1 h2) (Tks.c (Tk.t Tk.h) (Tks.c (Tk.t Tk.h) (Tks.c (Tk.t Tk.h) Tks.n))) ?_ ?_
 ·rintro _ _ ⟨j,k',hgo,huj,rfl,rfl⟩
  have:=hg _ _ hgo
  obtain ⟨f,rfl⟩:∃ g,f=g+1:=⟨f - 1,by omega⟩
  simp only [fX] at hfin
  rw [hgo] at hfin
  dsimp only at hfin
  rw [huj] at hfin
  subst hfin
  (repeat (first | refine aV ?_ | refine aM ?_ | refine kscope_p ?_))
  refine KFX.p ⟨k',rfl,rfl,rfl⟩ (ImpS.sb ?_)
  exact SB
 rintro _ _ (⟨hgo,rfl,rfl⟩ | ⟨j,l',k',vv,hgo,huj,rfl,rfl⟩)
 ·have hend:fin=.ok ((l,n),k):=by
   cases f with
   | zero=>exact hfin.symm
   | succ f=>simp only [fX] at hfin;rw [hgo] at hfin;exact hfin.symm
  subst hend
  (apply Ru;refine G.condT rfl rfl ?_;apply Ru)
  by_cases c1:n=1
  ·obtain ⟨rfl,rfl⟩:=hn1 c1
   subst c1
   (refine G.condT rfl rfl ?_;apply Ru)
   refine KFX.r1 rfl (RV.t rfl) ⟨l,k,rfl,rfl⟩ (ImpS.sb ?_)
   exact SB
  ·have d1:decide ((n:Int)=1)=false:=decide_eq_false (by omega)
   refine scF ?_
   refine GO.buildP2 (fL kind n) rfl rfl rfl ?_
   refine GO.buildSlice1 rfl rfl (by simp;rfl) rfl ⟨by omega,by omega⟩ fun bs=>?_
   refine GO.ownIn (n:=1) (sz:=3) Tk.h rfl (by decide) ?_
   refine GO.ownRd (n:=l.length) (xs:=aO l) (Tk.t (Tk.t (Tk.t (Tk.t Tk.h)))) fun q2 hq2=>?_
   apply Ru
   refine GO.appendFrom (n:=1) (m:=l.length) (q:=q2) rfl rfl rfl (Tk.t Tk.h) Tk.h hq2 (eJ l) ⟨by decide,rfl⟩ (by unfold maxLen;omega) (by omega) fun v'=>?_
   rw [show 1+l.length=((⟨kind,[],n⟩:NodeD)::l).length by rw [List.length_cons];omega]
   apply Ru
   refine KFX.r1 rfl (RV.t rfl) ⟨⟨kind,[],n⟩::l,k,by unfold lM;dsimp only;rw [if_neg c1],rfl⟩ (ImpS.sb ?_)
   ((refine Sb.c Tk.h ?_;exact SB);skip)
 ·have hlt:=hg _ _ hgo
  obtain ⟨g1,g2,g3⟩:=hu _ _ _ huj
  obtain ⟨f,rfl⟩:∃ g,f=g+1:=⟨f - 1,by omega⟩
  simp only [fX] at hfin
  rw [hgo] at hfin
  dsimp only at hfin
  rw [huj] at hfin
  dsimp only at hfin
  (apply Ru;refine G.condF rfl rfl ?_;apply Ru)
  refine GO.ownRd (n:=l'.length) (v:=vv) (xs:=aO l') Tk.h fun q2 hq2=>?_
  refine GO.appendFrom (n:=l.length) (xs:=aO l) (m:=l'.length) (q:=q2) rfl rfl rfl (Tk.t (Tk.t (Tk.t (Tk.t Tk.h)))) Tk.h hq2 (eJ l') ⟨by decide,rfl⟩ (by unfold maxLen;omega) (by omega) fun v'=>?_
  rw [← gv,← List.length_append]
  (apply Ru;refine sad ?_)
  refine ⟨(l++l',n+1,k',v'),⟨by dsimp only;omega,fun h=>by dsimp only at h;omega,by dsimp only;omega,g2,by dsimp only;rw [List.length_append];omega,f,by dsimp only;omega,hfin⟩,by dsimp only;omega,?_,ImpS.sb ?_⟩
  ·exact SE rfl
  ·exact SB
end
section
theorem CZ {ms:List MarkD} {i j:Nat} (h:goU ms i=some j):i≤j∧i < ms.length:=by
 refine ⟨Bi h,?_⟩
 unfold goU at h
 split at h
 ·rename_i hb
  refine jO fun h0=>?_
  rw [h0] at hb
  exact absurd hb (by decide)
 ·cases h
theorem D0 {ms:List MarkD} {i j:Nat} (h:goA ms i=some j):i≤j∧i < ms.length:=by
 refine ⟨Bj h,?_⟩
 unfold goA at h
 split at h
 ·exact jO (by omega)
 ·cases h
abbrev bxP (b1 br:Nat):HP:=pt b1 (row [ah br] 251)
attribute [local irreducible] G GO GR GT Fn FnX FnV FnXV pt init exs pur sat own ImpS kAt au
theorem wx (q:HP) (v:Value) (ms:List MarkD) (hq:dN q v ms) (br b1 e i:Nat) (hi:i≤ms.length) (hms:¬ 1048576 < ms.length) (ex:Nat→PR) (hin:∀ j,i≤j→j≤ms.length→FnX Tryz.prog 228 #[ah br] [rdP br v e j,q] (qf q br v e (eO ms ex j)) (qg q br v ms e (eO ms ex j))) :
  FnX Tryz.prog 229 #[ah b1] [rdP br v e i,q,bxP b1 br] (fun r Q=>(goU ms i=none∧r=.tuple #[.slice none 0 0,.bool false]∧Q=[rdP br v e i,q,bxP b1 br])∨(∃ j l k vv,goU ms i=some j∧eO ms ex j=.ok (l,k)∧r=.tuple #[vv,.bool true]∧Q=[own 93 3 l.length vv (aO l),rdP br v e k,q,bxP b1 br]))
   (fun x Q=>∃ j k,goU ms i=some j∧eO ms ex j=.error k∧x=fN (au ms e k)∧Q=[rdP br v e k,q,bxP b1 br]):=by
 have hkind:=gl q v ms hq br e i hi
 refine FnX.mk Tryz.func229 rfl rfl fun w0 F=>?_
 apply Ru
 refine scl (hkind) ?_
 rintro _ _ ⟨rfl,rfl⟩
 refine scl (k6 (kAt ms i)) ?_
 rintro _ _ ⟨rfl,rfl⟩
 by_cases hb:fB (kAt ms i)=true
 ·have hgo:goU ms i=some i:=by unfold goU;rw [if_pos hb]
  have hx:=hin i (Nat.le_refl _) hi
  clear hin hkind
  generalize hr:eO ms ex i=res at *
  rw [hb]
  (apply Ru;refine G.condF rfl rfl ?_;apply Ru)
  refine sxl (hx) ?_ ?_
  ·rintro _ _ ⟨k,rfl,rfl,rfl⟩
   (repeat (first | refine aV ?_ | refine aM ?_ | refine kscope_p ?_))
   refine KFX.p ⟨_,k,hgo,hr,rfl,rfl⟩ (ImpS.sb ?_)
   exact SB
  rintro r _ ⟨l,k,rfl,rfl⟩
  refine GO.ownOne Tk.h fun hone=>?_
  apply Ru
  refine KFX.r2 rfl (RV.t rfl) (RV.t rfl) (.inr ⟨_,l,k,r,hgo,hr,rfl,rfl⟩) (ImpS.sb ?_)
  exact SB
 ·have hgo:goU ms i=none:=by unfold goU;rw [if_neg hb]
  have hb2:fB (kAt ms i)=false:=by simpa using hb
  rw [hb2]
  (apply Ru;refine G.condT rfl rfl ?_;apply Ru)
  refine KFX.r2 rfl (RV.t rfl) (RV.t rfl) (.inl ⟨hgo,rfl,rfl⟩) (ImpS.sb ?_)
  exact SB
theorem yH (q:HP) (v:Value) (ms:List MarkD) (hq:dN q v ms) (br e i:Nat) (hi:i≤ms.length) (hms:¬ 1048576 < ms.length) (ex:Nat→PR) (hgo:ma ms (eO ms ex)) (hin:∀ j,i≤j→j≤ms.length→FnX Tryz.prog 228 #[ah br] [rdP br v e j,q] (qf q br v e (eO ms ex j)) (qg q br v ms e (eO ms ex j))) :
  FnX Tryz.prog 205 #[ah br] [rdP br v e i,q] (qf q br v e (dQ ms ex i)) (qg q br v ms e (dQ ms ex i)):=by
 have h0:=hin i (Nat.le_refl _) hi
 have hgi:=hgo i
 unfold dQ
 generalize hr:eO ms ex i=ri at h0 hgi ⊢
 refine FnX.mk Tryz.func205 rfl rfl fun w0 F=>?_
 (apply Ru;refine sbx fun b1=>?_;apply Ru)
 refine sxl (h0) ?_ ?_
 ·rintro _ _ ⟨k,rfl,rfl,rfl⟩
  (repeat (first | refine aV ?_ | refine aM ?_ | refine kscope_p ?_))
  refine KFX.p ⟨k,rfl,rfl,rfl⟩ (ImpS.sb ?_)
  exact SB
 rintro r _ ⟨l,k,rfl,rfl⟩
 obtain ⟨g1,g2,g3⟩:=hgi l k rfl
 have hm:=rJ q (bxP b1 br) v ms br e k g2 hms (eO ms ex) (goU ms) hgo (fun _ _=>CZ) (.func (.func 229) #[] #[ah b1]) 4 (fun j hj hj2=>FnXV.of (args:=[]) (caps:=[ah b1]) (wx q v ms hq br b1 e j hj2 hms ex fun k' hk hk2=>hin k' (by omega) hk2)) r l i g1 g3
 clear hin hq h0
 dsimp only
 apply Ru
 refine sxl (hm) ?_ ?_
 ·rintro _ _ ⟨k',hr',rfl,rfl⟩
  (repeat (first | refine aV ?_ | refine aM ?_ | refine kscope_p ?_))
  refine KFX.p ⟨k',hr',rfl,rfl⟩ (ImpS.sb ?_)
  exact SB
 rintro r' _ ⟨l',k',hr',rfl⟩
 apply Ru
 exact kx1 rfl ⟨l',k',hr',rfl⟩
theorem mI (q:HP) (v:Value) (ms:List MarkD) (hq:dN q v ms) (br b1 e i:Nat) (hi:i≤ms.length) (hms:¬ 1048576 < ms.length) (ex:Nat→PR) (hin:∀ j,i≤j→j≤ms.length→FnX Tryz.prog 205 #[ah br] [rdP br v e j,q] (qf q br v e (dQ ms ex j)) (qg q br v ms e (dQ ms ex j))) :
  FnX Tryz.prog 206 #[ah b1] [rdP br v e i,q,bxP b1 br] (fun r Q=>(goA ms i=none∧r=.tuple #[.slice none 0 0,.bool false]∧Q=[rdP br v e i,q,bxP b1 br])∨(∃ j l k vv,goA ms i=some j∧dQ ms ex j=.ok (l,k)∧r=.tuple #[vv,.bool true]∧Q=[own 93 3 l.length vv (aO l),rdP br v e k,q,bxP b1 br]))
   (fun x Q=>∃ j k,goA ms i=some j∧dQ ms ex j=.error k∧x=fN (au ms e k)∧Q=[rdP br v e k,q,bxP b1 br]):=by
 have hkind:=gl q v ms hq br e i hi
 refine FnX.mk Tryz.func206 rfl rfl fun w0 F=>?_
 apply Ru
 refine scl (hkind) ?_
 rintro _ _ ⟨rfl,rfl⟩
 by_cases hb:kAt ms i=6
 ·have hgo:goA ms i=some (i+1):=by unfold goA;rw [if_pos hb]
  have hlt:=jO (ms:=ms) (i:=i) (by omega)
  have hx:=hin (i+1) (by omega) hlt
  have d6:decide ((kAt ms i:Int)≠6)=false:=decide_eq_false (by omega)
  clear hin hkind
  generalize hr:dQ ms ex (i+1)=res at *
  (apply Ru;refine scF ?_;refine sad ?_)
  refine GO.callX1 rfl rfl (hx) (Tks.c Tk.h (Tks.c Tk.h Tks.n)) ?_ ?_
  ·rintro _ _ ⟨k,rfl,rfl,rfl⟩
   (repeat (first | refine aV ?_ | refine aM ?_ | refine kscope_p ?_))
   refine KFX.p ⟨_,k,hgo,hr,rfl,rfl⟩ (ImpS.sb ?_)
   exact SB
  rintro r _ ⟨l,k,rfl,rfl⟩
  refine GO.ownOne Tk.h fun hone=>?_
  apply Ru
  refine KFX.r2 rfl (RV.t rfl) (RV.t rfl) (.inr ⟨_,l,k,r,hgo,hr,rfl,rfl⟩) (ImpS.sb ?_)
  exact SB
 ·have hgo:goA ms i=none:=by unfold goA;rw [if_neg hb]
  have d6:decide ((kAt ms i:Int)≠6)=true:=decide_eq_true (by omega)
  (apply Ru;refine scT ?_)
  refine KFX.r2 rfl (RV.t rfl) (RV.t rfl) (.inl ⟨hgo,rfl,rfl⟩) (ImpS.sb ?_)
  exact SB
theorem nC (q:HP) (v:Value) (ms:List MarkD) (hq:dN q v ms) (br e i:Nat) (hi:i≤ms.length) (hms:¬ 1048576 < ms.length) (ex:Nat→PR) (hgo:ma ms (dQ ms ex)) (hin:∀ j,i≤j→j≤ms.length→FnX Tryz.prog 205 #[ah br] [rdP br v e j,q] (qf q br v e (dQ ms ex j)) (qg q br v ms e (dQ ms ex j))) :
  FnX Tryz.prog 161 #[ah br] [rdP br v e i,q] (qf q br v e ((match dQ ms ex i with | .error j=>.error j | .ok (l,j)=>lM 5 (fX (dQ ms ex) (goA ms) ms.length l 1 j)))) (qg q br v ms e ((match dQ ms ex i with | .error j=>.error j | .ok (l,j)=>lM 5 (fX (dQ ms ex) (goA ms) ms.length l 1 j)))):=by
 have h0:=hin i (Nat.le_refl _) hi
 have hgi:=hgo i
 generalize hr:dQ ms ex i=ri at h0 hgi ⊢
 refine FnX.mk Tryz.func161 rfl rfl fun w0 F=>?_
 (apply Ru;refine sbx fun b1=>?_;apply Ru)
 refine sxl (h0) ?_ ?_
 ·rintro _ _ ⟨k,rfl,rfl,rfl⟩
  (repeat (first | refine aV ?_ | refine aM ?_ | refine kscope_p ?_))
  refine KFX.p ⟨k,rfl,rfl,rfl⟩ (ImpS.sb ?_)
  exact SB
 rintro r _ ⟨l,k,rfl,rfl⟩
 obtain ⟨g1,g2,g3⟩:=hgi l k rfl
 have hm:=rJ q (bxP b1 br) v ms br e k g2 hms (dQ ms ex) (goA ms) hgo (fun _ _=>D0) (.func (.func 206) #[] #[ah b1]) 5 (fun j hj hj2=>FnXV.of (args:=[]) (caps:=[ah b1]) (mI q v ms hq br b1 e j hj2 hms ex fun k' hk hk2=>hin k' (by omega) hk2)) r l i g1 g3
 clear hin hq h0
 dsimp only
 apply Ru
 refine sxl (hm) ?_ ?_
 ·rintro _ _ ⟨k',hr',rfl,rfl⟩
  (repeat (first | refine aV ?_ | refine aM ?_ | refine kscope_p ?_))
  refine KFX.p ⟨k',hr',rfl,rfl⟩ (ImpS.sb ?_)
  exact SB
 rintro r' _ ⟨l',k',hr',rfl⟩
 apply Ru
 exact kx1 rfl ⟨l',k',hr',rfl⟩
theorem xO (q:HP) (v:Value) (ms:List MarkD) (hq:dN q v ms) (br e:Nat) (hms:¬ 1048576 < ms.length):∀ (f i:Nat),i≤ms.length→ms.length - i < f→xp q br v ms e i (fK ms f i)
 | 0,i,_,h=>by omega
 | f+1,i,hi,h=>by
  have ih:=xO q v ms hq br e hms f
  have hu:∀ j,i≤j→j≤ms.length→FnX Tryz.prog 228 #[ah br] [rdP br v e j,q] (qf q br v e (eO ms (fK ms f) j)) (qg q br v ms e (eO ms (fK ms f) j)):=fun j hj hj2=>
   yd q v ms hq br e j hj2 hms (fK ms f) (fu ms f) fun k hk hk2=>ih k hk2 (by omega)
  have hp:∀ j,i≤j→j≤ms.length→FnX Tryz.prog 205 #[ah br] [rdP br v e j,q] (qf q br v e (dQ ms (fK ms f) j)) (qg q br v ms e (dQ ms (fK ms f) j)):=fun j hj hj2=>
   yH q v ms hq br e j hj2 hms (fK ms f) (kW (fu ms f)) fun k hk hk2=>hu k (by omega) hk2
  exact nC q v ms hq br e i hi hms (fK ms f) (l8 (fu ms f)) hp
end
theorem ju {α:Type} (f:α→Bool):∀ (l:List α) (n:Nat),(l.take n).takeWhile f=(l.takeWhile f).take n
 | [],n=>by simp
 | x::l,0=>by simp
 | x::l,n+1=>by
  rw [List.take_succ_cons,List.takeWhile_cons,List.takeWhile_cons]
  split
  ·rw [List.take_succ_cons,ju f l n]
  ·rfl
theorem xA (f:UInt8→Bool) (s:List UInt8) {i p:Nat} (h1:i≤p) (h2:p≤s.length):i+(((s.take p).drop i).takeWhile f).length=min p (i+((s.drop i).takeWhile f).length):=by
 rw [List.drop_take,ju,List.length_take]
 omega
theorem r6 (s:List UInt8) {i p:Nat} (h1:i≤p) (h2:p≤s.length):bH (s.take p) i=min p (bH s i):=xA fU s h1 h2
theorem y0 (s:List UInt8) {i p:Nat} (h1:i≤p) (h2:p≤s.length):dZ (s.take p) i=min p (dZ s i):=xA fe s h1 h2
theorem jG (s:List UInt8) (i:Nat):(aC s i).place=bH s i:=by
 unfold aC
 cases s[bH s i]? with
 | none=>rfl
 | some b=>
  dsimp only
  split
  ·rfl
  ·split <;> rfl
theorem t8 {s:List UInt8} {i p:Nat} (h1:i≤p) (h2:p≤s.length) (h:p≤(aC s i).place):aC (s.take p) i=⟨0,p,[]⟩:=by
 rw [jG] at h
 have e:bH (s.take p) i=p:=by rw [r6 s h1 h2];omega
 unfold aC
 rw [e,List.getElem?_eq_none (by rw [List.length_take];omega)]
theorem t7 {s:List UInt8} {i p:Nat} (h2:p≤s.length) (hk:(aC s i).kind≠0) (h:(aC s i).place+(aC s i).text.length≤p) (hi:i≤s.length):aC (s.take p) i=aC s i:=by
 obtain ⟨g1,g2,g3⟩:=f7 hi
 have hp:=g3 hk
 rw [jG] at g1 h g2
 have h1:i≤p:=Nat.le_trans g1 (by omega)
 have e:bH (s.take p) i=bH s i:=by rw [r6 s h1 h2];omega
 unfold aC at hk h hp ⊢
 rw [e]
 have eg:(s.take p)[bH s i]?=s[bH s i]?:=by rw [List.getElem?_take,if_pos (by omega)]
 rw [eg]
 cases hb:s[bH s i]? with
 | none=>exact absurd (by rw [hb]) hk
 | some b=>
  rw [hb] at h hp hk
  dsimp only at h hp hk ⊢
  have hlt:bH s i < s.length:=(List.getElem?_eq_some_iff.1 hb).1
  split
  ·rfl
  ·rename_i hk0
   rw [if_neg hk0] at h hp
   split
   ·rename_i hk3
    rw [if_pos hk3] at h hp
    simp only at h hp
    have hw:dZ s (bH s i+1)≤s.length:=tK (by omega)
    rw [List.length_take,List.length_drop] at h
    have hw2:bH s i+1≤dZ s (bH s i+1):=by unfold dZ;omega
    rw [y0 s (by omega) h2,show min p (dZ s (bH s i+1))=dZ s (bH s i+1) by omega,List.drop_take,List.take_take]
    congr 2
    omega
   ·rename_i hk3
    rw [if_neg hk3] at h hp
    rw [List.drop_take,List.take_take]
    simp only [List.length_take,List.length_drop] at h
    congr 2
    omega
theorem kj (s:List UInt8):∀ (f i j:Nat),i≤s.length→s.length - i < f→i≤au (bz s f i) (bY s f i) j∧au (bz s f i) (bY s f i) j≤s.length
 | 0,_,_,_,h=>by omega
 | f+1,i,j,hi,hf=>by
  obtain ⟨h1,h2,h3⟩:=f7 hi
  simp only [bz,bY]
  by_cases hk:(aC s i).kind=0
  ·rw [if_pos hk,if_pos hk]
   show i≤(aC s i).place∧(aC s i).place≤s.length
   omega
  ·rw [if_neg hk,if_neg hk]
   have:=h3 hk
   cases j with
   | zero=>show i≤(aC s i).place∧(aC s i).place≤s.length;omega
   | succ j=>
    have:=kj s f _ j h2 (by omega)
    show i≤au (bz s f _) (bY s f _) j∧au (bz s f _) (bY s f _) j≤s.length
    omega
theorem fl {s:List UInt8} {i:Nat} (f:Nat) (h:(aC s i).kind=0):bz s (f+1) i=[]∧bY s (f+1) i=(aC s i).place:=by
 simp only [bz,bY]
 rw [if_pos h,if_pos h]
 exact ⟨rfl,rfl⟩
theorem gW {s:List UInt8} {i:Nat} (f:Nat) (h:(aC s i).kind≠0):bz s (f+1) i=aC s i::bz s f ((aC s i).place+(aC s i).text.length)∧bY s (f+1) i=bY s f ((aC s i).place+(aC s i).text.length):=by
 simp only [bz,bY]
 rw [if_neg h,if_neg h]
 exact ⟨rfl,rfl⟩
theorem mT {s:List UInt8} {i p:Nat} (f:Nat) (h1:i≤p) (h2:p≤s.length) (h:p≤(aC s i).place):bz (s.take p) (f+1) i=[]∧bY (s.take p) (f+1) i=p:=by
 have e:=t8 h1 h2 h
 have:=fl (s:=s.take p) (i:=i) f (by rw [e])
 rw [e] at this
 exact this
theorem u7 (s:List UInt8):∀ (f i j f':Nat),i≤s.length→s.length - i < f→j≤(bz s f i).length→au (bz s f i) (bY s f i) j - i < f' →
  bz (s.take (au (bz s f i) (bY s f i) j)) f' i=(bz s f i).take j∧bY (s.take (au (bz s f i) (bY s f i) j)) f' i=au (bz s f i) (bY s f i) j
 | 0,_,_,_,_,h,_,_=>by omega
 | f+1,i,j,0,hi,hf,hj,hf'=>by omega
 | f+1,i,j,f'+1,hi,hf,hj,hf'=>by
  obtain ⟨h1,h2,h3⟩:=f7 hi
  obtain ⟨g1,g2⟩:=kj s (f+1) i j hi hf
  by_cases hk:(aC s i).kind=0
  ·obtain ⟨e1,e2⟩:=fl f hk
   rw [e1,e2] at g1 g2 hf' ⊢
   change i≤(aC s i).place at g1
   change (aC s i).place≤s.length at g2
   change bz (s.take (aC s i).place) (f'+1) i=[].take j∧bY (s.take (aC s i).place) (f'+1) i=(aC s i).place
   rw [List.take_nil]
   exact mT f' g1 g2 (Nat.le_refl _)
  ·obtain ⟨e1,e2⟩:=gW f hk
   rw [e1] at hj
   rw [e1,e2] at g1 g2 hf' ⊢
   have:=h3 hk
   cases j with
   | zero=>exact mT f' g1 g2 (Nat.le_refl _)
   | succ j=>
    have hge:=(kj s f ((aC s i).place+(aC s i).text.length) j h2 (by omega)).1
    simp only [List.length_cons] at hj
    change au (bz s f _) (bY s f _) j≤s.length at g2
    change au (bz s f _) (bY s f _) j - i < f'+1 at hf'
    generalize hi2:(aC s i).place+(aC s i).text.length=i2 at *
    change bz (s.take (au (bz s f i2) (bY s f i2) j)) (f'+1) i=aC s i::(bz s f i2).take j∧bY (s.take (au (bz s f i2) (bY s f i2) j)) (f'+1) i=au (bz s f i2) (bY s f i2) j
    have hb:=t7 g2 hk (by omega) hi
    obtain ⟨k1,k2⟩:=u7 s f i2 j f' h2 (by omega) (by omega) (by omega)
    generalize au (bz s f i2) (bY s f i2) j=p at *
    obtain ⟨d1,d2⟩:=gW (s:=s.take p) (i:=i) f' (by rw [hb];exact hk)
    rw [d1,d2,hb,hi2,k1,k2]
    exact ⟨rfl,rfl⟩
theorem yY (s:List UInt8) {j:Nat} (hj:j≤(aj s).length):aj (s.take (au (aj s) (cD s) j))=(aj s).take j∧cD (s.take (au (aj s) (cD s) j))=au (aj s) (cD s) j:=by
 have hle:=(kj s (s.length+1) 0 j (Nat.zero_le _) (by omega)).2
 have:=u7 s (s.length+1) 0 j ((s.take (au (aj s) (cD s) j)).length+1) (Nat.zero_le _) (by omega) hj (by
  change _≤_ at hle
  rw [List.length_take]
  unfold aj cD
  omega)
 exact this
theorem iU (s:List UInt8) (j:Nat):au (aj s) (cD s) j≤s.length:=(kj s (s.length+1) 0 j (Nat.zero_le _) (by omega)).2
theorem yZ (s:List UInt8):aj (s.take (cD s))=aj s∧cD (s.take (cD s))=cD s:=by
 have:=yY s (Nat.le_refl (aj s).length)
 rw [ep (Nat.le_refl _),List.take_length] at this
 exact this
theorem uK {s:List UInt8} {i:Nat} (hk:(aC s i).kind≠0):aC s (aC s i).place=aC s i:=by
 have hs:bH s (bH s i)=bH s i:=by
  have:∃ b,s[bH s i]?=some b∧fU b=false:=by
   unfold aC at hk
   cases hb:s[bH s i]? with
   | none=>rw [hb] at hk;exact absurd rfl hk
   | some b=>
    refine ⟨b,rfl,?_⟩
    rw [hb] at hk
    dsimp only at hk
    cases hbl:fU b with
    | false=>rfl
    | true=>
     refine absurd ?_ hk
     have:eB b=0:=by
      unfold fU at hbl
      simp only [Bool.or_eq_true,decide_eq_true_eq] at hbl
      unfold eB fe
      rw [if_neg (by omega),if_neg (by omega),if_neg (by omega),if_neg (by omega),if_neg (by omega),if_neg (by omega),if_neg (by omega),if_neg (by omega),if_neg (by omega),if_neg (by omega),if_neg (by omega),if_neg]
      simp only [Bool.or_eq_true,Bool.and_eq_true,decide_eq_true_eq]
      omega
     rw [if_pos this]
  obtain ⟨b,hb,hbl⟩:=this
  exact oE hb hbl
 rw [jG]
 unfold aC
 rw [hs]
theorem rf (s:List UInt8):∀ (f f' i:Nat),i≤s.length→s.length - i < f→s.length - i < f'→bz s f i=bz s f' i∧bY s f i=bY s f' i
 | 0,_,_,_,h,_=>by omega
 | _+1,0,_,_,_,h=>by omega
 | f+1,f'+1,i,hi,hf,hf'=>by
  obtain ⟨h1,h2,h3⟩:=f7 hi
  by_cases hk:(aC s i).kind=0
  ·rw [(fl f hk).1,(fl f hk).2,(fl f' hk).1,(fl f' hk).2]
   exact ⟨rfl,rfl⟩
  ·have:=h3 hk
   obtain ⟨k1,k2⟩:=rf s f f' _ h2 (by omega) (by omega)
   rw [(gW f hk).1,(gW f hk).2,(gW f' hk).1,(gW f' hk).2,k1,k2]
   exact ⟨rfl,rfl⟩
theorem rg (s:List UInt8):∀ (f i j f':Nat),i≤s.length→s.length - i < f→j < (bz s f i).length→s.length - au (bz s f i) (bY s f i) j < f' →
  bz s f' (au (bz s f i) (bY s f i) j)=(bz s f i).drop j∧bY s f' (au (bz s f i) (bY s f i) j)=bY s f i
 | 0,_,_,_,_,h,_,_=>by omega
 | _+1,_,_,0,_,_,_,h=>by omega
 | f+1,i,j,f'+1,hi,hf,hj,hf'=>by
  obtain ⟨h1,h2,h3⟩:=f7 hi
  by_cases hk:(aC s i).kind=0
  ·rw [(fl f hk).1] at hj
   simp at hj
  ·have:=h3 hk
   obtain ⟨e1,e2⟩:=gW f hk
   rw [e1] at hj
   rw [e1,e2] at hf' ⊢
   cases j with
   | zero=>
    change s.length - (aC s i).place < f'+1 at hf'
    change bz s (f'+1) (aC s i).place=aC s i::_∧bY s (f'+1) (aC s i).place=_
    have ha:=uK hk
    obtain ⟨d1,d2⟩:=gW (s:=s) (i:=(aC s i).place) f' (by rw [ha];exact hk)
    rw [ha] at d1 d2
    obtain ⟨k1,k2⟩:=rf s f f' ((aC s i).place+(aC s i).text.length) h2 (by omega) (by omega)
    rw [d1,d2,k1,k2]
    exact ⟨rfl,rfl⟩
   | succ j=>
    simp only [List.length_cons] at hj
    exact rg s f ((aC s i).place+(aC s i).text.length) j (f'+1) h2 (by omega) (by omega) hf'
section
def fW (s:List UInt8):List NodeD × Nat × Nat:=
 if 2048 < s.length then ([],0,3) else
 match fK (aj s) ((aj s).length+1) 0 with
 | .error k=>([],au (aj s) (cD s) k,172)
 | .ok (l,k)=>if k < (aj s).length∨cD s < s.length then ([],au (aj s) (cD s) k,172) else (l,0,0)
theorem ImpS.ownNil0 {T:TypeId} {H:List HP}:ImpS H (Go.Proofs.YtkeialpeabhaaaaGreat.own T 3 ([]:List NodeD).length (.slice none 0 0) (aO [])::H):=fun _ _ s=>lE s
attribute [local irreducible] G GO GR GT Fn FnX FnV FnXV Dfr pt init exs pur sat own ImpS kAt au
theorem wo (c2 c3 c4:Nat):Dfr Tryz.prog 160 #[ah c2,ah c3,ah c4] .returning .returning [] (fun _ Q=>Q=[]):=by
 refine Dfr.mk Tryz.func160 rfl rfl rfl rfl Rcv.calm fun w0 F=>?_
 (apply Ru;refine GO.move rfl rfl ?_)
 refine GO.neqIfN rfl rfl ?_
 apply Ru
 refine KF2.n0 rfl rfl (ImpS.sb ?_)
 exact SB
theorem f0 (c2 c3 c4 i:Nat) (x y z:Value):Dfr Tryz.prog 160 #[ah c2,ah c3,ah c4] (.panicking (chn (fN i))) (.panicking [{ v:=fN i,recovered:=true }]) [pt c2 (row [x] 95),pt c3 (row [y] 3),pt c4 (row [z] 24)]
  (fun _ Q=>Q=[pt c2 (row [.slice none 0 0] 95),pt c3 (row [i64 (i:Nat)] 3),pt c4 (row [i64 172] 24)]):=by
 refine Dfr.mk Tryz.func160 rfl rfl rfl rfl (Rcv.caught (fN i)) fun w0 F=>?_
 (apply Ru;refine GO.move rfl rfl ?_)
 refine GO.neqIf rfl rfl ?_
 (apply Ru;refine GO.move rfl rfl ?_)
 refine GO.assertT rfl rfl rfl ?_
 (refine GO.move rfl rfl ?_;refine GO.extract rfl rfl rfl ?_;refine GO.extract rfl rfl rfl ?_;refine GO.alloc rfl fun b4=>?_;apply Ru;refine GO.assign rfl rfl ?_;apply Ru;refine GO.move rfl rfl ?_;refine GO.not rfl rfl ?_;apply Ru;refine G.condF rfl rfl ?_;apply Ru)
 refine drT 5 28 [pt b4 (row [i64 (i:Nat)] 249)] ?_
 ((apply GR.step rfl;focus (intro Z;refine GO.fieldAddr rfl rfl ?_;exact KQ.z));(apply GR.step rfl;focus (intro Z;refine GO.load1 rfl rfl rfl Tk.h rfl ?_;exact KQ.z));apply Ru)
 (repeat refine GT.skip rfl ?_)
 refine GT.step rfl ?_
 (refine GO.store1 rfl rfl rfl (Tk.t Tk.h) (by simp) ?_;apply Ru)
 refine ⟨rfl,.tuple #[],pt c2 (row [.slice none 0 0] 95)::pt c3 (row [y] 3)::pt c4 (row [z] 24)::F,rfl,ImpS.sb (by ((refine Sb.c (Tk.t Tk.h) ?_;refine Sb.c Tk.h ?_;exact SB);skip)),?_⟩
 (repeat refine GT.skip rfl ?_)
 refine GT.step rfl ?_
 (refine GO.store1 rfl rfl rfl (Tk.t (Tk.t Tk.h)) (by simp) ?_;apply Ru)
 refine ⟨rfl,.tuple #[],pt c2 (row [.slice none 0 0] 95)::pt c3 (row [i64 (i:Nat)] 3)::pt c4 (row [z] 24)::F,rfl,ImpS.sb (by ((refine Sb.c (Tk.t Tk.h) ?_;refine Sb.c (Tk.t Tk.h) ?_;refine Sb.c Tk.h ?_;exact SB);skip)),?_⟩
 (repeat refine GT.skip rfl ?_)
 refine GT.step rfl ?_
 (refine GO.store1 rfl rfl rfl (Tk.t (Tk.t (Tk.t Tk.h))) (by simp) ?_;apply Ru)
 refine ⟨rfl,.tuple #[],pt c2 (row [.slice none 0 0] 95)::pt c3 (row [i64 (i:Nat)] 3)::pt c4 (row [i64 172] 24)::F,rfl,ImpS.sb (by ((refine Sb.c (Tk.t Tk.h) ?_;refine Sb.c (Tk.t Tk.h) ?_;refine Sb.c (Tk.t Tk.h) ?_;refine Sb.c Tk.h ?_;exact SB);skip)),?_⟩
 refine GT.nil ?_
 apply Ru
 refine KF2.n0 rfl rfl (ImpS.sb ?_)
 exact SB
def Dr (z:List NodeD × Nat × Nat):Value→List HP→Prop:=fun r Q=>∃ v,r=.tuple #[v,i64 (z.2.1:Nat),i64 (z.2.2:Nat)]∧v.oneCell'=true∧Q=[own 93 3 z.1.length v (aO z.1)]
theorem tD (n:Nat):Tryz.prog.built 253 [(2,i64 (n:Nat))]=some [.slice none 0 0,i64 0,i64 (n:Nat)].toArray:=by kernel_rfl
theorem oA (s:List UInt8) (hs:¬ 1048576 < s.length):Fn Tryz.prog 21 #[str (s.take (cD s))] [] (fun r Q=>∃ v,r=.tuple #[v,i64 0,i64 0]∧v.oneCell'=true∧Q=[own 125 3 (aj s).length v (eL (aj s))]):=by
 obtain ⟨h1,h2⟩:=yZ s
 have hb:=nO s
 refine (ml (s.take (cD s)) (by rw [List.length_take];omega)).mono ?_
 rintro r Q (⟨h,_⟩ | ⟨_,v,h3,h4,h5⟩)
 ·rw [h2,List.length_take] at h;omega
 ·rw [h1] at h5
  exact ⟨v,h3,h4,h5⟩
instance:NTf Tryz.f120 60:=⟨rfl⟩
theorem mn (s:List UInt8):Fn Tryz.prog 120 #[str s] [] (Dr (fW s)):=by
 refine Fn.mkD Tryz.func120 rfl rfl fun w0 F=>?_
 refine GZ.seq ?_
 (apply Ru;refine sal fun b2=>?_;refine sal fun b3=>?_;refine sal fun b4=>?_;apply Ru)
 refine GZ.seq ?_
 by_cases hlen:2048 < s.length
 ·have e1:decide ((2048:Int) < (s.length:Int))=true:=decide_eq_true (by omega)
  have hr:fW s=([],0,3):=by unfold fW;rw [if_pos hlen]
  rw [hr]
  (apply Ru;refine GO.move rfl rfl ?_;apply Ru;refine scT ?_)
  refine KF2.r3 rfl (RV.c1 rfl rfl (Tk.t (Tk.t Tk.h)) rfl) (RV.c1 rfl rfl (Tk.t Tk.h) rfl) (RV.c1 rfl rfl Tk.h rfl) ⟨.slice none 0 0,rfl,rfl,rfl⟩ (ImpS.trans (ImpS.sb (M:=F) ?_) ImpS.ownNil0)
  exact SB
 have e1:decide ((2048:Int) < (s.length:Int))=false:=decide_eq_false (by omega)
 have hlM:=gz s
 have hbl:=nO s
 have hwh:=oA s (by omega)
 have hrd:fW s=match fK (aj s) ((aj s).length+1) 0 with
   | .error k=>([],au (aj s) (cD s) k,172)
   | .ok (l,k)=>if k < (aj s).length∨cD s < s.length then ([],au (aj s) (cD s) k,172) else (l,0,0):=by
  unfold fW;rw [if_neg hlen]
 have hex:∀ q v br e,dN q v (aj s)→xp q br v (aj s) e 0 (fK (aj s) ((aj s).length+1) 0):=fun q v br e hq=>xO q v (aj s) hq br e (by omega) _ 0 (Nat.zero_le _) (by omega)
 have hfl:∀ q v br e i,dN q v (aj s)→i≤(aj s).length→_:=fun q v br e i hq=>iE q v (aj s) hq br e i
 have hgo:=fu (aj s) ((aj s).length+1) 0
 have hsc:=ml s (by omega)
 generalize fK (aj s) ((aj s).length+1) 0=ex at hrd hex hgo
 rw [hrd]
 generalize cD s=bad at *
 generalize aj s=ms at *
 clear hrd
 (apply Ru;refine GO.move rfl rfl ?_;apply Ru;refine scF ?_)
 refine GZ.defer (vs:=[ah b2,ah b3,ah b4]) rfl ⟨rfl,rfl,rfl,trivial⟩ ?_
 (apply Ru;refine GO.move rfl rfl ?_;apply Ru)
 refine GO.buildPart1 (tD s.length) rfl rfl ?_
 (refine sbx fun b16=>?_;apply Ru;refine GO.move rfl rfl ?_)
 refine scl (hsc) ?_
 rintro _ _ (⟨hb,rfl,rfl⟩ | ⟨hb,v,rfl,hv1,rfl⟩)
 ·have d1:decide ((160:Int)≠0)=true:=rfl
  (apply Ru;refine G.condT rfl rfl ?_;apply Ru;refine GO.move rfl rfl ?_;apply Ru)
  refine GO.strHi rfl rfl rfl ⟨rfl,by omega⟩ ?_
  refine scl (hwh) ?_
  rintro _ _ ⟨v,rfl,hv1,rfl⟩
  (apply Ru;refine GO.store1 rfl rfl (by assumption) (Tk.t Tk.h) (by simp) ?_;apply Ru)
  refine GO.ownRd (n:=ms.length) (v:=v) (xs:=eL ms) (Tk.t Tk.h) fun q hq=>?_
  obtain ⟨am,cm,rfl⟩:=eA hq
  have hx:=hex q _ b16 bad hq
  have hf:=fun k (hk:k≤ms.length)=>iE q _ ms hq b16 bad k hk
  unfold xp at hx
  clear hq hex hfl
  refine GO.callX1 rfl rfl (hx) (Tks.c (Tk.t Tk.h) (Tks.c Tk.h Tks.n)) ?_ ?_
  ·rintro _ _ ⟨k,rfl,rfl,rfl⟩
   (repeat (first | refine aV ?_ | refine aM ?_ | refine kscope_p ?_))
   refine KFD.p3 (f0 b2 b3 b4 (au ms bad k) _ _ _) (X:=F) (ImpS.sb (by ((refine Sb.c (Tk.t (Tk.t (Tk.t (Tk.t Tk.h)))) ?_;refine Sb.c (Tk.t (Tk.t (Tk.t Tk.h))) ?_;refine Sb.c (Tk.t (Tk.t Tk.h)) ?_;exact SB);skip))) rfl (RV.c1 rfl rfl Tk.h rfl) (RV.c1 rfl rfl (Tk.t Tk.h) rfl) (RV.c1 rfl rfl (Tk.t (Tk.t Tk.h)) rfl) ⟨.slice none 0 0,rfl,rfl,rfl⟩ (ImpS.trans (ImpS.sb (M:=F) ?_) ImpS.ownNil0)
   exact SB
  rintro r _ ⟨l,k,rfl,rfl⟩
  obtain ⟨g1,g2,g3⟩:=hgo l k rfl
  refine GO.ownOne Tk.h fun hone=>?_
  (refine GO.store1 rfl rfl (by assumption) (Tk.t (Tk.t (Tk.t (Tk.t (Tk.t Tk.h))))) (by decide) ?_;apply Ru)
  dsimp only
  by_cases hk:k < ms.length
  ·have c1:decide ((k:Int) < (ms.length:Int))=true:=decide_eq_true (by omega)
   rw [if_pos (.inl hk)]
   refine dr 14 ?_
   (apply Ru;refine qgF ?_;refine qgF ?_;refine qpT ?_)
   refine sxl (hf k (by omega)) ?_ ?_
   ·rintro _ _ ⟨rfl,rfl⟩
    (repeat (first | refine aV ?_ | refine aM ?_ | refine kscope_p ?_))
    refine KFD.p3 (f0 b2 b3 b4 (au ms bad k) _ _ _) (X:=F) (ImpS.sb (by ((refine Sb.c (Tk.t (Tk.t Tk.h)) ?_;refine Sb.c (Tk.t (Tk.t (Tk.t (Tk.t Tk.h)))) ?_;refine Sb.c (Tk.t (Tk.t (Tk.t Tk.h))) ?_;exact SB);skip))) rfl (RV.c1 rfl rfl Tk.h rfl) (RV.c1 rfl rfl (Tk.t Tk.h) rfl) (RV.c1 rfl rfl (Tk.t (Tk.t Tk.h)) rfl) ⟨.slice none 0 0,rfl,rfl,rfl⟩ (ImpS.trans (ImpS.sb (M:=F) ?_) ImpS.ownNil0)
    exact SB
   ·intro _ _ h
    exact h.elim
  ·have c1:decide ((k:Int) < (ms.length:Int))=false:=decide_eq_false (by omega)
   rw [if_pos (.inr hb)]
   refine dr 14 ?_
   (apply Ru;refine qgT ?_;refine qgT ?_;refine qpF ?_)
   (refine G.condT rfl rfl ?_;apply Ru)
   refine sxl (hf k (by omega)) ?_ ?_
   ·rintro _ _ ⟨rfl,rfl⟩
    (repeat (first | refine aV ?_ | refine aM ?_ | refine kscope_p ?_))
    refine KFD.p3 (f0 b2 b3 b4 (au ms bad k) _ _ _) (X:=F) (ImpS.sb (by ((refine Sb.c (Tk.t (Tk.t Tk.h)) ?_;refine Sb.c (Tk.t (Tk.t (Tk.t (Tk.t Tk.h)))) ?_;refine Sb.c (Tk.t (Tk.t (Tk.t Tk.h))) ?_;exact SB);skip))) rfl (RV.c1 rfl rfl Tk.h rfl) (RV.c1 rfl rfl (Tk.t Tk.h) rfl) (RV.c1 rfl rfl (Tk.t (Tk.t Tk.h)) rfl) ⟨.slice none 0 0,rfl,rfl,rfl⟩ (ImpS.trans (ImpS.sb (M:=F) ?_) ImpS.ownNil0)
    exact SB
   ·intro _ _ h
    exact h.elim
 ·subst hb
  (apply Ru;refine GO.store1 rfl rfl (by assumption) (Tk.t Tk.h) (by simp) ?_;apply Ru)
  refine GO.ownRd (n:=ms.length) (v:=v) (xs:=eL ms) (Tk.t Tk.h) fun q hq=>?_
  obtain ⟨am,cm,rfl⟩:=eA hq
  have hx:=hex q _ b16 s.length hq
  have hf:=fun k (hk:k≤ms.length)=>iE q _ ms hq b16 s.length k hk
  unfold xp at hx
  clear hq hex hfl
  refine GO.callX1 rfl rfl (hx) (Tks.c (Tk.t Tk.h) (Tks.c Tk.h Tks.n)) ?_ ?_
  ·rintro _ _ ⟨k,rfl,rfl,rfl⟩
   (repeat (first | refine aV ?_ | refine aM ?_ | refine kscope_p ?_))
   refine KFD.p3 (f0 b2 b3 b4 (au ms s.length k) _ _ _) (X:=F) (ImpS.sb (by ((refine Sb.c (Tk.t (Tk.t (Tk.t (Tk.t Tk.h)))) ?_;refine Sb.c (Tk.t (Tk.t (Tk.t Tk.h))) ?_;refine Sb.c (Tk.t (Tk.t Tk.h)) ?_;exact SB);skip))) rfl (RV.c1 rfl rfl Tk.h rfl) (RV.c1 rfl rfl (Tk.t Tk.h) rfl) (RV.c1 rfl rfl (Tk.t (Tk.t Tk.h)) rfl) ⟨.slice none 0 0,rfl,rfl,rfl⟩ (ImpS.trans (ImpS.sb (M:=F) ?_) ImpS.ownNil0)
   exact SB
  rintro r _ ⟨l,k,rfl,rfl⟩
  obtain ⟨g1,g2,g3⟩:=hgo l k rfl
  refine GO.ownOne Tk.h fun hone=>?_
  (refine GO.store1 rfl rfl (by assumption) (Tk.t (Tk.t (Tk.t (Tk.t (Tk.t Tk.h))))) (by decide) ?_;apply Ru)
  dsimp only
  by_cases hk:k < ms.length
  ·have c1:decide ((k:Int) < (ms.length:Int))=true:=decide_eq_true (by omega)
   rw [if_pos (.inl hk)]
   refine dr 14 ?_
   (apply Ru;refine qgF ?_;refine qgF ?_;refine qpT ?_)
   refine sxl (hf k (by omega)) ?_ ?_
   ·rintro _ _ ⟨rfl,rfl⟩
    (repeat (first | refine aV ?_ | refine aM ?_ | refine kscope_p ?_))
    refine KFD.p3 (f0 b2 b3 b4 (au ms s.length k) _ _ _) (X:=F) (ImpS.sb (by ((refine Sb.c (Tk.t (Tk.t Tk.h)) ?_;refine Sb.c (Tk.t (Tk.t (Tk.t (Tk.t Tk.h)))) ?_;refine Sb.c (Tk.t (Tk.t (Tk.t Tk.h))) ?_;exact SB);skip))) rfl (RV.c1 rfl rfl Tk.h rfl) (RV.c1 rfl rfl (Tk.t Tk.h) rfl) (RV.c1 rfl rfl (Tk.t (Tk.t Tk.h)) rfl) ⟨.slice none 0 0,rfl,rfl,rfl⟩ (ImpS.trans (ImpS.sb (M:=F) ?_) ImpS.ownNil0)
    exact SB
   ·intro _ _ h
    exact h.elim
  ·have c1:decide ((k:Int) < (ms.length:Int))=false:=decide_eq_false (by omega)
   rw [if_neg (by omega)]
   refine dr 14 ?_
   (apply Ru;refine qgT ?_;refine qgT ?_;refine qpF ?_)
   (refine GO.store1 rfl rfl (by assumption) Tk.h (by simp) ?_;apply Ru)
   refine KFD.r3 (wo b2 b3 b4) rfl (RV.c1 rfl rfl (Tk.t (Tk.t Tk.h)) rfl) (RV.c1 rfl rfl (Tk.t Tk.h) rfl) (RV.c1 rfl rfl Tk.h rfl) ⟨r,rfl,hone,rfl⟩ (ImpS.sb ?_)
   exact SB
end
def eI (b:UInt8):Bool:=decide (65≤(b.toNat:Int)) && decide ((b.toNat:Int)≤90)
def ic (b:UInt8):Bool:=decide (97≤(b.toNat:Int)) && decide ((b.toNat:Int)≤122)
def gw (b:UInt8):Bool:=eI b || ic b || (decide (48≤(b.toNat:Int)) && decide ((b.toNat:Int)≤57)) || decide ((b.toNat:Int)=95)
def cT (s:List UInt8) (first:UInt8→Bool):Bool:=match s with
 | []=>false
 | b::_=>decide (s.length≤16) && (first b && s.all gw)
def fq (m:NodeD):Bool:=
 if m.kind=1 then decide (m.name=[]) && decide (m.kids=0) else if m.kind=2 then decide (m.kids=0) && cT m.name eI else if m.kind=3 then decide (m.kids=0) && cT m.name ic
 else if m.kind=4∨m.kind=5 then decide (m.name=[]) && decide (2≤m.kids) else if m.kind=6∨m.kind=7∨m.kind=8 then decide (m.name=[]) && decide (m.kids=1) else false
def i9 (n:Nat):Nat→List NodeD→Option Nat
 | o,[]=>some o
 | o,m::r=>if o=0∨fq m=false∨n < m.kids then none else i9 n (o+m.kids - 1) r
def iL (l:List NodeD):Bool:=decide (i9 l.length 1 l=some 0) && decide (0 < l.length)
def wr:Nat→List Nat→List Nat
 | n+1,r=>(n+1)::r
 | 0,[]=>[]
 | 0,c::r=>wr (c - 1) r
def kz:Nat→List Nat→List NodeD→Nat
 | most,_,[]=>most
 | most,over,m::r=>kz (max most (over.length+1)) (wr m.kids over) r
def ja (l:List NodeD):Nat:=kz 0 [] l
inductive Tree where
 | node (kind:Nat) (name:List UInt8) (kids:List Tree)
mutual
def flat:Tree→List NodeD
 | .node k n ts=>⟨k,n,ts.length⟩::ay ts
def ay:List Tree→List NodeD
 | []=>[]
 | t::ts=>flat t++ay ts
end
mutual
def okT:Tree→Bool
 | .node k n ts=>fq ⟨k,n,ts.length⟩ && jq ts
def jq:List Tree→Bool
 | []=>true
 | t::ts=>okT t && jq ts
end
def Tree.kind:Tree→Nat
 | .node k _ _=>k
def Tree.name:Tree→List UInt8
 | .node _ n _=>n
def Tree.kids:Tree→List Tree
 | .node _ _ ts=>ts
theorem du (t:Tree):flat t=⟨t.kind,t.name,t.kids.length⟩::ay t.kids:=by cases t;rw [flat];rfl
theorem kC:∀ ts us:List Tree,ay (ts++us)=ay ts++ay us
 | [],us=>by rw [ay];rfl
 | t::ts,us=>by rw [List.cons_append,ay,ay,kC ts us,List.append_assoc]
theorem dF (t:Tree):0 < (flat t).length:=by rw [du];simp
theorem uH:∀ ts us:List Tree,jq (ts++us)=(jq ts && jq us)
 | [],us=>by rw [jq];rfl
 | t::ts,us=>by rw [List.cons_append,jq,jq,uH ts us,Bool.and_assoc]
theorem gu:∀ {ts:List Tree} {t:Tree},jq ts=true→t∈ts→okT t=true
 | u::ts,t,h,ht=>by
  rw [jq,Bool.and_eq_true] at h
  rcases List.mem_cons.1 ht with rfl | ht
  ·exact h.1
  ·exact gu h.2 ht
theorem mO (n:Nat):∀ (l:List NodeD) (o:Nat),i9 n o l=some 0→∃ ts:List Tree,ts.length=o∧ay ts=l∧jq ts=true
 | [],o,h=>by
  simp only [i9,Option.some.injEq] at h
  subst h
  exact ⟨[],rfl,by rw [ay],by rw [jq]⟩
 | m::r,o,h=>by
  simp only [i9] at h
  split at h
  ·cases h
  ·rename_i hc
   have hm:fq m=true:=by
    cases e:fq m with
    | true=>rfl
    | false=>exact absurd (.inr (.inl e)) hc
   have ho:o≠0:=fun e=>hc (.inl e)
   obtain ⟨ts,h1,h2,h3⟩:=mO n r _ h
   refine ⟨.node m.kind m.name (ts.take m.kids)::ts.drop m.kids,?_,?_,?_⟩
   ·rw [List.length_cons,List.length_drop];omega
   ·have hl:(ts.take m.kids).length=m.kids:=by rw [List.length_take];omega
    rw [ay,flat,hl,List.cons_append,← kC,List.take_append_drop,h2]
   ·have hl:(ts.take m.kids).length=m.kids:=by rw [List.length_take];omega
    rw [jq,okT,hl]
    rw [← List.take_append_drop m.kids ts,uH,Bool.and_eq_true] at h3
    rw [h3.1,h3.2,hm];rfl
theorem kU {l:List NodeD} (h:iL l=true):∃ t:Tree,flat t=l∧okT t=true:=by
 unfold iL at h
 rw [Bool.and_eq_true] at h
 obtain ⟨ts,h1,h2,h3⟩:=mO _ _ _ (of_decide_eq_true h.1)
 match ts,h1 with
 | [t],_=>
  rw [ay,ay,List.append_nil] at h2
  rw [jq,jq,Bool.and_true] at h3
  exact ⟨t,h2,h3⟩
section
attribute [local irreducible] G GO GR GT Fn FnX FnV FnXV Dfr pt init exs pur sat own ImpS
theorem nY (b:UInt8):Fn Tryz.prog 211 #[u8 b] [] (fun r Q=>r=.bool (eI b)∧Q=[]):=by
 refine Fn.mk2 Tryz.func211 rfl rfl fun w0 F=>?_
 unfold eI
 cases e1:decide (65≤(b.toNat:Int))
 ·(apply Ru;refine sgF ?_;refine sgF ?_;refine spF ?_)
  exact kr1 rfl ⟨rfl,rfl⟩
 ·(apply Ru;refine sgT ?_;refine sgT ?_;refine spT ?_)
  exact kr1 rfl ⟨rfl,rfl⟩
theorem p8 (b:UInt8):Fn Tryz.prog 212 #[u8 b] [] (fun r Q=>r=.bool (ic b)∧Q=[]):=by
 refine Fn.mk2 Tryz.func212 rfl rfl fun w0 F=>?_
 unfold ic
 cases e1:decide (97≤(b.toNat:Int))
 ·(apply Ru;refine sgF ?_;refine sgF ?_;refine spF ?_)
  exact kr1 rfl ⟨rfl,rfl⟩
 ·(apply Ru;refine sgT ?_;refine sgT ?_;refine spT ?_)
  exact kr1 rfl ⟨rfl,rfl⟩
theorem oZ (s:List UInt8) (fv:Value) (first:UInt8→Bool) (hf:∀ b,FnV Tryz.prog fv [u8 b] [] (fun r Q=>r=.bool (first b)∧Q=[])):Fn Tryz.prog 210 #[str s,fv] [] (fun r Q=>r=.bool (cT s first)∧Q=[]):=by
 refine Fn.mk2 Tryz.func210 rfl rfl fun w0 F=>?_
 cases s with
 | nil=>
  rw [show cT [] first=false from rfl]
  (apply Ru;refine GO.gF rfl rfl rfl rfl ?_;refine GO.gF rfl rfl rfl rfl ?_;refine GO.gF rfl rfl rfl rfl ?_;refine GO.pickT rfl rfl rfl ?_;apply Ru)
  exact kr1 rfl ⟨rfl,rfl⟩
 | cons b0 s0=>
 have hb0:(b0::s0)[0]?=some b0:=rfl
 have hn:cT (b0::s0) first=(decide ((b0::s0).length≤16) && (first b0 && (b0::s0).all gw)):=rfl
 have hpos:0 < (b0::s0).length:=by simp
 rw [hn]
 generalize b0::s0=s at *
 have d1:decide ((s.length:Int) < 1)=false:=decide_eq_false (by omega)
 by_cases h16:s.length≤16
 ·rw [decide_eq_true h16,Bool.true_and]
  have d2:decide ((16:Int) < (s.length:Int))=false:=decide_eq_false (by omega)
  (apply Ru;refine sgT ?_;refine sgT ?_;refine sgT ?_;refine spF ?_;refine sgT ?_;refine sgT ?_;refine sgT ?_;refine GO.strIdx rfl rfl rfl rfl (by assumption) ?_;refine sgT ?_)
  refine svl (hf b0) ?_
  rintro _ _ ⟨rfl,rfl⟩
  cases e1:first b0
  ·(refine sgT ?_;refine spF ?_;refine G.condT rfl rfl ?_;apply Ru)
   exact kr1 rfl ⟨rfl,rfl⟩
  ·rw [Bool.true_and]
   (refine sgT ?_;refine spF ?_;refine G.condF rfl rfl ?_;apply Ru)
   refine G.loopI (σ:=Nat) (fun k=>[(0,str s),(1,fv),(23,i64 (s.length:Nat)),(24,i64 (k:Nat))]) (fun _=>F) (fun k=>k≤s.length∧∀ j b,j < k→s[j]?=some b→gw b=true) (fun k=>s.length - k) 0 ⟨Nat.zero_le _,fun j b h=>by omega⟩ ?_ ?_ ?_
   ·exact SE rfl
   ·exact ImpS.sb SB
   rintro k ⟨hk,hall⟩
   apply Ru
   by_cases hlt:k < s.length
   ·have d3:decide ((k:Int) < (s.length:Int))=true:=decide_eq_true (by omega)
    obtain ⟨b,hb⟩:∃ b,s[k]?=some b:=⟨_,List.getElem?_eq_getElem hlt⟩
    have nob:gw b=false→s.all gw=false:=fun h=>by
     rw [Bool.eq_false_iff]
     intro h2
     have:=List.all_eq_true.1 h2 b (List.mem_of_getElem? hb)
     rw [h] at this;cases this
    have yes:gw b=true→∀ j b',j < k+1→s[j]?=some b'→gw b'=true:=fun h j b' hj hb'=>by
     rcases Nat.lt_succ_iff_lt_or_eq.1 hj with h1 | h1
     ·exact hall j b' h1 hb'
     ·subst h1;rw [hb] at hb';cases hb';exact h
    (refine scT ?_;refine GO.strIdx rfl rfl rfl rfl (by assumption) ?_;apply Ru)
    refine scl (nY b) ?_
    rintro _ _ ⟨rfl,rfl⟩
    cases u1:eI b
    ·apply Ru
     refine scl (p8 b) ?_
     rintro _ _ ⟨rfl,rfl⟩
     cases u2:ic b
     ·cases u3:decide (48≤(b.toNat:Int))
      ·cases u5:decide ((b.toNat:Int)=95)
       ·(apply Ru;refine sgF ?_;refine sgF ?_;refine spF ?_)
        refine G.condT rfl (by rw [u5];rfl) ?_
        apply Ru
        exact kr1 rfl ⟨by rw [nob (by unfold gw;rw [u1,u2,u3,u5];rfl)],rfl⟩
       ·(apply Ru;refine sgF ?_;refine sgF ?_;refine spF ?_)
        refine G.condF rfl (by rw [u5];rfl) ?_
        (apply Ru;refine sad ?_)
        refine ⟨k+1,⟨by omega,yes (by unfold gw;rw [u1,u2,u3,u5];rfl)⟩,by omega,?_,ImpS.sb ?_⟩
        ·exact SE rfl
        ·exact SB
      ·cases u4:decide ((b.toNat:Int)≤57)
       ·cases u5:decide ((b.toNat:Int)=95)
        ·(apply Ru;refine sgT ?_;refine sgT ?_;refine spT ?_;refine sgT ?_;refine sgT ?_;refine spF ?_)
         refine G.condT rfl (by rw [u5];rfl) ?_
         apply Ru
         exact kr1 rfl ⟨by rw [nob (by unfold gw;rw [u1,u2,u3,u4,u5];rfl)],rfl⟩
        ·(apply Ru;refine sgT ?_;refine sgT ?_;refine spT ?_;refine sgT ?_;refine sgT ?_;refine spF ?_)
         refine G.condF rfl (by rw [u5];rfl) ?_
         (apply Ru;refine sad ?_)
         refine ⟨k+1,⟨by omega,yes (by unfold gw;rw [u1,u2,u3,u4,u5];rfl)⟩,by omega,?_,ImpS.sb ?_⟩
         ·exact SE rfl
         ·exact SB
       ·(apply Ru;refine sgT ?_;refine sgT ?_;refine spT ?_;refine sgF ?_;refine sgF ?_;refine spT ?_;refine G.condF rfl rfl ?_;apply Ru;refine sad ?_)
        refine ⟨k+1,⟨by omega,yes (by unfold gw;rw [u1,u2,u3,u4];rfl)⟩,by omega,?_,ImpS.sb ?_⟩
        ·exact SE rfl
        ·exact SB
     ·(apply Ru;refine G.condF rfl rfl ?_;apply Ru;refine sad ?_)
      refine ⟨k+1,⟨by omega,yes (by unfold gw;rw [u1,u2];rfl)⟩,by omega,?_,ImpS.sb ?_⟩
      ·exact SE rfl
      ·exact SB
    ·(apply Ru;refine G.condF rfl rfl ?_;apply Ru;refine sad ?_)
     refine ⟨k+1,⟨by omega,yes (by unfold gw;rw [u1];rfl)⟩,by omega,?_,ImpS.sb ?_⟩
     ·exact SE rfl
     ·exact SB
   ·have d3:decide ((k:Int) < (s.length:Int))=false:=decide_eq_false (by omega)
    have hyes:s.all gw=true:=List.all_eq_true.2 fun b hb=>by
     obtain ⟨j,hj⟩:=List.getElem?_of_mem hb
     exact hall j b (by have:=(List.getElem?_eq_some_iff.1 hj).1;omega) hj
    rw [hyes]
    refine scF ?_
    exact kr1 rfl ⟨rfl,rfl⟩
 ·rw [decide_eq_false h16,Bool.false_and]
  have d2:decide ((16:Int) < (s.length:Int))=true:=decide_eq_true (by omega)
  (apply Ru;refine sgT ?_;refine sgT ?_;refine sgT ?_;refine spF ?_;refine sgF ?_;refine sgF ?_;refine sgF ?_;refine sgF ?_;refine sgF ?_;refine spT ?_)
  exact kr1 rfl ⟨rfl,rfl⟩
end
section
theorem Af (b:UInt8):FnV Tryz.prog (.func (.func 211) #[] #[]) [u8 b] [] (fun r Q=>r=.bool (eI b)∧Q=[]):=FnV.of (args:=[u8 b]) (caps:=[]) (nY b)
theorem B4 (b:UInt8):FnV Tryz.prog (.func (.func 212) #[] #[]) [u8 b] [] (fun r Q=>r=.bool (ic b)∧Q=[]):=FnV.of (args:=[u8 b]) (caps:=[]) (p8 b)
attribute [local irreducible] G GO GR GT Fn FnX FnV FnXV Dfr pt init exs pur sat own ImpS cT
theorem B2 (m:NodeD):Fn Tryz.prog 166 #[.agg [i64 (m.kind:Nat),str m.name,i64 (m.kids:Nat)].toArray] [] (fun r Q=>r=.bool (fq m)∧Q=[]):=by
 refine Fn.mk2 Tryz.func166 rfl rfl fun w0 F=>?_
 unfold fq
 obtain ⟨kind,name,kids⟩:=m
 dsimp only
 (apply Ru;refine sbx fun b1=>?_;apply Ru)
 by_cases c1:kind=1
 ·have d1:decide ((kind:Int)=1)=true:=decide_eq_true (by omega)
  rw [if_pos c1]
  cases e1:decide (name=[])
  ·(refine scT ?_;refine GO.binS rfl rfl rfl rfl ?_;apply Ru;refine sgF ?_;refine sgF ?_;refine sgF ?_;refine spF ?_)
   exact kr1 rfl ⟨rfl,rfl⟩
  ·(refine scT ?_;refine GO.binS rfl rfl rfl rfl ?_;apply Ru;refine sgT ?_;refine sgT ?_;refine sgT ?_;refine spT ?_)
   exact kr1 rfl ⟨by rw [Bool.true_and];exact congrArg Value.bool (show decide ((kids:Int)=0)=decide (kids=0) from decide_eq_decide.2 (by omega)),rfl⟩
 have d1:decide ((kind:Int)=1)=false:=decide_eq_false (by omega)
 by_cases c2:kind=2
 ·have d2:decide ((kind:Int)=2)=true:=decide_eq_true (by omega)
  rw [if_neg c1,if_pos c2,show decide (kids=0)=decide ((kids:Int)=0) from decide_eq_decide.2 (by omega)]
  cases e1:decide ((kids:Int)=0)
  ·(refine scF ?_;refine scT ?_;refine sgF ?_;refine sgF ?_;refine sgF ?_;refine spF ?_)
   exact kr1 rfl ⟨rfl,rfl⟩
  ·(refine scF ?_;refine scT ?_;refine sgT ?_;refine sgT ?_;refine sgT ?_)
   refine scl (oZ name (.func (.func 211) #[] #[]) eI Af) ?_
   rintro _ _ ⟨rfl,rfl⟩
   refine spT ?_
   exact kr1 rfl ⟨rfl,rfl⟩
 have d2:decide ((kind:Int)=2)=false:=decide_eq_false (by omega)
 by_cases c3:kind=3
 ·have d3:decide ((kind:Int)=3)=true:=decide_eq_true (by omega)
  rw [if_neg c1,if_neg c2,if_pos c3,show decide (kids=0)=decide ((kids:Int)=0) from decide_eq_decide.2 (by omega)]
  cases e1:decide ((kids:Int)=0)
  ·(refine scF ?_;refine scF ?_;refine scT ?_;refine sgF ?_;refine sgF ?_;refine sgF ?_;refine spF ?_)
   exact kr1 rfl ⟨rfl,rfl⟩
  ·(refine scF ?_;refine scF ?_;refine scT ?_;refine sgT ?_;refine sgT ?_;refine sgT ?_)
   refine scl (oZ name (.func (.func 212) #[] #[]) ic B4) ?_
   rintro _ _ ⟨rfl,rfl⟩
   refine spT ?_
   exact kr1 rfl ⟨rfl,rfl⟩
 have d3:decide ((kind:Int)=3)=false:=decide_eq_false (by omega)
 by_cases c4:kind=4
 ·have d4:decide ((kind:Int)=4)=true:=decide_eq_true (by omega)
  rw [if_neg c1,if_neg c2,if_neg c3,if_pos (by omega)]
  cases e1:decide (name=[])
  ·(refine scF ?_;refine scF ?_;refine scF ?_;refine scT ?_;refine scT ?_;refine GO.binS rfl rfl rfl rfl ?_;apply Ru;refine sgF ?_;refine sgF ?_;refine sgF ?_;refine spF ?_)
   exact kr1 rfl ⟨rfl,rfl⟩
  ·(refine scF ?_;refine scF ?_;refine scF ?_;refine scT ?_;refine scT ?_;refine GO.binS rfl rfl rfl rfl ?_;apply Ru;refine sgT ?_;refine sgT ?_;refine sgT ?_;refine spT ?_)
   exact kr1 rfl ⟨by rw [Bool.true_and];exact congrArg Value.bool (show decide ((2:Int)≤(kids:Int))=decide (2≤kids) from decide_eq_decide.2 (by omega)),rfl⟩
 have d4:decide ((kind:Int)=4)=false:=decide_eq_false (by omega)
 by_cases c5:kind=5
 ·have d5:decide ((kind:Int)=5)=true:=decide_eq_true (by omega)
  rw [if_neg c1,if_neg c2,if_neg c3,if_pos (by omega)]
  cases e1:decide (name=[])
  ·(refine scF ?_;refine scF ?_;refine scF ?_;refine scF ?_;refine scT ?_;refine GO.binS rfl rfl rfl rfl ?_;apply Ru;refine sgF ?_;refine sgF ?_;refine sgF ?_;refine spF ?_)
   exact kr1 rfl ⟨rfl,rfl⟩
  ·(refine scF ?_;refine scF ?_;refine scF ?_;refine scF ?_;refine scT ?_;refine GO.binS rfl rfl rfl rfl ?_;apply Ru;refine sgT ?_;refine sgT ?_;refine sgT ?_;refine spT ?_)
   exact kr1 rfl ⟨by rw [Bool.true_and];exact congrArg Value.bool (show decide ((2:Int)≤(kids:Int))=decide (2≤kids) from decide_eq_decide.2 (by omega)),rfl⟩
 have d5:decide ((kind:Int)=5)=false:=decide_eq_false (by omega)
 by_cases c6:kind=6
 ·have d6:decide ((kind:Int)=6)=true:=decide_eq_true (by omega)
  rw [if_neg c1,if_neg c2,if_neg c3,if_neg (by omega),if_pos (by omega)]
  cases e1:decide (name=[])
  ·(refine scF ?_;refine scF ?_;refine scF ?_;refine scF ?_;refine scF ?_;refine scT ?_;refine scT ?_;refine GO.binS rfl rfl rfl rfl ?_;apply Ru;refine sgF ?_;refine sgF ?_;refine sgF ?_;refine spF ?_)
   exact kr1 rfl ⟨rfl,rfl⟩
  ·(refine scF ?_;refine scF ?_;refine scF ?_;refine scF ?_;refine scF ?_;refine scT ?_;refine scT ?_;refine GO.binS rfl rfl rfl rfl ?_;apply Ru;refine sgT ?_;refine sgT ?_;refine sgT ?_;refine spT ?_)
   exact kr1 rfl ⟨by rw [Bool.true_and];exact congrArg Value.bool (show decide ((kids:Int)=1)=decide (kids=1) from decide_eq_decide.2 (by omega)),rfl⟩
 have d6:decide ((kind:Int)=6)=false:=decide_eq_false (by omega)
 by_cases c7:kind=7
 ·have d7:decide ((kind:Int)=7)=true:=decide_eq_true (by omega)
  rw [if_neg c1,if_neg c2,if_neg c3,if_neg (by omega),if_pos (by omega)]
  cases e1:decide (name=[])
  ·(refine scF ?_;refine scF ?_;refine scF ?_;refine scF ?_;refine scF ?_;refine scF ?_;refine scT ?_;refine scT ?_;refine GO.binS rfl rfl rfl rfl ?_;apply Ru;refine sgF ?_;refine sgF ?_;refine sgF ?_;refine spF ?_)
   exact kr1 rfl ⟨rfl,rfl⟩
  ·(refine scF ?_;refine scF ?_;refine scF ?_;refine scF ?_;refine scF ?_;refine scF ?_;refine scT ?_;refine scT ?_;refine GO.binS rfl rfl rfl rfl ?_;apply Ru;refine sgT ?_;refine sgT ?_;refine sgT ?_;refine spT ?_)
   exact kr1 rfl ⟨by rw [Bool.true_and];exact congrArg Value.bool (show decide ((kids:Int)=1)=decide (kids=1) from decide_eq_decide.2 (by omega)),rfl⟩
 have d7:decide ((kind:Int)=7)=false:=decide_eq_false (by omega)
 by_cases c8:kind=8
 ·have d8:decide ((kind:Int)=8)=true:=decide_eq_true (by omega)
  rw [if_neg c1,if_neg c2,if_neg c3,if_neg (by omega),if_pos (by omega)]
  cases e1:decide (name=[])
  ·(refine scF ?_;refine scF ?_;refine scF ?_;refine scF ?_;refine scF ?_;refine scF ?_;refine scF ?_;refine scT ?_;refine GO.binS rfl rfl rfl rfl ?_;apply Ru;refine sgF ?_;refine sgF ?_;refine sgF ?_;refine spF ?_)
   exact kr1 rfl ⟨rfl,rfl⟩
  ·(refine scF ?_;refine scF ?_;refine scF ?_;refine scF ?_;refine scF ?_;refine scF ?_;refine scF ?_;refine scT ?_;refine GO.binS rfl rfl rfl rfl ?_;apply Ru;refine sgT ?_;refine sgT ?_;refine sgT ?_;refine spT ?_)
   exact kr1 rfl ⟨by rw [Bool.true_and];exact congrArg Value.bool (show decide ((kids:Int)=1)=decide (kids=1) from decide_eq_decide.2 (by omega)),rfl⟩
 have d8:decide ((kind:Int)=8)=false:=decide_eq_false (by omega)
 rw [if_neg c1,if_neg c2,if_neg c3,if_neg (by omega),if_neg (by omega)]
 (refine scF ?_;refine scF ?_;refine scF ?_;refine scF ?_;refine scF ?_;refine scF ?_;refine scF ?_;refine scF ?_)
 exact kr1 rfl ⟨rfl,rfl⟩
end
section
def SlK (q:HP) (v:Value) (n sz:Nat) (l:List Value):Prop:=
 ∃ a cap,v=.slice a n cap∧n≤cap∧l.length=n * sz∧(0 < n→∃ b o,a=some ⟨b,o,none⟩∧∀ j u,l[j]?=some u→Rd q ⟨b,o+j,none⟩ u)
theorem SlK.sl {q:HP} {v:Value} {n sz:Nat} {l:List Value} (h:SlK q v n sz l):Sl q v n sz l:=let ⟨a,cap,h1,_,h3,h4⟩:=h;⟨a,cap,h1,h3,h4⟩
theorem SlK.one {q:HP} {v:Value} {n sz:Nat} {l:List Value} (h:SlK q v n sz l):v.oneCell'=true:=let ⟨_,_,h1,_⟩:=h;by rw [h1];rfl
theorem GO.ownRdK {P:Program} {c:Cx} {A:Array Oper} {K:aY} {L:Env} {H:List HP} {el:TypeId} {sz n:Nat} {v:Value} {xs:List Value} {F:List HP} {os:List Oper} (tk:Tk (own el sz n v xs) H F) (k:∀ q,SlK q v n sz xs→GO P c A os K L (q::F)):GO P c A os K L H:=by
 refine GO.own_open tk (fun hv hn hx=>?_) (fun b cap rest' hv h1 h2 h3 h4=>?_)
 ·subst hv hn hx
  exact GO.imp (H':=Go.Proofs.YtkeialpeabhaaaaGreat.pur True::F) (fun _ _ s=>bF.2 ⟨trivial,s⟩) (k _ ⟨none,0,rfl,Nat.le_refl _,by simp,fun h=>absurd h (by omega)⟩)
 ·subst hv
  refine k _ ⟨_,_,rfl,h2,h1,fun _=>⟨b,0,rfl,fun j u hj=>?_⟩⟩
  rw [Nat.zero_add]
  exact Rd.row (by rw [List.getElem?_append_left (List.getElem?_eq_some_iff.1 hj).1];exact hj)
theorem G.ownRdK {P:Program} {c:Cx} {K:aY} {L:Env} {H:List HP} {el:TypeId} {sz n:Nat} {v:Value} {xs:List Value} {F:List HP} {C:Code} (tk:Tk (own el sz n v xs) H F) (k:∀ q,SlK q v n sz xs→G P c C K L (q::F)):G P c C K L H:=by
 rintro a w ⟨h1,h2,ds,h3,h4,h5⟩
 have s1:sat (own el sz n v xs::(F++(c.X++ds.map cA))) w:=ai (List.Perm.append_right _ tk) h5
 rcases bK s1 with ⟨rfl,rfl,rfl,s2⟩ | ⟨b,cap,rest',rfl,g1,g2,_,_,s2⟩
 ·exact k (Go.Proofs.YtkeialpeabhaaaaGreat.pur True) ⟨none,0,rfl,Nat.le_refl _,by simp,fun h=>absurd h (by omega)⟩ a w ⟨h1,h2,ds,h3,h4,bF.2 ⟨trivial,s2⟩⟩
 ·refine k (pt b (row (xs++rest') el)) ⟨_,_,rfl,g2,g1,fun _=>⟨b,0,rfl,fun j u hj=>?_⟩⟩ a w ⟨h1,h2,ds,h3,h4,s2⟩
  rw [Nat.zero_add]
  exact Rd.row (by rw [List.getElem?_append_left (List.getElem?_eq_some_iff.1 hj).1];exact hj)
abbrev NodesR (q:HP) (v:Value) (l:List NodeD):Prop:=SlK q v l.length 3 (aO l)
theorem ee {q:HP} {v:Value} {l:List NodeD} {i:Nat} {m:NodeD} (hq:NodesR q v l) (h:l[i]?=some m):∃ b o cap,v=.slice (some ⟨b,o,none⟩) l.length cap∧l.length≤cap ∧
  (∀ j u,[i64 (m.kind:Nat),str m.name,i64 (m.kids:Nat)][j]?=some u→Rd q ⟨b,o+i * 3+j,none⟩ u):=by
 obtain ⟨a,cap,rfl,hcap,_,hr⟩:=hq
 have hi:=(List.getElem?_eq_some_iff.1 h).1
 obtain ⟨b,o,rfl,hr2⟩:=hr (by omega)
 refine ⟨b,o,cap,rfl,hcap,fun j u hu=>?_⟩
 have hj:j < 3:=(List.getElem?_eq_some_iff.1 hu).1
 rw [Nat.add_assoc]
 exact hr2 _ _ (by unfold aO;rw [ft (enc:=fS) (k:=3) (fun _=>rfl) h hj];exact hu)
theorem aZ {q:HP} {v:Value} {l:List NodeD} (hq:NodesR q v l):∃ a cap,v=.slice a l.length cap:=let ⟨a,cap,h,_⟩:=hq;⟨a,cap,h⟩
theorem yW {a b:Nat} (ha:a≤1048576) (hb:b≤1048576):a * b≤1099511627776:=Nat.le_trans (Nat.mul_le_mul ha hb) (by decide)
attribute [local irreducible] G GO GR GT Fn FnX FnV FnXV Dfr pt init exs pur sat own ImpS fq
theorem nS (q:HP) (v:Value) (l:List NodeD) (hq:NodesR q v l) (hl:¬ 1048576 < l.length):Fn Tryz.prog 126 #[v] [q] (fun r Q=>r=.bool (iL l)∧Q=[q]):=by
 have hrd:∀ i m,l[i]?=some m→_:=fun i m h=>ee hq h
 obtain ⟨a,cap,rfl⟩:=aZ hq
 clear hq
 unfold iL
 refine Fn.mk2 Tryz.func126 rfl rfl fun w0 F=>?_
 generalize hfin:i9 l.length 1 l=fin
 apply Ru
 refine G.loopI (σ:=Nat × Nat) (fun z=>[(0,.slice a l.length cap),(3,i64 (z.2:Nat)),(6,.slice a l.length cap),(7,i64 (l.length:Nat)),(8,i64 (z.1:Nat))]) (fun _=>q::F) (fun z=>z.1≤l.length∧z.2≤1+z.1 * l.length∧i9 l.length z.2 (l.drop z.1)=fin) (fun z=>l.length - z.1) (0,1) ⟨Nat.zero_le _,by dsimp only;omega,hfin⟩ ?_ ?_ ?_
 ·exact SE rfl
 ·exact ImpS.sb SB
 clear hfin
 rintro ⟨i,o⟩ ⟨hi,ho,hw⟩
 dsimp only at hi ho hw ⊢
 have hmb:=yW (a:=i) (b:=l.length) (by omega) (by omega)
 have hsm:(i+1) * l.length=i * l.length+l.length:=by rw [Nat.add_mul,Nat.one_mul]
 apply Ru
 by_cases hlt:i < l.length
 ·have d1:decide ((i:Int) < (l.length:Int))=true:=decide_eq_true (by omega)
  obtain ⟨m,hm⟩:∃ m,l[i]?=some m:=⟨_,List.getElem?_eq_getElem hlt⟩
  obtain ⟨b,o2,cap2,e,_,rm⟩:=hrd i m hm
  injection e with e _ e2
  subst e e2
  rw [dg hm] at hw
  simp only [i9] at hw
  (refine scT ?_;refine six ?_)
  refine GO.loadM (vs:=[i64 (m.kind:Nat),str m.name,i64 (m.kids:Nat)]) rfl rfl rfl Tk.h rfl rm ?_
  (refine sal fun b5=>?_;apply Ru)
  by_cases h0:o=0
  ·rw [if_pos (.inl h0)] at hw
   subst hw
   have d2:decide ((o:Int)=0)=true:=decide_eq_true (by omega)
   (refine sgF ?_;refine sgF ?_;refine sgF ?_;refine spT ?_)
   exact kr1 rfl ⟨rfl,rfl⟩
  have d2:decide ((o:Int)=0)=false:=decide_eq_false (by omega)
  (refine sgT ?_;refine GO.loadW rfl rfl rfl Tk.h rfl ?_;refine sgT ?_)
  refine scl (B2 m) ?_
  rintro _ _ ⟨rfl,rfl⟩
  cases hmay:fq m
  ·rw [if_pos (.inr (.inl hmay))] at hw
   subst hw
   (refine sgT ?_;refine spF ?_;refine GO.gF rfl rfl rfl rfl ?_;refine GO.gF rfl rfl rfl rfl ?_;refine GO.gF rfl rfl rfl rfl ?_;refine GO.gF rfl rfl rfl rfl ?_;refine GO.gF rfl rfl rfl rfl ?_;refine GO.pickT rfl rfl rfl ?_;apply Ru)
   exact kr1 rfl ⟨rfl,rfl⟩
  by_cases hk:l.length < m.kids
  ·rw [if_pos (.inr (.inr hk))] at hw
   subst hw
   have d3:decide ((l.length:Int) < (m.kids:Int))=true:=decide_eq_true (by omega)
   (refine sgT ?_;refine spF ?_;refine GO.gT rfl rfl rfl ?_;apply Ru;refine GO.gT rfl rfl rfl ?_;apply Ru;refine GO.gT rfl rfl rfl ?_;apply Ru;refine GO.gT rfl rfl rfl ?_;apply Ru;refine GO.gT rfl rfl rfl ?_;apply Ru;refine GO.pickF rfl rfl rfl ?_;apply Ru;refine scT ?_)
   exact kr1 rfl ⟨rfl,rfl⟩
  rw [if_neg (by rw [hmay];rintro (h | h | h);exact h0 h;cases h;exact hk h)] at hw
  have d3:decide ((l.length:Int) < (m.kids:Int))=false:=decide_eq_false (by omega)
  (refine sgT ?_;refine spF ?_;refine GO.gT rfl rfl rfl ?_;apply Ru;refine GO.gT rfl rfl rfl ?_;apply Ru;refine GO.gT rfl rfl rfl ?_;apply Ru;refine GO.gT rfl rfl rfl ?_;apply Ru;refine GO.gT rfl rfl rfl ?_;apply Ru;refine GO.pickF rfl rfl rfl ?_;apply Ru;refine scF ?_;refine ssu ?_;refine sad ?_;refine sad ?_)
  refine ⟨(i+1,o+m.kids - 1),⟨by dsimp only;omega,by dsimp only;rw [hsm];omega,hw⟩,by dsimp only;omega,?_,ImpS.sb ?_⟩
  ·(refine SubE.c rfl rfl ?_;(refine SubE.c rfl ?_ ?_;focus (simp;omega));exact SE rfl)
  ·exact SB
 ·have d1:decide ((i:Int) < (l.length:Int))=false:=decide_eq_false (by omega)
  rw [List.drop_eq_nil_of_le (by omega)] at hw
  subst hw
  have e1:decide (i9 l.length o []=some 0)=decide ((o:Int)=0):=decide_eq_decide.2 (by simp only [i9,Option.some.injEq];omega)
  have e2:decide (0 < l.length)=decide ((0:Int) < (l.length:Int)):=decide_eq_decide.2 (by omega)
  rw [e1,e2]
  refine scF ?_
  cases d2:decide ((o:Int)=0)
  ·apply Ru
   exact kr1 rfl ⟨rfl,rfl⟩
  ·apply Ru
   exact kr1 rfl ⟨rfl,rfl⟩
end
section
section
variable {P:Program} {c:Cx} {A:Array Oper} {rest:List Oper} {K:aY} {L:Env} {H:List HP} {t:TypeId} {p:String} {e:Array Edge} {d:Nat}
theorem GO.sliceLHM {ty el:TypeId} {sz n cap l h b o:Nat} {kk kh km:IntKind} {i j m:Int} {x y z u:Operand} [hu:UL P ty (.slice el)] [hs:SZ P el sz] (hN:Nat.blt d c.N=true) (hx:evl L x=some (.slice (some ⟨b,o,none⟩) n cap)) (hy:evl L y=some (.int kk i)) (hz:evl L z=some (.int kh j)) (hm:evl L u=some (.int km m)) (hi:i=(l:Int)∧j=(h:Int)∧m=(h:Int)∧l < h∧h≤cap)
  (k:GO P c A rest K ((d,.slice (some ⟨b,o+l * sz,none⟩) (h - l) (h - l))::L) H):GO P c A (⟨some d,.slice ty x (some y) (some z) (some u),t,p,e,none⟩::rest) K L H:=
 GO.val hN rfl (fun a w Y hh _=>by
  obtain ⟨rfl,rfl,rfl,h1,h2⟩:=hi
  have hle:(l:Int)≤h:=by omega
  have hle2:(h:Int)≤cap:=by omega
  have hle3:(h:Int)≤h:=by omega
  have hne:¬ h=l:=by omega
  simp only [execOp,hh.eval hx,Option.map_some,hh.eval hy,hh.eval hz,hh.eval hm]
  simp [Instr.sliceAt,Instr.slice,Sem.run_bind,run_underlying hu.out,Instr.sliceBounds,run_sliceBound w _ _ _ _ (Int.natCast_nonneg l) hle,run_sliceBound w _ _ _ _ (Int.natCast_nonneg h) hle2,run_sliceBound w _ _ _ _ (Int.natCast_nonneg h) hle3,bJ,Result.andThen,hne,cL]) k
end
theorem yQ {q:HP} {b o cap c:Nat} {A B C:List NodeD} (hq:NodesR q (.slice (some ⟨b,o,none⟩) (A++B++C).length cap) (A++B++C)) (hB:0 < B.length) (hc:B.length≤c):NodesR q (.slice (some ⟨b,o+A.length * 3,none⟩) B.length c) B:=by
 obtain ⟨a,cap',e,_,_,hr⟩:=hq
 injection e with e1 e2 e3
 obtain ⟨b',o',e4,hr⟩:=hr (by simp;omega)
 rw [← e1] at e4
 injection e4 with e4
 injection e4 with e5 e6
 subst e5 e6
 refine ⟨_,c,rfl,hc,iY B,fun _=>⟨b,o+A.length * 3,rfl,fun j u hu=>?_⟩⟩
 rw [Nat.add_assoc]
 refine hr _ _ ?_
 have hj:j < (aO B).length:=(List.getElem?_eq_some_iff.1 hu).1
 rw [gv,gv,List.append_assoc,List.getElem?_append_right (by rw [iY];omega),iY,Nat.add_sub_cancel_left,List.getElem?_append_left hj]
 exact hu
def KidsR (q:HP) (ts:List Tree) (k:Nat) (vals:List Value):Prop:=vals.length=k∧∀ i u,i < k→ts[i]?=some u→∃ w,vals[i]?=some w∧w.oneCell'=true∧NodesR q w (flat u)
theorem KidsR.snoc {q:HP} {ts:List Tree} {k:Nat} {vals:List Value} {u:Tree} {w:Value} (h:KidsR q ts k vals) (hu:ts[k]?=some u) (h1:w.oneCell'=true) (hw:NodesR q w (flat u)):KidsR q ts (k+1) (vals++[w]):=by
 refine ⟨by rw [List.length_append,h.1];rfl,fun i u' hi hu'=>?_⟩
 rcases Nat.lt_succ_iff_lt_or_eq.1 hi with h2 | h2
 ·obtain ⟨w',e,g⟩:=h.2 i u' h2 hu'
  exact ⟨w',by rw [List.getElem?_append_left (by rw [h.1];exact h2)];exact e,g⟩
 ·subst h2
  rw [hu] at hu';cases hu'
  exact ⟨w,by rw [List.getElem?_append_right (by rw [h.1];exact Nat.le_refl _),h.1,Nat.sub_self];rfl,h1,hw⟩
theorem KidsR.one {q:HP} {ts:List Tree} {vals:List Value} (h:KidsR q ts ts.length vals):∀ w∈vals,w.oneCell'=true:=by
 intro w hw
 obtain ⟨i,hi⟩:=List.getElem?_of_mem hw
 have hl:=(List.getElem?_eq_some_iff.1 hi).1
 rw [h.1] at hl
 obtain ⟨w',e,g,_⟩:=h.2 i _ hl (List.getElem?_eq_getElem hl)
 rw [hi] at e;cases e;exact g
attribute [local irreducible] G GO GR GT Fn FnX FnV FnXV Dfr pt init exs pur sat own ImpS
theorem j8:∀ ts:List Tree,ts.length≤(ay ts).length
 | []=>by simp
 | u::us=>by rw [ay,List.length_append,List.length_cons];have:=dF u;have:=j8 us;omega
theorem rQ (q:HP) (v:Value) (t:Tree) (hq:NodesR q v (flat t)) (hl:¬ 1048576 < (flat t).length):Fn Tryz.prog 146 #[v] [q] (fun r Q=>∃ vals,KidsR q t.kids t.kids.length vals∧Q=[own 95 1 t.kids.length r vals,q]):=by
 have hrd:∀ i m,(flat t)[i]?=some m→_:=fun i m h=>ee hq h
 have h0:=du t
 have hk:t.kids.length≤(flat t).length:=by
  rw [h0,List.length_cons]
  have:=j8 t.kids
  omega
 have hpos:=dF t
 have hql:=hq
 obtain ⟨b,o,cap,rfl,hcap,rm0⟩:=hrd 0 ⟨t.kind,t.name,t.kids.length⟩ (by rw [h0];rfl)
 generalize hts:t.kids=ts at *
 have hd1:(flat t).drop 1=ay ts:=by rw [h0];rfl
 generalize flat t=l at *
 clear h0
 have r2:=rm0 2 (i64 (ts.length:Nat)) rfl
 refine Fn.mk2 Tryz.func146 rfl rfl fun w0 F=>?_
 refine G.ownNil (T:=95) (sz:=1) ?_
 (apply Ru;refine six ?_;refine sld (by assumption) ?_;apply Ru)
 refine G.loopI (σ:=Nat × Nat × List Value × Value) (fun z=>[(0,.slice (some ⟨b,o,none⟩) l.length cap),(3,z.2.2.2),(4,i64 (z.2.1:Nat)),(10,i64 (ts.length:Nat)),(11,i64 (z.1:Nat))]) (fun z=>own 95 1 z.1 z.2.2.2 z.2.2.1::q::F)
  (fun z=>z.1≤ts.length∧z.2.1≤l.length∧l.drop z.2.1=ay (ts.drop z.1)∧KidsR q ts z.1 z.2.2.1) (fun z=>ts.length - z.1) (0,1,[],.slice none 0 0) ⟨Nat.zero_le _,hpos,by rw [List.drop_zero];exact hd1,rfl,fun i u h=>absurd h (Nat.not_lt_zero i)⟩ ?_ ?_ ?_
 ·exact SE rfl
 ·exact ImpS.sb SB
 rintro ⟨k,i,vals,v3⟩ ⟨hkn,hi,hdr,hK⟩
 dsimp only at hkn hi hdr hK ⊢
 apply Ru
 by_cases hlt:k < ts.length
 ·have d1:decide ((k:Int) < (ts.length:Int))=true:=decide_eq_true (by omega)
  obtain ⟨u,hu⟩:∃ u,ts[k]?=some u:=⟨_,List.getElem?_eq_getElem hlt⟩
  rw [dg hu,ay] at hdr
  generalize hR:ay (ts.drop (k+1))=R at hdr
  refine scT ?_
  refine G.loopI (σ:=Nat × List Tree) (fun z=>[(0,.slice (some ⟨b,o,none⟩) l.length cap),(3,v3),(4,i64 (z.1:Nat)),(5,i64 (i:Nat)),(6,i64 (z.2.length:Nat)),(10,i64 (ts.length:Nat)),(11,i64 (k:Nat))]) (fun z=>own 95 1 k v3 vals::q::F)
   (fun z=>z.1≤l.length∧l.drop z.1=ay z.2++R) (fun z=>l.length - z.1) (i,[u]) ⟨hi,by rw [hdr,ay,ay,List.append_nil]⟩ ?_ ?_ ?_
  ·exact SE rfl
  ·exact ImpS.sb SB
  rintro ⟨j,us⟩ ⟨hj,hjd⟩
  dsimp only at hj hjd ⊢
  have hlen:=congrArg List.length hjd
  rw [List.length_append,List.length_drop] at hlen
  cases us with
  | nil=>
   rw [ay,List.nil_append] at hjd
   have hlr:R.length=l.length - j:=by rw [← hjd,List.length_drop]
   have hlu:(flat u).length+R.length=l.length - i:=by rw [← List.length_append,← hdr,List.length_drop]
   have hup:=dF u
   have hl3:l=l.take i++flat u++R:=by rw [List.append_assoc,← hdr,List.take_append_drop]
   have hsub:NodesR q (.slice (some ⟨b,o+i * 3,none⟩) (flat u).length (flat u).length) (flat u):=by
    have:=yQ (q:=q) (b:=b) (o:=o) (cap:=cap) (c:=(flat u).length) (A:=l.take i) (B:=flat u) (C:=R) (by rw [← hl3];exact hql) hup (Nat.le_refl _)
    rw [List.length_take,Nat.min_eq_left hi] at this
    exact this
   have d2:decide ((0:Int) < (([]:List Tree).length:Int))=false:=rfl
   (apply Ru;refine G.condF rfl rfl ?_;apply Ru)
   refine GO.sliceLHM (l:=i) (h:=j) rfl rfl rfl rfl rfl ⟨rfl,rfl,rfl,by omega,by omega⟩ ?_
   rw [show j - i=(flat u).length by omega]
   refine GO.buildSlice1 rfl rfl (by simp;rfl) rfl ⟨by omega,by omega⟩ fun bs=>?_
   refine GO.appendOwn (m:=1) (news:=[.slice (some ⟨b,o+i * 3,none⟩) (flat u).length (flat u).length]) rfl rfl rfl (Tk.t Tk.h) Tk.h rfl (by simp [Value.oneCell']) ⟨by decide,rfl⟩ Nat.one_pos (by unfold maxLen;omega) (by omega) fun v4=>?_
   (apply Ru;refine sad ?_)
   refine ⟨(k+1,j,vals++[.slice (some ⟨b,o+i * 3,none⟩) (flat u).length (flat u).length],v4),⟨hlt,hj,by dsimp only;rw [hR];exact hjd,hK.snoc hu rfl hsub⟩,by dsimp only;omega,?_,ImpS.sb ?_⟩
   ·exact SE rfl
   ·exact SB
  | cons u' us=>
   rw [ay,du,List.cons_append,List.cons_append] at hjd
   have hjl:l[j]?=some ⟨u'.kind,u'.name,u'.kids.length⟩:=by
    have:=congrArg (·[0]?) hjd
    simpa [List.getElem?_drop] using this
   have hjlt:=(List.getElem?_eq_some_iff.1 hjl).1
   have hjd1:l.drop (j+1)=ay (u'.kids++us)++R:=by
    rw [dg hjl] at hjd
    rw [kC]
    exact (List.cons.injEq _ _ _ _ ▸ hjd).2
   have hlen1:=congrArg List.length hjd1
   have hku:=j8 (u'.kids++us)
   rw [List.length_append] at hlen1 hku
   rw [List.length_drop] at hlen1
   obtain ⟨b',o',cap',e,_,rm⟩:=hrd j _ hjl
   injection e with e _ e2
   injection e with e
   injection e with e e3
   subst e e2 e3
   have r2':Rd q ⟨b,o+j * 3+2,none⟩ (i64 (u'.kids.length:Nat)):=rm 2 _ rfl
   have hcl:(u'::us).length=us.length+1:=rfl
   clear rm
   have d2:decide ((0:Int) < ((u'::us).length:Int))=true:=decide_eq_true (by rw [List.length_cons];omega)
   (apply Ru;refine scT ?_;refine six ?_;refine sld (by assumption) ?_;refine ssu ?_;refine sad ?_;refine sad ?_)
   refine ⟨(j+1,u'.kids++us),⟨hjlt,hjd1⟩,by dsimp only;omega,?_,ImpS.sb ?_⟩
   ·(refine SubE.c rfl rfl ?_;refine SubE.c rfl rfl ?_;refine SubE.c rfl rfl ?_;refine SubE.c rfl rfl ?_;(refine SubE.c rfl ?_ ?_;focus (simp;omega));exact SE rfl)
   ·exact SB
 ·have d1:decide ((k:Int) < (ts.length:Int))=false:=decide_eq_false (by omega)
  obtain rfl:k=ts.length:=by omega
  refine scF ?_
  exact kr1 rfl ⟨vals,hK,rfl⟩
end
section
def aI (l:List (List UInt8)):List Value:=l.map str
theorem qV (l:List (List UInt8)):(aI l).length=l.length * 1:=by simp [aI]
theorem qU (l:List (List UInt8)):∀ u∈aI l,u.oneCell'=true:=fun u hu=>by
 obtain ⟨_,_,rfl⟩:=List.mem_map.1 hu;rfl
theorem qW {l:List (List UInt8)} {i:Nat} {x:List UInt8} (h:l[i]?=some x):(aI l)[i]?=some (str x):=by simp [aI,h]
abbrev dH (q:HP) (v:Value) (l:List (List UInt8)):Prop:=SlK q v l.length 1 (aI l)
def jP (sep:List UInt8):List (List UInt8)→List UInt8
 | []=>[]
 | x::r=>x++r.flatMap fun y=>sep++y
def eU (l:List (List UInt8)):Nat:=(l.map List.length).sum
theorem yo (l:List (List UInt8)) (x:List UInt8):eU (l++[x])=eU l+x.length:=by simp [eU]
theorem nh (sep:List UInt8):∀ r:List (List UInt8),(r.flatMap fun y=>sep++y).length=sep.length * r.length+eU r
 | []=>by simp [eU]
 | y::r=>by
  rw [List.flatMap_cons,List.length_append,List.length_append,nh sep r,List.length_cons,Nat.mul_add,Nat.mul_one]
  simp only [eU,List.map_cons,List.sum_cons]
  omega
theorem mF (sep x:List UInt8) (r:List (List UInt8)):(jP sep (x::r)).length=sep.length * r.length+eU (x::r):=by
 show (x++r.flatMap fun y=>sep++y).length=_
 rw [List.length_append,nh]
 simp only [eU,List.map_cons,List.sum_cons]
 omega
theorem Ao (l k:List (List UInt8)):eU (l++k)=eU l+eU k:=by simp [eU]
theorem yn (l:List (List UInt8)) (k:Nat):eU (l.take k)≤eU l:=by
 have:=Ao (l.take k) (l.drop k)
 rw [List.take_append_drop] at this
 omega
theorem BV {l:List (List UInt8)} (h:∀ x∈l,0 < x.length):l.length≤eU l:=by
 induction l with
 | nil=>simp
 | cons x l ih=>
  have h1:=h x (by simp)
  have h2:=ih fun y hy=>h y (by simp [hy])
  simp only [eU,List.map_cons,List.sum_cons,List.length_cons] at h2 ⊢
  omega
theorem tq (sep:List UInt8) (r:List (List UInt8)) (k:Nat):((r.take k).flatMap fun y=>sep++y).length≤(r.flatMap fun y=>sep++y).length:=by
 have:(r.flatMap fun y=>sep++y)=((r.take k).flatMap fun y=>sep++y)++((r.drop k).flatMap fun y=>sep++y):=by rw [← List.flatMap_append,List.take_append_drop]
 rw [this,List.length_append]
 omega
theorem eX {q:HP} {v:Value} {l:List (List UInt8)} {i:Nat} {x:List UInt8} (hq:dH q v l) (h:l[i]?=some x):∃ b o cap,v=.slice (some ⟨b,o,none⟩) l.length cap∧l.length≤cap∧Rd q ⟨b,o+i * 1,none⟩ (str x):=by
 obtain ⟨a,cap,rfl,hcap,_,hr⟩:=hq
 have hi:=(List.getElem?_eq_some_iff.1 h).1
 obtain ⟨b,o,rfl,hr2⟩:=hr (by omega)
 exact ⟨b,o,cap,rfl,hcap,by rw [Nat.mul_one];exact hr2 _ _ (qW h)⟩
attribute [local irreducible] G GO GR GT Fn FnX FnV FnXV pt init exs pur sat own ImpS eU
theorem ze (q:HP) (v:Value) (sep:List UInt8) (l:List (List UInt8)) (hq:dH q v l) (hne:∀ x∈l,0 < x.length) (hsep:0 < sep.length∨l.length≤1) (hb:¬ 1048576 < (jP sep l).length) :
  Fn Tryz.prog 213 #[v,str sep] [q] (fun r Q=>r=str (jP sep l)∧Q=[q]):=by
 have hrd:∀ i x,l[i]?=some x→_:=fun i x h=>eX hq h
 obtain ⟨a,cap,rfl,hcap,_⟩:=id hq
 refine Fn.mk2 Tryz.func213 rfl rfl fun w0 F=>?_
 match l,hrd,hne,hsep,hb,hcap with
 | [],hrd,hne,hsep,hb,hcap=>
  apply Ru
  exact kr1 rfl ⟨rfl,rfl⟩
 | [x],hrd,hne,hsep,hb,hcap=>
  obtain ⟨b,o,cap2,e,_,r0⟩:=hrd 0 x rfl
  injection e with e _ e2
  subst e e2
  (apply Ru;refine G.condF rfl rfl ?_;apply Ru;refine GO.idxS (j:=0) rfl rfl rfl ⟨rfl,by simp⟩ ?_;refine sld (by assumption) ?_;apply Ru)
  exact kr1 rfl ⟨by simp [jP],rfl⟩
 | x::y::r,hrd,hne,hsep,hb,hcap=>
  have hj:jP sep (x::y::r)=x++(y::r).flatMap fun z=>sep++z:=rfl
  have hjl:=mF sep x (y::r)
  have hft:=fun k=>tq sep (y::r) k
  have hge:=BV hne
  have hx:=hne x (by simp)
  have hR:∀ k,(y::r)[k]?=(x::y::r)[k+1]?:=fun k=>rfl
  have hRl:(y::r).length+1=(x::y::r).length:=rfl
  have hR1:1≤(y::r).length:=by simp
  have h0:(x::y::r)[0]?=some x:=rfl
  have hst:=fun k=>yn (x::y::r) k
  have hsn:∀ k z,(x::y::r)[k]?=some z→eU ((x::y::r).take (k+1))=eU ((x::y::r).take k)+z.length:=fun k z h=>by rw [aG h,yo]
  have htl:(x::y::r).take (x::y::r).length=x::y::r:=List.take_length
  rw [hj] at hjl ⊢
  rw [hj] at hb
  generalize y::r=R at *
  generalize hLe:x::R=L at *
  obtain ⟨b,o,cap2,e,_,r0⟩:=hrd 0 x h0
  injection e with e _ e2
  subst e e2
  rw [hjl] at hb
  have hpl:0 < sep.length:=by rcases hsep with h | h <;> omega
  have hW:∀ k,(x++(R.take k).flatMap fun z=>sep++z).length≤sep.length * R.length+eU L:=fun k=>by
   have:=hft k
   rw [List.length_append] at hjl ⊢
   omega
  have hmul:(sep.length:Int) * ((L.length:Int) - 1)=((sep.length * R.length:Nat):Int):=by
   rw [Int.natCast_mul];congr 1;omega
  have hquo:¬ (9223372036854775807 / ((L.length:Int) - 1)≤(sep.length:Int)):=by
   have h1:((sep.length:Int)+1) * ((L.length:Int) - 1)≤9223372036854775807:=by
    rw [Int.add_mul,hmul];omega
   have:=Int.le_ediv_of_mul_le (show (0:Int) < (L.length:Int) - 1 by omega) h1
   omega
  generalize hP:sep.length * R.length=p at *
  have hsl:sep.length≤p:=by
   rw [← hP];exact Nat.le_mul_of_pos_right _ hR1
  have d0:decide ((L.length:Int)=0)=false:=decide_eq_false (by omega)
  have d1:decide ((L.length:Int)=1)=false:=decide_eq_false (by omega)
  have d2:decide ((0:Int) < (sep.length:Int))=true:=decide_eq_true (by omega)
  have d3:decide (9223372036854775807 / ((L.length:Int) - 1)≤(sep.length:Int))=false:=decide_eq_false hquo
  (apply Ru;refine scF ?_;refine scF ?_;refine scT ?_;refine ssu ?_;refine GO.quoi rfl rfl rfl (by omega) ?_;apply Ru;refine scF ?_;refine ssu ?_;refine GO.muli rfl rfl rfl (by omega) ?_;refine sad ?_)
  refine G.loopI (σ:=Nat) (fun k=>[(0,.slice (some ⟨b,o,none⟩) L.length cap),(1,str sep),(5,i64 ((p+eU (L.take k):Nat):Int)),(39,.slice (some ⟨b,o,none⟩) L.length cap),(40,i64 (L.length:Nat)),(41,i64 (k:Nat))]) (fun _=>q::F) (fun k=>k≤L.length) (fun k=>L.length - k) 0 (Nat.zero_le _) ?_ ?_ ?_
  ·rw [List.take_zero,show eU []=0 by unfold eU;rfl]
   (refine SubE.c rfl rfl ?_;refine SubE.c rfl rfl ?_;(refine SubE.c rfl ?_ ?_;focus (simp;omega));exact SE rfl)
  ·exact ImpS.sb SB
  intro k hk
  apply Ru
  by_cases hlt:k < L.length
  ·have d4:decide ((k:Int) < (L.length:Int))=true:=decide_eq_true (by omega)
   obtain ⟨z,hz⟩:∃ z,L[k]?=some z:=⟨_,List.getElem?_eq_getElem hlt⟩
   obtain ⟨b',o',cap',e,_,rz⟩:=hrd k z hz
   injection e with e _ e2
   injection e with e
   injection e with e e3
   subst e e2 e3
   have hs1:=hsn k z hz
   have hs2:=hst (k+1)
   rw [hs1] at hs2
   generalize eU (L.take k)=sk at *
   have d5:decide (9223372036854775807 - ((p+sk:Nat):Int) < (z.length:Int))=false:=decide_eq_false (by omega)
   (refine scT ?_;refine six ?_;refine sld (by assumption) ?_;apply Ru;refine ssu ?_;refine scF ?_;refine sad ?_;refine sad ?_)
   refine ⟨k+1,hlt,by omega,?_,ImpS.sb ?_⟩
   ·rw [hs1]
    (refine SubE.c rfl rfl ?_;refine SubE.c rfl rfl ?_;(refine SubE.c rfl ?_ ?_;focus (simp;omega));exact SE rfl)
   ·exact SB
  ·have d4:decide ((k:Int) < (L.length:Int))=false:=decide_eq_false (by omega)
   obtain rfl:k=L.length:=by omega
   rw [htl]
   (refine scF ?_;refine sal fun b8=>?_;apply Ru)
   refine scl (xj b8 (p+eU L) (by omega) (by omega)) ?_
   rintro _ _ ⟨v8,rfl⟩
   have hL0:0 < L.length:=by omega
   have hw0:¬ 140737488355328 < ([]:List UInt8).length+x.length:=by
    rw [List.length_append] at hjl
    show ¬ 140737488355328 < 0+x.length
    omega
   (apply Ru;refine six ?_;refine sld (by assumption) ?_)
   refine scl (hG b8 (ah b8) v8 (.inr rfl) [] x hx hw0) ?_
   rintro _ _ ⟨rfl,v9,rfl⟩
   rw [List.nil_append]
   apply Ru
   refine GO.sliceLo (l:=1) rfl rfl rfl ⟨rfl,by omega,by omega⟩ ?_
   apply Ru
   refine G.loopI (σ:=Nat × Value) (fun z=>[(0,.slice (some ⟨b,o,none⟩) L.length cap),(1,str sep),(8,ah b8),(63,.slice (some ⟨b,o+1 * 1,none⟩) (L.length - 1) (cap - 1)),(64,i64 ((L.length - 1:Nat):Int)),(65,i64 (z.1:Nat))]) (fun z=>iJ b8 (ah b8) z.2::xg z.2 (x++(R.take z.1).flatMap fun y=>sep++y)::q::F) (fun z=>z.1≤R.length) (fun z=>R.length - z.1) (0,v9) (Nat.zero_le _) ?_ ?_ ?_
   ·exact SE rfl
   ·rw [List.take_zero,List.flatMap_nil,List.append_nil]
    exact ImpS.sb SB
   rintro ⟨k,v10⟩ hk
   dsimp only at hk ⊢
   apply Ru
   by_cases hlt:k < R.length
   ·have d4:decide ((k:Int) < ((L.length - 1:Nat):Int))=true:=decide_eq_true (by omega)
    obtain ⟨z,hz⟩:∃ z,R[k]?=some z:=⟨_,List.getElem?_eq_getElem hlt⟩
    have hz1:=hz
    rw [hR] at hz1
    obtain ⟨b',o',cap',e,_,rz⟩:=hrd (k+1) z hz1
    injection e with e _ e2
    injection e with e
    injection e with e e3
    subst e e2 e3
    rw [show o+(k+1) * 1=o+1 * 1+k * 1 by omega] at rz
    have hzp:0 < z.length:=hne z (List.mem_of_getElem? hz1)
    have hw1:=hW (k+1)
    rw [aG hz,List.flatMap_append,List.flatMap_cons,List.flatMap_nil,List.append_nil,← List.append_assoc,← List.append_assoc] at hw1
    have hW2:(x++(R.take (k+1)).flatMap fun y=>sep++y)=(x++(R.take k).flatMap fun y=>sep++y)++sep++z:=by
     rw [aG hz,List.flatMap_append,List.flatMap_cons,List.flatMap_nil,List.append_nil];simp only [List.append_assoc]
    generalize (x++(R.take k).flatMap fun y=>sep++y)=wk at *
    rw [List.length_append,List.length_append] at hw1
    (refine scT ?_;refine six ?_;refine sld (by assumption) ?_;apply Ru)
    refine scl (hG b8 (ah b8) v10 (.inr rfl) wk sep hpl (by omega)) ?_
    rintro _ _ ⟨rfl,v11,rfl⟩
    apply Ru
    refine scl (hG b8 (ah b8) v11 (.inr rfl) (wk++sep) z hzp (by rw [List.length_append];omega)) ?_
    rintro _ _ ⟨rfl,v12,rfl⟩
    (apply Ru;refine sad ?_)
    refine ⟨(k+1,v12),hlt,by dsimp only;omega,?_,?_⟩
    ·exact SE rfl
    ·dsimp only
     rw [hW2]
     exact ImpS.sb SB
   ·have d4:decide ((k:Int) < ((L.length - 1:Nat):Int))=false:=decide_eq_false (by omega)
    obtain rfl:k=R.length:=by omega
    rw [List.take_length]
    have hn0:x++R.flatMap (fun y=>sep++y)≠[]:=by
     intro h
     have:=congrArg List.length h
     rw [List.length_append,List.length_nil] at this
     omega
    refine scF ?_
    refine scl (sw b8 (ah b8) v10 (x++R.flatMap fun y=>sep++y) hn0) ?_
    rintro _ _ ⟨rfl,rfl⟩
    apply Ru
    exact kr1 rfl ⟨rfl,rfl⟩
end
end Go.Proofs.YtkeialpeabhaaaaGreat
