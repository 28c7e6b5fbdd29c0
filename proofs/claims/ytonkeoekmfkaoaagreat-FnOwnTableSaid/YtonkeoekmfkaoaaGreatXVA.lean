import Derived.WalkKit
import Derived.OrdersHeld
import Derived.LoopN
import Derived.Laws.BytesString
import Derived.Deep.Slices
import Derived.ProofKit
import Derived.OpenShut
import Derived.ShutString
import Derived.ChangeOld
import Derived.Below
import Derived.Carry
set_option linter.unusedVariables false
set_option linter.unusedSimpArgs false
set_option linter.unusedSectionVars false
set_option linter.constructorNameAsVariable false
set_option linter.unnecessarySimpa false
noncomputable section
namespace Go.Gv
variable{fs:Array Field}{c:Bool}{l q:List UInt8}{c2 cc vs:List Value}{d i id j k m n:Nat}{x:Operand}{P:Program}{p:Prop}{O ρ σ:Type}{ds:TypeDesc}{t t':TypeId}{s z zv:Value}{w w':World}
theorem aa(h:p:=by omega):p:=h
theorem ae(h:p:=by simp):p:=h
theorem ah(h:p:=by simp;omega):p:=h
theorem ai(h:p:=by decide):p:=h
theorem aj(h:p:=by grind):p:=h
theorem ak(h:p:=by rfl):p:=h
theorem aH{J:Type}(a:O)(f:O->Option J):(some a).bind f=f a:=rfl
theorem bR:(false=true)=False:=ae
theorem bY[inst:Decidable p](h:p):decide p=true:=by simp[h]
theorem dU[inst:Decidable p](h:¬p):decide p=false:=by simp[h]
theorem hU:(!true)=false:=rfl
theorem I0:(!false)=true:=rfl
theorem aM:type_of% @if_pos:=@if_pos
theorem aO:type_of% @if_neg:=@if_neg
theorem bN:type_of% @if_false:=@if_false
theorem bV:type_of% @if_true:=@if_true
theorem dA:type_of% @congrArg:=@congrArg
theorem FX:type_of% @Bool.and_eq_true:=@Bool.and_eq_true
theorem K7:type_of% @Bool.eq_iff_iff:=@Bool.eq_iff_iff
theorem a89:type_of% @Int.eq_ofNat_of_zero_le:=@Int.eq_ofNat_of_zero_le
theorem aP3:type_of% @Int.le_refl:=@Int.le_refl
theorem F8:type_of% @Int.toNat_natCast:=@Int.toNat_natCast
theorem aP4:type_of% @List.all_cons:=@List.all_cons
theorem aP5:type_of% @List.all_eq_true:=@List.all_eq_true
theorem NG:type_of% @List.append_assoc:=@List.append_assoc
theorem uA:type_of% @List.append_nil:=@List.append_nil
theorem aBH:type_of% @List.cons_append:=@List.cons_append
theorem FE:type_of% @List.drop_eq_getElem_cons:=@List.drop_eq_getElem_cons
theorem TU:type_of% @List.drop_zero:=@List.drop_zero
theorem xL:type_of% @List.eq_nil_of_length_eq_zero:=@List.eq_nil_of_length_eq_zero
theorem aBI:type_of% @List.ext_getElem?:=@List.ext_getElem?
theorem TW:type_of% @List.getD_eq_getElem?_getD:=@List.getD_eq_getElem?_getD
theorem aHQ:type_of% @List.getElem?_append:=@List.getElem?_append
theorem aRX:type_of% @List.getElem?_append_right:=@List.getElem?_append_right
theorem lH:type_of% @List.getElem?_eq_getElem:=@List.getElem?_eq_getElem
theorem I6:type_of% @List.getElem?_eq_some_iff:=@List.getElem?_eq_some_iff
theorem CH:type_of% @List.getElem?_map:=@List.getElem?_map
theorem aHR:type_of% @List.getElem?_of_mem:=@List.getElem?_of_mem
theorem aHS:type_of% @List.getElem?_take:=@List.getElem?_take
theorem cK:type_of% @List.getElem_mem:=@List.getElem_mem
theorem aDL:type_of% @List.getElem_of_mem:=@List.getElem_of_mem
theorem K8:type_of% @List.length_append:=@List.length_append
theorem aDM:type_of% @List.length_cons:=@List.length_cons
theorem aHT:type_of% @List.length_drop:=@List.length_drop
theorem cB:type_of% @List.length_set:=@List.length_set
theorem aDN:type_of% @List.length_take:=@List.length_take
theorem BR:type_of% @List.map_append:=@List.map_append
theorem aBJ:type_of% @List.map_cons:=@List.map_cons
theorem MX:type_of% @List.map_set:=@List.map_set
theorem iO:type_of% @List.mem_append:=@List.mem_append
theorem vJ:type_of% @List.mem_cons:=@List.mem_cons
theorem BS:type_of% @List.mem_cons_of_mem:=@List.mem_cons_of_mem
theorem aHU:type_of% @List.mem_flatMap:=@List.mem_flatMap
theorem aBK:type_of% @List.mem_iff_getElem:=@List.mem_iff_getElem
theorem K9:type_of% @List.mem_of_getElem?:=@List.mem_of_getElem?
theorem aLW:type_of% @List.mem_of_mem_drop:=@List.mem_of_mem_drop
theorem rV:type_of% @List.mem_or_eq_of_mem_set:=@List.mem_or_eq_of_mem_set
theorem aRY:type_of% @List.nil_append:=@List.nil_append
theorem a4G:type_of% @List.not_mem_nil:=@List.not_mem_nil
theorem aZ7:type_of% @List.pairwise_cons:=@List.pairwise_cons
theorem aRZ:type_of% @List.set_getElem_self:=@List.set_getElem_self
theorem aR0:type_of% @List.set_set:=@List.set_set
theorem aLX:type_of% @List.take_append_drop:=@List.take_append_drop
theorem aHV:type_of% @List.take_of_length_le:=@List.take_of_length_le
theorem O0:type_of% @List.take_succ_eq_append_getElem:=@List.take_succ_eq_append_getElem
theorem YI:type_of% @Nat.add_assoc:=@Nat.add_assoc
theorem nK:type_of% @Nat.add_mul:=@Nat.add_mul
theorem aBL:type_of% @Nat.add_zero:=@Nat.add_zero
theorem yI:type_of% @Nat.blt_eq:=@Nat.blt_eq
theorem pM:type_of% @Nat.eq_of_beq_eq_true:=@Nat.eq_of_beq_eq_true
theorem TX:type_of% @Nat.le_of_ble_eq_true:=@Nat.le_of_ble_eq_true
theorem WS:type_of% @Nat.le_of_eq:=@Nat.le_of_eq
theorem kY:type_of% @Nat.le_refl:=@Nat.le_refl
theorem xM:type_of% @Nat.le_trans:=@Nat.le_trans
theorem O1:type_of% @Nat.lt_of_lt_of_le:=@Nat.lt_of_lt_of_le
theorem vK:type_of% @Nat.mul_le_mul_right:=@Nat.mul_le_mul_right
theorem aBM:type_of% @Nat.zero_add:=@Nat.zero_add
theorem lX:type_of% @Nat.zero_le:=@Nat.zero_le
theorem aLY:type_of% @Option.isSome_iff_exists:=@Option.isSome_iff_exists
abbrev cV:=Nat->Nat->Prop
def cV.F9(F G:cV):Prop:=∀b o,F b o->G b o->False
variable{F:cV}
def F0:cV:=λ_ _=>False
theorem cV.a14{G:cV}(h:F.F9 G):G.F9 F:=λb o hg hf=>h b o hf hg
structure eJ (F:cV) (w w':World):Prop where
 os:w'.os=w.os
 tape:w'.tape=w.tape
 output:w'.output=w.output
 size:w.heap.size<=w'.heap.size
 block:∀b,b<w.heap.size->(∀o,¬F b o)->w'.heap[b]?=w.heap[b]?
 cell:∀b o,b<w.heap.size->¬F b o->w'.cell? ⟨b,o,none⟩=w.cell? ⟨b,o,none⟩
 AR:∀b o,b<w.heap.size->w'.frozen? ⟨b,o,none⟩=w.frozen? ⟨b,o,none⟩
 stay:∀b o,(w.cell? ⟨b,o,none⟩).isSome=true->(w'.cell? ⟨b,o,none⟩).isSome=true
theorem jT{b o:Nat}(h:(w.cell? ⟨b,o,none⟩).isSome=true):b<w.heap.size:=by obtain⟨v,hv⟩:=aLY.1 h;exact World.block_lt_of_cell? w ⟨b,o,none⟩ hv
theorem eJ.refl(F:cV)(w:World):eJ F w w:=⟨rfl,rfl,rfl,kY _,λ_ _ _=>rfl,λ_ _ _ _=>rfl,λ_ _ _=>rfl,λ_ _ h=>h⟩
theorem eJ.mono{G:cV}(h:eJ F w w')(hs:∀b o,b<w.heap.size->F b o->G b o):eJ G w w':=
 ⟨h.os,h.tape,h.output,h.size,λb hb hg=>h.block b hb λo hf=>hg o (hs b o hb hf),λb o hb hg=>h.cell b o hb λhf=>hg (hs b o hb hf),h.AR,h.stay⟩
theorem eJ.trans{G:cV}{w1 w2:World}(h:eJ F w w1)(k:eJ G w1 w2)(hs:∀b o,b<w.heap.size->G b o->F b o):eJ F w w2:=
  ⟨k.os.trans h.os,k.tape.trans h.tape,k.output.trans h.output,xM h.size k.size,
   λb hb hf=>(k.block b (O1 hb h.size) λo hg=>hf o (hs b o hb hg)).trans (h.block b hb hf),
   λb o hb hf=>(k.cell b o (O1 hb h.size) λhg=>hf (hs b o hb hg)).trans (h.cell b o hb hf),
   λb o hb=>(k.AR b o (O1 hb h.size)).trans (h.AR b o hb),λb o hc=>k.stay b o (h.stay b o hc)⟩
theorem eJ.drew(F:cV)(w:World):eJ F w w.drew:=⟨rfl,rfl,rfl,kY _,λ_ _ _=>rfl,λ_ _ _ _=>rfl,λ_ _ _=>rfl,λ_ _ h=>h⟩
theorem eJ.alloc(F:cV)(w:World)(ob:Obj):eJ F w (w.alloc ob):=by
 have hb:∀b,b<w.heap.size->(w.alloc ob).heap[b]?=w.heap[b]?:=λb hb=>by grind[heap_alloc_old]
 have hc:∀b o,b<w.heap.size->(w.alloc ob).cell? ⟨b,o,none⟩=w.cell? ⟨b,o,none⟩:=λb o h=>World.cell?_of_block (hb b h);exact⟨rfl,rfl,rfl,ae,λb h _=>hb b h,λb o h _=>hc b o h,λb o h=>World.frozen?_of_block (hb b h),
  λb o h=>by grind[jT]⟩
theorem eJ.setCell(F:cV)(w:World)(a:Addr)(v:Value)(hf:F a.block a.off)(ha:a.spot=none):eJ F w (w.setCell a v):=by
 have hsz:(w.setCell a v).heap.size=w.heap.size:=ae
 refine⟨rfl,rfl,rfl,ae,λb _ hn=>?_,λb o _ hn=>?_,λb o _=>ae,λb o h=>?_⟩
 ·exact heap_setCell_other w a b v (λe=>hn a.off (e ▸ hf))
 ·refine World.cell?_setCell_other (h:=λe=>hn ?_) ..;rw[e] at hf;exact hf
 ·by_cases e:a=⟨b,o,none⟩
  ·subst e;obtain⟨u,hu⟩:=aLY.1 h;rw[World.cell?_setCell_same (h:=hu)];rfl
  ·rw[World.cell?_setCell_other (h:=e)];exact h
def bL(w:World)(b off:Nat)(cs:List Value):Prop:=∀j v,cs[j]?=some v->w.cell? ⟨b,off+j,none⟩=some v
class aL (O:Type) where
 n:Nat
 rd:cV->World->List Value->O->Prop
 own:World->List Value->O->cV->Prop
 mB:∀{S w cs d},rd S w cs d->cs.length=n
 rd_one:∀{S w cs d},rd S w cs d->∀v∈cs,v.oneCell'=true
 rd_agree:∀{S w w' cs d},rd S w cs d->(∀b o,S b o->w'.cell? ⟨b,o,none⟩=w.cell? ⟨b,o,none⟩)->rd S w' cs d
 rd_mono:∀{S S' w cs d},rd S w cs d->(∀b o,S b o->S' b o)->rd S' w cs d
 own_rd:∀{w cs d F},own w cs d F->rd F w cs d
 own_keep:∀{w w' cs d F G},own w cs d F->eJ G w w'->F.F9 G->own w' cs d F
 own_lt:∀{w cs d F b o},own w cs d F->F b o->b<w.heap.size
@[reducible] def aL.flat {O : Type} (f : O -> Value) (hf : ∀ x, (f x).oneCell' = true) : aL O where
 n:=1
 rd:=λ_ _ cs x=>cs=[f x]
 own:=λ_ cs x F=>cs=[f x]/\∀b o,¬F b o
 mB:=λh=>by simp[h]
 rd_one:=λh v hv=>aj
 rd_agree:=λh _=>h
 rd_mono:=λh _=>h
 own_rd:=λh=>h.1
 own_keep:=λh _ _=>h
 own_lt:=λh hf=>(h.2 _ _ hf).elim
instance:aL Int:=aL.flat (λx=>.int .i64 x) λ_=>rfl
instance:aL Bool:=aL.flat (λx=>.bool x) λ_=>rfl
instance:aL UInt8:=aL.flat (λx=>.int .u8 (x.toNat:Int)) λ_=>rfl
structure bCS where
 b:List UInt8
 deriving DecidableEq,Inhabited
instance:aL bCS:=aL.flat (λx=>.string ⟨x.b.toArray⟩) λ_=>rfl
instance {O J:Type} [aL O] [aL J]:aL (O×J) where
 n:=aL.n O+aL.n J
 rd:=λS w cs d=>∃c1 c2,cs=c1++c2/\aL.rd S w c1 d.1/\aL.rd S w c2 d.2
 own:=λw cs d F=>∃c1 c2 F1 F2,cs=c1++c2/\aL.own w c1 d.1 F1/\aL.own w c2 d.2 F2/\cV.F9 F1 F2/\∀b o,F b o↔F1 b o\/F2 b o
 mB:=by grind[aL.mB]
 rd_one:=by grind[aL.rd_one]
 rd_agree:=by grind[aL.rd_agree]
 rd_mono:=by grind[aL.rd_mono]
 own_rd:=by rintro w cs d F ⟨c1,c2,F1,F2,rfl,h1,h2,_,hF⟩;exact⟨c1,c2,rfl,aL.rd_mono (aL.own_rd h1) λb o h=>(hF b o).2 (.inl h),aL.rd_mono (aL.own_rd h2) λb o h=>(hF b o).2 (.inr h)⟩
 own_keep:=by rintro w w' cs d F G ⟨c1,c2,F1,F2,rfl,h1,h2,hd,hF⟩ hk hdj;exact⟨c1,c2,F1,F2,rfl,aL.own_keep h1 hk λb o h g=>hdj b o ((hF b o).2 (.inl h)) g,aL.own_keep h2 hk λb o h g=>hdj b o ((hF b o).2 (.inr h)) g,hd,hF⟩
 own_lt:=by
  rintro w cs d F b o ⟨c1,c2,F1,F2,rfl,h1,h2,hd,hF⟩ hf;rcases(hF b o).1 hf with h|h
  ·exact aL.own_lt h1 h
  ·exact aL.own_lt h2 h
@[reducible] def aL.via {σ τ : Type} [aL τ] (f : σ -> τ) : aL σ where
 n:=aL.n τ
 rd:=λS w cs d=>aL.rd S w cs (f d)
 own:=λw cs d F=>aL.own w cs (f d) F
 mB:=λh=>aL.mB h
 rd_one:=λh=>aL.rd_one h
 rd_agree:=λh ha=>aL.rd_agree h ha
 rd_mono:=λh ha=>aL.rd_mono h ha
 own_rd:=λh=>aL.own_rd h
 own_keep:=λh hk hd=>aL.own_keep h hk hd
 own_lt:=λh hf=>aL.own_lt h hf
theorem bL.agree{b off:Nat}{cs:List Value}(h:bL w b off cs)(ha:∀o,off<=o->o<off+cs.length->w'.cell? ⟨b,o,none⟩=w.cell? ⟨b,o,none⟩):bL w' b off cs:=by intro j v hj;have hlt:=(I6.1 hj).1;rw[ha _ aa aa];exact h j v hj
theorem bL.lt{b off:Nat}{cs:List Value}(h:bL w b off cs)(hc:cs≠[]):b<w.heap.size:=by
 cases cs with
 |nil=>grind
 |cons v r=>exact World.block_lt_of_cell? w ⟨b,off+0,none⟩ (h 0 v rfl)
def eK(b off n:Nat):cV:=λb' o=>b'=b/\off<=o/\o<off+n
def AS{O:Type}[aL O](S:cV)(w:World)(cs:List Value)(l:List O):Prop:=
 ∃a c,cs=[.slice a l.length c]/\l.length<=c/\c<=maxLen /\
  (l=[]\/∃b off,a=some ⟨b,off,none⟩/\∀i (h:i<l.length),∃ec,bL w b (off+i*aL.n O) ec/\(∀o,eK b (off+i*aL.n O) ec.length b o->S b o)/\aL.rd S w ec l[i])
def LA{O:Type}[aL O](w:World)(cs:List Value)(l:List O)(F:cV):Prop:=
  ∃a c,cs=[.slice a l.length c]/\l.length<=c/\c<=maxLen /\
    ((a = none /\ c = 0 /\ ∀ b o,¬ F b o) \/
     ∃b off,∃Fs:Nat->cV,a=some ⟨b,off,none⟩/\(∀o,eK b off (c*aL.n O) b o->(w.cell? ⟨b,o,none⟩).isSome=true/\w.frozen? ⟨b,o,none⟩=false) /\
       (∀i (h:i<l.length),∃ec,bL w b (off+i*aL.n O) ec/\aL.own w ec l[i] (Fs i)) /\
       (∀i j,i<l.length->j<l.length->i≠j->cV.F9 (Fs i) (Fs j))/\(∀i,i<l.length->cV.F9 (Fs i) (eK b off (c*aL.n O))) /\
       ∀b' o,F b' o↔eK b off (c*aL.n O) b' o\/∃i,i<l.length/\Fs i b' o)
theorem bBX{len c:Nat}(hi:i<len)(hc:len<=c)(hj:j<n):i*n+j<c*n:=by have:(i+1)*n<=c*n:=vK n aa;grind
instance bBY {O:Type} [aL O]:aL (List O) where
 n:=1
 rd:=AS
 own:=LA
 mB:=by rintro S w cs d ⟨a,c,rfl,_⟩;rfl
 rd_one:=by rintro S w cs d ⟨a,c,rfl,_⟩ v hv;simp at hv;subst hv;rfl
 rd_agree:=by
  rintro S w w' cs l ⟨a,c,rfl,h1,h2,h3⟩ ha;refine⟨a,c,rfl,h1,h2,?_⟩;rcases h3 with h|⟨b,off,rfl,h⟩
  ·exact .inl h
  ·refine .inr ⟨b,off,rfl,λi hi=>?_⟩;obtain⟨ec,hc,hr,hd⟩:=h i hi;exact⟨ec,hc.agree λo a1 a2=>ha b o (hr o ⟨rfl,a1,a2⟩),hr,aL.rd_agree hd ha⟩
 rd_mono:=by rintro S S' w cs l ⟨a,c,rfl,h1,h2,h3⟩ ha;refine⟨a,c,rfl,h1,h2,?_⟩;grind[aL.rd_mono]
 own_rd:=by
  rintro w cs l F ⟨a,c,rfl,h1,h2,h3⟩;refine⟨a,c,rfl,h1,h2,?_⟩;rcases h3 with ⟨rfl,hc,_⟩|⟨b,off,Fs,rfl,hrow,hel,_,_,hF⟩
  ·simp_all
  ·refine .inr ⟨b,off,rfl,λi hi=>?_⟩;obtain⟨ec,hc,ho⟩:=hel i hi;refine⟨ec,hc,λo h4=>(hF b o).2 (.inl ⟨rfl,?_,?_⟩),aL.rd_mono (aL.own_rd ho) λb' o hf=>(hF b' o).2 (.inr ⟨i,hi,hf⟩)⟩
   ·have:=h4.2.1;omega
   ·have hl:=aL.mB (aL.own_rd ho);obtain⟨_,h5,h6⟩:=h4;rw[hl] at h6;have:=bBX (j:=o-(off+i*aL.n O)) (n:=aL.n O) hi h1 aa;omega
 own_keep:=by
  rintro w w' cs l F G ⟨a,c,rfl,h1,h2,h3⟩ hk hd;refine⟨a,c,rfl,h1,h2,?_⟩;rcases h3 with h|⟨b,off,Fs,rfl,hrow,hel,h4,h5,hF⟩
  ·exact .inl h
  ·refine .inr ⟨b,off,Fs,rfl,λo ho=>?_,λi hi=>?_,h4,h5,hF⟩
   ·have hs:=hrow o ho;exact⟨hk.stay b o hs.1,(hk.AR b o (jT hs.1)).trans hs.2⟩
   ·obtain⟨ec,hc,ho⟩:=hel i hi;refine⟨ec,hc.agree λo h6 h7=>?_,aL.own_keep ho hk λb' o hf hg=>hd b' o ((hF b' o).2 (.inr ⟨i,hi,hf⟩)) hg⟩;have hin:eK b off (c*aL.n O) b o:=by refine⟨rfl,aa,?_⟩;have hl:=aL.mB (aL.own_rd ho);rw[hl] at h7;have:=bBX (j:=o-(off+i*aL.n O)) (n:=aL.n O) hi h1 aa;omega
    exact hk.cell b o (jT (hrow o hin).1) λhg=>hd b o ((hF b o).2 (.inl hin)) hg
 own_lt:=by
  rintro w cs l F b' o ⟨a,c,rfl,h1,h2,h3⟩ hf;rcases h3 with ⟨_,_,h⟩|⟨b,off,Fs,rfl,hrow,hel,h4,h5,hF⟩
  ·grind
  ·rcases(hF b' o).1 hf with h|⟨i,hi,h⟩
   ·have e:b'=b:=h.1;subst e;exact jT (hrow o h).1
   ·obtain⟨ec,hc,ho⟩:=hel i hi;exact aL.own_lt ho h
structure Chunk where
 P:World->cV->Prop
 keep:∀{w w' F G},P w F->eJ G w w'->F.F9 G->P w' F
 lt:∀{w F b o},P w F->F b o->b<w.heap.size
variable{ch:Chunk}{A A' B:List Chunk}
def NH:Chunk:=⟨λ_ F=>∀b o,¬F b o,λh _ _=>h,λh hf=>(h _ _ hf).elim⟩
def YG(b off:Nat)(cs:List Value):Chunk where
 P:=λw F=>bL w b off cs/\(∀o,eK b off cs.length b o->w.frozen? ⟨b,o,none⟩=false)/\∀b' o,F b' o↔eK b off cs.length b' o
 keep:=by
  rintro w w' F G ⟨h1,h2,hF⟩ hk hd;have hlt:∀o,eK b off cs.length b o->b<w.heap.size:=λo ho=>by obtain⟨_,h3,h4⟩:=ho;exact World.block_lt_of_cell? w _ (h1 (o-off) cs[o-off] (lH aa))
  refine⟨h1.agree λo h3 h4=>?_,λo ho=>(hk.AR b o (hlt o ho)).trans (h2 o ho),hF⟩;have hin:eK b off cs.length b o:=⟨rfl,h3,h4⟩;exact hk.cell b o (hlt o hin) λhg=>hd b o ((hF b o).2 hin) hg
 lt:=by rintro w F b' o ⟨h1,h2,hF⟩ hf;obtain⟨rfl,h3,h4⟩:=(hF b' o).1 hf;exact World.block_lt_of_cell? w _ (h1 (o-off) cs[o-off] (lH aa))
def fK{O:Type}[aL O](cs:List Value)(d:O):Chunk:=⟨λw F=>aL.own w cs d F,λh hk hd=>aL.own_keep h hk hd,λh hf=>aL.own_lt h hf⟩
def Sep(w:World):List Chunk->cV->Prop
 |[],F=>∀b o,¬F b o
 |c::L,F=>∃F1 F2,c.P w F1/\Sep w L F2/\F1.F9 F2/\∀b o,F b o↔F1 b o\/F2 b o
theorem Sep.keep{w w':World}{G:cV}(hk:eJ G w w'):∀{L:List Chunk} {F:cV},Sep w L F->F.F9 G->Sep w' L F
 |[],_,h,_=>h
 |c::_,_,⟨F1,F2,h1,h2,hd,hF⟩,hdj=>
  ⟨F1,F2,c.keep h1 hk λb o h g=>hdj b o ((hF b o).2 (.inl h)) g,Sep.keep hk h2 λb o h g=>hdj b o ((hF b o).2 (.inr h)) g,hd,hF⟩
theorem Sep.lt{w:World}:∀{L:List Chunk} {F:cV} {b o:Nat},Sep w L F->F b o->b<w.heap.size
 |[],_,_,_,h,hf=>(h _ _ hf).elim
 |c::L,F,b,o,⟨F1,F2,h1,h2,hd,hF⟩,hf=>by
  rcases(hF b o).1 hf with h|h
  ·exact c.lt h1 h
  ·exact Sep.lt h2 h
theorem Sep.congr{L:List Chunk}{G:cV}(h:Sep w L F)(hFG:∀b o,F b o↔G b o):Sep w L G:=by
 have:F=G:=aj
 grind
theorem Sep.append{w:World}:∀{A B:List Chunk} {F:cV},Sep w (A++B) F↔∃F1 F2,Sep w A F1/\Sep w B F2/\F1.F9 F2/\∀b o,F b o↔F1 b o\/F2 b o
 |[],B,F=>by
  constructor
  ·intro h;exact⟨F0,F,λ_ _ h=>h,h,λ_ _ h _=>h,λb o=>by simp[F0]⟩
  ·rintro⟨F1,F2,h1,h2,_,hF⟩;exact Sep.congr h2 λb o=>by rw[hF];exact⟨.inr,λh=>h.elim (λh=>(h1 _ _ h).elim) id⟩
 |c::A,B,F=>by
  constructor
  ·rintro⟨F1,F2,h1,h2,hd,hF⟩;obtain⟨G1,G2,g1,g2,gd,hG⟩:=Sep.append.1 h2;exact⟨λb o=>F1 b o\/G1 b o,G2,⟨F1,G1,h1,g1,λb o h g=>hd b o h ((hG b o).2 (.inl g)),λ_ _=>Iff.rfl⟩,g2,
    λb o h g=>h.elim (λh=>hd b o h ((hG b o).2 (.inr g))) (λh=>gd b o h g),λb o=>aj⟩
  ·rintro⟨F1,F2,⟨G1,G2,g1,g2,gd,hG⟩,h2,hd,hF⟩;exact⟨G1,λb o=>G2 b o\/F2 b o,g1,Sep.append.2 ⟨G2,F2,g2,h2,λb o h g=>hd b o ((hG b o).2 (.inr h)) g,λ_ _=>Iff.rfl⟩,
    λb o h g=>g.elim (λg=>gd b o h g) (λg=>hd b o ((hG b o).2 (.inl h)) g),λb o=>aj⟩
theorem Sep.swap(h:Sep w (A++B) F):Sep w (B++A) F:=by obtain⟨F1,F2,h1,h2,hd,hF⟩:=Sep.append.1 h;exact Sep.append.2 ⟨F2,F1,h2,h1,cV.a14 hd,λb o=>aj⟩
theorem Sep.take{w:World}{c:Chunk}:∀{L:List Chunk} {i:Nat} {F:cV},L[i]?=some c->(Sep w L F↔Sep w (c::L.set i NH) F)
 |[],i,F,h=>by simp at h
 |d::L,0,F,h=>by
  simp at h;subst h;show(∃F1 F2,_)↔∃F1 F2,d.P w F1/\(∃G1 G2,NH.P w G1/\Sep w L G2/\G1.F9 G2/\_)/\_;constructor
  ·rintro⟨F1,F2,h1,h2,hd,hF⟩;exact⟨F1,F2,h1,⟨F0,F2,λ_ _ h=>h,h2,λ_ _ h _=>h,λb o=>by simp[F0]⟩,hd,hF⟩
  ·rintro⟨F1,F2,h1,⟨G1,G2,g1,g2,_,hG⟩,hd,hF⟩;exact⟨F1,G2,h1,g2,λb o h g=>hd b o h ((hG b o).2 (.inr g)),λb o=>by
    rw[hF,hG];constructor
    ·rintro(h|h|h)
     ·exact .inl h
     ·exact(g1 _ _ h).elim
     grind
    grind⟩
 |d::L,i + 1,F,h=>by
  have h':L[i]?=some c:=aj
  show(∃F1 F2,d.P w F1/\Sep w L F2/\_)↔Sep w (c::d::L.set i NH) F;have step:∀G,Sep w L G↔Sep w (c::L.set i NH) G:=λG=>Sep.take h';constructor
  ·rintro⟨F1,F2,h1,h2,hd,hF⟩;obtain⟨G1,G2,g1,g2,gd,hG⟩:=(step F2).1 h2;exact⟨G1,λb o=>F1 b o\/G2 b o,g1,⟨F1,G2,h1,g2,λb o h g=>hd b o h ((hG b o).2 (.inr g)),λ_ _=>Iff.rfl⟩,
    λb o g h=>h.elim (λh=>hd b o h ((hG b o).2 (.inl g))) (λh=>gd b o g h),λb o=>aj⟩
  ·rintro⟨G1,H,g1,⟨F1,G2,h1,g2,hd,hH⟩,gd,hF⟩;exact⟨F1,λb o=>G1 b o\/G2 b o,h1,(step _).2 ⟨G1,G2,g1,g2,λb o g h=>gd b o g ((hH b o).2 (.inr h)),λ_ _=>Iff.rfl⟩,
    λb o h g=>g.elim (λg=>gd b o g ((hH b o).2 (.inl h))) (λg=>hd b o h g),λb o=>aj⟩
structure Ctx where
 w0:World
 W:cV
 S0:cV
structure Fact where
 P:cV->World->Prop
 agree:∀{S w w'},P S w->(∀b o,S b o->w'.cell? ⟨b,o,none⟩=w.cell? ⟨b,o,none⟩)->P S w'
 mono:∀{S S' w},P S w->(∀b o,S b o->S' b o)->P S' w
variable{RA:List Fact}
def fRd{O:Type}[aL O](cs:List Value)(d:O):Fact:=⟨λS w=>aL.rd S w cs d,λh ha=>aL.rd_agree h ha,λh ha=>aL.rd_mono h ha⟩
def All(w:World):cV:=λb _=>b<w.heap.size
structure St (c:Ctx) (w:World) (L:List Chunk) (R:List Fact):Prop where
 keep:eJ c.W c.w0 w
 sep:∃F S,Sep w L F/\F.F9 S/\(∀b o,F b o->c.W b o\/c.w0.heap.size<=b)/\(∀b o,S b o->c.S0 b o\/c.W b o\/c.w0.heap.size<=b) /\
  (∀b o,S b o->b<w.heap.size)/\∀f∈R,f.P S w
 apart:c.W.F9 c.S0
section
variable {c:Ctx} {w w':World} {L:List Chunk} {R:List Fact}
theorem St.fact(h:St c w L R){f:Fact}(i:Nat)(hi:R[i]?=some f):f.P (All w) w:=by obtain⟨F,S,_,_,_,_,h5,hR⟩:=h.sep;exact f.mono (hR f (K9 hi)) h5
theorem St.rd[aL O]{cs:List Value}{d:O}(h:St c w L R)(i:Nat)(hi:R[i]?=some (fRd cs d)):aL.rd (All w) w cs d:=h.fact i hi
theorem St.chunk(h:St c w L R)(i:Nat)(hi:L[i]?=some ch):∃F,ch.P w F:=by obtain⟨F,S,hs,_⟩:=h.sep;obtain⟨F1,F2,h1,_⟩:=(Sep.take hi).1 hs;grind
theorem St.aZ8[aL O]{cs:List Value}{d:O}(h:St c w L R)(i:Nat)(hi:L[i]?=some (fK cs d)):aL.rd (All w) w cs d:=by obtain⟨F,hF⟩:=h.chunk i hi;have hF:aL.own w cs d F:=hF;exact aL.rd_mono (aL.own_rd hF) λb o hf=>aL.own_lt hF hf
theorem St.step(h:St c w (A++B) R)(hs:∀F,Sep w A F->∃F' G,eJ G w w'/\(∀b o,G b o->F b o)/\Sep w' A' F'/\∀b o,F' b o->F b o\/w.heap.size<=b) :
  St c w' (A'++B) R:=by
 obtain⟨F,S,hsep,hFS,hFW,hSS,hSlt,hR⟩:=h.sep;obtain⟨F1,F2,h1,h2,hd,hF⟩:=Sep.append.1 hsep;obtain⟨F',G,hk,hG,h1',hF'⟩:=hs F1 h1;have hGW:∀b o,b<c.w0.heap.size->G b o->c.W b o:=λb o hb g=>aj
 refine⟨h.keep.trans hk hGW,⟨λb o=>F' b o\/F2 b o,S,Sep.append.2 ⟨F',F2,h1',Sep.keep hk h2 λb o hf g=>hd b o (hG b o g) hf,?_,λ_ _=>Iff.rfl⟩,?_,?_,hSS,λb o hS=>O1 (hSlt b o hS) hk.size,?_⟩,h.apart⟩
 ·intro b o hf hg;rcases hF' b o hf with h|h
  ·exact hd b o h hg
  ·have:=Sep.lt h2 hg;omega
 ·rintro b o (hf|hf) hS
  ·rcases hF' b o hf with h|h
   ·exact hFS b o ((hF b o).2 (.inl h)) hS
   grind
  ·exact hFS b o ((hF b o).2 (.inr hf)) hS
 ·rintro b o (hf|hf)
  ·rcases hF' b o hf with h'|h'
   ·grind
   ·exact .inr (xM h.keep.size h')
  grind
 ·intro f hf;exact f.agree (hR f hf) λb o hS=>hk.cell b o (hSlt b o hS) λg=>hFS b o ((hF b o).2 (.inl (hG b o g))) hS
theorem St.rot(h:St c w (A++B) R):St c w (B++A) R:=by obtain⟨F,S,hsep,rest⟩:=h.sep;exact⟨h.keep,⟨F,S,hsep.swap,rest⟩,h.apart⟩
theorem St.take(h:St c w L R)(i:Nat)(hi:L[i]?=some ch):St c w (ch::L.set i NH) R:=by obtain⟨F,S,hsep,rest⟩:=h.sep;exact⟨h.keep,⟨F,S,(Sep.take hi).1 hsep,rest⟩,h.apart⟩
theorem Sep.put{w:World}:∀{L:List Chunk} {i:Nat} {F:cV},i<L.length->Sep w (ch::L.set i NH) F->Sep w (L.set i ch) F
 |L,i,F,hi,h=>(Sep.take (c:=ch) (L:=L.set i ch) (i:=i) (by simp[hi])).2 (by simp_all)
theorem St.put(h:St c w (ch::L.set i NH) R)(hi:i<L.length):St c w (L.set i ch) R:=by obtain⟨F,S,hsep,rest⟩:=h.sep;exact⟨h.keep,⟨F,S,Sep.put hi hsep,rest⟩,h.apart⟩
theorem St.aDO(h:St c w L R){ch':Chunk}(i:Nat)(hi:L[i]?=some ch)(hs:∀F,ch.P w F->∃F' G,eJ G w w'/\(∀b o,G b o->F b o)/\ch'.P w' F'/\∀b o,F' b o->F b o\/w.heap.size<=b) :
  St c w' (L.set i ch') R:=by
 have h1:St c w ([ch]++L.set i NH) R:=h.take i hi;have h2:St c w' ([ch']++L.set i NH) R:=h1.step λF hF=>by obtain⟨F1,F2,p1,p2,pd,pF⟩:=hF;obtain⟨F',G,hk,hG,hp,hF'⟩:=hs F1 p1;refine⟨F',G,hk,λb o g=>(pF b o).2 (.inl (hG b o g)),⟨F',F0,hp,λ_ _ h=>h,λ_ _ _ h=>h,λb o=>by simp[F0]⟩,λb o hf=>?_⟩;grind
 grind[St.put]
theorem St.more(h:St c w L R)(hk:eJ F0 w w')(hp:∃F,ch.P w' F/\∀b o,F b o->w.heap.size<=b):St c w' (L++[ch]) R:=by obtain⟨F,hp,hF⟩:=hp;have h2:St c w' ([ch]++L) R:=St.step (A:=[]) aj λG _=>⟨F,F0,hk,λ_ _ h=>h.elim,⟨F,F0,hp,λ_ _ h=>h,λ_ _ _ h=>h,λb o=>by simp[F0]⟩,λb o hf=>.inr (hF b o hf)⟩;exact St.rot h2
theorem St.same(h:St c w L R)(hk:eJ F0 w w'):St c w' L R:=
 St.step (A:=[]) (A':=[]) (B:=L) h λ_ _=>⟨F0,F0,hk,λ_ _ h=>h.elim,λ_ _ h=>h,λ_ _ h=>h.elim⟩
theorem St.weaken(h:St c w L R){R':List Fact}(hs:∀f∈R',f∈R):St c w L R':=by obtain⟨F,S,a1,a2,a3,a4,a5,a6⟩:=h.sep;exact⟨h.keep,⟨F,S,a1,a2,a3,a4,a5,λf hf=>a6 f (hs f hf)⟩,h.apart⟩
theorem St.drop(h:St c w (A++L) R):St c w L R:=
 St.step (A:=A) (A':=[]) h λ_ _=>⟨F0,F0,eJ.refl _ _,λ_ _ h=>h.elim,λ_ _ h=>h,λ_ _ h=>h.elim⟩
theorem St.derive(h:St c w L R){f:Fact}{Gs:List Fact}(i:Nat)(hi:R[i]?=some f)(hfg:∀S,f.P S w->∀g∈Gs,g.P S w):St c w L (R++Gs):=by obtain⟨F,S,a1,a2,a3,a4,a5,a6⟩:=h.sep;refine⟨h.keep,⟨F,S,a1,a2,a3,a4,a5,λg hg=>?_⟩,h.apart⟩;grind
def eQ(w:World):Ctx:=⟨w,F0,All w⟩
theorem St.enter(hR:∀f∈RA,f.P (All w) w):St (eQ w) w [] RA:=
 ⟨eJ.refl _ _,⟨F0,All w,λ_ _ h=>h,λ_ _ h=>h.elim,λ_ _ h=>h.elim,λ_ _ h=>.inl h,λ_ _ h=>h,hR⟩,λ_ _ h=>h.elim⟩
theorem St.after(h:St c w L R)(k:St (eQ w) w' A' RA):St c w' (L++A') R:=by obtain⟨F,S,a1,a2,a3,a4,a5,a6⟩:=k.sep;have h2:St c w' (A'++L) R:=St.step (w:=w) (A:=[]) aj λG _=>⟨F,F0,k.keep,λ_ _ h=>h.elim,a1,λb o hf=>(a3 b o hf).elim (λh=>h.elim) .inr⟩;exact St.rot h2
theorem St.call(h:St c w (A++L) R)(hRA:∀f∈RA,f∈R) :
  ∃c',c'.w0=w/\St c' w A RA/\∀w' A' R',St c' w' A' R'->St c w' (L++A') (R++R'):=by
 obtain⟨F,S,hsep,hFS,hFW,hSS,hSlt,hR⟩:=h.sep;obtain⟨F1,F2,h1,h2,hd,hF⟩:=Sep.append.1 hsep;refine⟨⟨w,F1,S⟩,rfl,⟨eJ.refl _ _,⟨F1,S,h1,λb o hf=>hFS b o ((hF b o).2 (.inl hf)),λ_ _ h=>.inl h,λ_ _ h=>.inl h,hSlt,λf hf=>hR f (hRA f hf)⟩,λb o hf=>hFS b o ((hF b o).2 (.inl hf))⟩,?_⟩;intro w' A' R' k;obtain⟨F',S',b1,b2,b3,b4,b5,b6⟩:=k.sep;have hk:=k.keep;have hGW:∀b o,b<c.w0.heap.size->F1 b o->c.W b o:=λb o hb g=>aj
 refine⟨h.keep.trans hk hGW,⟨λb o=>F2 b o\/F' b o,λb o=>S b o/\True\/S' b o,Sep.append.2 ⟨F2,F',Sep.keep hk h2 λb o hf g=>hd b o g hf,b1,?_,λ_ _=>Iff.rfl⟩,?_,?_,?_,?_,?_⟩,h.apart⟩
 ·intro b o hf hg;rcases b3 b o hg with h|h
  ·exact hd b o h hf
  ·have h:w.heap.size<=b:=h;have:=Sep.lt h2 hf;omega
 ·rintro b o (hf|hf) (⟨hs,_⟩|hs)
  ·exact hFS b o ((hF b o).2 (.inr hf)) hs
  ·rcases b4 b o hs with h|h|h
   ·exact hFS b o ((hF b o).2 (.inr hf)) h
   ·exact hd b o h hf
   ·have h:w.heap.size<=b:=h;have:=Sep.lt h2 hf;omega
  ·rcases b3 b o hf with h|h
   ·exact hFS b o ((hF b o).2 (.inl h)) hs
   grind
  ·exact b2 b o hf hs
 ·rintro b o (hf|hf)
  ·grind
  ·rcases b3 b o hf with h'|h'
   ·grind
   ·exact .inr (xM h.keep.size h')
 ·rintro b o (⟨hs,_⟩|hs)
  ·grind
  ·rcases b4 b o hs with h'|h'|h'
   ·grind
   ·grind
   ·exact .inr (.inr (xM h.keep.size h'))
 ·rintro b o (⟨hs,_⟩|hs)
  ·exact O1 (hSlt b o hs) hk.size
  grind
 ·intro f hf;rcases iO.1 hf with hf|hf
  ·exact f.mono (f.agree (hR f hf) λb o hs=>hk.cell b o (hSlt b o hs) λg=>hFS b o ((hF b o).2 (.inl g)) hs) λb o hs=>.inl ⟨hs,trivial⟩
  ·exact f.mono (b6 f hf) λb o hs=>.inr hs
end
abbrev Env:=List (Nat×Value)
variable{e:Env}
def lk:Env->Nat->Option Value
 |[],_=>none
 |(k,v)::e,n=>match Nat.beq n k with
  |true=>some v
  |false=>lk e n
structure NI (n:Nat) (e:Env) (a:Act):Prop where
 d:a.defers=[]
 size:a.tmps.size=n
 get:∀k v,lk e k=some v->a.tmps[k]?=some v
def ev(e:Env):Operand->Option Value
 |.tmp t=>lk e t
 |.const v=>some v
 |.global g=>some (.pointer (some ⟨g,0,none⟩))
 |.func f=>some (.func (.func f) #[] #[])
theorem NI.eval{a:Act}{v:Value}(h:NI n e a)(hx:ev e x=some v):a.eval x=v:=by
 cases x with
 |tmp t=>
  have:=h.get t v hx;show a.tmps.getD t undef=v;simp_all
 |const u=>grind[ev,Act.eval]
 |global g=>grind[ev,Act.eval]
 |func f=>grind[ev,Act.eval]
theorem NI.put{a:Act}(h:NI n e a)(hd:d<n)(v:Value):NI n ((d,v)::e) (a.put (some d) v):=by
 refine⟨h.d,by simp[Act.put,h.size],λk u hk=>?_⟩;simp only[lk] at hk;show(a.tmps.setIfInBounds d v)[k]?=some u;by_cases e1:k=d
 ·subst e1;have:Nat.beq k k=true:=ae
  rw[this] at hk;simp at hk;rw[Array.getElem?_setIfInBounds_self_of_lt (by rw[h.size];exact hd),hk]
 ·have:Nat.beq k d=false:=by grind[pM]
  rw[this] at hk;rw[Array.getElem?_setIfInBounds_ne (Ne.symm e1)];exact h.get k u hk
def Has(e:Env):Env->Prop
 |[]=>True
 |(k,v)::r=>lk e k=some v/\Has e r
theorem Has.get{e:Env}:∀{e':Env} {k:Nat} {v:Value},Has e e'->lk e' k=some v->lk e k=some v
 |[],_,_,_,h=>by simp[lk] at h
 |(k',v')::r,k,v,⟨h1,h2⟩,h=>by
  simp only[lk] at h;cases hb:Nat.beq k k' with
  |true=>simp_all
  |false=>rw[hb] at h;exact Has.get h2 h
theorem NI.part{e':Env}{a:Act}(h:NI n e a)(hh:Has e e'):NI n e' a:=⟨h.d,h.size,λk v hk=>h.get k v (hh.get hk)⟩
def aVH:Nat->List Value->Env
 |_,[]=>[]
 |k,v::r=>(k,v)::aVH (k+1) r
theorem a4H(l:List Value):∀(b k:Nat) (v:Value),lk (aVH b l) k=some v->b<=k/\l[k-b]?=some v:=by
 induction l with
 |nil=>grind[aVH,lk]
 |cons x r ih=>
  intro b k v h;simp only[aVH,lk] at h;cases hb:Nat.beq k b with
  |true=>
   simp_all
  |false=>
   grind
theorem bF0(l:List Value)(n:Nat)(hn:l.length<=n):NI n (aVH 0 l) {tmps:=l.toArray++Array.replicate (n-l.toArray.size) undef,defers:=[]}:=by refine⟨rfl,ah,λk v hk=>?_⟩;obtain⟨_,h2⟩:=a4H l 0 k v hk;grind
def mkQ(N:Act->World->Prop)(X:Nat->Act->World->Prop)(T:Act->World->Prop):Exit->Act->World->Prop
 |.normal,a,w=>N a w
 |.exit i,a,w=>X i a w
 |.ret,a,w=>T a w
 |_,_,_=>False
def CW(P:Program)(c:Code)(N:Act->World->Prop)(X:Nat->Act->World->Prop)(T:Act->World->Prop)(a:Act)(w:World):Prop:=c.wp P (mkQ N X T) a w
def aR1(id:Nat)(N:Act->World->Prop)(X:Nat->Act->World->Prop):Nat->Act->World->Prop:=λi a w=>if i=id then N a w else X i a w
section
variable {P:Program} {c x y:Code} {N:Act->World->Prop} {X:Nat->Act->World->Prop} {T:Act->World->Prop} {a:Act} {w:World}
theorem CW.mono{N':Act->World->Prop}{X':Nat->Act->World->Prop}{T':Act->World->Prop}(h:CW P c N X T a w)(hN:∀a w,N a w->N' a w)(hX:∀i a w,X i a w->X' i a w)(hT:∀a w,T a w->T' a w):CW P c N' X' T' a w:=
 wp_mono h λe a w q=>by cases e<;>first|exact hN _ _ q|exact hX _ _ _ q|exact hT _ _ q|exact q
theorem bCT(h:CW P x (λa w=>CW P y N X T a w) X T a w):CW P (.seq x y) N X T a w:=
 wp_seq (wp_mono h λe a w q=>by cases e<;>exact q)
theorem a9A(h:N a w):CW P .skip N X T a w:=wp_skip h
theorem a9B(h:X id a w):CW P (.exit id) N X T a w:=wp_exit h
theorem bCU(h:T a w):CW P .ret N X T a w:=wp_ret h
theorem aVI(h:CW P c N (aR1 id N X) T a w):CW P (.block id c) N X T a w:=
 wp_block (wp_mono h λe a w q=>by cases e<;>exact q)
theorem aKZ{o:Operand}{t:Bool}(hA:NI n e a)(ho:ev e o=some (.bool t))(ht:t=true->CW P x N X T a w)(hf:t=false->CW P y N X T a w):CW P (.cond o x y) N X T a w:=
 wp_cond_split (hA.eval ho) ht hf
theorem bCV{o:Operand}{t:Bool}(hA:NI n e a)(ho:ev e o=some (.bool t))(ht:t=true)(h:CW P x N X T a w):CW P (.cond o x y) N X T a w:=
 aKZ hA ho (λ_=>h) (λhf=>aj)
theorem bF1{o:Operand}{t:Bool}(hA:NI n e a)(ho:ev e o=some (.bool t))(ht:t=false)(h:CW P y N X T a w):CW P (.cond o x y) N X T a w:=
 aKZ hA ho (λhf=>aj) (λ_=>h)
theorem a15{ops:Array Oper}(h:wpList P ops (mkQ N X T) ops.toList a w):CW P (.region id ops false) N X T a w:=wp_region_list h
end
inductive Step (σ ρ:Type) where
 |next (s:σ)
 |stop (r:ρ)
inductive Out (J ρ:Type) where
 |brk (s:J)
 |ret (r:ρ)
def iter{σ ρ:Type}(body:σ->Option (Step σ ρ)):Nat->σ->Option ρ
 |0,_=>none
 |n + 1,s=>match body s with
  |none=>none
  |some (.next s')=>iter body n s'
  |some (.stop r)=>some r
theorem aVJ{σ ρ:Type}{body:σ->Option (Step σ ρ)}:∀{n m:Nat} {s:σ} {r r':ρ},iter body n s=some r->iter body m s=some r'->r=r'
 |0,_,_,_,_,h,_=>by grind[iter]
 |_+1,0,_,_,_,_,h=>by grind[iter]
 |n + 1,m + 1,s,r,r',h,h'=>by
  simp only[iter] at h h';cases hb:body s with
  |none=>grind
  |some o=>cases o with
   |next s'=>rw[hb] at h h';exact aVJ h h'
   |stop q=>grind
open Classical in
def loop{σ ρ:Type}(body:σ->Option (Step σ ρ))(s:σ):Option ρ:=
 if h:∃r,∃n,iter body n s=some r then some (Classical.choose h) else none
theorem TY{body:σ->Option (Step σ ρ)}{s:σ}{r:ρ}:loop body s=some r↔∃n,iter body n s=some r:=by
 unfold loop;by_cases h:∃r,∃n,iter body n s=some r
 ·rw[dif_pos h];grind[aVJ]
 grind
theorem bG{body:σ->Option (Step σ ρ)}{s:σ}{r:ρ}(h:body s=some (.stop r)):loop body s=some r:=TY.2 ⟨1,by simp[iter,h]⟩
theorem bW{body:σ->Option (Step σ ρ)}{s s':σ}(h:body s=some (.next s')):loop body s=loop body s':=by
 cases h2:loop body s' with
 |some r=>
  obtain⟨n,hn⟩:=TY.1 h2;exact TY.2 ⟨n+1,by grind[iter]⟩
 |none=>
  cases h1:loop body s with
  |none=>rfl
  |some r=>
   obtain⟨n,hn⟩:=TY.1 h1;cases n with
   |zero=>grind[iter]
   |succ n=>grind[iter,TY]
theorem a9C{c:Code}{N:Act->World->Prop}{X:Nat->Act->World->Prop}{T:Act->World->Prop}{body:σ->Option (Step σ ρ)}{r:ρ}(Inv:σ->Act->World->Prop)
  (round:∀s a w o,Inv s a w->body s=some o->(∀q,o=.stop q->q=r)->CW P c (λa' w'=>∃s',o=.next s'/\Inv s' a' w') X T a w)
  {s:σ} (hl:loop body s=some r) {a:Act}  (h:Inv s a w):CW P (.loop c) N X T a w:=by
 obtain⟨n,hn⟩:=TY.1 hl;refine wp_loop_rounds n ?_;clear hl;induction n generalizing s a w with
 |zero=>grind[iter]
 |succ n ih=>
  simp only[iter] at hn;rw[rounds_succ];cases hb:body s with
  |none=>grind
  |some o=>
   have hr:∀q,o=.stop q->q=r:=λq e=>aj
   refine wp_mono (round s a w o h hb hr) λe a' w' q=>?_;cases e with
   |normal=>obtain⟨s',e,hI⟩:=q;subst e;rw[hb] at hn;exact ih hI hn
   |_=>exact q
abbrev bA(n:Int):Int:=IntKind.i64.wrap n
def fE(P:Program)(o:Oper)(e:Env)(w:World)(v:Value)(w':World):Prop:=∀n a,NI n e a->(execOp a.eval o).run P w=.ok (.value v) w'
def bF2(P:Program)(o:Oper)(e:Env)(w:World)(w':World):Prop:=∀n a,NI n e a->(execOp a.eval o).run P w=.ok .skip w'
def bCW(P:Program)(o:Oper)(e:Env)(w:World)(f:FuncId)(args:Array Value):Prop:=∀n a,NI n e a->(execOp a.eval o).run P w=.ok (.enter f args) w
def Ops(P:Program)(ops:Array Oper)(Q:Exit->Act->World->Prop)(rest:List Oper)(n:Nat)(e:Env)(w:World):Prop:=∀a,NI n e a->wpList P ops Q rest a w
section
variable {P:Program} {a':Act} {ops:Array Oper} {Q:Exit->Act->World->Prop} {o:Oper} {rest:List Oper} {n d:Nat} {e:Env} {w w':World}
def Want(ops:Array Oper)(o:Oper)(e:Env)(b:Bool):Prop:=∀n a,NI n e a->Region.wanted o (yielded ops a.tmps)=b
theorem a4I(hg:o.guard=none):Want ops o e true:=λ_ _ _=>by grind[Region.wanted]
theorem aZ9{t b:Bool}{s:Tmp}(hg:o.guard=some (j,t))(hj:(ops[j]?).bind (·.dst)=some s)(hv:lk e s=some (.bool c))(hb:Bool.xor c t=!b):Want ops o e b:=λ_ a hA=>by
 have:yielded ops a.tmps j=some c:=by have h1:=hA.get s _ hv;grind[yielded]
 grind[Region.wanted]
theorem bBZ{v:Value}(hr:fE P o e w v w')(hw:Want ops o e true)(hd:o.dst=some d)(hn:Nat.blt d n=true)(k:Ops P ops Q rest n ((d,v)::e) w'):Ops P ops Q (o::rest) n e w:=λa hA=>by refine wpList_step λK hK=>?_;rw[hw n a hA,aM rfl];unfold Oper.wp;rw[hr n a hA,Oper.upon_value,hd];exact hK _ _ (k _ (hA.put (by simp_all) v))
theorem a9D(hw:Want ops o e false)(hd:o.dst=some d)(hn:Nat.blt d n=true)(k:Ops P ops Q rest n ((d,undef)::e) w):Ops P ops Q (o::rest) n e w:=λa hA=>by refine wpList_step λK hK=>?_;rw[hw n a hA,aO ae,hd];exact hK _ _ (k _ (hA.put (by simp_all) undef))
def Ret(K:Value->World->Prop):Ending->World->Prop:=λen w'=>∃v,en=.returned v/\K v w'
variable {x y z:Operand} {v u:Value} {k:IntKind} {i j:Int} {t z':TypeId}
theorem a9E(ho:o.op=.move x)(hx:ev e x=some v):fE P o e w v w:=λ_ a hA=>by simp[execOp,ho,hA.eval hx]
theorem a16(ho:o.op=.assign x)(hx:ev e x=some v):fE P o e w v w:=λ_ a hA=>by simp[execOp,ho,hA.eval hx]
theorem bCX(ho:o.op=.nilCheck x){p:Addr}(hx:ev e x=some (.pointer (some p))):fE P o e w (.pointer (some p)) w:=λ_ a hA=>by simp[execOp,ho,hA.eval hx]
theorem a17(ho:o.op=.pick x y z)(hx:ev e x=some (.bool c))(hc:c=true)(hy:ev e y=some v):fE P o e w v w:=λ_ a hA=>by simp[execOp,ho,hA.eval hx,hA.eval hy,hc,asBool]
theorem a18(ho:o.op=.pick x y z)(hx:ev e x=some (.bool c))(hc:c=false)(hz:ev e z=some v):fE P o e w v w:=λ_ a hA=>by simp[execOp,ho,hA.eval hx,hA.eval hz,hc,asBool]
theorem a4J{b:Bool}(ho:o.op=.unOp .not t x)(hx:ev e x=some (.bool b)):fE P o e w (.bool (!b)) w:=λ_ a hA=>by simp[execOp,ho,hA.eval hx,Op.unary]
theorem bCY(ho:o.op=.unOp .neg t x)(hx:ev e x=some (.int k i)):fE P o e w (.int k (k.wrap (0-i))) w:=λ_ a hA=>by simp[execOp,ho,hA.eval hx,Op.unary,Op.intArith]
theorem bCZ(ho:o.op=.binOp .add t x y z')(hx:ev e x=some (.int k i))(hy:ev e y=some (.int k j)):fE P o e w (.int k (k.wrap (i+j))) w:=λ_ a hA=>by simp[execOp,ho,hA.eval hx,hA.eval hy,eqGuard,binOp,Op.intArith]
theorem bC0(ho:o.op=.binOp .sub t x y z')(hx:ev e x=some (.int k i))(hy:ev e y=some (.int k j)):fE P o e w (.int k (k.wrap (i-j))) w:=λ_ a hA=>by simp[execOp,ho,hA.eval hx,hA.eval hy,eqGuard,binOp,Op.intArith]
theorem bC1(ho:o.op=.binOp .mul t x y z')(hx:ev e x=some (.int k i))(hy:ev e y=some (.int k j)):fE P o e w (.int k (k.wrap (i*j))) w:=λ_ a hA=>by simp[execOp,ho,hA.eval hx,hA.eval hy,eqGuard,binOp,Op.intArith]
theorem aX1(ho:o.op=.binOp .quo t x y z')(hx:ev e x=some (.int k i))(hy:ev e y=some (.int k j))(h0:j≠0):fE P o e w (.int k (k.wrap (i.tdiv j))) w:=λ_ a hA=>by simp[execOp,ho,hA.eval hx,hA.eval hy,eqGuard,binOp,Op.intDiv,h0]
theorem aX2(ho:o.op=.binOp .rem t x y z')(hx:ev e x=some (.int k i))(hy:ev e y=some (.int k j))(h0:j≠0):fE P o e w (.int k (i.tmod j)) w:=λ_ a hA=>by simp[execOp,ho,hA.eval hx,hA.eval hy,eqGuard,binOp,Op.intDiv,h0]
theorem bC2(ho:o.op=.binOp .lss t x y z')(hx:ev e x=some (.int k i))(hy:ev e y=some (.int k j)):fE P o e w (.bool (decide (i<j))) w:=λ_ a hA=>by simp[execOp,ho,hA.eval hx,hA.eval hy,eqGuard,binOp,Op.intCmp]
theorem bC3(ho:o.op=.binOp .leq t x y z')(hx:ev e x=some (.int k i))(hy:ev e y=some (.int k j)):fE P o e w (.bool (decide (i<=j))) w:=λ_ a hA=>by simp[execOp,ho,hA.eval hx,hA.eval hy,eqGuard,binOp,Op.intCmp]
theorem bC4(ho:o.op=.binOp .gtr t x y z')(hx:ev e x=some (.int k i))(hy:ev e y=some (.int k j)):fE P o e w (.bool (decide (j<i))) w:=λ_ a hA=>by simp[execOp,ho,hA.eval hx,hA.eval hy,eqGuard,binOp,Op.intCmp]
theorem bC5(ho:o.op=.binOp .geq t x y z')(hx:ev e x=some (.int k i))(hy:ev e y=some (.int k j)):fE P o e w (.bool (decide (j<=i))) w:=λ_ a hA=>by simp[execOp,ho,hA.eval hx,hA.eval hy,eqGuard,binOp,Op.intCmp]
theorem bC6(ho:o.op=.binOp .eql t x y z')(hx:ev e x=some (.int k i))(hy:ev e y=some (.int k j)):fE P o e w (.bool (i == j)) w:=λ_ a hA=>by simp[execOp,ho,hA.eval hx,hA.eval hy,eqGuard,binOp,Op.intCmp]
theorem bC7(ho:o.op=.binOp .neq t x y z')(hx:ev e x=some (.int k i))(hy:ev e y=some (.int k j)):fE P o e w (.bool (i != j)) w:=λ_ a hA=>by simp[execOp,ho,hA.eval hx,hA.eval hy,eqGuard,binOp,Op.intCmp]
def iE(op:BinOp)(k:IntKind)(i j:Int):Int:=
 match op with
 |.and=>k.wrap ((BitVec.ofInt k.bits i &&& BitVec.ofInt k.bits j).toNat:Int)
 |.or=>k.wrap ((BitVec.ofInt k.bits i ||| BitVec.ofInt k.bits j).toNat:Int)
 |.xor=>k.wrap ((BitVec.ofInt k.bits i ^^^ BitVec.ofInt k.bits j).toNat:Int)
 |_=>k.wrap ((BitVec.ofInt k.bits i &&& ~~~ (BitVec.ofInt k.bits j)).toNat:Int)
theorem bC8(ho:o.op=.binOp .and t x y z')(hx:ev e x=some (.int k i))(hy:ev e y=some (.int k j)):fE P o e w (.int k (iE .and k i j)) w:=λ_ a hA=>by simp[execOp,ho,hA.eval hx,hA.eval hy,eqGuard,binOp,Op.intBits,iE]
theorem bF3(ho:o.op=.binOp .or t x y z')(hx:ev e x=some (.int k i))(hy:ev e y=some (.int k j)):fE P o e w (.int k (iE .or k i j)) w:=λ_ a hA=>by simp[execOp,ho,hA.eval hx,hA.eval hy,eqGuard,binOp,Op.intBits,iE]
theorem bC9(ho:o.op=.binOp .xor t x y z')(hx:ev e x=some (.int k i))(hy:ev e y=some (.int k j)):fE P o e w (.int k (iE .xor k i j)) w:=λ_ a hA=>by simp[execOp,ho,hA.eval hx,hA.eval hy,eqGuard,binOp,Op.intBits,iE]
theorem a19(ho:o.op=.binOp .andNot t x y z')(hx:ev e x=some (.int k i))(hy:ev e y=some (.int k j)):fE P o e w (.int k (iE .andNot k i j)) w:=λ_ a hA=>by simp[execOp,ho,hA.eval hx,hA.eval hy,eqGuard,binOp,Op.intBits,iE]
def aLZ(k:IntKind)(i j:Int):Int:=k.wrap (i*2 ^ min j.toNat k.bits)
def pN(k:IntKind)(i j:Int):Int:=i.fdiv (2 ^ min j.toNat k.bits)
theorem a4K{yk:IntKind}(ho:o.op=.binOp .shl t x y z')(hx:ev e x=some (.int k i))(hy:ev e y=some (.int yk j))(h0:¬j<0):fE P o e w (.int k (aLZ k i j)) w:=λ_ a hA=>by simp[execOp,ho,hA.eval hx,hA.eval hy,eqGuard,binOp,Op.shift,h0,aLZ]
theorem bDA{yk:IntKind}(ho:o.op=.binOp .shr t x y z')(hx:ev e x=some (.int k i))(hy:ev e y=some (.int yk j))(h0:¬j<0):fE P o e w (.int k (pN k i j)) w:=λ_ a hA=>by simp[execOp,ho,hA.eval hx,hA.eval hy,eqGuard,binOp,Op.shift,h0,pN]
theorem a9F{p q:Bool}(hu:P.underlying t=some .bool)(ho:o.op=.binOp .eql t x y z')(hx:ev e x=some (.bool p))(hy:ev e y=some (.bool q)):fE P o e w (.bool (p == q)) w:=λ_ a hA=>by have h1:binOp .eql t (.bool p) (.bool q)=(do pure (.bool (<-Op.equal t (.bool p) (.bool q)))):=rfl;simp[execOp,ho,hA.eval hx,hA.eval hy,eqGuard,h1,Op.equal,Op.maxDepth,run_equalIn_bool' _ _ _ _ _ hu]
theorem a9G{p q:Bool}(hu:P.underlying t=some .bool)(ho:o.op=.binOp .neq t x y z')(hx:ev e x=some (.bool p))(hy:ev e y=some (.bool q)):fE P o e w (.bool (!(p == q))) w:=λ_ a hA=>by have h1:binOp .neq t (.bool p) (.bool q)=(do pure (.bool (!(<-Op.equal t (.bool p) (.bool q))))):=rfl;simp[execOp,ho,hA.eval hx,hA.eval hy,eqGuard,h1,Op.equal,Op.maxDepth,run_equalIn_bool' _ _ _ _ _ hu]
abbrev sv(l:List UInt8):Value:=.string ⟨l.toArray⟩
theorem a9H{p:List UInt8}(ho:o.op=.binOp .eql t x y z')(hx:ev e x=some (sv p))(hy:ev e y=some (sv q)):fE P o e w (.bool (p == q)) w:=λ_ a hA=>by simp[execOp,ho,hA.eval hx,hA.eval hy,eqGuard,binOp,Op.stringOp]
theorem a9I{p:List UInt8}(ho:o.op=.binOp .neq t x y z')(hx:ev e x=some (sv p))(hy:ev e y=some (sv q)):fE P o e w (.bool (!(p == q))) w:=λ_ a hA=>by simp[execOp,ho,hA.eval hx,hA.eval hy,eqGuard,binOp,Op.stringOp]
theorem bDB{p:List UInt8}(ho:o.op=.binOp .add t x y z')(hx:ev e x=some (sv p))(hy:ev e y=some (sv q))(hb:p.length+q.length<=9223372036854775807):fE P o e w (sv (p++q)) w:=λ_ a hA=>by
 have h2:(⟨p.toArray⟩:ByteArray)++⟨q.toArray⟩=⟨(p++q).toArray⟩:=by apply ByteArray.ext;simp
 have h3:(⟨p.toArray⟩:ByteArray).size=p.length:=by simp[ByteArray.size]
 have h4:(⟨q.toArray⟩:ByteArray).size=q.length:=by simp[ByteArray.size]
 simp[execOp,ho,hA.eval hx,hA.eval hy,eqGuard,binOp,Op.stringOp,h3,h4,h2];omega
theorem aS5{k':IntKind}{s t:TypeId}(hs:P.underlying s=some ds)(ht:P.underlying t=some (.int k'))(ho:o.op=.convert s t x)(hx:ev e x=some (.int k i)):fE P o e w (.int k' (k'.wrap i)) w:=λ_ a hA=>by simp[execOp,ho,hA.eval hx,convert,run_underlying hs,run_underlying ht,Conv.intToInt]
theorem aX3{vs:Array Value}{ix:Nat}(ho:o.op=.extract x ix)(hx:ev e x=some (.tuple vs))(hv:vs[ix]?=some v):fE P o e w v w:=λ_ a hA=>by simp[execOp,ho,hA.eval hx,Instr.extract,hv]
theorem bDC{ad:Option Addr}{c:Nat}{el:TypeId}(hu:P.underlying t=some (.slice el))(ho:o.op=.call {callee:=.builtin .len,args:=#[x],argTypes:=#[t]})(hx:ev e x=some (.slice ad m c)):fE P o e w (.int .i64 (m:Int)) w:=λ_ a hA=>by simp[execOp,ho,resolve,invoke,builtin,Builtin.len_,hA.eval hx,run_underlying hu,goInt]
theorem a9J(hu:P.underlying t=some .string)(ho:o.op=.call {callee:=.builtin .len,args:=#[x],argTypes:=#[t]})(hx:ev e x=some (sv l)):fE P o e w (.int .i64 (l.length:Int)) w:=λ_ a hA=>by
 have h3:(⟨l.toArray⟩:ByteArray).size=l.length:=by simp[ByteArray.size]
 simp[execOp,ho,resolve,invoke,builtin,Builtin.len_,hA.eval hx,run_underlying hu,goInt,h3]
theorem a9K{fn:Fn}{fs cs:Array Operand}{vf vc:List Value}(ho:o.op=.makeFunc fn fs cs)(hf:fs.toList.map (ev e)=vf.map some)(hc:cs.toList.map (ev e)=vc.map some):fE P o e w (.func fn vf.toArray vc.toArray) w:=λ_ a hA=>by
 have key:∀(xs:Array Operand) (vs:List Value),xs.toList.map (ev e)=vs.map some->xs.map a.eval=vs.toArray:=by
  intro xs vs h;apply Array.toList_inj.1;simp
  revert vs
  generalize xs.toList=l;induction l with
  |nil=>simp
  |cons y r ih=>
   intro vs h;cases vs with
   |nil=>simp at h
   |cons v vs=>simp at h ⊢;exact⟨hA.eval h.1,ih vs h.2⟩
 simp[execOp,ho,key _ _ hf,key _ _ hc,Instr.makeFunc]
variable {c:Ctx} {L:List Chunk} {R:List Fact}
abbrev a9L(b:Nat)(cs:List Value):Chunk:=YG b 0 cs
theorem St.cell(h:St c w L R){b:Nat}{cs:List Value}(i:Nat){j:Nat}(hi:L[i]?=some (a9L b cs))(hj:cs[j]?=some v):w.cell? ⟨b,j,none⟩=some v:=by obtain⟨F,h1,_⟩:=h.chunk i hi;have:=h1 j v hj;grind
theorem St.cells(h:St c w L R){b:Nat}{cs cs':List Value}(i j:Nat)(hi:L[i]?=some (a9L b cs))(hj:(cs.drop j).take cs'.length=cs'):bL w b j cs':=by intro m u hm;have hlt:=(I6.1 hm).1;refine h.cell i hi ?_;grind
theorem rW{b j:Nat}{cs:List Value}(h:bL w b j cs)(P:Program):(loadCells ⟨b,j,none⟩ cs.length).run P w=.ok cs.toArray w:=by
 refine run_loadCells_list w ⟨b,j,none⟩ cs λm u hm=>?_;have:(⟨b,j,none⟩:Addr).add m=⟨b,j+m,none⟩:=by grind[Addr.add]
 rw[this];exact h m u hm
theorem a4L{p:Addr}(ho:o.op=.load t x)(hx:ev e x=some (.pointer (some p)))(ha:∀w,(isAgg t).run P w=.ok false w)(hc:w.cell? p=some v):fE P o e w v w:=λ_ a hA=>by simp[execOp,ho,Instr.loadAt,Instr.sureAddr,hA.eval hx,loadVar,ha,load,Sem.run,hc]
theorem a4M{b j:Nat}{cs:List Value}(ho:o.op=.load t x)(hx:ev e x=some (.pointer (some ⟨b,j,none⟩)))(ha:∀w,(isAgg t).run P w=.ok true w)(hz:∀w,(sizeOf t).run P w=.ok m w)(hm:cs.length=m)(hc:bL w b j cs):fE P o e w (.agg cs.toArray) w:=λ_ a hA=>by subst hm;simp[execOp,ho,Instr.loadAt,Instr.sureAddr,hA.eval hx,loadVar,ha,hz,rW hc P]
theorem St.alloc(h:St c w L R)(cs:List Value)(t:TypeId):St c (w.alloc (.cells cs.toArray t)) (L++[a9L w.heap.size cs]) R:=by
 refine h.more (eJ.alloc _ _ _) ⟨eK w.heap.size 0 cs.length,⟨λj u hj=>?_,λo' ho=>?_,λ_ _=>?_⟩,λb o' hb=>?_⟩
 ·simp_all
 ·simp
 ·simp
 ·exact WS hb.1.symm
theorem a4N{f:Field}{ix b j j':Nat}(hu:P.underlying t=some (.struct fs))(ho:o.op=.fieldAddr t x ix)(hf:fs[ix]?=some f)(hz:∀w,(sizeOf f.type).run P w=.ok (m+1) w)(hx:ev e x=some (.pointer (some ⟨b,j,none⟩)))(hj:j+f.offset=j'):fE P o e w (.pointer (some ⟨b,j',none⟩)) w:=λ_ a hA=>by
 have h1:(⟨b,j,none⟩:Addr).add f.offset=⟨b,j',none⟩:=by grind[Addr.add]
 simp[execOp,ho,Instr.fieldAt,hA.eval hx,run_underlying hu,hf,Instr.sureAddr,fieldPlace,hz,h1]
def X5:Value->Nat
 |.slice (some a) _ _=>a.block
 |_=>0
def WT(n k:Nat):Value->Nat
 |.slice (some a) _ _=>a.off+k*n
 |_=>0
theorem mB[aL O]{S:cV}{l:List O}(h:aL.rd S w [s] l):∃ad m,s=.slice ad l.length m:=by obtain⟨ad,m,h1,_⟩:=(show AS S w [s] l from h);grind
def idx{O:Type}(l:List O)(i:Int):Option O:=if 0<=i then l[i.toNat]? else none
theorem CI{l:List O}{i:Int}{x:O}(h:idx l i=some x):0<=i/\i<l.length/\l[i.toNat]?=some x:=by grind[idx]
theorem bDD[aL O]{S:cV}{l:List O}{el:Nat}{q:O}(h:aL.rd S w [s] l)(_hn:aL.n O=m)(hq:idx l i=some q)(hu:P.underlying t=some (.slice el))(hz:∀w,(sizeOf el).run P w=.ok m w)(ho:o.op=.indexAddr t x y)(hx:ev e x=some s)(hy:ev e y=some (.int k i)):fE P o e w (.pointer (some ⟨X5 s,WT m i.toNat s,none⟩)) w:=by
 obtain⟨h0,h1,h2⟩:=CI hq;obtain⟨ad,c,rfl⟩:=mB h;obtain⟨ad',c',e1,_,_,h4⟩:=(show AS S w [_] l from h);simp at e1;obtain⟨rfl,rfl⟩:=e1;rcases h4 with h4|⟨b,off,rfl,_⟩
 ·grind
 ·intro _ a hA;have h5:(⟨b,off,none⟩:Addr).add (i.toNat*m)=⟨b,off+i.toNat*m,none⟩:=by grind[Addr.add]
  simp[execOp,ho,Instr.indexAt,hA.eval hx,hA.eval hy,asIntOf,run_underlying hu,h0,h1,hz,h5,X5,WT]
theorem pO{b:Nat}(P:Program):∀(vs:List Value) (w:World) (j m:Nat),(∀v∈vs,v.oneCell'=true)->(∀q,m<=q->q<m+vs.length->(w.cell? ⟨b,j+q,none⟩).isSome=true/\w.frozen? ⟨b,j+q,none⟩=false) ->
  ∃w',(storeCells ⟨b,j,none⟩ vs m).run P w=.ok () w'/\eJ (eK b (j+m) vs.length) w w'/\w'.heap.size=w.heap.size/\bL w' b (j+m) vs
 |[],w,j,m,_,_=>⟨w,rfl,eJ.refl _ _,rfl,λq v h=>by simp at h⟩
 |v::vs,w,j,m,h1,h2=>by
  have hadd:(⟨b,j,none⟩:Addr).add m=⟨b,j+m,none⟩:=by grind[Addr.add]
  obtain⟨hs,hf⟩:=h2 m (kY _) ae;obtain⟨u,hu⟩:=aLY.1 hs;have hk1:eJ (eK b (j+m) (v::vs).length) w (w.setCell ⟨b,j+m,none⟩ v):=eJ.setCell _ _ _ _ ⟨rfl,kY _,ae⟩ rfl;obtain⟨w',hr,hk,hsz,hc⟩:=pO P vs (w.setCell ⟨b,j+m,none⟩ v) j (m+1) (λv h=>h1 v (BS _ h)) (λq a1 a2=>by
   obtain⟨b1,b2⟩:=h2 q aa ah;exact⟨hk1.stay _ _ b1,by simp_all⟩)
  refine⟨w',?_,hk1.trans hk λb' o _ hh=>?_,by simp_all,?_⟩
  ·simp_all[run_store,storeCells]
  ·obtain⟨c1,c2,c3⟩:=hh;exact⟨c1,aa,ah⟩
  ·intro q u' hq;cases q with
   |zero=>
    simp at hq;subst hq;have hlt:b<w.heap.size:=jT hs;rw[aBL,hk.cell b (j+m) (by simp_all) (λhh=>by obtain⟨_,c2,_⟩:=hh;omega)];grind[World.cell?_setCell_same]
   |succ q=>
    have:=hc q u' aj;grind
def aDP(cs:List Value)(j:Nat):List Value->List Value
 |[]=>cs
 |v::vs=>aDP (cs.set j v) (j+1) vs
theorem aHW:∀(vs cs:List Value) (j:Nat),(aDP cs j vs).length=cs.length
 |[],_,_=>rfl
 |v::vs,cs,j=>by simp[aDP,aHW vs]
theorem aVK:∀(vs cs:List Value) (j q:Nat),j+vs.length<=cs.length->(aDP cs j vs)[q]?=if j<=q/\q<j+vs.length then vs[q-j]? else cs[q]?
 |[],cs,j,q,_=>by simp[aDP,aO]
 |v::vs,cs,j,q,h=>by simp only[aDP];rw[aVK vs (cs.set j v) (j+1) q aj];grind
def evs(e:Env):List Operand->Option (List Value)
 |[]=>some []
 |x::r=>match ev e x,evs e r with
  |some v,some vs=>some (v::vs)
  |_,_=>none
theorem VB{e:Env}{a:Act}{n:Nat}(hA:NI n e a):∀{xs:List Operand} {vs:List Value},evs e xs=some vs->xs.map a.eval=vs
 |[],vs,h=>by grind[evs]
 |x::r,vs,h=>by
  simp only[evs] at h;split at h
  ·rename_i v vs' h1 h2;simp at h;subst h;simp[hA.eval h1,VB hA h2]
  ·cases h
theorem aVL{f:FuncId}{xs:List Operand}{ts:Array TypeId}{cap:List Value}(hcall:∀args w,(callFunc f args).run P w=.ok (.enter f args) w)(ho:o.op=.call {callee:=.value x,args:=xs.toArray,argTypes:=ts})(hx:ev e x=some (.func (.func f) #[] cap.toArray))(hv:evs e xs=some vs):bCW P o e w f (vs++cap).toArray:=λ_ a hA=>by simp[execOp,ho,resolve,hA.eval hx,Deferred.ofValue,invoke,hcall,VB hA hv]
def aF1(tmps:Array Value):ResultVar->Sem Value
 |.tmp t=>pure (tmps.getD t undef)
 |.cell p t=>do loadVar t (<-asAddr (tmps.getD p undef))
def Fin(P:Program)(fn:Func)(K:Value->World->Prop)(a:Act)(w:World):Prop:=a.defers=[]/\∃v,(results fn a.tmps).run P w=.ok v w/\K v w
theorem aX4{fn:Func}{rs:List ResultVar}(hf:fn.results=rs.toArray)(tmps:Array Value):results fn tmps=(do let vs <-rs.toArray.mapM (aF1 tmps);pure (if h:vs.size=1 then vs[0] else .tuple vs)):=by unfold results;rw[hf];rfl
theorem a2A{f:FuncId}{fn:Func}{cd:Code}{args:List Value}{K:Value->World->Prop}(hf:P.funcs[f]?=some fn)(hb:fn.body=some cd)(hm:fn.ntmps=m)(hl:Nat.ble args.length m=true)
  (h:∀a,NI m (aVH 0 args) a->CW P cd (Fin P fn K) (λ_ _ _=>False) (Fin P fn K) a w):Calls P f args.toArray w (Ret K):=by
 refine calls_of_wp hf hb ?_;subst hm;refine wp_mono (h _ (bF0 args fn.ntmps (TX hl))) λex a w q=>?_;cases ex with
 |ret=>obtain⟨h1,v,h2,h3⟩:=q;exact⟨h1,v,h2,v,rfl,h3⟩
 |normal=>obtain⟨h1,v,h2,h3⟩:=q;exact⟨h1,v,h2,v,rfl,h3⟩
 |_=>exact q.elim
end
def need(p:Prop)[Decidable p]{O:Type}(k:Option O):Option O:=if p then k else none
theorem lY[Decidable p]{k:Option O}{q:O}(h:need p k=some q):p/\k=some q:=by grind[need]
theorem a9M{ops:Array Oper}{o:Oper}{s:Nat}{t:Bool}(hg:o.guard=some (j,t))(hj:(ops[j]?).bind (·.dst)=some s)(hv:lk e s=some undef):Want ops o e false:=λ_ a hA=>by
 have:yielded ops a.tmps j=none:=by have h1:=hA.get s _ hv;grind[yielded,undef]
 grind[Region.wanted]
def u8(z:Int):UInt8:=UInt8.ofNat (z % 256).toNat
theorem bDE(z:Int):((u8 z).toNat:Int)=IntKind.u8.wrap z:=by unfold u8;simp[IntKind.wrap,IntKind.bits,IntKind.signed];omega
section
variable {P:Program} {o:Oper} {e:Env} {w w':World} {c:Ctx} {L:List Chunk} {R:List Fact} {x:Operand} {v:Value} {k:IntKind} {i:Int} {t:TypeId}
theorem a4O{s:TypeId}(hs:P.underlying s=some ds)(ht:P.underlying t=some (.int .u8))(ho:o.op=.convert s t x)(hx:ev e x=some (.int k i)):fE P o e w (.int .u8 ((u8 i).toNat:Int)) w:=by grind[bDE,aS5]
theorem a4P{s:TypeId}{b:UInt8}(hs:P.underlying s=some ds)(ht:P.underlying t=some (.int .i64))(ho:o.op=.convert s t x)(hx:ev e x=some (.int .u8 (b.toNat:Int))):fE P o e w (.int .i64 (b.toNat:Int)) w:=by have h:=aS5 (w:=w) hs ht ho hx;have hb:=b.toNat_lt;grind[IntKind.wrap,IntKind.bits]
theorem a9N{fn:Fn}{fs cs:Array Value}(ho:o.op=.nilCheck x)(hm:∀n,fn≠.method n)(hx:ev e x=some (.func fn fs cs)):fE P o e w (.func fn fs cs) w:=λ_ a hA=>by cases fn<;>simp_all[execOp,hA.eval hx]
theorem bL.sub{b:Nat}{cs cs':List Value}(h:bL w b j cs)(k:Nat)(hj:(cs.drop k).take cs'.length=cs')(hm:j+k=m):bL w b m cs':=by subst hm;intro q u hq;have hlt:=(I6.1 hq).1;rw[<-hj] at hq;rw[aHS,aM aa,List.getElem?_drop] at hq;have:=h (k+q) u hq;grind
theorem j4[aL O]{S:cV}{cs:List Value}{d:List O}(h:aL.rd S w cs d):∃v,cs=[v]:=by obtain⟨a,c,h,_⟩:=(show AS S w cs d from h);grind
theorem bDF[aL O]{S:cV}:aL.rd S w [.slice none 0 0] ([]:List O):=⟨none,0,rfl,kY _,lX _,.inl rfl⟩
theorem bB0{f:Fact}(h:f.P (All w) w)(hk:eJ F0 w w'):f.P (All w') w':=
 f.mono (f.agree h λb o hb=>hk.cell b o hb λh=>h) λ_ _ hb=>O1 hb hk.size
def pick(L:List Chunk):List Nat->List Chunk
 |[]=>[]
 |i::r=>(L[i]?).getD NH::pick L r
def dJ:List Nat->Bool
 |[]=>true
 |i::r=>(r.all λj=>!Nat.beq i j) && dJ r
theorem aL0{L:List Chunk}{i:Nat}:∀{is:List Nat},(is.all λj=>!Nat.beq i j)=true->pick (L.set i NH) is=pick L is
 |[],_=>rfl
 |j::r,h=>by
  simp only[aP4,FX,Bool.not_eq_true'] at h;have hne:i≠j:=λe=>by simp_all
  simp only[pick,aL0 h.2,List.getElem?_set_ne hne]
theorem Sep.pick{w:World}:∀{is:List Nat} {L:List Chunk} {F:cV},dJ is=true->Sep w L F->∃F1 F2,Sep w (pick L is) F1/\F1.F9 F2/\∀b o,F b o↔F1 b o\/F2 b o
 |[],L,F,_,_=>⟨F0,F,λ_ _ h=>h,λ_ _ h _=>h,λb o=>by simp[F0]⟩
 |i::r,L,F,ha,h=>by
  simp only[dJ,FX] at ha;have h':Sep w ((L[i]?).getD NH::L.set i NH) F:=by
   cases hi:L[i]? with
   |some ch=>grind[Sep.take]
   |none=>
    rw[List.set_eq_of_length_le (List.getElem?_eq_none_iff.1 hi)];exact⟨F0,F,λ_ _ h=>h,h,λ_ _ h _=>h,λb o=>by simp[F0]⟩
  obtain⟨F1,F2,h1,h2,hd,hF⟩:=h';obtain⟨G1,G2,g1,gd,hG⟩:=Sep.pick ha.2 h2;rw[aL0 ha.1] at g1;exact⟨λb o=>F1 b o\/G1 b o,G2,⟨F1,G1,h1,g1,λb o h g=>hd b o h ((hG b o).2 (.inl g)),λ_ _=>Iff.rfl⟩,
   λb o h g=>h.elim (λh=>hd b o h ((hG b o).2 (.inr g))) (λh=>gd b o h g),λb o=>aj⟩
theorem St.sel(h:St c w L R)(is:List Nat)(ha:dJ is=true):St c w (pick L is) R:=by obtain⟨F,S,a1,a2,a3,a4,a5,a6⟩:=h.sep;obtain⟨F1,F2,h1,hd,hF⟩:=Sep.pick ha a1;exact⟨h.keep,⟨F1,S,h1,λb o hf=>a2 b o ((hF b o).2 (.inl hf)),λb o hf=>a3 b o ((hF b o).2 (.inl hf)),a4,a5,a6⟩,h.apart⟩
theorem a4Q{places:Array (Nat×Nat)}{ps:List (Nat×Operand)}{cells:Array Value}(ho:o.op=.build t ps.toArray)(hz:∀w,(zeroValue t).run P w=.ok z w)(hu:P.underlying t=some (.struct fs))
  (hp:∀w,(fs.mapM λf=>(do pure (f.offset,<-sizeOf f.type):Sem (Nat×Nat))).run P w=.ok places w) (hv:evs e (ps.map (·.2))=some vs) (hc:Instr.fill (places[·]?) z.cells ((ps.map (·.1)).zip vs)=some cells):fE P o e w (.agg cells) w:=λ_ a hA=>by
 have h1:ps.map (λp=>(p.1,a.eval p.2))=(ps.map (·.1)).zip vs:=by rw[<-VB hA hv];grind
 simp[execOp,ho,Instr.build,hz,run_underlying hu];simp_all
end
theorem QQ(d:Nat)(xs ys:Array Value):(Op.eqFields d xs ys []).run P w=.ok true w:=by simp[Op.eqFields]
theorem fF(d:Nat)(xs ys:Array Value)(f:Field)(fs:List Field){p q:Value}{b b':Bool}(hn:(f.name == "_")=false)(hx:(part f.type xs f.offset).run P w=.ok p w)(hy:(part f.type ys f.offset).run P w=.ok q w)(he:(Op.equalIn d f.type p q).run P w=.ok b w)(hr:(Op.eqFields d xs ys fs).run P w=.ok b' w) :
  (Op.eqFields d xs ys (f::fs)).run P w=.ok (b && b') w:=by
 simp only[beq_eq_false_iff_ne,ne_eq] at hn;cases b<;>simp[Op.eqFields,hn,hx,hy,he,hr]
theorem fI{cs:Array Value}{v:Value}(ha:∀w,(isAgg t).run P w=.ok false w)(hv:cs[j]?=some v):(part t cs j).run P w=.ok v w:=by simp_all[part]
theorem bDG{o:Oper}{y:Operand}{z':TypeId}{xs ys:Array Value}{b:Bool}(hg:P.eqGuardType P.depth t=false)(hst:P.stoodInHeld t=false)(hu:P.underlying t=some (.struct fs))(hb:∀w,(Op.eqFields 9999 xs ys (match P.underlying t with|some (.struct fs)=>fs|_=>#[]).toList).run P w=.ok b w)(ho:o.op=.binOp .eql t x y z')(hx:ev e x=some (.agg xs))(hy:ev e y=some (.agg ys)):fE P o e w (.bool b) w:=λ_ a hA=>by
 have hf:P.fieldsOf t=fs:=by grind[Program.fieldsOf]
 rw[hu] at hb;have h1:binOp .eql t (.agg xs) (.agg ys)=(do pure (.bool (<-Op.equal t (.agg xs) (.agg ys)))):=rfl;simp[execOp,ho,hA.eval hx,hA.eval hy,run_eqGuard_agg _ _ _ _ _ _ _ hg,h1,Op.equal,Op.maxDepth,run_equalIn_struct _ _ _ _ _ aj hst,hf,hb]
theorem a9O{o:Oper}{y:Operand}{z':TypeId}{xs ys:Array Value}{b:Bool}(hg:P.eqGuardType P.depth t=false)(hst:P.stoodInHeld t=false)(hu:P.underlying t=some (.struct fs))(hb:∀w,(Op.eqFields 9999 xs ys (match P.underlying t with|some (.struct fs)=>fs|_=>#[]).toList).run P w=.ok b w)(ho:o.op=.binOp .neq t x y z')(hx:ev e x=some (.agg xs))(hy:ev e y=some (.agg ys)):fE P o e w (.bool (!b)) w:=λ_ a hA=>by
 have hf:P.fieldsOf t=fs:=by grind[Program.fieldsOf]
 rw[hu] at hb;have h1:binOp .neq t (.agg xs) (.agg ys)=(do pure (.bool (!(<-Op.equal t (.agg xs) (.agg ys))))):=rfl;simp[execOp,ho,hA.eval hx,hA.eval hy,run_eqGuard_agg _ _ _ _ _ _ _ hg,h1,Op.equal,Op.maxDepth,run_equalIn_struct _ _ _ _ _ aj hst,hf,hb]
theorem mC{k':IntKind}{k:IntKind}{a b:Int}(h:P.underlying t=some (.int k')):(Op.equalIn (d+1) t (.int k a) (.int k b)).run P w=.ok (a == b) w:=run_equalIn_int w d t k k' a b h
theorem aDQ{a b:Bool}(h:P.underlying t=some .bool):(Op.equalIn (d+1) t (.bool a) (.bool b)).run P w=.ok (a == b) w:=run_equalIn_bool' w d t a b h
class Flat (O:Type) [aL O]:Prop where
 own_of:∀{S:cV} {w w':World} {cs:List Value} {d:O},aL.rd S w cs d->aL.own w' cs d F0
 no:∀{w:World} {cs:List Value} {d:O} {F:cV},aL.own w cs d F->∀b o,¬F b o
instance:Flat Int:=⟨λh=>⟨h,λ_ _ h=>h⟩,λh=>h.2⟩
instance:Flat Bool:=⟨λh=>⟨h,λ_ _ h=>h⟩,λh=>h.2⟩
instance:Flat UInt8:=⟨λh=>⟨h,λ_ _ h=>h⟩,λh=>h.2⟩
instance:Flat bCS:=⟨λh=>⟨h,λ_ _ h=>h⟩,λh=>h.2⟩
instance {O J:Type} [aL O] [aL J] [Flat O] [Flat J]:Flat (O×J):=⟨by
 rintro S w w' cs d ⟨c1,c2,rfl,h1,h2⟩;exact⟨c1,c2,F0,F0,rfl,Flat.own_of h1,Flat.own_of h2,λ_ _ h _=>h,λ_ _=>by simp[F0]⟩,by
 rintro w cs d F ⟨c1,c2,F1,F2,_,h1,h2,_,hF⟩ b o h;exact((hF b o).1 h).elim (Flat.no h1 b o) (Flat.no h2 b o)⟩
theorem a4R[aL O][Flat O]{cs:List Value}{d:O}(h:aL.own w cs d F):aL.own w' cs d F0:=Flat.own_of (aL.own_rd h)
def LY(cc:List Value)(n i:Nat):List Value:=(cc.drop (i*n)).take n
theorem uJ(hj:j<n):(LY cc n i)[j]?=cc[i*n+j]?:=by simp_all[LY]
theorem aL1{len:Nat}(hc:cc.length=len*n)(hi:i<len):(LY cc n i).length=n:=by unfold LY;rw[aDN,aHT,hc];have:(i+1)*n<=len*n:=vK n aa;grind
theorem aL2{w:World}{b off:Nat}:∀(k:Nat),(∀j,j<k->(w.cell? ⟨b,off+j,none⟩).isSome=true)->∃cc:List Value,cc.length=k/\bL w b off cc
 |0,_=>⟨[],rfl,λj v h=>by simp at h⟩
 |k + 1,h=>by
  obtain⟨cc,h1,h2⟩:=aL2 k λj hj=>h j aa;obtain⟨v,hv⟩:=aLY.1 (h k aa);refine⟨cc++[v],by simp[h1],λj u hj=>?_⟩;rw[aHQ] at hj;split at hj
  ·exact h2 j u hj
  grind
theorem a4S{b off:Nat}{ec:List Value}(h:bL w b off cc)(h2:bL w b (off+i*n) ec)(he:ec.length=n)(hc:(i+1)*n<=cc.length):LY cc n i=ec:=by
 rw[nK] at hc;apply aBI;intro j;by_cases hj:j<n
 ·rw[uJ hj];have h3:=h (i*n+j) cc[i*n+j] (lH aa);have h4:=h2 j ec[j] (lH aa);grind
 grind[LY]
theorem O2[aL O]{S:cV}{l:List O}(h:aL.rd S w [s] l):∃ad c cc,s=.slice ad l.length c/\cc.length=l.length*aL.n O/\(l=[]\/∃b off,ad=some ⟨b,off,none⟩/\bL w b off cc)/\∀i x,l[i]?=some x->aL.rd S w (LY cc (aL.n O) i) x:=by
 obtain⟨ad,c,h1,h2,h3,h4⟩:=(show AS S w [s] l from h);simp at h1;subst h1;rcases h4 with h4|⟨b,off,rfl,h4⟩
 ·simp_all
 ·have hs:∀j,j<l.length*aL.n O->(w.cell? ⟨b,off+j,none⟩).isSome=true:=λj hj=>by
   have hn:0<aL.n O:=aj
   have hi:j/aL.n O<l.length:=(Nat.div_lt_iff_lt_mul hn).2 hj;obtain⟨ec,e1,_,e2⟩:=h4 _ hi;have hm:=Nat.mod_lt j hn;have hl:=aL.mB e2;have:=e1 (j % aL.n O) ec[j % aL.n O] (lH aa);grind[Nat.div_add_mod]
  obtain⟨cc,c1,c2⟩:=aL2 _ hs;grind[a4S,aL.mB,vK]
section
variable {P:Program} {o:Oper} {e:Env} {w w':World} {c:Ctx} {L:List Chunk} {R:List Fact} {x y:Operand} {t el:TypeId}
theorem aK0[aL O]{S:cV}{l:List O}(hc:cc.length=l.length*aL.n O)(h:∀i x,l[i]?=some x->aL.rd S w (LY cc (aL.n O) i) x):∀v∈cc,v.oneCell'=true:=by
 intro v hv;obtain⟨j,hj,rfl⟩:=aDL hv;have hn:0<aL.n O:=aj
 have hi:j/aL.n O<l.length:=(Nat.div_lt_iff_lt_mul hn).2 aa;have hm:=Nat.mod_lt j hn;refine aL.rd_one (h _ _ (lH hi)) _ (K9 (i:=j % aL.n O) ?_);grind[uJ,Nat.div_add_mod]
theorem a0A[aL O][Flat O]{S:cV}{w w0:World}{b off cap:Nat}{l:List O}(hc:bL w b off cc)(hcl:cc.length=l.length*aL.n O)(hr:∀i x,l[i]?=some x->aL.rd S w0 (LY cc (aL.n O) i) x)(hlen:l.length<=cap)(hmax:cap<=maxLen)
  (hrow:∀o,eK b off (cap*aL.n O) b o->(w.cell? ⟨b,o,none⟩).isSome=true/\w.frozen? ⟨b,o,none⟩=false):aL.own w [.slice (some ⟨b,off,none⟩) l.length cap] l (eK b off (cap*aL.n O)):=by
 refine⟨_,cap,rfl,hlen,hmax,.inr ⟨b,off,λ_=>F0,rfl,hrow,λi hi=>⟨LY cc (aL.n O) i,?_,Flat.own_of (hr i l[i] (lH hi))⟩,λ_ _ _ _ _ _ _ h _=>h,λ_ _ _ _ h _=>h,λb' o=>by simp[F0]⟩⟩;intro j v hj;have hlt:=(I6.1 hj).1;rw[aL1 hcl hi] at hlt;rw[uJ hlt] at hj;have:=hc _ v hj;grind
theorem a0B[aL O][Flat O]{S:cV}(w0:World)(hS:St c w L R)(cells:List Value)(rest:List Value)(l:List O)(cap:Nat)(ty:TypeId)(hc:cells.length=l.length*aL.n O)(hr:∀i x,l[i]?=some x->aL.rd S w0 (LY cells (aL.n O) i) x)(hcap:(cells++rest).length=cap*aL.n O)(hlen:l.length<=cap)(hmax:cap<=maxLen) :
  St c (w.alloc (.cells (cells++rest).toArray ty)) (L++[fK [.slice (some ⟨w.heap.size,0,none⟩) l.length cap] l]) R:=by
 have hcell:∀j,(w.alloc (.cells (cells++rest).toArray ty)).cell? ⟨w.heap.size,j,none⟩=(cells++rest)[j]?:=λj=>ae
 refine hS.more (eJ.alloc _ _ _) ⟨_,a0A (w0:=w0) (cc:=cells) (λj v hj=>?_) hc hr hlen hmax (λo' ho=>?_),λb o' hb=>WS hb.1.symm⟩
 ·grind
 ·obtain⟨_,_,h3⟩:=ho;simp_all
def YH(P:Program)(el:TypeId)(m:Nat)(z:Value):Prop:=∃ti,P.info? el=some ti/\ti.zero=some z/\ti.size=m/\ti.bytes<=65536
theorem BY{el b:Nat}(h:(P.info? el).map (λi=>(i.zero,i.size,i.bytes))=some (some z,m,b))(hb:Nat.ble b 65536=true):YH P el m z:=by
 cases hi:P.info? el with
 |none=>grind
 |some ti=>
  rw[hi] at h;simp at h;exact⟨ti,hi,h.1,h.2.1,by simp_all⟩
theorem a4T(hz:z.cells.size=m)(hi:i<k):LY (madeCells z.cells (k*m)).toList m i=z.cells.toList:=by
 apply aBI;intro j;by_cases hj:j<m
 ·rw[uJ hj];have h1:i*m+j<k*m:=by have:(i+1)*m<=k*m:=vK m aa;grind
  simp_all[Nat.mod_eq_of_lt,madeCells]
 grind[LY]
theorem JE[aL O]{ad:Option Addr}(hc:cc.length=n*m)(h:n=0\/∃b off,ad=some ⟨b,off,none⟩/\bL w b off cc):(Builtin.firstCells m n (.slice ad n k)).run P w=.ok cc.toArray w:=by
 rcases h with h|⟨b,off,rfl,h⟩
 ·subst h;have:cc=[]:=xL aa;subst this;cases ad<;>simp[Builtin.firstCells,loadCells,loadCellsFrom]
 grind[rW,Builtin.firstCells]
theorem a2B[aL O][Flat O]{s2:Value}{l xs:List O}(i:Nat)(hS:St c w L R)(hi:L[i]?=some (fK [s] l))(hsrc:aL.rd (All w) w [s2] xs)(hn:aL.n O=m)(hu:P.underlying t=some (.slice el))(hinf:YH P el m z)(hzs:z.cells.size=m)
  (hb:l.length+xs.length<=1073741824) (ho:o.op=.call {callee:=.builtin .append,args:=#[x,y],argTypes:=#[t,t]}) (hx:ev e x=some s) (hy:ev e y=some s2) :
  ∃v w',fE P o e w v w'/\St c w' (L.set i (fK [v] (l++xs))) R:=by
 subst hn;obtain⟨ti,hti,hz,hsz,hby⟩:=hinf;obtain⟨ad2,c2,cc2,rfl,hl2,hc2,hr2⟩:=O2 hsrc;obtain⟨F,hF⟩:=hS.chunk i hi;have hF:aL.own w [s] l F:=hF;obtain⟨ad,cap,cc,rfl,hl1,hc1,hr1⟩:=O2 (aL.own_rd hF);obtain⟨ad',cap',he,hlc,hcm,hrest⟩:=(show LA w [_] l F from hF);simp at he;obtain⟨rfl,rfl⟩:=he;have hone2:=aK0 hl2 hr2;have hsegs:∀j q,(l++xs)[j]?=some q->aL.rd (λb o=>True) w (LY (cc++cc2) (aL.n O) j) q:=by
  intro j q hj;rw[aHQ] at hj;split at hj
  ·rename_i hlt;have:LY (cc++cc2) (aL.n O) j=LY cc (aL.n O) j:=by
    have hle:(j+1)*aL.n O<=l.length*aL.n O:=vK _ aa;rw[nK] at hle;apply aBI;intro p;by_cases hp:p<aL.n O
    ·rw[uJ hp,uJ hp,List.getElem?_append_left aa]
    ·rw[List.getElem?_eq_none (by unfold LY;simp;omega),List.getElem?_eq_none (by unfold LY;simp;omega)]
   rw[this];exact aL.rd_mono (hr1 j q hj) λ_ _ _=>trivial
  ·rename_i hge;have:LY (cc++cc2) (aL.n O) j=LY cc2 (aL.n O) (j-l.length):=by
    apply aBI;intro p;by_cases hp:p<aL.n O
    ·have hj2:j*aL.n O=l.length*aL.n O+(j-l.length)*aL.n O:=by rw[<-nK];grind
     rw[uJ hp,uJ hp,aRX aa];congr 1;omega
    grind[LY]
   rw[this];exact aL.rd_mono (hr2 _ q hj) λ_ _ _=>trivial
 have hlen:(cc++cc2).length=(l++xs).length*aL.n O:=aj
 have hsrc':xs.length=0\/∃b off,ad2=some ⟨b,off,none⟩/\bL w b off cc2:=hc2.imp (λh=>by simp[h]) id;have hf2:=JE (P:=P) (O:=O) (k:=c2) hl2 hsrc';have hexec:∀(v:Value) (w':World),(Builtin.append_ #[t,t] o.type #[.slice ad l.length cap,.slice ad2 xs.length c2]).run P w=.ok v w'->fE P o e w v w':=by intro v w' h _ a hA;simp[execOp,ho,resolve,invoke,builtin,hA.eval hx,hA.eval hy,h]
 by_cases hroom:l.length+xs.length<=cap
 ·
  rcases hrest with ⟨rfl,rfl,_⟩|⟨b,off,Fs,rfl,hrow,hel,hd1,hd2,hFF⟩
  ·have hl0:l=[]:=xL aa;have hx0:xs=[]:=xL aa;subst hl0;subst hx0;refine⟨.slice none 0 0,w,hexec _ _ ?_,?_⟩
   ·have hf2:(Builtin.firstCells (aL.n O) 0 (.slice ad2 0 c2)).run P w=.ok cc2.toArray w:=hf2;simp[Builtin.append_,run_underlying hu,sizeOf,typeInfo,hti,Builtin.lenOf,hsz,hf2]
   ·rw[uA];refine hS.aDO i hi λF hF=>⟨F,F0,eJ.refl _ _,λ_ _ h=>h.elim,hF,λ_ _ h=>.inl h⟩
  ·have hcc:bL w b off cc:=by
    rcases hc1 with h|⟨b',off',h,hc⟩
    ·subst h;have:cc=[]:=xL aj;subst this;intro j v hj;simp at hj
    grind
   have hmul:(l.length+xs.length)*aL.n O<=cap*aL.n O:=vK _ hroom;rw[nK] at hmul;obtain⟨w',hst,hk,hws,hcell⟩:=pO (b:=b) P cc2 w (off+l.length*aL.n O) 0 hone2 (λq _ hq=>hrow _ ⟨rfl,aa,aa⟩);refine⟨_,w',hexec _ _ (by
    have hadd:(⟨b,off,none⟩:Addr).add (l.length*aL.n O)=⟨b,off+l.length*aL.n O,none⟩:=by simp[Addr.add]
    simp[Builtin.append_,run_underlying hu,sizeOf,typeInfo,hti,Builtin.lenOf,hsz,hf2,hroom,hadd,hst];rfl),?_⟩
   refine hS.aDO i hi λF2 hF2=>?_;have hF2:LA w [_] l F2:=hF2;obtain⟨_,_,he2,_,_,hr⟩:=hF2;simp at he2;obtain⟨rfl,rfl⟩:=he2;rcases hr with ⟨h,_,_⟩|⟨b',off',Fs',h,_,_,_,_,hFF2⟩
   ·cases h
   simp at h;obtain⟨rfl,rfl⟩:=h;refine⟨eK b off (cap*aL.n O),_,hk,λb' o' h=>(hFF2 b' o').2 (.inl ?_),?_,λb' o' h=>.inl ((hFF2 b' o').2 (.inl h))⟩
   ·obtain⟨e1,e2,e3⟩:=h;exact⟨e1,aa,aa⟩
   ·have hcc':bL w' b off (cc++cc2):=by
     intro j v hj;rw[aHQ] at hj;split at hj
     ·rename_i hlt;have hc:=hcc j v hj;rw[hk.cell b (off+j) (World.block_lt_of_cell? w _ hc) (λhh=>by obtain⟨_,e2,_⟩:=hh;omega)];exact hc
     ·rename_i hge;have:=hcell _ v hj;rw[show off+l.length*aL.n O+0+(j-cc.length)=off+j from by omega] at this;exact this
    have hll:l.length+xs.length=(l++xs).length:=ae
    rw[hll];exact a0A hcc' hlen hsegs ah hcm (λo' ho'=>⟨hk.stay b o' (hrow o' ho').1,(hk.AR b o' (jT (hrow o' ho').1)).trans (hrow o' ho').2⟩)
 ·
  have hbytes:(l.length+xs.length)*ti.bytes<=140737488355328:=by have:(l.length+xs.length)*ti.bytes<=1073741824*65536:=Nat.mul_le_mul hb hby;omega
  have hfit:=growslice_fits (need:=l.length+xs.length) (old:=cap) (bytes:=ti.bytes) aa hbytes;obtain⟨hge,hle⟩:l.length+xs.length<=grownCap w (l.length+xs.length) cap el/\grownCap w (l.length+xs.length) cap el<=maxLen:=⟨grownCap_ge _ _ _ _,grownCap_le_maxLen _ _ _ _ (by grind[maxLen])⟩;have hrun:(Builtin.append_ #[t,t] o.type #[.slice ad l.length cap,.slice ad2 xs.length c2]).run P w=.ok (.slice (some ⟨w.heap.size,0,none⟩) (l.length+xs.length) (grownCap w (l.length+xs.length) cap el)) (w.drew.alloc (.cells (cc.toArray++cc2.toArray++Builtin.zeroCells z.cells (grownCap w (l.length+xs.length) cap el-(l.length+xs.length))) el)):=by
   have hn1:¬(l.length+xs.length<=cap):=hroom;have h63':¬(9223372036854775807<((l.length:Int)+(xs.length:Int))):=aa
   have h48':¬(281474976710656<Builtin.nextslicecap (l.length+xs.length) cap*ti.bytes):=aa
   have hf1:(Builtin.firstCells (aL.n O) l.length (.slice ad l.length cap)).run P w.drew=.ok cc.toArray w.drew:=JE (O:=O) hl1 (hc1.imp (λh=>by simp[h]) id);have hf2:(Builtin.firstCells (aL.n O) xs.length (.slice ad2 xs.length c2)).run P w.drew=.ok cc2.toArray w.drew:=JE (O:=O) hl2 hsrc';simp[Builtin.append_,run_underlying hu,sizeOf,typeInfo,zeroValue,hti,hz,hsz,Builtin.lenOf,hn1,h63',h48',Question.forced,hf1,hf2,newRow,grownCap];grind
  refine⟨_,_,hexec _ _ hrun,?_⟩;refine hS.aDO i hi λF2 hF2=>?_;have hz2:(Builtin.zeroCells z.cells (grownCap w (l.length+xs.length) cap el-(l.length+xs.length))).size=(grownCap w (l.length+xs.length) cap el-(l.length+xs.length))*aL.n O:=by grind[size_zeroCells]
  have htot:((cc++cc2)++(Builtin.zeroCells z.cells (grownCap w (l.length+xs.length) cap el-(l.length+xs.length))).toList).length=grownCap w (l.length+xs.length) cap el*aL.n O:=by
   have hz3:(Builtin.zeroCells z.cells (grownCap w (l.length+xs.length) cap el-(l.length+xs.length))).toList.length=(grownCap w (l.length+xs.length) cap el-(l.length+xs.length))*aL.n O:=aa
   rw[K8,hlen,hz3,K8,<-nK];grind
  have hst0:St (eQ w) w [] []:=St.enter ae;have hnew:=a0B (S:=λb o=>True) w (hst0.same (eJ.drew F0 w)) (cc++cc2) (Builtin.zeroCells z.cells (grownCap w (l.length+xs.length) cap el-(l.length+xs.length))).toList (l++xs) (grownCap w (l.length+xs.length) cap el) el hlen hsegs htot ah hle;obtain⟨Fn,hFn⟩:=hnew.chunk 0 rfl;obtain⟨Ft,St',⟨Fa,Fb,ha,_,_,hFab⟩,_,hFt,_⟩:=hnew.sep;have heq:((cc++cc2)++(Builtin.zeroCells z.cells (grownCap w (l.length+xs.length) cap el-(l.length+xs.length))).toList).toArray=cc.toArray++cc2.toArray++Builtin.zeroCells z.cells (grownCap w (l.length+xs.length) cap el-(l.length+xs.length)):=ae
  rw[heq] at ha;have hll:l.length+xs.length=(l++xs).length:=ae
  refine⟨Fa,F0,(eJ.drew F0 w).trans (eJ.alloc F0 _ _) (λ_ _ _ h=>h),λ_ _ h=>h.elim,?_,λb' o' h=>.inr ?_⟩
  ·have ha:aL.own _ _ (l++xs) Fa:=ha;have hsz2:w.drew.heap.size=w.heap.size:=rfl;grind
  ·rcases hFt b' o' ((hFab b' o').2 (.inl h)) with h|h
   ·exact h.elim
   ·exact h
def aR2{O:Type}[aL O](m:Nat):List Value->List O->Prop
 |cs,[]=>cs=[]
 |cs,x::r=>aL.rd F0 default (cs.take m) x/\aR2 m (cs.drop m) r
theorem aR2.get{O:Type}[aL O]{m:Nat}(hn:aL.n O=m):∀{l:List O} {cs:List Value},aR2 m cs l->cs.length=l.length*m/\∀i x,l[i]?=some x->aL.rd F0 default (LY cs m i) x
 |[],cs,h=>by have h:cs=[]:=h;grind
 |y::r,cs,⟨h1,h2⟩=>by
  obtain⟨h3,h4⟩:=aR2.get hn h2;have h5:=aL.mB h1;rw[aDN,hn] at h5;rw[aHT] at h3;refine⟨by simp[nK];omega,λi x hx=>?_⟩;cases i with
  |zero=>grind[LY]
  |succ i=>
   grind[LY,List.drop_drop]
theorem a4U[aL O][Flat O]{len:Nat}{ps:List (Nat×Operand)}{cells:List Value}(l:List O)(hS:St c w L R)(hn:aL.n O=m)(hu:P.underlying t=some (.slice el))(hinf:YH P el m z)(hl:l.length=len)(hm:Nat.ble 1 m=true)(hsmall:Nat.ble (len*m) 16777216=true)(hrd:aR2 m cells l)
  (ho:o.op=.buildSlice t len ps.toArray) (hv:evs e (ps.map (·.2))=some vs) (hc:Instr.fill (λi=>some (i*m,m)) ((Array.range (len*m)).map (λi=>(if len*m=0 then #[] else z.cells)[i % (if len*m=0 then #[] else z.cells).size]!)) ((ps.map (·.1)).zip vs)=some cells.toArray) :
  ∃v w',fE P o e w v w'/\St c w' (L++[fK [v] l]) R:=by
 subst hl;obtain⟨ti,hi,hz,hsz,hby⟩:=hinf;obtain⟨h1,h2⟩:=hrd.get hn;have hsm:¬l.length*m > 2 ^ 24:=by simp_all
 have hlm:l.length<=16777216:=by have:=Nat.le_mul_of_pos_right l.length (TX hm);omega
 have hlmax:l.length<=maxLen:=by grind[maxLen]
 have hnew:=a0B (S:=F0) default hS cells [] l l.length el aj aj aj (kY _) hlmax;rw[uA] at hnew;refine⟨_,_,λ_ a hA=>?_,hnew⟩;have hps:ps.map (λp=>(p.1,a.eval p.2))=(ps.map (·.1)).zip vs:=by rw[<-VB hA hv];grind
 by_cases h0:l.length*m=0
 ·simp only[h0,bV] at hc;simp[execOp,ho,Instr.buildSlice,run_underlying hu,sizeOf,typeInfo,hi,hsz,h0,hps];simp_all[newRow]
 ·simp only[h0,bN] at hc;simp[execOp,ho,Instr.buildSlice,run_underlying hu,sizeOf,typeInfo,zeroValue,hi,hz,hsz,h0,hsm,hps];simp_all[newRow]
end
def cX{O:Type}[aL O](w:World):List Value->List O->cV->Prop
 |cs,[],F=>cs=[]/\∀b o,¬F b o
 |cs,x::r,F=>∃c1 c2 F1 F2,cs=c1++c2/\aL.own w c1 x F1/\cX w c2 r F2/\cV.F9 F1 F2/\∀b o,F b o↔F1 b o\/F2 b o
theorem cX.congr[aL O]{cs:List Value}{l:List O}{G:cV}(h:cX w cs l F)(hFG:∀b o,F b o↔G b o):cX w cs l G:=by
 have:F=G:=aj
 grind
theorem cX.length{O:Type}[aL O]{w:World}:∀{l:List O} {cs:List Value} {F:cV},cX w cs l F->cs.length=l.length*aL.n O
 |[],cs,F,h=>by simp[h.1]
 |x::r,cs,F,⟨c1,c2,F1,F2,e,h1,h2,_,_⟩=>by have a:=aL.mB (aL.own_rd h1);have b:=cX.length h2;grind
theorem cX.keep{O:Type}[aL O]{w w':World}{G:cV}(hk:eJ G w w'):∀{l:List O} {cs:List Value} {F:cV},cX w cs l F->F.F9 G->cX w' cs l F
 |[],cs,F,h,_=>h
 |x::r,cs,F,⟨c1,c2,F1,F2,e,h1,h2,hd,hF⟩,hg=>
  ⟨c1,c2,F1,F2,e,aL.own_keep h1 hk λb o h g=>hg b o ((hF b o).2 (.inl h)) g,cX.keep hk h2 λb o h g=>hg b o ((hF b o).2 (.inr h)) g,hd,hF⟩
theorem cX.lt{O:Type}[aL O]{w:World}:∀{l:List O} {cs:List Value} {F:cV} {b o:Nat},cX w cs l F->F b o->b<w.heap.size
 |[],_,_,b,o,h,hf=>(h.2 b o hf).elim
 |x::r,cs,F,b,o,⟨c1,c2,F1,F2,e,h1,h2,hd,hF⟩,hf=>by
  rcases(hF b o).1 hf with h|h
  ·exact aL.own_lt h1 h
  ·exact cX.lt h2 h
theorem cX.app{O:Type}[aL O]{w:World}:∀{l m:List O} {cs ds:List Value} {F G H:cV},cX w cs l F->cX w ds m G->F.F9 G->(∀b o,H b o↔F b o\/G b o)->cX w (cs++ds) (l++m) H
 |[],m,cs,ds,F,G,H,h,k,_,hH=>by rw[h.1];exact cX.congr k λb o=>by rw[hH];exact⟨.inr,λq=>q.elim (λq=>(h.2 b o q).elim) id⟩
 |x::r,m,cs,ds,F,G,H,⟨c1,c2,F1,F2,e,h1,h2,hd,hF⟩,k,hdj,hH=>by
  subst e;refine⟨c1,c2++ds,F1,λb o=>F2 b o\/G b o,ae,h1,cX.app h2 k (λb o p q=>hdj b o ((hF b o).2 (.inr p)) q) λ_ _=>Iff.rfl,?_,λb o=>aj⟩;rintro b o p (q|q)
  ·exact hd b o p q
  ·exact hdj b o ((hF b o).2 (.inl p)) q
theorem cX.split{O:Type}[aL O]{w:World}:∀{l m:List O} {cs:List Value} {H:cV},cX w cs (l++m) H->∃c1 c2 F G,cs=c1++c2/\cX w c1 l F/\cX w c2 m G/\F.F9 G/\∀b o,H b o↔F b o\/G b o
 |[],m,cs,H,h=>⟨[],cs,F0,H,rfl,⟨rfl,λ_ _ h=>h⟩,h,λ_ _ h=>h.elim,λb o=>by simp[F0]⟩
 |x::r,m,cs,H,⟨c1,c2,F1,F2,e,h1,h2,hd,hF⟩=>by
  obtain⟨d1,d2,G1,G2,e2,k1,k2,kd,kF⟩:=cX.split h2;subst e;subst e2;refine⟨c1++d1,d2,λb o=>F1 b o\/G1 b o,G2,ae,⟨c1,d1,F1,G1,rfl,h1,k1,λb o p q=>hd b o p ((kF b o).2 (.inl q)),λ_ _=>Iff.rfl⟩,k2,?_,λb o=>aj⟩;rintro b o (p|p) q
  ·exact hd b o p ((kF b o).2 (.inr q))
  ·exact kd b o p q
theorem cX.one[aL O]{c:List Value}{x:O}:cX w c [x] F↔aL.own w c x F:=by
 constructor
 ·rintro⟨c1,c2,F1,F2,e,h1,⟨h2,h3⟩,hd,hF⟩;subst e;subst h2;have:F=F1:=aj
  grind
 ·intro h;exact⟨c,[],F,F0,ae,h,⟨rfl,λ_ _ h=>h⟩,λ_ _ _ h=>h,λb o=>by simp[F0]⟩
theorem cX.rd{O:Type}[aL O]{w:World}:∀{l:List O} {cs:List Value} {F:cV},cX w cs l F->∀i x,l[i]?=some x->aL.rd F w (LY cs (aL.n O) i) x
 |[],cs,F,_,i,x,h=>by simp at h
 |y::r,cs,F,⟨c1,c2,F1,F2,e,h1,h2,hd,hF⟩,i,x,h=>by
  have a:=aL.mB (aL.own_rd h1);subst e;cases i with
  |zero=>
   simp at h;subst h;have:LY (c1++c2) (aL.n O) 0=c1:=by grind[LY]
   rw[this];exact aL.rd_mono (aL.own_rd h1) λb o q=>(hF b o).2 (.inl q)
  |succ i=>
   have:LY (c1++c2) (aL.n O) (i+1)=LY c2 (aL.n O) i:=by grind[LY,nK,List.drop_drop,List.drop_left]
   rw[this];exact aL.rd_mono (cX.rd h2 i x aj) λb o q=>(hF b o).2 (.inr q)
def Row(w:World)(b off n:Nat):Prop:=∀o,eK b off n b o->(w.cell? ⟨b,o,none⟩).isSome=true/\w.frozen? ⟨b,o,none⟩=false
theorem a0C{O:Type}[aL O]{w:World}{b:Nat}:∀{l:List O} {off:Nat} {Fs:Nat->cV},(∀i (h:i<l.length),∃ec,bL w b (off+i*aL.n O) ec/\aL.own w ec l[i] (Fs i)) ->
  (∀i j,i<l.length->j<l.length->i≠j->cV.F9 (Fs i) (Fs j))->∃cc,bL w b off cc/\cX w cc l (λb' o=>∃i,i<l.length/\Fs i b' o)
 |[],off,Fs,_,_=>⟨[],λj v h=>by simp at h,rfl,λb o ⟨i,h,_⟩=>by simp at h⟩
 |x::r,off,Fs,h,hd=>by
  obtain⟨ec,h1,h2⟩:=h 0 ae;obtain⟨cc,h3,h4⟩:=a0C (l:=r) (off:=off+aL.n O) (Fs:=λi=>Fs (i+1)) (λi hi=>by
   obtain⟨ec,k1,k2⟩:=h (i+1) ah;exact⟨ec,by rw[show off+aL.n O+i*aL.n O=off+(i+1)*aL.n O by grind];exact k1,aj⟩)
   λi j hi hj hij=>hd (i+1) (j+1) ah ah aa
  have hl:=aL.mB (aL.own_rd h2);refine⟨ec++cc,λj v hj=>?_,ec,cc,Fs 0,_,rfl,aj,h4,?_,λb' o=>?_⟩
  ·rw[aHQ] at hj;split at hj
   ·have:=h1 j v hj;grind
   ·have:=h3 _ v hj;grind
  ·rintro b' o p ⟨i,hi,q⟩;exact hd 0 (i+1) ae ah aa b' o p q
  ·constructor
   ·rintro⟨i,hi,q⟩;cases i with
    |zero=>exact .inl q
    |succ i=>grind
   grind
theorem a0D{O:Type}[aL O]{w:World}{b:Nat}:∀{l:List O} {off:Nat} {cc:List Value} {F:cV},bL w b off cc->cX w cc l F ->
  ∃Fs:Nat->cV,(∀i (h:i<l.length),∃ec,bL w b (off+i*aL.n O) ec/\aL.own w ec l[i] (Fs i))/\(∀i j,i<l.length->j<l.length->i≠j->cV.F9 (Fs i) (Fs j))/\∀b' o,F b' o↔∃i,i<l.length/\Fs i b' o
 |[],off,cc,F,_,h=>⟨λ_=>F0,λi h=>by simp at h,λi j h=>by simp at h,λb o=>⟨λq=>(h.2 b o q).elim,λ⟨i,h,_⟩=>by simp at h⟩⟩
 |x::r,off,cc,F,hc,⟨c1,c2,F1,F2,e,h1,h2,hd,hF⟩=>by
  have hl:=aL.mB (aL.own_rd h1);subst e;have k1:bL w b off c1:=λj v hj=>hc j v aj;have k2:bL w b (off+aL.n O) c2:=λj v hj=>by have:=hc (c1.length+j) v aj;grind
  obtain⟨Fs,a1,a2,a3⟩:=a0D k2 h2;refine⟨λi=>match i with|0=>F1|i+1=>Fs i,λi hi=>?_,λi j hi hj hij=>?_,λb' o=>?_⟩
  ·cases i with
   |zero=>grind
   |succ i=>
    obtain⟨ec,q1,q2⟩:=a1 i aj;grind
  ·cases i with
   |zero=>
    cases j with
    |zero=>omega
    |succ j=>exact λb o p q=>hd b o p ((a3 b o).2 ⟨j,aj,q⟩)
   |succ i=>
    cases j with
    |zero=>exact λb o p q=>hd b o q ((a3 b o).2 ⟨i,aj,p⟩)
    |succ j=>grind
  ·rw[hF,a3];constructor
   ·rintro(q|⟨i,hi,q⟩)
    ·exact⟨0,ae,q⟩
    ·exact⟨i+1,ah,q⟩
   ·rintro⟨i,hi,q⟩;cases i with
    |zero=>exact .inl q
    |succ i=>grind
theorem lZ[aL O]{l:List O}:aL.own w [s] l F↔∃a c,s=.slice a l.length c/\l.length<=c/\c<=maxLen /\
  ((a=none/\c=0/\∀b o,¬F b o)\/∃b off cc Fe,a=some ⟨b,off,none⟩/\Row w b off (c*aL.n O)/\bL w b off cc/\cX w cc l Fe/\cV.F9 Fe (eK b off (c*aL.n O))/\∀b' o,F b' o↔eK b off (c*aL.n O) b' o\/Fe b' o):=by
 show LA w [s] l F↔_;constructor
 ·rintro⟨a,c,e,h1,h2,h3⟩;simp at e;refine⟨a,c,e,h1,h2,h3.imp id ?_⟩;rintro⟨b,off,Fs,e2,hr,he,hd1,hd2,hF⟩;obtain⟨cc,k1,k2⟩:=a0C he hd1;exact⟨b,off,cc,_,e2,hr,k1,k2,λb o ⟨i,hi,q⟩ p=>hd2 i hi b o q p,hF⟩
 ·rintro⟨a,c,e,h1,h2,h3⟩;refine⟨a,c,by rw[e],h1,h2,h3.imp id ?_⟩;rintro⟨b,off,cc,Fe,e2,hr,k1,k2,hd,hF⟩;obtain⟨Fs,a1,a2,a3⟩:=a0D k1 k2;exact⟨b,off,Fs,e2,hr,a1,a2,λi hi b o q p=>hd b o ((a3 b o).2 ⟨i,hi,q⟩) p,λb' o=>by rw[hF,a3]⟩
def blank(L:List Chunk):List Nat->List Chunk
 |[]=>L
 |i::r=>blank (L.set i NH) r
theorem Sep.blank{w:World}:∀{is:List Nat} {L:List Chunk} {F:cV},dJ is=true->Sep w L F->Sep w (Gv.pick L is++Gv.blank L is) F
 |[],L,F,_,h=>h
 |i::r,L,F,ha,h=>by
  simp only[dJ,FX] at ha;have hp:=aL0 (L:=L) ha.1;show Sep w ((L[i]?).getD NH::(Gv.pick L r++Gv.blank (L.set i NH) r)) F;cases hi:L[i]? with
  |none=>
   have:L.set i NH=L:=List.set_eq_of_length_le aj;rw[this];exact⟨F0,F,λ_ _ h=>h,Sep.blank ha.2 h,λ_ _ h=>h.elim,λb o=>by simp[F0]⟩
  |some ch=>
   obtain⟨F1,F2,h1,h2,hd,hF⟩:=(Sep.take hi).1 h;exact⟨F1,F2,h1,by rw[<-hp];exact Sep.blank ha.2 h2,hd,hF⟩
section
variable {c:Ctx} {w w':World} {L:List Chunk} {R:List Fact}
theorem St.front(h:St c w L R)(is:List Nat)(ha:dJ is=true):St c w (pick L is++blank L is) R:=by obtain⟨F,S,hsep,rest⟩:=h.sep;exact⟨h.keep,⟨F,S,Sep.blank ha hsep,rest⟩,h.apart⟩
theorem St.a4V(h:St c w L R)(is:List Nat)(ha:dJ is=true)(hs:∀F,Sep w (pick L is) F->∃F' G,eJ G w w'/\(∀b o,G b o->F b o)/\Sep w' A' F'/\∀b o,F' b o->F b o\/w.heap.size<=b) :
  St c w' (blank L is++A') R:=St.rot (St.step (h.front is ha) hs)
theorem St.shift(h:St c w L R)(is:List Nat)(ha:dJ is=true)(hs:∀F,Sep w (pick L is) F->Sep w A' F):St c w (blank L is++A') R:=
 h.a4V is ha λF hF=>⟨F,F0,eJ.refl _ _,λ_ _ h=>h.elim,hs F hF,λ_ _ h=>.inl h⟩
end
theorem Sep.one:Sep w [ch] F↔ch.P w F:=by
 constructor
 ·rintro⟨F1,F2,h1,h2,_,hF⟩;have:F=F1:=by funext b o;exact propext ((hF b o).trans ⟨λq=>q.elim id λq=>(h2 b o q).elim,.inl⟩)
  grind
 ·intro h;exact⟨F,F0,h,λ_ _ h=>h,λ_ _ _ h=>h,λb o=>by simp[F0]⟩
def pP{O:Type}[aL O](s:Value)(l:List O)(k:Nat):Chunk where
 P:=λw F=>∃a c b off c1 c2 F1 F2,s=.slice a l.length c/\l.length<=c/\c<=maxLen/\k<l.length/\a=some ⟨b,off,none⟩ /\
  (∀o,eK b off (c*aL.n O) b o->¬eK b (off+k*aL.n O) (aL.n O) b o->(w.cell? ⟨b,o,none⟩).isSome=true/\w.frozen? ⟨b,o,none⟩=false) /\
  bL w b off c1/\bL w b (off+(k+1)*aL.n O) c2/\cX w c1 (l.take k) F1/\cX w c2 (l.drop (k+1)) F2/\F1.F9 F2/\F1.F9 (eK b off (c*aL.n O))/\F2.F9 (eK b off (c*aL.n O)) /\
  ∀b' o,F b' o↔(eK b off (c*aL.n O) b' o/\¬eK b (off+k*aL.n O) (aL.n O) b' o)\/F1 b' o\/F2 b' o
 keep:=by
  rintro w w' F G ⟨a,c,b,off,c1,c2,F1,F2,e,h1,h2,h3,e2,hr,k1,k2,o1,o2,d1,d2,d3,hF⟩ hk hd;have hcell:∀o,eK b off (c*aL.n O) b o->¬eK b (off+k*aL.n O) (aL.n O) b o->b<w.heap.size->w'.cell? ⟨b,o,none⟩=w.cell? ⟨b,o,none⟩:=λo p q hb=>hk.cell b o hb λg=>hd b o ((hF b o).2 (.inl ⟨p,q⟩)) g;have hn:(k+1)*aL.n O<=c*aL.n O:=vK _ aa;rw[nK] at hn;have l1:=o1.length;have l2:=o2.length;rw[aDN,Nat.min_eq_left aa] at l1;rw[aHT] at l2;have hn2:(l.length-(k+1))*aL.n O+(k+1)*aL.n O<=c*aL.n O:=by rw[<-nK];exact vK _ aa
  refine⟨a,c,b,off,c1,c2,F1,F2,e,h1,h2,h3,e2,λo p q=>?_,?_,?_,o1.keep hk λb o p g=>hd b o ((hF b o).2 (.inr (.inl p))) g,o2.keep hk λb o p g=>hd b o ((hF b o).2 (.inr (.inr p))) g,d1,d2,d3,hF⟩
  ·have:=hr o p q;exact⟨hk.stay b o this.1,(hk.AR b o (jT this.1)).trans this.2⟩
  ·by_cases hc:c1=[]
   ·subst hc;intro j v h;simp at h
   ·refine k1.agree λo p q=>hcell o ⟨rfl,p,aa⟩ (λ⟨_,p2,_⟩=>aa) (k1.lt hc)
  ·by_cases hc:c2=[]
   ·subst hc;intro j v h;simp at h
   ·rw[nK] at k2 hn2;refine bL.agree (by rw[nK];exact k2) λo p q=>?_;rw[nK] at p q;exact hcell o ⟨rfl,aa,aa⟩ (λ⟨_,_,p3⟩=>aa) (k2.lt hc)
 lt:=by
  rintro w F b' o ⟨a,c,b,off,c1,c2,F1,F2,e,h1,h2,h3,e2,hr,k1,k2,o1,o2,d1,d2,d3,hF⟩ hf;rcases(hF b' o).1 hf with ⟨p,q⟩|p|p
  ·have:b'=b:=p.1;subst this;exact jT (hr o p q).1
  ·exact o1.lt p
  ·exact o2.lt p
theorem FF{b off:Nat}{c1:List Value}(h:bL w b off (c1++c2)):bL w b off c1/\bL w b (off+c1.length) c2:=
 ⟨λj v hj=>h j v aj,λj v hj=>by
  have:=h (c1.length+j) v aj;grind⟩
theorem VC{b off:Nat}{c1:List Value}(h1:bL w b off c1)(h2:bL w b (off+c1.length) c2):bL w b off (c1++c2):=λj v hj=>by
 rw[aHQ] at hj;split at hj
 ·exact h1 j v hj
 ·have:=h2 _ v hj;grind
theorem a4W{l:List O}{x:O}(h:l[k]?=some x):l=l.take k++([x]++l.drop (k+1)):=by obtain⟨hk,rfl⟩:=I6.1 h;simp
theorem a4X{l:List O}{x:O}(h:k<l.length):l.set k x=l.take k++([x]++l.drop (k+1)):=by rw[List.set_eq_take_append_cons_drop,aM h];simp
theorem a4Y[aL O]{l:List O}{x:O}(h:aL.own w [s] l F)(hx:l[k]?=some x) :
  ∃ec:List Value,Sep w [pP s l k,YG (X5 s) (WT (aL.n O) k s) ec,fK ec x] F:=by
 obtain⟨a,c,e,h1,h2,h3⟩:=lZ.1 h;obtain⟨hk,_⟩:=I6.1 hx;rcases h3 with ⟨_,h3,_⟩|⟨b,off,cc,Fe,rfl,hr,hc,ho,hd,hF⟩
 ·omega
 rw[a4W hx] at ho;obtain⟨c1,c23,F1,F23,rfl,o1,o23,d1,e1⟩:=ho.split;obtain⟨ec,c2,F2,F3,rfl,o2,o3,d2,e2⟩:=o23.split;have l1:=o1.length;have l2:=o2.length;have l3:=o3.length;rw[aDN,Nat.min_eq_left aa] at l1;rw[aHT] at l3;simp only[aDM,List.length_nil,aBM,Nat.one_mul] at l2;obtain⟨k1,k23⟩:=FF hc;obtain⟨k2,k3⟩:=FF k23;rw[l1] at k2 k3;rw[l2] at k3;have hn:(k+1)*aL.n O<=c*aL.n O:=vK _ aa;have hn':=hn;rw[nK] at hn';subst e;refine⟨ec,_,λb' o=>eK b (off+k*aL.n O) (aL.n O) b' o\/F2 b' o,⟨some ⟨b,off,none⟩,c,b,off,c1,c2,F1,F3,rfl,h1,h2,hk,rfl,λo p q=>hr o p,k1,?_,o1,o3,?_,?_,?_,λ_ _=>Iff.rfl⟩,?_⟩
 ·grind
 ·exact λb o p q=>d1 b o p ((e2 b o).2 (.inr q))
 ·exact λb o p q=>hd b o ((e1 b o).2 (.inl p)) q
 ·exact λb o p q=>hd b o ((e1 b o).2 (.inr ((e2 b o).2 (.inr p)))) q
 ·refine⟨⟨eK b (off+k*aL.n O) (aL.n O),F2,⟨k2,λo p=>(hr o ?_).2,λb' o=>by grind[X5,WT]⟩,Sep.one.2 (cX.one.1 o2),?_,λ_ _=>Iff.rfl⟩,?_,λb' o=>?_⟩
  ·obtain⟨_,p1,p2⟩:=p;simp only[WT,l2] at p1 p2;exact⟨rfl,aa,aa⟩
  ·rintro b' o ⟨rfl,p1,p2⟩ q;exact hd b' o ((e1 b' o).2 (.inr ((e2 b' o).2 (.inl q)))) ⟨rfl,aa,aa⟩
  ·rintro b' o (⟨p,q⟩|p|p) (u|u)
   ·exact q u
   ·exact hd b' o ((e1 b' o).2 (.inr ((e2 b' o).2 (.inl u)))) p
   ·obtain⟨rfl,u1,u2⟩:=u;exact hd b' o ((e1 b' o).2 (.inl p)) ⟨rfl,aa,aa⟩
   ·exact d1 b' o p ((e2 b' o).2 (.inl u))
   ·obtain⟨rfl,u1,u2⟩:=u;exact hd b' o ((e1 b' o).2 (.inr ((e2 b' o).2 (.inr p)))) ⟨rfl,aa,aa⟩
   ·exact d2 b' o u p
  grind[eK]
theorem a2C[aL O]{l:List O}{x:O}{ec:List Value}(h:Sep w [pP s l k,YG (X5 s) (WT (aL.n O) k s) ec,fK ec x] F):aL.own w [s] (l.set k x) F:=by
 obtain⟨G1,G2,⟨a,c,b,off,c1,c2,F1,F3,e,h1,h2,hk,rfl,hr,k1,k3,o1,o3,d1,d2,d3,hG1⟩,⟨H1,H2,⟨k2,hz,hH1⟩,hs,dH,hG2⟩,dG,hF⟩:=h;have ho:aL.own w ec x H2:=Sep.one.1 hs;subst e;simp only[X5,WT] at k2 hz hH1;have l1:=o1.length;have l2:=aL.mB (aL.own_rd ho);have l3:=o3.length;rw[aDN,Nat.min_eq_left aa] at l1;have hn:(k+1)*aL.n O<=c*aL.n O:=vK _ aa;have hn':=hn;rw[nK] at hn';rw[l2] at hH1;refine lZ.2 ⟨some ⟨b,off,none⟩,c,ae,aj,h2,.inr ⟨b,off,c1++(ec++c2),λb' o=>F1 b' o\/(H2 b' o\/F3 b' o),rfl,λo p=>?_,?_,?_,?_,λb' o=>?_⟩⟩
 ·by_cases q:eK b (off+k*aL.n O) (aL.n O) b o
  ·refine⟨?_,hz o aj⟩;obtain⟨_,q1,q2⟩:=q;have:=k2 (o-(off+k*aL.n O)) _ (lH aa);grind
  grind
 ·grind[VC]
 ·rw[a4X hk];refine cX.app o1 (cX.app (cX.one.2 ho) o3 ?_ λ_ _=>Iff.rfl) ?_ λ_ _=>Iff.rfl
  ·exact λb' o p q=>dG b' o ((hG1 b' o).2 (.inr (.inr q))) ((hG2 b' o).2 (.inr p))
  ·rintro b' o p (q|q)
   ·exact dG b' o ((hG1 b' o).2 (.inr (.inl p))) ((hG2 b' o).2 (.inr q))
   ·exact d1 b' o p q
 ·rintro b' o (p|p|p) q
  ·exact d2 b' o p q
  ·by_cases u:eK b (off+k*aL.n O) (aL.n O) b' o
   ·exact dH b' o ((hH1 b' o).2 u) p
   ·exact dG b' o ((hG1 b' o).2 (.inl ⟨q,u⟩)) ((hG2 b' o).2 (.inr p))
  ·exact d3 b' o p q
 grind[eK]
def OP{O:Type}[aL O](cs:List Value)(d:O)(A:List Chunk):Prop:=∀w F,aL.own w cs d F↔Sep w A F
theorem eG[aL O][Flat O]{cs:List Value}{d:O}(h:aL.rd F0 default cs d):OP cs d []:=λw F=>by
 constructor
 ·intro k;exact Flat.no k
 ·intro k;have:F=F0:=by funext b o;exact propext ⟨λq=>(k b o q).elim,λq=>q.elim⟩
  grind[Flat.own_of]
theorem LZ[aL O]{cs:List Value}{d:O}:OP cs d [fK cs d]:=λw F=>(Sep.one (ch:=fK cs d)).symm
theorem eW{J:Type}[aL O][aL J]{c1:List Value}{d:O×J}(h1:OP c1 d.1 A)(h2:OP c2 d.2 B)(hl:c1.length=aL.n O):OP (c1++c2) d (A++B):=λw F=>by
 constructor
 ·rintro⟨e1,e2,F1,F2,e,k1,k2,hd,hF⟩;have hl2:=aL.mB (aL.own_rd k1);obtain⟨rfl,rfl⟩:=List.append_inj e aa;exact Sep.append.2 ⟨F1,F2,(h1 w F1).1 k1,(h2 w F2).1 k2,hd,hF⟩
 ·intro k;obtain⟨F1,F2,k1,k2,hd,hF⟩:=Sep.append.1 k;exact⟨c1,c2,F1,F2,rfl,(h1 w F1).2 k1,(h2 w F2).2 k2,hd,hF⟩
section
variable {P:Program} {o:Oper} {e:Env} {w w':World} {c:Ctx} {L:List Chunk} {R:List Fact} {x y:Operand} {t el:TypeId}
theorem St.open(h:St c w L R)[aL O]{l:List O}{q:O}(i:Nat)(hi:L[i]?=some (fK [s] l))(hq:l[k]?=some q) :
  ∃ec,St c w (L.set i NH++[pP s l k,YG (X5 s) (WT (aL.n O) k s) ec,fK ec q]) R:=by
 have h1:St c w ([fK [s] l]++L.set i NH) R:=h.take i hi;obtain⟨F,S,hsep,rest⟩:=h1.sep;obtain⟨F1,F2,g1,g2,gd,gF⟩:=Sep.append.1 hsep;obtain⟨ec,hec⟩:=a4Y (Sep.one.1 g1) hq;exact⟨ec,St.rot ⟨h1.keep,⟨F,S,Sep.append.2 ⟨F1,F2,hec,g2,gd,gF⟩,rest⟩,h1.apart⟩⟩
theorem St.unpack(h:St c w L R)[aL O]{cs:List Value}{d:O}(i:Nat)(hi:L[i]?=some (fK cs d))(ho:OP cs d A'):St c w (L.set i NH++A') R:=by have h1:St c w ([fK cs d]++L.set i NH) R:=h.take i hi;obtain⟨F,S,hsep,rest⟩:=h1.sep;obtain⟨F1,F2,g1,g2,gd,gF⟩:=Sep.append.1 hsep;exact St.rot ⟨h1.keep,⟨F,S,Sep.append.2 ⟨F1,F2,(ho w F1).1 (Sep.one.1 g1),g2,gd,gF⟩,rest⟩,h1.apart⟩
theorem aCJ{b off:Nat}{c1:List Value}(h1:bL w b off c1)(h2:bL w b off c2)(hl:c1.length=c2.length):c1=c2:=by
 apply aBI;intro j;by_cases hj:j<c1.length
 ·have a:=h1 j _ (lH hj);have b:=h2 j _ (lH aa);grind
 grind
theorem JF[aL O]{b off cap:Nat}{l:List O}{Fe:cV}(hr:Row w b off (cap*aL.n O))(hc:bL w b off cc)(ho:cX w cc l Fe)(hd:Fe.F9 (eK b off (cap*aL.n O)))(hlen:l.length<=cap)(hmax:cap<=maxLen) :
  aL.own w [.slice (some ⟨b,off,none⟩) l.length cap] l (λb' o=>eK b off (cap*aL.n O) b' o\/Fe b' o):=
 lZ.2 ⟨_,cap,rfl,hlen,hmax,.inr ⟨b,off,cc,Fe,rfl,hr,hc,ho,hd,λ_ _=>Iff.rfl⟩⟩
theorem aDR[aL O](hS:St c w L R)(is:List Nat)(ha:dJ is=true)(hp:pick L is=A)(cells rest:List Value)(l:List O)(cap:Nat)(ty:TypeId)
  (hA:∀F,Sep w A F->∃Fe,cX w cells l Fe/\∀b o,Fe b o->F b o) (hcap:(cells++rest).length=cap*aL.n O) (hlen:l.length<=cap) (hmax:cap<=maxLen) :
  St c (w.alloc (.cells (cells++rest).toArray ty)) (blank L is++[fK [.slice (some ⟨w.heap.size,0,none⟩) l.length cap] l]) R:=by
 have hcell:∀j,(w.alloc (.cells (cells++rest).toArray ty)).cell? ⟨w.heap.size,j,none⟩=(cells++rest)[j]?:=λj=>ae
 refine hS.a4V is ha λF hF=>?_;obtain⟨Fe,h1,h2⟩:=hA F (hp ▸ hF);have hk:=eJ.alloc F0 w (.cells (cells++rest).toArray ty);refine⟨_,F0,hk,λ_ _ h=>h.elim,Sep.one.2 (JF (λo' ho=>?_) (λj v hj=>?_) (h1.keep hk λ_ _ _ h=>h) (λb o' p q=>?_) hlen hmax),?_⟩
 ·obtain⟨_,_,h3⟩:=ho;simp_all
 ·grind
 ·have:=h1.lt p;obtain⟨rfl,_⟩:=q;omega
 ·rintro b o' (p|p)
  ·exact .inr (WS p.1.symm)
  grind
theorem a4Z[aL O]{i:Int}(zd:O)(hS:St c w L R)(hn:aL.n O=m)(hu:P.underlying t=some (.slice el))(hinf:YH P el m z)(hzs:z.cells.size=m)(hzd:∀w,aL.own w z.cells.toList zd F0)
  (h01:0<=i/\i<=4294967296) (ho:o.op=.makeSlice t x y) (hx:ev e x=some (.int .i64 i)) (hy:ev e y=some (.int .i64 i)) :
  ∃v w',fE P o e w v w'/\St c w' (L++[fK [v] (List.replicate i.toNat zd)]) R:=by
 obtain⟨h0,h1⟩:=h01;subst hn;obtain⟨ti,hi,hz,hsz,hby⟩:=hinf;have hb:(ti.bytes:Int)*i<=281474976710656:=by have:(ti.bytes:Int)*i<=65536*4294967296:=Int.mul_le_mul aa h1 h0 aa;omega
 have hr:=run_make (P:=P) w t el ti z hu hi hz .i64 .i64 i i h0 (aP3 _) hb aa;rw[hsz] at hr;refine⟨.slice (some ⟨w.heap.size,0,none⟩) i.toNat i.toNat,w.alloc (.cells (madeCells z.cells (i.toNat*aL.n O)) el),λ_ a hA=>?_,?_⟩
 rotate_left 1
 ·have all:∀(k:Nat) (cc:List Value),cc.length=k*aL.n O->(∀j,j<k->LY cc (aL.n O) j=z.cells.toList)->cX w cc (List.replicate k zd) F0:=by
   intro k;induction k with
   |zero=>intro cc h _;exact⟨xL aa,λ_ _ h=>h⟩
   |succ k ih=>
    intro cc h hs;rw[nK] at h;refine⟨cc.take (aL.n O),cc.drop (aL.n O),F0,F0,ae,?_,ih _ aj λj hj=>?_,λ_ _ h _=>h,λb o=>by simp[F0]⟩
    ·have:=hs 0 aa;grind[LY]
    grind[LY,List.drop_drop]
  have h:=aDR hS [] rfl rfl (madeCells z.cells (i.toNat*aL.n O)).toList [] (List.replicate i.toNat zd) i.toNat el (λF _=>⟨F0,all _ _ (by simp[size_madeCells]) λj hj=>a4T hzs hj,λ_ _ h=>h.elim⟩) (by simp[size_madeCells]) ae (by grind[maxLen]);simp only[uA,List.length_replicate] at h;exact h
 ·simp[execOp,ho,hA.eval hx,hA.eval hy,hr]
def OPs{O:Type}[aL O](m:Nat):List Value->List O->List Chunk->Prop
 |cs,[],A=>cs=[]/\A=[]
 |cs,x::r,A=>∃B,A=fK (cs.take m) x::B/\(cs.take m).length=m/\OPs m (cs.drop m) r B
theorem OPs.all{O:Type}[aL O]{m:Nat}(hn:aL.n O=m):∀{l:List O} {cs:List Value} {A:List Chunk} {F:cV},OPs m cs l A->Sep w A F->cX w cs l F
 |[],cs,A,F,⟨h1,h2⟩,h=>by subst h1;subst h2;exact⟨rfl,h⟩
 |x::r,cs,A,F,⟨B,h1,_,h2⟩,h=>by subst h1;obtain⟨F1,F2,k1,k2,kd,kF⟩:=h;exact⟨cs.take m,cs.drop m,F1,F2,ae,k1,OPs.all hn h2 k2,kd,kF⟩
theorem OPs.len{O:Type}[aL O]{m:Nat}:∀{l:List O} {cs:List Value} {A:List Chunk},OPs m cs l A->cs.length=l.length*m
 |[],cs,A,⟨h1,h2⟩=>by simp[h1]
 |x::r,cs,A,⟨B,h1,h3,h2⟩=>by have:=OPs.len h2;grind[nK]
theorem a9P[aL O]{len:Nat}{ps:List (Nat×Operand)}{cells:List Value}(l:List O)(hS:St c w L R)(is:List Nat)(ha:dJ is=true)(hrd:OPs m cells l (pick L is))(hn:aL.n O=m)(hu:P.underlying t=some (.slice el))(hinf:YH P el m z)(hl:l.length=len)(hm:Nat.ble 1 m=true)(hsmall:Nat.ble (len*m) 16777216=true)
  (ho:o.op=.buildSlice t len ps.toArray) (hv:evs e (ps.map (·.2))=some vs) (hc:Instr.fill (λi=>some (i*m,m)) ((Array.range (len*m)).map (λi=>(if len*m=0 then #[] else z.cells)[i % (if len*m=0 then #[] else z.cells).size]!)) ((ps.map (·.1)).zip vs)=some cells.toArray) :
  ∃v w',fE P o e w v w'/\St c w' (blank L is++[fK [v] l]) R:=by
 subst hl;obtain⟨ti,hi,hz,hsz,hby⟩:=hinf;have h1:=hrd.len;have hsm:¬l.length*m > 2 ^ 24:=by simp_all
 have hlm:l.length<=16777216:=by have:=Nat.le_mul_of_pos_right l.length (TX hm);omega
 have hlmax:l.length<=maxLen:=by grind[maxLen]
 have hnew:=aDR hS is ha rfl cells [] l l.length el (λF hF=>⟨F,hrd.all hn hF,λ_ _ h=>h⟩) aj (kY _) hlmax;rw[uA] at hnew;refine⟨_,_,λ_ a hA=>?_,hnew⟩;have hps:ps.map (λp=>(p.1,a.eval p.2))=(ps.map (·.1)).zip vs:=by rw[<-VB hA hv];grind
 by_cases h0:l.length*m=0
 ·simp only[h0,bV] at hc;simp[execOp,ho,Instr.buildSlice,run_underlying hu,sizeOf,typeInfo,hi,hsz,h0,hps];simp_all[newRow]
 ·simp only[h0,bN] at hc;simp[execOp,ho,Instr.buildSlice,run_underlying hu,sizeOf,typeInfo,zeroValue,hi,hz,hsz,h0,hsm,hps];simp_all[newRow]
theorem a9Q[aL O]{s2:Value}{l xs:List O}(is:List Nat)(hS:St c w L R)(ha:dJ is=true)(hp:pick L is=[fK [s] l,fK [s2] xs])(hn:aL.n O=m)(hu:P.underlying t=some (.slice el))(hinf:YH P el m z)(hzs:z.cells.size=m)
  (hb:l.length+xs.length<=1073741824) (ho:o.op=.call {callee:=.builtin .append,args:=#[x,y],argTypes:=#[t,t]}) (hx:ev e x=some s) (hy:ev e y=some s2) :
  ∃v w',fE P o e w v w'/\St c w' (blank L is++[fK [v] (l++xs)]) R:=by
 subst hn;obtain⟨ti,hti,hz,hsz,hby⟩:=hinf;have h12:St c w ([fK [s] l,fK [s2] xs]++blank L is) R:=hp ▸ hS.front is ha;obtain⟨F,hF⟩:=h12.chunk 0 rfl;obtain⟨G,hG⟩:=h12.chunk 1 rfl;have hF:aL.own w [s] l F:=hF;have hG:aL.own w [s2] xs G:=hG;obtain⟨ad2,c2,cc2,rfl,hl2,hc2,hr2⟩:=O2 (aL.own_rd hG);obtain⟨ad,cap,cc,rfl,hl1,hc1,hr1⟩:=O2 (aL.own_rd hF);have hone2:=aK0 hl2 hr2;have hlen:(cc++cc2).length=(l++xs).length*aL.n O:=aj
 have hsrc':xs.length=0\/∃b off,ad2=some ⟨b,off,none⟩/\bL w b off cc2:=hc2.imp (λh=>by simp[h]) id;have hf2:=JE (P:=P) (O:=O) (k:=c2) hl2 hsrc';have hexec:∀(v:Value) (w':World),(Builtin.append_ #[t,t] o.type #[.slice ad l.length cap,.slice ad2 xs.length c2]).run P w=.ok v w'->fE P o e w v w':=by intro v w' h _ a hA;simp[execOp,ho,resolve,invoke,builtin,hA.eval hx,hA.eval hy,h]
 have hall:∀{s:Value} {l:List O} {F:cV} {ad:Option Addr} {cap:Nat} {cc:List Value},s=.slice ad l.length cap->aL.own w [s] l F->cc.length=l.length*aL.n O->(l=[]\/∃b off,ad=some ⟨b,off,none⟩/\bL w b off cc)->∃Fe,cX w cc l Fe/\∀b o,Fe b o->F b o:=by
  intro s l F ad cap cc e h hl hc;obtain⟨a',c',e',_,_,h3⟩:=lZ.1 h;rw[e] at e';simp at e';obtain⟨rfl,rfl⟩:=e';rcases hc with hc|⟨b,off,rfl,hc⟩
  ·subst hc;exact⟨F0,⟨xL aj,λ_ _ h=>h⟩,λ_ _ h=>h.elim⟩
  ·rcases h3 with ⟨h,_⟩|⟨b',off',cc',Fe,h,_,k1,k2,_,hF⟩
   ·cases h
   simp at h;obtain⟨rfl,rfl⟩:=h;have:cc'=cc:=aCJ k1 hc (by rw[k2.length,hl]);grind
 by_cases hroom:l.length+xs.length<=cap
 ·
  obtain⟨a',cap',e',hlc,hcm,h3⟩:=lZ.1 hF;simp at e';obtain⟨rfl,rfl⟩:=e';rcases h3 with ⟨rfl,h0,_⟩|⟨b,off,cc',Fe0,rfl,hrow,hcc',hoA,hdj0,hFF0⟩
  ·have hl0:l=[]:=xL aa;have hx0:xs=[]:=xL aa;subst hl0;subst hx0;refine⟨.slice none 0 0,w,hexec _ _ ?_,?_⟩
   ·have hf2:(Builtin.firstCells (aL.n O) 0 (.slice ad2 0 c2)).run P w=.ok cc2.toArray w:=hf2;simp[h0,Builtin.append_,run_underlying hu,sizeOf,typeInfo,hti,Builtin.lenOf,hsz,hf2]
   ·rw[uA];refine hS.a4V is ha λF hF=>?_;rw[hp] at hF;obtain⟨F1,F2,k1,k2,kd,kF⟩:=hF;subst h0;exact⟨F1,F0,eJ.refl _ _,λ_ _ h=>h.elim,Sep.one.2 k1,λb o h=>.inl ((kF b o).2 (.inl h))⟩
  ·have hcc:bL w b off cc:=by
    rcases hc1 with h|⟨b',off',h,hc⟩
    ·subst h;have:cc=[]:=xL aj;subst this;intro j v hj;simp at hj
    grind
   have hmul:(l.length+xs.length)*aL.n O<=cap*aL.n O:=vK _ hroom;rw[nK] at hmul;obtain⟨w',hst,hk,hws,hcell⟩:=pO (b:=b) P cc2 w (off+l.length*aL.n O) 0 hone2 (λq _ hq=>hrow _ ⟨rfl,aa,aa⟩);refine⟨_,w',hexec _ _ (by
    have hadd:(⟨b,off,none⟩:Addr).add (l.length*aL.n O)=⟨b,off+l.length*aL.n O,none⟩:=by simp[Addr.add]
    simp[Builtin.append_,run_underlying hu,sizeOf,typeInfo,hti,Builtin.lenOf,hsz,hf2,hroom,hadd,hst];rfl),?_⟩
   refine hS.a4V is ha λF2 hF2=>?_;rw[hp] at hF2;obtain⟨Fa,Fb,ka,kb,kd,kF⟩:=hF2;have ka:aL.own w [_] l Fa:=ka;have kb:aL.own w [_] xs Fb:=Sep.one.1 kb;obtain⟨_,_,he2,_,_,hr⟩:=lZ.1 ka;simp at he2;obtain⟨rfl,rfl⟩:=he2;rcases hr with ⟨h,_,_⟩|⟨b',off',cc'',Fe,h,hrow2,k1,k2,hdj,hFF⟩
   ·cases h
   simp at h;obtain⟨rfl,rfl⟩:=h;have ecc:cc''=cc:=aCJ k1 hcc (by rw[k2.length,hl1]);subst ecc;obtain⟨Fe2,o2,hFe2⟩:=hall rfl kb hl2 hc2;have hkd:∀{G:cV},(∀b' o',G b' o'->¬eK b off (cap*aL.n O) b' o')->G.F9 (λb' o'=>b'=b/\off+l.length*aL.n O+0<=o'/\o'<off+l.length*aL.n O+0+cc2.length):=by rintro G hG b' o' g ⟨e1,e2,e3⟩;exact hG b' o' g ⟨e1,aa,aa⟩
   have hcc2:bL w' b off (cc''++cc2):=by
    intro j v hj;rw[aHQ] at hj;split at hj
    ·rename_i hlt;have hc:=hcc j v hj;rw[hk.cell b (off+j) (World.block_lt_of_cell? w _ hc) (λhh=>by obtain⟨_,e2,_⟩:=hh;omega)];exact hc
    ·rename_i hge;have:=hcell _ v hj;grind
   refine⟨λb' o'=>eK b off (cap*aL.n O) b' o'\/(Fe b' o'\/Fe2 b' o'),_,hk,?_,Sep.one.2 ?_,?_⟩
   ·rintro b' o' ⟨e1,e2,e3⟩;exact(kF b' o').2 (.inl ((hFF b' o').2 (.inl ⟨e1,aa,aa⟩)))
   ·have hll:l.length+xs.length=(l++xs).length:=ae
    rw[hll];refine JF (λo' ho'=>⟨hk.stay b o' (hrow o' ho').1,(hk.AR b o' (jT (hrow o' ho').1)).trans (hrow o' ho').2⟩) hcc2 (cX.app (k2.keep hk (hkd λb' o' g q=>hdj b' o' g q)) (o2.keep hk (hkd λb' o' g q=>?_)) (λb' o' p q=>?_) λ_ _=>Iff.rfl) ?_ ah hcm
    ·exact kd b' o' ((hFF b' o').2 (.inl q)) (hFe2 b' o' g)
    ·exact kd b' o' ((hFF b' o').2 (.inr p)) (hFe2 b' o' q)
    ·rintro b' o' (p|p) q
     ·exact hdj b' o' p q
     ·exact kd b' o' ((hFF b' o').2 (.inl q)) (hFe2 b' o' p)
   grind
 ·
  have hbytes:(l.length+xs.length)*ti.bytes<=140737488355328:=by have:(l.length+xs.length)*ti.bytes<=1073741824*65536:=Nat.mul_le_mul hb hby;omega
  have hfit:=growslice_fits (need:=l.length+xs.length) (old:=cap) (bytes:=ti.bytes) aa hbytes;obtain⟨hge,hle⟩:l.length+xs.length<=grownCap w (l.length+xs.length) cap el/\grownCap w (l.length+xs.length) cap el<=maxLen:=⟨grownCap_ge _ _ _ _,grownCap_le_maxLen _ _ _ _ (by grind[maxLen])⟩;have hrun:(Builtin.append_ #[t,t] o.type #[.slice ad l.length cap,.slice ad2 xs.length c2]).run P w=.ok (.slice (some ⟨w.heap.size,0,none⟩) (l.length+xs.length) (grownCap w (l.length+xs.length) cap el)) (w.drew.alloc (.cells (cc.toArray++cc2.toArray++Builtin.zeroCells z.cells (grownCap w (l.length+xs.length) cap el-(l.length+xs.length))) el)):=by
   have hn1:¬(l.length+xs.length<=cap):=hroom;have h63':¬(9223372036854775807<((l.length:Int)+(xs.length:Int))):=aa
   have h48':¬(281474976710656<Builtin.nextslicecap (l.length+xs.length) cap*ti.bytes):=aa
   have hf1:(Builtin.firstCells (aL.n O) l.length (.slice ad l.length cap)).run P w.drew=.ok cc.toArray w.drew:=JE (O:=O) hl1 (hc1.imp (λh=>by simp[h]) id);have hf2:(Builtin.firstCells (aL.n O) xs.length (.slice ad2 xs.length c2)).run P w.drew=.ok cc2.toArray w.drew:=JE (O:=O) hl2 hsrc';simp[Builtin.append_,run_underlying hu,sizeOf,typeInfo,zeroValue,hti,hz,hsz,Builtin.lenOf,hn1,h63',h48',Question.forced,hf1,hf2,newRow,grownCap];grind
  refine⟨_,_,hexec _ _ hrun,?_⟩;have hz3:(Builtin.zeroCells z.cells (grownCap w (l.length+xs.length) cap el-(l.length+xs.length))).toList.length=(grownCap w (l.length+xs.length) cap el-(l.length+xs.length))*aL.n O:=by grind[size_zeroCells]
  have htot:((cc++cc2)++(Builtin.zeroCells z.cells (grownCap w (l.length+xs.length) cap el-(l.length+xs.length))).toList).length=grownCap w (l.length+xs.length) cap el*aL.n O:=by rw[K8,hlen,hz3,K8,<-nK];grind
  have hS':St c w.drew L R:=hS.same (eJ.drew F0 w);have hnew:=aDR hS' is ha hp (cc++cc2) (Builtin.zeroCells z.cells (grownCap w (l.length+xs.length) cap el-(l.length+xs.length))).toList (l++xs) (grownCap w (l.length+xs.length) cap el) el (λF2 hF2=>by
   obtain⟨Fa,Fb,ka,kb,kd,kF⟩:=hF2;have ka:aL.own w.drew [_] l Fa:=ka;have kb:aL.own w.drew [_] xs Fb:=Sep.one.1 kb;have drop:eJ F0 w.drew w:=⟨rfl,rfl,rfl,kY _,λ_ _ _=>rfl,λ_ _ _ _=>rfl,λ_ _ _=>rfl,λ_ _ h=>h⟩;obtain⟨Fe,o1,h1⟩:=hall rfl (aL.own_keep ka drop λ_ _ _ h=>h) hl1 hc1;obtain⟨Fe2,o2,h2⟩:=hall rfl (aL.own_keep kb drop λ_ _ _ h=>h) hl2 hc2;have hk:=eJ.drew F0 w;exact⟨_,cX.app (o1.keep hk λ_ _ _ h=>h) (o2.keep hk λ_ _ _ h=>h) (λb o p q=>kd b o (h1 b o p) (h2 b o q)) λ_ _=>Iff.rfl,λb o p=>(kF b o).2 (p.imp (h1 b o) (h2 b o))⟩) htot ah hle
  have heq:((cc++cc2)++(Builtin.zeroCells z.cells (grownCap w (l.length+xs.length) cap el-(l.length+xs.length))).toList).toArray=cc.toArray++cc2.toArray++Builtin.zeroCells z.cells (grownCap w (l.length+xs.length) cap el-(l.length+xs.length)):=ae
  rw[heq] at hnew;simp_all
end
section
variable {v:Value} {k:IntKind} {i:Int} {P:Program} {o:Oper} {e:Env} {w w':World} {c:Ctx} {L:List Chunk} {R:List Fact} {x y:Operand} {t el:TypeId}
theorem bF4{b q i:Nat}{cs:List Value}(hS:St c w L R)(hi:L[i]?=some (YG b q cs))(ho:o.op=.store t x y)(hx:ev e x=some (.pointer (some ⟨b,q+j,none⟩)))(hy:ev e y=some v)(hvs:v.cells.toList=vs)(hz:∀w,(sizeOf t).run P w=.ok m w)(hm:vs.length=m)(hj:Nat.ble (j+m) cs.length=true)(h1:vs.all Value.oneCell'=true) :
  ∃w',bF2 P o e w w'/\St c w' (L.set i (YG b q (aDP cs j vs))) R:=by
 subst hm;have hj':j+vs.length<=cs.length:=TX hj;have h1':∀v∈vs,v.oneCell'=true:=λv hv=>aj
 obtain⟨F,hF⟩:=hS.chunk i hi;obtain⟨hc,hfz,_⟩:=hF;obtain⟨w',hr,hk,hsz,hcell⟩:=pO (b:=b) P vs w (q+j) 0 h1' (λp _ hp=>by
  refine⟨?_,hfz (q+j+p) ⟨rfl,aa,aa⟩⟩;have:=hc (j+p) _ (lH aa);grind)
 refine⟨w',λ_ a hA=>?_,?_⟩
 ·have hsize:v.cells.size=vs.length:=aj
  have hr':(storeCells ⟨b,q+j,none⟩ v.cells.toList).run P w=.ok () w':=aj
  simp[execOp,ho,Instr.storeAt,Instr.sureAddr,hA.eval hx,hA.eval hy,storeVar,hz,hsize,hr']
 ·refine hS.aDO i hi λF2 hF2=>?_;obtain⟨k1,k2,kF⟩:=hF2;have hlen:(aDP cs j vs).length=cs.length:=aHW vs cs j;refine⟨F2,_,hk,?_,⟨?_,λo' ho'=>?_,λb' o'=>aj⟩,λ_ _ h=>.inl h⟩
  ·rintro b' o' ⟨e1,e2,e3⟩;exact(kF b' o').2 ⟨e1,aa,aa⟩
  ·intro p u hp;rw[aVK vs cs j p aa] at hp;split at hp
   ·have:=hcell _ u hp;grind
   ·have h3:=k1 p u hp;rw[hk.cell b (q+p) (World.block_lt_of_cell? w _ h3) (λhh=>by obtain⟨_,e2,e3⟩:=hh;omega)];exact h3
  ·rw[hlen] at ho';obtain⟨_,e2,e3⟩:=ho';have h3:=k1 (o'-q) _ (lH aa);rw[show q+(o'-q)=o' by omega] at h3;exact(hk.AR b o' (World.block_lt_of_cell? w _ h3)).trans (k2 o' ⟨rfl,e2,e3⟩)
theorem a9R(h:St c w L R)[aL O]{l:List O}{k:Nat}(i:Nat)(hi:L[i]?=some (pP s l k)):∃b off m,s=.slice (some ⟨b,off,none⟩) l.length m/\l.length<=maxLen:=by obtain⟨F,a,cp,b,off,c1,c2,F1,F2,e,h1,h2,h3,rfl,_⟩:=h.chunk i hi;grind
theorem a9S[aL O]{l:List O}{el:Nat}{q:O}(h:∃b off m,s=.slice (some ⟨b,off,none⟩) l.length m/\l.length<=maxLen)(_hn:aL.n O=m)(hq:idx l i=some q)(hu:P.underlying t=some (.slice el))(hz:∀w,(sizeOf el).run P w=.ok m w)(ho:o.op=.indexAddr t x y)(hx:ev e x=some s)(hy:ev e y=some (.int k i)):fE P o e w (.pointer (some ⟨X5 s,WT m i.toNat s,none⟩)) w:=by
 obtain⟨h0,h1,h2⟩:=CI hq;obtain⟨b,off,cp,rfl,_⟩:=h;intro _ a hA;have h5:(⟨b,off,none⟩:Addr).add (i.toNat*m)=⟨b,off+i.toNat*m,none⟩:=by grind[Addr.add]
 simp[execOp,ho,Instr.indexAt,hA.eval hx,hA.eval hy,asIntOf,run_underlying hu,h0,h1,hz,h5,X5,WT]
theorem a41[aL O]{w:World}:aL.own w [.slice none 0 0] ([]:List O) F0:=⟨none,0,rfl,kY _,lX _,.inl ⟨rfl,rfl,λ_ _ h=>h⟩⟩
theorem a2D{w:World}:∀ch∈([]:List Chunk),ch.P w F0:=λ_ h=>nomatch h
theorem WU{w:World}[aL O](h:∀ch∈A,ch.P w F0):∀ch∈fK [.slice none 0 0] ([]:List O)::A,ch.P w F0:=λch hc=>by
 rcases vJ.1 hc with rfl|hc
 ·exact a41
 grind
theorem Z6{w:World}[aL O]{cs:List Value}{d:O}(h:OP cs d A)(hz:∀ch∈A,ch.P w F0):aL.own w cs d F0:=by
 refine(h w F0).2 ?_;clear h;induction A with
 |nil=>exact λ_ _ h=>h
 |cons a A ih=>exact⟨F0,F0,hz a ae,ih λch hc=>hz ch (by simp[hc]),λ_ _ h=>h.elim,λb o=>by simp[F0]⟩
theorem aF2:∀{is:List Nat} {L:List Chunk} {j:Nat},(is.all λi=>!Nat.beq i j)=true->(blank L is)[j]?=L[j]?
 |[],L,j,_=>rfl
 |i::r,L,j,h=>by
  simp only[aP4,FX,Bool.not_eq_true'] at h;have hne:i≠j:=λe=>by simp_all
  show(blank (L.set i NH) r)[j]?=_;rw[aF2 h.2,List.getElem?_set_ne hne]
theorem all_cons{Q:Fact->Prop}{f:Fact}{l:List Fact}(h:Q f)(hl:∀f∈l,Q f):∀g∈f::l,Q g:=aj
theorem a2E{b q:Nat}{A B C:List Value}(h:(YG b q (A++(B++C))).P w F):Sep w [YG b q A,YG b (q+A.length) B,YG b (q+A.length+B.length) C] F:=by
 obtain⟨h1,h2,hF⟩:=h;obtain⟨k1,k23⟩:=FF h1;obtain⟨k2,k3⟩:=FF k23;simp only[K8] at h2 hF;refine⟨eK b q A.length,λb' o=>eK b (q+A.length) B.length b' o\/eK b (q+A.length+B.length) C.length b' o,⟨k1,λo p=>h2 o ⟨rfl,by have:=p.2;omega,by have:=p.2;omega⟩,λ_ _=>Iff.rfl⟩,
  ⟨eK b (q+A.length) B.length,eK b (q+A.length+B.length) C.length,⟨k2,λo p=>h2 o ⟨rfl,by have:=p.2;omega,by have:=p.2;omega⟩,λ_ _=>Iff.rfl⟩,Sep.one.2 ⟨k3,λo p=>h2 o ⟨rfl,by have:=p.2;omega,by have:=p.2;omega⟩,λ_ _=>Iff.rfl⟩,?_,λ_ _=>Iff.rfl⟩,?_,λb' o=>?_⟩
 ·rintro b' o ⟨_,p1,p2⟩ ⟨_,q1,q2⟩;omega
 ·rintro b' o ⟨_,p1,p2⟩ (⟨_,q1,q2⟩|⟨_,q1,q2⟩)<;>omega
 ·rw[hF];constructor
  ·rintro⟨e,p1,p2⟩;by_cases x1:o<q+A.length
   ·exact .inl ⟨e,p1,x1⟩
   ·by_cases x2:o<q+A.length+B.length
    ·exact .inr (.inl ⟨e,aa,x2⟩)
    ·exact .inr (.inr ⟨e,aa,aa⟩)
  ·rintro(⟨e,p1,p2⟩|⟨e,p1,p2⟩|⟨e,p1,p2⟩)<;>exact⟨e,aa,aa⟩
theorem a42{b q:Nat}{A B C:List Value}(h:Sep w [YG b q A,YG b (q+A.length) B,YG b (q+A.length+B.length) C] F):(YG b q (A++(B++C))).P w F:=by
 obtain⟨F1,F23,⟨a1,a2,aF⟩,⟨F2,F3,⟨b1,b2,bF⟩,h3,_,f23⟩,_,f⟩:=h;obtain⟨c1,c2,cF⟩:=Sep.one.1 h3;refine⟨VC a1 (VC b1 c1),λo p=>?_,λb' o=>?_⟩
 ·obtain⟨_,p1,p2⟩:=p;simp only[K8] at p2;by_cases x1:o<q+A.length
  ·exact a2 o ⟨rfl,p1,x1⟩
  ·by_cases x2:o<q+A.length+B.length
   ·exact b2 o ⟨rfl,aa,x2⟩
   ·exact c2 o ⟨rfl,aa,aa⟩
 ·rw[f,f23,aF,bF,cF];simp only[K8];constructor
  ·rintro(⟨e,p1,p2⟩|⟨e,p1,p2⟩|⟨e,p1,p2⟩)<;>exact⟨e,aa,aa⟩
  ·rintro⟨e,p1,p2⟩;by_cases x1:o<q+A.length
   ·exact .inl ⟨e,p1,x1⟩
   ·by_cases x2:o<q+A.length+B.length
    ·exact .inr (.inl ⟨e,aa,x2⟩)
    ·exact .inr (.inr ⟨e,aa,aa⟩)
end
def iU(n l h:Nat):Value->Value
 |.slice a _ cap=>.slice (if cap=l then a else a.map (·.add (l*n))) (h-l) (cap-l)
 |v=>v
theorem AT{l:List O}{a b:Nat}(h1:a<=b)(h2:b<=l.length):((l.take b).drop a).length=b-a:=ah
theorem a9T{l:List O}{a b:Nat}(h2:b<=l.length)(hi:i<b-a):((l.take b).drop a)[i]?=l[a+i]?:=aj
theorem aX5[aL O]{S:cV}{l:List O}{a b:Nat}(hn:aL.n O=n)(h:aL.rd S w [s] l)(h1:a<=b)(h2:b<=l.length):aL.rd S w [iU n a b s] ((l.take b).drop a):=by
 subst hn;obtain⟨ad,c,e,k1,k2,k3⟩:=(show AS S w [s] l from h);simp at e;subst e;have hl:=AT h1 h2;refine⟨if c=a then ad else ad.map (·.add (a*aL.n O)),c-a,by grind[iU],aa,aa,?_⟩;by_cases h0:b=a
 ·grind
 ·right;rcases k3 with k3|⟨bl,off,rfl,k3⟩
  ·grind
  ·have hadd:(⟨bl,off,none⟩:Addr).add (a*aL.n O)=⟨bl,off+a*aL.n O,none⟩:=by grind[Addr.add]
   refine⟨bl,off+a*aL.n O,aj,λi hi=>?_⟩;rw[hl] at hi;have hg:=a9T h2 hi;grind
theorem a0E[aL O]{l:List O}{a b:Nat}(hn:aL.n O=n)(h:aL.own w [s] l F)(h1:a<=b)(h2:b<=l.length):∃F',aL.own w [iU n a b s] ((l.take b).drop a) F'/\∀b o,F' b o->F b o:=by
 subst hn;obtain⟨ad,c,e,k1,k2,k3⟩:=lZ.1 h;subst e;have hl:=AT h1 h2;rcases k3 with ⟨rfl,rfl,hF⟩|⟨bl,off,cc,Fe,rfl,hr,hc,ho,hd,hF⟩
 ·have:l=[]:=xL aa;subst this;have ha:a=0:=aa
  have hb:b=0:=aa
  subst ha;subst hb;exact⟨F0,⟨none,0,rfl,kY _,lX _,.inl ⟨rfl,rfl,λ_ _ h=>h⟩⟩,λ_ _ h=>h.elim⟩
 ·have e3:l=l.take a++((l.take b).drop a++l.drop b):=by grind[aLX]
  rw[e3] at ho;obtain⟨c1,c23,F1,F23,rfl,o1,o23,d1,f1⟩:=ho.split;obtain⟨c2,c3,F2,F3,rfl,o2,o3,d2,f2⟩:=o23.split;have l1:=o1.length;rw[aDN,Nat.min_eq_left aa] at l1;obtain⟨q1,q23⟩:=FF hc;obtain⟨q2,q3⟩:=FF q23;rw[l1] at q2;by_cases hca:c=a
  ·have hab:b=a:=aa
   have hz:(l.take b).drop a=[]:=aj
   refine⟨F0,?_,λ_ _ h=>h.elim⟩;rw[hz];simp only[iU,hca,hab,Nat.sub_self,bV];exact lZ.2 ⟨some ⟨bl,off,none⟩,0,rfl,kY _,lX _,.inr ⟨bl,off,[],F0,rfl,λo p=>by obtain⟨_,p1,p2⟩:=p;omega,λj v h=>by simp at h,⟨rfl,λ_ _ h=>h⟩,λ_ _ h=>h.elim,λb' o=>by
    simp[F0,eK]⟩⟩
  ·have hmul:a*aL.n O+(c-a)*aL.n O=c*aL.n O:=by rw[<-nK];grind
   refine⟨λb' o=>eK bl (off+a*aL.n O) ((c-a)*aL.n O) b' o\/F2 b' o,?_,?_⟩
   ·have e4:iU (aL.n O) a b (.slice (some ⟨bl,off,none⟩) l.length c)=.slice (some ⟨bl,off+a*aL.n O,none⟩) ((l.take b).drop a).length (c-a):=by
     have hadd:(⟨bl,off,none⟩:Addr).add (a*aL.n O)=⟨bl,off+a*aL.n O,none⟩:=by simp[Addr.add]
     simp only[iU,hl,aO hca,Option.map_some,hadd]
    rw[e4];refine JF (λo p=>hr o ?_) q2 o2 (λb' o p q=>hd b' o ((f1 b' o).2 (.inr ((f2 b' o).2 (.inl p)))) ?_) aa aa
    ·obtain⟨_,p1,p2⟩:=p;exact⟨rfl,aa,aa⟩
    ·obtain⟨p0,p1,p2⟩:=q;exact⟨p0,aa,aa⟩
   ·rintro b' o (p|p)
    ·obtain⟨p0,p1,p2⟩:=p;exact(hF b' o).2 (.inl ⟨p0,aa,aa⟩)
    grind
section
variable {v:Value} {k k2:IntKind} {i j:Int} {P:Program} {o:Oper} {e:Env} {w w':World} {c:Ctx} {L:List Chunk} {R:List Fact} {x y z:Operand} {t el:TypeId}
theorem St.BZ(h:St c w L R)[aL O]{l:List O}{a b:Nat}(m:Nat)(hm:R[m]?=some (fRd [s] l))(hn:aL.n O=n)(h1:a<=b)(h2:b<=l.length):St c w L (R++[fRd [iU n a b s] ((l.take b).drop a)]):=
 h.derive m hm λS hS g hg=>by simp at hg;subst hg;exact aX5 hn hS h1 h2
theorem aL3[aL O]{S:cV}{l:List O}(h:aL.rd S w [s] l):∃ad cp,s=.slice ad l.length cp/\l.length<=cp:=by obtain⟨ad,cp,e,k1,_⟩:=(show AS S w [s] l from h);grind
theorem a2F[aL O]{S:cV}{l:List O}(h:aL.rd S w [s] l)(hn:aL.n O=n)(hu:P.underlying t=some (.slice el))(hz:∀w,(sizeOf el).run P w=.ok n w)(hb:0<=i/\i<=j/\j<=l.length)(ho:o.op=.slice t x (some y) (some z) none)(hx:ev e x=some s)(hy:ev e y=some (.int k i))(hw:ev e z=some (.int k2 j)):fE P o e w (iU n i.toNat j.toNat s) w:=λ_ a hA=>by
 obtain⟨ad,cp,rfl,hc⟩:=aL3 h;obtain⟨b0,b1,b2⟩:=hb;have h1:j<=(cp:Int):=aa
 have h3:0<=j:=aa
 have h2:max j 0=j:=aa
 simp[execOp,ho,Instr.sliceAt,Instr.slice,run_underlying hu,Instr.sliceBounds,hA.eval hx,hA.eval hy,hA.eval hw,Instr.sliceBound,asIntOf,hz,b0,b1,h1,h2,h3,iU]
theorem a43[aL O]{S:cV}{l:List O}(h:aL.rd S w [s] l)(hn:aL.n O=n)(hu:P.underlying t=some (.slice el))(hz:∀w,(sizeOf el).run P w=.ok n w)(hb:0<=j/\j<=l.length)(ho:o.op=.slice t x none (some z) none)(hx:ev e x=some s)(hw:ev e z=some (.int k2 j)):fE P o e w (iU n 0 j.toNat s) w:=λ_ a hA=>by
 obtain⟨ad,cp,rfl,hc⟩:=aL3 h;obtain⟨b0,b1⟩:=hb;have h1:j<=(cp:Int):=aa
 simp[execOp,ho,Instr.sliceAt,Instr.slice,run_underlying hu,Instr.sliceBounds,hA.eval hx,hA.eval hw,Instr.sliceBound,asIntOf,hz,b0,h1,iU]
theorem a9U{q:UInt8}(hu:P.underlying t=some .string)(hq:idx l i=some q)(ho:o.op=.index t x y)(hx:ev e x=some (sv l))(hy:ev e y=some (.int k i)):fE P o e w (.int .u8 (q.toNat:Int)) w:=λ_ a hA=>by
 obtain⟨h0,h1,h2⟩:=CI hq;have h3:(⟨l.toArray⟩:ByteArray)[i.toNat]?=some q:=by rw[getElem?_pos _ _ (by simp[ByteArray.size];omega)];rw[lH aa] at h2;simp only[Option.some.injEq] at h2;rw[<-h2];rfl
 simp[execOp,ho,Instr.index,run_underlying hu,hA.eval hx,hA.eval hy,asIntOf,h0,h3]
theorem bDH(ho:o.op=.call {callee:=.builtin .min,args:=#[x,y],argTypes:=#[t,el]})(hx:ev e x=some (.int .i64 i))(hy:ev e y=some (.int k j)):fE P o e w (.int .i64 (if j<i then j else i)) w:=λ_ a hA=>by simp[execOp,ho,resolve,invoke,builtin,Builtin.min_,Builtin.min2,hA.eval hx,hA.eval hy]
theorem bDI(ho:o.op=.call {callee:=.builtin .max,args:=#[x,y],argTypes:=#[t,el]})(hx:ev e x=some (.int .i64 i))(hy:ev e y=some (.int k j)):fE P o e w (.int .i64 (if i<j then j else i)) w:=λ_ a hA=>by simp[execOp,ho,resolve,invoke,builtin,Builtin.max_,Builtin.max2,hA.eval hx,hA.eval hy]
theorem aL4:∀(l:List UInt8) (s:ByteArray),(l.map λq=>(q.toNat:Int)).foldl (λr n=>r.push (UInt8.ofNat n.toNat)) s=⟨s.data++l.toArray⟩
 |[],s=>ae
 |q::l,s=>by rw[aBJ,List.foldl_cons,aL4 l];simp
theorem bDJ{S:cV}(h:aL.rd S w [s] l)(hu:P.underlying t=some (.slice el))(he:P.underlying el=some (.int .u8))(hu':P.underlying t'=some .string)(ho:o.op=.convert t t' x)(hx:ev e x=some s):fE P o e w (sv l) w:=λ_ a hA=>by
 obtain⟨ad,cp,cc,rfl,h1,h2,h3⟩:=O2 h;have hcc:cc=(l.map λq=>(q.toNat:Int)).map (Value.int .u8):=by
  have h1:cc.length=l.length*1:=h1;apply aBI;intro i;by_cases hi:i<l.length
  ·have:=h3 i l[i] (lH hi);have:LY cc 1 i=[.int .u8 (l[i].toNat:Int)]:=this;have h5:(LY cc 1 i)[0]?=cc[i*1+0]?:=uJ aa;grind
  grind
 have key:(Conv.bytesToString (.slice ad l.length cp)).run P w=.ok (sv l) w:=by
  rcases h2 with h2|⟨b,off,rfl,h2⟩
  ·subst h2;cases ad with
   |none=>rfl
   |some a=>
    rw[show([]:List UInt8).length=0 from rfl,run_bytesToString w a 0 cp [] (by simp[loadCells,loadCellsFrom])];rfl
  ·rw[run_bytesToString w _ _ cp _ (by
    have:=rW h2 P;have h1:cc.length=l.length*1:=h1;rw[h1,Nat.mul_one] at this;rw[<-hcc];exact this),aL4]
   simp[sv]
 simp[execOp,ho,convert,run_underlying hu,run_underlying hu',run_underlying he,hA.eval hx,key]
theorem bDK(f:O->Value){l:List O}{q:O}{cs:Array Value}(hu:P.underlying t=some (.array n el))(hz:∀w,(sizeOf el).run P w=.ok 1 w)(hg:∀w,(isAgg el).run P w=.ok false w)(hq:idx l i=some q)(hn:l.length=n)(hcs:cs=(l.map f).toArray)(ho:o.op=.index t x y)(hx:ev e x=some (.agg cs))(hy:ev e y=some (.int k i)):fE P o e w (f q) w:=λ_ a hA=>by obtain⟨h0,h1,h2⟩:=CI hq;subst hn;subst hcs;have h3:=h2;rw[lH aa] at h3;simp only[Option.some.injEq] at h3;simp[execOp,ho,Instr.index,run_underlying hu,hA.eval hx,hA.eval hy,asIntOf,h0,h1,hz,part,hg,h3]
theorem a2G{ps:List (Nat×Operand)}{cells:Array Value}(ho:o.op=.build t ps.toArray)(hz:∀w,(zeroValue t).run P w=.ok zv w)(hu:P.underlying t=some (.array n el))
  (hp:∀w,(sizeOf el).run P w=.ok m w) (hv:evs e (ps.map (·.2))=some vs) (hc:Instr.fill (λi=>some (i*m,m)) zv.cells ((ps.map (·.1)).zip vs)=some cells):fE P o e w (.agg cells) w:=λ_ a hA=>by
 have h1:ps.map (λp=>(p.1,a.eval p.2))=(ps.map (·.1)).zip vs:=by rw[<-VB hA hv];grind
 simp_all[execOp,Instr.build,run_underlying]
theorem a9V[aL O](hS:St c w L R)(hn:aL.n O=m)(hu:P.underlying t=some (.slice el))(hinf:YH P el m zv)(ho:o.op=.buildSlice t 0 #[]) :
  ∃v w',fE P o e w v w'/\St c w' (L++[fK [v] ([]:List O)]) R:=by
 obtain⟨ti,hi,hz,hsz,hby⟩:=hinf;have hnew:=aDR (O:=O) hS [] rfl rfl [] [] [] 0 el (λF _=>⟨F0,⟨rfl,λ_ _ h=>h⟩,λ_ _ h=>h.elim⟩) ae (kY _) (lX _);refine⟨_,_,λ_ a hA=>?_,hnew⟩;simp_all[Array.eq_empty_of_size_eq_zero,execOp,Instr.buildSlice,run_underlying,sizeOf,typeInfo,Instr.fill,newRow]
theorem a44{v c0:Value}(hc:v.cells=#[c0]):Instr.fill (λi=>some (i*1,1)) ((Array.range (1*1)).map (λi=>(if 1*1=0 then #[] else zv.cells)[i % (if 1*1=0 then #[] else zv.cells).size]!)) [(0,v)]=some #[c0]:=by have h1:Array.range 1=#[0]:=rfl;simp_all[Instr.fill]
theorem a9W[aL O][Flat O](q:O){x:Operand}{v c0:Value}(hS:St c w L R)(hn:aL.n O=1)(hu:P.underlying t=some (.slice el))(hinf:YH P el 1 zv)(hrd:aL.rd F0 default [c0] q)
  (ho:o.op=.buildSlice t 1 #[(0,x)]) (hv:ev e x=some v) (hc:v.cells=#[c0]) :
  ∃v w',fE P o e w v w'/\St c w' (L++[fK [v] [q]]) R:=by
 refine a4U (ps:=[(0,x)]) (vs:=[v]) (cells:=[c0]) [q] hS hn hu hinf rfl ak ak ⟨hrd,rfl⟩ ho (by simp[evs,hv]) ?_;exact a44 hc
theorem a45{D:Nat}(hu:P.underlying t=some (.slice el)):(Op.equalIn (D+1) t (.slice none n m) (.slice none 0 0)).run P w=.ok true w:=by simp[Op.equalIn,run_underlying hu]
theorem a46{D:Nat}{ad:Addr}(hu:P.underlying t=some (.slice el)):(Op.equalIn (D+1) t (.slice (some ad) n m) (.slice none 0 0)).run P w=.ok false w:=by simp[Op.equalIn,run_underlying hu]
theorem aX6(hu:P.underlying t=some (.slice el))(h:∃n m,s=.slice none n m)(ho:o.op=.binOp .eql t x y t')(hx:ev e x=some s)(hy:ev e y=some (.slice none 0 0)):fE P o e w (.bool true) w:=λ_ a hA=>by obtain⟨n,m,rfl⟩:=h;have h1:binOp .eql t (.slice none n m) (.slice none 0 0)=(do pure (.bool (<-Op.equal t (.slice none n m) (.slice none 0 0)))):=rfl;have h2:(Op.equal t (.slice none n m) (.slice none 0 0)).run P w=.ok true w:=a45 (D:=9999) hu;simp[execOp,ho,hA.eval hx,hA.eval hy,eqGuard,h1,h2]
theorem aX7(hu:P.underlying t=some (.slice el))(h:∃a n m,s=.slice (some a) n m)(ho:o.op=.binOp .eql t x y t')(hx:ev e x=some s)(hy:ev e y=some (.slice none 0 0)):fE P o e w (.bool false) w:=λ_ a hA=>by obtain⟨ad,n,m,rfl⟩:=h;have h1:binOp .eql t (.slice (some ad) n m) (.slice none 0 0)=(do pure (.bool (<-Op.equal t (.slice (some ad) n m) (.slice none 0 0)))):=rfl;have h2:(Op.equal t (.slice (some ad) n m) (.slice none 0 0)).run P w=.ok false w:=a46 (D:=9999) hu;simp[execOp,ho,hA.eval hx,hA.eval hy,eqGuard,h1,h2]
end
structure Raw where
 v:Value
instance:Inhabited Raw:=⟨⟨.slice none 0 0⟩⟩
instance:aL Raw where
 n:=1
 rd:=λ_ _ cs x=>cs=[x.v]/\x.v.oneCell'=true
 own:=λ_ cs x F=>(cs=[x.v]/\x.v.oneCell'=true)/\∀b o,¬F b o
 mB:=λh=>by simp[h.1]
 rd_one:=λh v hv=>aj
 rd_agree:=λh _=>h
 rd_mono:=λh _=>h
 own_rd:=λh=>h.1
 own_keep:=λh _ _=>h
 own_lt:=λh hf=>(h.2 _ _ hf).elim
instance:Flat Raw:=⟨λh=>⟨h,λ_ _ h=>h⟩,λh=>h.2⟩
def YJ{O:Type}[aL O](S:cV)(w:World)(us:List Raw)(l:List O):Prop:=us.length=l.length/\∀(i:Nat) (u:Raw) (x:O),us[i]?=some u->l[i]?=some x->aL.rd S w [u.v] x
theorem YJ.append[aL O]{S:cV}{us vs:List Raw}{l m:List O}(h:YJ S w us l)(k:YJ S w vs m):YJ S w (us++vs) (l++m):=by
 refine⟨by simp[h.1,k.1],λi u x hu hx=>?_⟩;rw[aHQ] at hu hx;rw[h.1] at hu;split at hu
 ·rename_i hlt;rw[aM hlt] at hx;exact h.2 i u x hu hx
 ·rename_i hlt;rw[aO hlt] at hx;exact k.2 _ u x hu hx
theorem bDL[aL O](hn:aL.n O=1){S:cV}{l:List O}(h:aL.rd S w [s] l):∃us:List Raw,aL.rd S w [s] us/\YJ S w us l:=by
 obtain⟨ad,c,e,h1,h2,h3⟩:=(show AS S w [s] l from h);rcases h3 with h3|⟨b,off,rfl,h3⟩
 ·subst h3;exact⟨[],⟨ad,c,e,h1,h2,.inl rfl⟩,rfl,λi u x hu=>by simp at hu⟩
 ·have hv:∀i,i<l.length->∃v:Value,bL w b (off+i*1) [v]/\(∀o,eK b (off+i*1) 1 b o->S b o)/\v.oneCell'=true/\∀x,l[i]?=some x->aL.rd S w [v] x:=λi hi=>by obtain⟨ec,q1,q2,q3⟩:=h3 i hi;have hl:=aL.mB q3;rw[hn] at hl q1 q2;grind[List.length_eq_one_iff,aL.rd_one]
  obtain⟨f,hf⟩:=Go.Deep.choose_lt (α:=Value) hv;refine⟨(List.range l.length).map λi=>⟨f i⟩,⟨_,c,by rw[e];simp,aj,h2,.inr ⟨b,off,rfl,λi hi=>?_⟩⟩,ae,λi u x hu hx=>?_⟩
  ·have hi':i<l.length:=aj
   refine⟨[f i],(hf i hi').1,(hf i hi').2.1,?_⟩;simp only[List.getElem_map,List.getElem_range];exact⟨rfl,(hf i hi').2.2.1⟩
  grind
theorem a47[aL O](hn:aL.n O=1){S:cV}{us:List Raw}{l:List O}(h:aL.rd S w [s] us)(hr:YJ S w us l):aL.rd S w [s] l:=by
 obtain⟨ad,c,e,h1,h2,h3⟩:=(show AS S w [s] us from h);have hl:us.length=l.length:=hr.1;refine⟨ad,c,by rw[e,hl],hl ▸ h1,h2,?_⟩;rcases h3 with h3|⟨b,off,rfl,h3⟩
 ·grind
 ·right;refine⟨b,off,rfl,λi hi=>?_⟩;obtain⟨ec,q1,q2,q3⟩:=h3 i aa;have q3:ec=[(us[i]' aa).v]/\_:=q3;refine⟨ec,by rw[hn];exact q1,by rw[hn];exact q2,?_⟩;rw[q3.1];exact hr.2 i _ _ (lH _) (lH hi)
def a48(s:Value)(n:Nat):Chunk where
 P:=λw F=>∃b off len c,s=.slice (some ⟨b,off,none⟩) len c/\c<=maxLen/\Row w b off (c*n)/\∀b' o,F b' o↔eK b off (c*n) b' o
 keep:=by rintro w w' F G ⟨b,off,len,c,e,h1,h2,hF⟩ hk hd;exact⟨b,off,len,c,e,h1,λo p=>⟨hk.stay b o (h2 o p).1,(hk.AR b o (jT (h2 o p).1)).trans (h2 o p).2⟩,hF⟩
 lt:=by rintro w F b' o ⟨b,off,len,c,e,h1,h2,hF⟩ hf;have p:=(hF b' o).1 hf;obtain rfl:b'=b:=p.1;exact jT (h2 o p).1
section
variable {v:Value} {k k2:IntKind} {i j:Int} {P:Program} {o:Oper} {e:Env} {w w':World} {c:Ctx} {L:List Chunk} {R:List Fact} {x y z:Operand} {t t2 el:TypeId}
theorem St.bDM(h:St c w L R)[aL O](m:Nat)(hm:L[m]?=some (a48 s n))(hn:aL.n O=n):St c w (L.set m (fK [iU n 0 0 s] ([]:List O))) R:=
 h.aDO m hm λF hF=>by
  obtain⟨b,off,len,cp,rfl,h1,h2,hF⟩:=hF;have e:iU n 0 0 (.slice (some ⟨b,off,none⟩) len cp)=.slice (some ⟨b,off,none⟩) 0 cp:=by simp[iU,Addr.add]
  subst hn;refine⟨λb' o'=>eK b off (cp*aL.n O) b' o'\/F0 b' o',F0,eJ.refl _ _,λ_ _ h=>h.elim,?_,λb' o' q=>.inl ((hF b' o').2 (q.elim id λq=>q.elim))⟩;show aL.own w [_] ([]:List O) _;rw[e];exact JF (l:=([]:List O)) (cc:=[]) (Fe:=F0) h2 (λj v h=>by simp at h) ⟨rfl,λ_ _ h=>h⟩ (λ_ _ h=>h.elim) (lX _) h1
theorem a2H(hu:P.underlying t=some (.slice el))(ho:o.op=.call {callee:=.builtin .cap,args:=#[x],argTypes:=#[t]})(hx:ev e x=some (.slice none 0 0)):fE P o e w (.int .i64 0) w:=λ_ a hA=>by simp[execOp,ho,resolve,invoke,builtin,Builtin.cap_,hA.eval hx,run_underlying hu,goInt]
theorem a9X{z:Value}(hS:St c w L R)(hu:P.underlying t=some (.slice el))(hut:P.underlying t2=some (.int k))(hinf:YH P el m z)(hzs:z.cells.size=m)(hm:Nat.ble 1 m=true)
  (hb:1<=i/\i<=1073741824) (ho:o.op=.call {callee:=.builtin .append,args:=#[x,y],argTypes:=#[t,t2]}) (hx:ev e x=some (.slice none 0 0)) (hy:ev e y=some (.int .i64 i)) :
  ∃v w',fE P o e w v w'/\St c w' (L++[a48 v m]) R/\∃ad cp,v=.slice ad i.toNat cp:=by
 obtain⟨ti,hti,hz,hsz,hby⟩:=hinf;obtain⟨b0,b1⟩:=hb;have hw:IntKind.i64.wrap i=i:=by grind[IntKind.wrap,IntKind.bits]
 have hn0:¬(i.toNat<=0):=aa
 have hbytes:i.toNat*ti.bytes<=140737488355328:=by have:i.toNat*ti.bytes<=1073741824*65536:=Nat.mul_le_mul aa hby;omega
 have hfit:=growslice_fits (need:=i.toNat) (old:=0) (bytes:=ti.bytes) aa hbytes;obtain⟨hge,hle⟩:i.toNat<=grownCap w i.toNat 0 el/\grownCap w i.toNat 0 el<=maxLen:=⟨grownCap_ge _ _ _ _,grownCap_le_maxLen _ _ _ _ (by grind[maxLen])⟩;have hrun:∃cs:Array Value,cs.size=grownCap w i.toNat 0 el*m/\(Builtin.append_ #[t,t2] o.type #[.slice none 0 0,.int .i64 i]).run P w=.ok (.slice (some ⟨w.heap.size,0,none⟩) i.toNat (grownCap w i.toNat 0 el)) (w.drew.alloc (.cells cs el)):=by
  have hn2:¬(i<=0):=aa
  have hi:(i.toNat:Int)=i:=aa
  have h63':¬(9223372036854775807<i):=aa
  have h48':¬(281474976710656<Builtin.nextslicecap i.toNat 0*ti.bytes):=aa
  have h48:¬(281474976710656<i*(ti.bytes:Int)):=aj
  have hneg:¬(i<0):=aa
  have hmax:max i 0=i:=aa
  have hm1:=TX hm;have hnm:¬(i.toNat*m=0):=by grind[Nat.mul_eq_zero]
  refine⟨Builtin.zeroCells z.cells i.toNat++Builtin.zeroCells z.cells (grownCap w i.toNat 0 el-i.toNat),?_,?_⟩
  rotate_left 1
  ·have hf1:(Builtin.firstCells m 0 (.slice none 0 0)).run P w.drew=.ok #[] w.drew:=rfl;simp[Builtin.append_,run_underlying hu,run_underlying hut,sizeOf,typeInfo,zeroValue,hti,hz,hsz,Builtin.lenOf,asInt,asIntOf,hw,hneg,h48,hn0,h63',h48',Question.forced,newRow,grownCap,hf1,hnm,hi,hn2,hmax]
  ·rw[Array.size_append,size_zeroCells,size_zeroCells,hzs,<-nK];grind
 obtain⟨cs,hcs,hrun⟩:=hrun;refine⟨.slice (some ⟨w.heap.size,0,none⟩) i.toNat (grownCap w i.toNat 0 el),w.drew.alloc (.cells cs el),λ_ a hA=>?_,?_,_,_,rfl⟩
 rotate_left 1
 ·refine(hS.same (eJ.drew F0 w)).more (eJ.alloc _ _ _) ⟨eK w.heap.size 0 (grownCap w i.toNat 0 el*m),⟨_,_,_,_,rfl,hle,λo' p=>?_,λ_ _=>Iff.rfl⟩,λb o' p=>WS p.1.symm⟩;obtain⟨_,_,h3⟩:=p;refine⟨?_,World.frozen?_alloc_at (hn:=rfl) ..⟩;have h4:(w.drew.alloc (.cells cs el)).cell? ⟨w.drew.heap.size,o',none⟩=cs[o']?:=by grind[World.cell?_alloc_at]
  simp_all
 ·simp[execOp,ho,resolve,invoke,builtin,hA.eval hx,hA.eval hy,hrun]
theorem a0F(h:∃ad len cp,s=.slice ad len cp)(hu:P.underlying t=some (.slice el))(hz:∀w,(sizeOf el).run P w=.ok n w)(ho:o.op=.slice t x none (some z) none)(hx:ev e x=some s)(hw:ev e z=some (.int k2 0)):fE P o e w (iU n 0 0 s) w:=λ_ a hA=>by obtain⟨ad,len,cp,rfl⟩:=h;simp[execOp,ho,Instr.sliceAt,Instr.slice,run_underlying hu,Instr.sliceBounds,hA.eval hx,hA.eval hw,Instr.sliceBound,asIntOf,hz,iU]
end
open Go.ChangeShapes Go.WideShapes Go.ChangeAt Go.RowKit
class Fits (O:Type) where
 fit:O->Prop
abbrev fit{O:Type}[Fits O](x:O):Prop:=Fits.fit x
instance:Fits Int:=⟨λx=>-9223372036854775808<=x/\x<=9223372036854775807⟩
instance:Fits Bool:=⟨λ_=>True⟩
instance:Fits UInt8:=⟨λ_=>True⟩
instance:Fits bCS:=⟨λs=>s.b.length<=maxLen⟩
instance {O J:Type} [Fits O] [Fits J]:Fits (O×J):=⟨λp=>fit p.1/\fit p.2⟩
instance {O:Type} [Fits O]:Fits (List O):=⟨λl=>l.length<=maxLen/\∀x∈l,fit x⟩
@[reducible] def Fits.via {O J : Type} [Fits J] (f : O -> J) : Fits O := ⟨λx => fit (f x)⟩
def Z7(P:Program)(t:TypeId)(O:Type)[aL O][Fits O]:Prop:=
 ∀{H:Type} {enc:TypeId×Value->H} {w:World} {spare:Nat->Bool} {held:Bool} {fuel:Nat} {cs:List Value} {x:DataW H×List MemPlace},
  DataW.trod enc P w 0 spare held fuel t cs=some x->∃d:O,aL.rd (All w) w cs d/\fit d
theorem a49(hu:P.underlying t=some (.int .u8)):Z7 P t UInt8:=λh=>by
 obtain⟨n,rfl,_,hf⟩:=DataW.trod_int hu h;have hn:0<=n/\n<=255:=by simpa[Lit.wf,show IntKind.u8.min=0 by decide,show IntKind.u8.max=255 by decide] using hf
 refine⟨UInt8.ofNat n.toNat,?_,trivial⟩;show [Value.int .u8 n]=[Value.int .u8 ((UInt8.ofNat n.toNat).toNat:Int)]
 (simp_all;omega)
theorem aVM{e:TypeId}[aL O][Fits O](hu:P.underlying t=some (.slice e))(hc:P.cellsOf e=aL.n O)(hn:0<aL.n O)(he:Z7 P e O):Z7 P t (List O):=λ{H enc w spare held fuel cs x} h=>by
 rcases Go.Deep.open_slice hu h with ⟨rfl,_⟩|⟨a,len,cap,m,n,D,Pl,rfl,_,hl,hm,hmm,_,hx⟩
 ·exact⟨[],⟨none,0,rfl,kY _,lX _,.inl rfl⟩,lX _,λ_ h=>nomatch h⟩
 ·have hlm:len<=m:=aj
  rw[hc] at hx;by_cases h0:len=0
  ·subst h0;exact⟨[],⟨some a,cap,rfl,lX _,hm,.inl rfl⟩,lX _,λ_ h=>nomatch h⟩
  have one:∀i,i<len->∃d:O,(∃ec,w.cells? 0 (a.add (i*aL.n O)) (aL.n O)=some ec/\aL.rd (All w) w ec d)/\fit d:=λi hi=>by obtain⟨ec,h1,h2⟩:=hx i aa;obtain⟨d,h3,h4⟩:=he h2;grind
  obtain⟨d0,_⟩:=one 0 aa;haveI:Inhabited O:=⟨d0⟩;obtain⟨f,hf⟩:=Go.Deep.choose_lt one;obtain⟨b,off,sp⟩:=a;refine⟨(List.range len).map f,⟨some ⟨b,off,sp⟩,cap,ae,aj,hm,?_⟩,ah,λx hx=>by
   grind⟩
  right;have sp0:sp=none:=by obtain⟨ec,h1,_⟩:=hx 0 aa;obtain⟨_,h2,h3⟩:=World.cells?_some h1;have h4:=h3 0 hn;rw[lH aa] at h4;have h5:=World.cell?_spot h4;grind[Addr.add]
  subst sp0;refine⟨b,off,rfl,λi hi=>?_⟩;have hi':i<len:=aj
  obtain⟨ec,h1,h2⟩:=(hf i hi').1;obtain⟨_,h3,h4⟩:=World.cells?_some h1;have hcell:bL w b (off+i*aL.n O) ec:=λj v hj=>by
   obtain⟨hj',_⟩:=I6.1 hj;have h5:=h4 j aa;rw[hj] at h5;have e:((⟨b,off,none⟩:Addr).add (i*aL.n O)).add j=⟨b,off+i*aL.n O+j,none⟩:=by rw[Go.Deep.add_add];grind[Addr.add]
   grind
  refine⟨ec,hcell,λo _=>?_,aj⟩;exact hcell.lt (λe=>aj)
theorem Trod.opens{H:Type}{enc:TypeId×Value->H}{spare:Nat->Bool}{held:Bool}{v:Value}{x:DataW H}{ps:List MemPlace}[aL O][Fits O](ho:Z7 P t O)(h:DataW.Trod enc P w 0 spare held t v x ps) :
  ∃d:O,aL.rd (All w) w v.cells.toList d/\fit d:=by
 obtain⟨fuel,hf⟩:=h;exact ho hf
theorem St.below{w0:World}{L:List Chunk}{R:List Fact}(h:St (eQ w0) w' L R):Below w0.heap.size w0 w':=
 ⟨h.keep.os,h.keep.tape,h.keep.output,h.keep.size,λk hk=>h.keep.block k hk λ_ hf=>hf⟩
end Go.Gv
end
noncomputable section
namespace Go.Gv
variable{op:BinOp}{c:Ctx}{i j:Int}{k:IntKind}{R:List Fact}{vs:List Value}{m n:Nat}{O:Type}{t z:TypeId}{s va:Value}{w:World}{F:cV}
def fAt(b off:Nat)(cs:List Value):Fact where
 P:=λS w=>bL w b off cs/\∀o,eK b off cs.length b o->S b o
 agree:=λ⟨h1,h2⟩ ha=>⟨h1.agree λo h3 h4=>ha b o (h2 o ⟨rfl,h3,h4⟩),h2⟩
 mono:=λ⟨h1,h2⟩ ha=>⟨h1,λo h=>ha b o (h2 o h)⟩
theorem bDN[aL O]{S:cV}{l:List O}(h:aL.rd S w [s] l){k:Nat}{x:O}(hk:l[k]?=some x):∃ec,(fAt (X5 s) (WT (aL.n O) k s) ec).P S w/\aL.rd S w ec x:=by
 obtain⟨ad,m,h1,h2,h3,h4⟩:=(show AS S w [s] l from h);obtain⟨hlt,hx⟩:=I6.1 hk;simp at h1;subst h1;rcases h4 with h4|⟨b,off,rfl,h4⟩
 ·grind
 ·obtain⟨ec,a1,a0,a2⟩:=h4 k hlt;have hn:ec.length=aL.n O:=aL.mB a2;exact⟨ec,⟨a1,λo ho=>a0 o ho⟩,hx ▸ a2⟩
theorem St.fat{L:List Chunk}{b off:Nat}{cs:List Value}(h:St c w L R)(j:Nat)(hj:R[j]?=some (fAt b off cs)):bL w b off cs:=(h.fact j hj).1
theorem bF5(off:Nat):∀(l:List Value) (k:Nat) (cells:Array Value),off+k+l.length<=cells.size ->
  ((l.zipIdx k).foldl (λcs (q:Value×Nat)=>cs.setIfInBounds (off+q.2) q.1) cells).toList=cells.toList.take (off+k)++l++cells.toList.drop (off+k+l.length)
 |[],k,cells,h=>ae
 |c::r,k,cells,h=>by
  have h':off+k<cells.size:=aj
  rw[List.zipIdx_cons,List.foldl_cons,bF5 off r (k+1) _ aj];simp only[Array.toList_setIfInBounds];have e1:(cells.toList.set (off+k) c).take (off+(k+1))=cells.toList.take (off+k)++[c]:=by rw[show off+(k+1)=(off+k)+1 by omega,O0 aj,List.take_set_of_le (kY _),List.getElem_set_self]
  have e2:(cells.toList.set (off+k) c).drop (off+(k+1)+r.length)=cells.toList.drop (off+k+(c::r).length):=by rw[List.drop_set_of_lt aa];grind
  grind
theorem aVN(n:Nat):∀(vs:List Value) (i:Nat) (cells:Array Value),(∀v∈vs,v.cells.size=n)->cells.size=(i+vs.length)*n ->
  Instr.fill (λi=>some (i*n,n)) cells ((List.range' i vs.length).zip vs)=some (cells.toList.take (i*n)++vs.flatMap λv=>v.cells.toList).toArray
 |[],i,cells,_,h=>by simp_all[aHV,Instr.fill]
 |v::r,i,cells,hv,h=>by
  have hn:=hv v List.mem_cons_self;have hlen:(i+(r.length+1))*n=i*n+n+r.length*n:=aj
  have hsz:i*n+n<=cells.size:=aj
  have hb:=bF5 (i*n) v.cells.toList 0 cells ah;have hf:v.cells.zipIdx.foldl (λcs (q:Value×Nat)=>cs.setIfInBounds (i*n+q.2) q.1) cells=(v.cells.toList.zipIdx 0).foldl (λcs (q:Value×Nat)=>cs.setIfInBounds (i*n+q.2) q.1) cells:=by grind[Array.toList_zipIdx]
  rw[<-hf] at hb;simp only[aDM,List.range'_succ,List.zip_cons_cons,Instr.fill,hn];rw[aO ah];have hsize:(v.cells.zipIdx.foldl (λcs (q:Value×Nat)=>cs.setIfInBounds (i*n+q.2) q.1) cells).size=cells.size:=by grind[Array.length_toList]
  rw[aVN n r (i+1) _ (λx hx=>hv x (BS _ hx)) aj,hb];congr 2;have e:(i+1)*n=i*n+n:=aj
  rw[e,aBL,List.take_append_of_le_length ah];grind
theorem aL5{ps:List (Nat×Operand)}{cells:List Value}{len:Nat}{F:Nat->Value}(h1:ps.map (·.1)=List.range' 0 len)(h0:vs.length=len)(h2:vs.all (λv=>v.cells.size == m)=true)(h3:(vs.flatMap λv=>v.cells.toList)=cells) :
  Instr.fill (λi=>some (i*m,m)) ((Array.range (len*m)).map F) ((ps.map (·.1)).zip vs)=some cells.toArray:=by
 subst h0;simp_all[aVN]
def a9Y(n a b m:Nat):Value->Value
 |.slice ad _ _=>.slice (if m=a then ad else ad.map (·.add (a*n))) (b-a) (m-a)
 |v=>v
theorem a9Z[aL O]{ad:Option Addr}{l:List O}{c:Nat}(h:aL.own w [.slice ad l.length c] l F)(h1:l.length<=m)(h2:m<=c)(h0:0<m):∃F',aL.own w [.slice ad l.length m] l F'/\∀b o,F' b o->F b o:=by
 obtain⟨ad',c',e,k1,k2,k3⟩:=lZ.1 h;simp at e;obtain⟨rfl,rfl⟩:=e;rcases k3 with ⟨_,hc,_⟩|⟨bl,off,cc,Fe,rfl,hr,hc,ho,hd,hF⟩
 ·omega
 ·have hmul:m*aL.n O<=c*aL.n O:=vK _ h2;refine⟨λb' o=>eK bl off (m*aL.n O) b' o\/Fe b' o,JF (λo p=>hr o ?_) hc ho (λb' o p q=>hd b' o p ?_) h1 aa,?_⟩
  ·obtain⟨p0,p1,p2⟩:=p;exact⟨p0,p1,aa⟩
  ·obtain⟨p0,p1,p2⟩:=q;exact⟨p0,p1,aa⟩
  ·rintro b' o (p|p)
   ·obtain⟨p0,p1,p2⟩:=p;exact(hF b' o).2 (.inl ⟨p0,p1,aa⟩)
   grind
theorem TZ[aL O]{l:List O}(h:aL.own w [s] l F):∃ad c,s=.slice ad l.length c/\l.length<=c:=by grind[lZ]
theorem a5A[aL O]{l:List O}{a b:Nat}(hn:aL.n O=n)(h:aL.own w [s] l F)(h1:a<=b)(h2:b<=m)(h3:m<=l.length):∃F',aL.own w [a9Y n a b m s] ((l.take b).drop a) F'/\∀b o,F' b o->F b o:=by
 have hl:=AT h1 (xM h2 h3);obtain⟨ad,c,rfl,hc⟩:=TZ h;by_cases hm:m=a
 ·have hb:b=a:=aa
  have hz:(l.take b).drop a=[]:=aj
  rw[hz];simp only[a9Y,hm,hb,Nat.sub_self,bV];refine⟨F0,?_,λ_ _ h=>h.elim⟩;obtain⟨ad',c',e,k1,k2,k3⟩:=lZ.1 h;simp at e;obtain⟨rfl,rfl⟩:=e;rcases k3 with ⟨rfl,hc0,_⟩|⟨bl,off,cc,Fe,rfl,_⟩
  ·exact⟨none,0,rfl,kY _,lX _,.inl ⟨rfl,rfl,λ_ _ h=>h⟩⟩
  ·exact lZ.2 ⟨some ⟨bl,off,none⟩,0,rfl,kY _,lX _,.inr ⟨bl,off,[],F0,rfl,λo p=>by obtain⟨_,p1,p2⟩:=p;omega,λj v h=>by simp at h,⟨rfl,λ_ _ h=>h⟩,λ_ _ h=>h.elim,λb' o=>by
    simp[F0,eK]⟩⟩
 ·obtain⟨F1,k1,k2⟩:=a0E hn h h1 (xM h2 h3);have hca:c≠a:=aa
  have e:iU n a b (.slice ad l.length c)=.slice (ad.map (·.add (a*n))) ((l.take b).drop a).length (c-a):=by simp_all[iU]
  rw[e] at k1;obtain⟨F2,k3,k4⟩:=a9Z (m:=m-a) k1 aa aa aa;refine⟨F2,?_,λb' o p=>k2 _ _ (k4 _ _ p)⟩;simp_all[a9Y]
def dL{O:Type}(l:List O)(a:Nat)(xs:List O):List O:=l.take a++(xs.take (l.length-a)++l.drop (a+xs.length))
theorem gZ{l:List O}{a:Nat}{xs:List O}(h:a<=l.length):(dL l a xs).length=l.length:=by grind[dL]
theorem Z8{l:List O}{a:Nat}{xs:List O}(h:a<=l.length){i:Nat}{x:O}(hx:(dL l a xs)[i]?=some x) :
  (a<=i/\i<a+min xs.length (l.length-a)/\xs[i-a]?=some x)\/((i<a\/a+min xs.length (l.length-a)<=i)/\l[i]?=some x):=by
 unfold dL at hx;rw[aHQ] at hx;grind
theorem T0[aL O][Flat O](P:Program){w0:World}{S:cV}{b off cap a k:Nat}{l l':List O}{ncc:List Value}(h:aL.own w [.slice (some ⟨b,off,none⟩) l.length cap] l F)(hl':l'.length=l.length)(hk:ncc.length=k*aL.n O)(hak:a+k<=cap)(hone:∀v∈ncc,v.oneCell'=true)
  (hr:∀i x,l'[i]?=some x->(a<=i/\i<a+k/\aL.rd S w0 (LY ncc (aL.n O) (i-a)) x)\/((i<a\/a+k<=i)/\l[i]?=some x)) :
  ∃w' G F',(storeCells ⟨b,off+a*aL.n O,none⟩ ncc).run P w=.ok () w'/\eJ G w w'/\(∀b o,G b o->F b o)/\aL.own w' [.slice (some ⟨b,off,none⟩) l'.length cap] l' F'/\∀b o,F' b o->F b o:=by
 obtain⟨ad,c,e,k1,k2,k3⟩:=(show LA w [_] l F from h);simp at e;obtain⟨rfl,rfl⟩:=e;rcases k3 with ⟨h0,_,_⟩|⟨b2,off2,Fs,h0,hrow,hel,hd1,hd2,hFF⟩
 ·cases h0
 simp at h0;obtain⟨rfl,rfl⟩:=h0;have hmul:a*aL.n O+k*aL.n O<=cap*aL.n O:=by rw[<-nK];exact vK _ hak
 obtain⟨w',hst,hkp,hws,hcell⟩:=pO (b:=b) P ncc w (off+a*aL.n O) 0 hone (λq _ hq=>hrow _ ⟨rfl,aa,aa⟩);refine⟨w',_,eK b off (cap*aL.n O),hst,hkp,λb' o' p=>(hFF b' o').2 (.inl ?_),?_,λb' o' p=>(hFF b' o').2 (.inl p)⟩
 ·obtain⟨e1,e2,e3⟩:=p;exact⟨e1,aa,aa⟩
 ·refine⟨_,cap,rfl,aa,k2,.inr ⟨b,off,λ_=>F0,rfl,λo' ho'=>⟨hkp.stay b o' (hrow o' ho').1,(hkp.AR b o' (jT (hrow o' ho').1)).trans (hrow o' ho').2⟩,λi hi=>?_,λ_ _ _ _ _ _ _ h _=>h,λ_ _ _ _ h _=>h,λb' o=>by simp[F0]⟩⟩;rcases hr i l'[i] (lH hi) with ⟨g1,g2,g3⟩|⟨g1,g2⟩
  ·refine⟨LY ncc (aL.n O) (i-a),?_,Flat.own_of g3⟩;intro j v hj;have hlt:=(I6.1 hj).1;rw[aL1 hk aa] at hlt;rw[uJ hlt] at hj;have:=hcell _ v hj;have hi2:i*aL.n O=a*aL.n O+(i-a)*aL.n O:=by rw[<-nK];grind
   rw[show off+i*aL.n O+j=off+a*aL.n O+0+((i-a)*aL.n O+j) from by omega];exact this
  ·obtain⟨hi0,hx⟩:=I6.1 g2;obtain⟨ec,c1,c2⟩:=hel i hi0;have hrd:=aL.own_rd c2;have hn:=aL.mB hrd;refine⟨ec,?_,hx ▸ Flat.own_of hrd⟩;intro j v hj;have hlt:=(I6.1 hj).1;have hc:=c1 j v hj;have hi2:(i+1)*aL.n O=i*aL.n O+aL.n O:=aj
   rw[hkp.cell b (off+i*aL.n O+j) (World.block_lt_of_cell? w _ hc) (λhh=>by
    obtain⟨_,e2,e3⟩:=hh;rw[hk] at e3;rcases g1 with g1|g1
    ·have:(i+1)*aL.n O<=a*aL.n O:=vK _ aa;omega
    ·have:(a+k)*aL.n O<=i*aL.n O:=vK _ g1;grind)]
   exact hc
section
variable {v:Value} {i j:Int} {P:Program} {o:Oper} {e:Env} {w w':World} {c:Ctx} {L:List Chunk} {R:List Fact} {x y z:Operand} {t t2 el:TypeId}
theorem a90[aL O][Flat O]{s2:Value}{l xs:List O}{a:Nat}(m:Nat)(hS:St c w L R)(hm:L[m]?=some (fK [s] l))(hsrc:aL.rd (All w) w [s2] xs)(hn:aL.n O=n)(ha:a<=l.length)(hu:P.underlying t=some (.slice el))(hz:∀w,(sizeOf el).run P w=.ok n w)
  (ho:o.op=.call {callee:=.builtin .copy,args:=#[x,y],argTypes:=#[t,t2]}) (hx:ev e x=some (iU n a l.length s)) (hy:ev e y=some s2) :
  ∃v w',fE P o e w v w'/\(v=.int .i64 ((min xs.length (l.length-a):Nat):Int)/\St c w' (L.set m (fK [s] (dL l a xs))) R):=by
 subst hn;obtain⟨ad2,c2,cc2,rfl,hl2,hc2,hr2⟩:=O2 hsrc;obtain⟨F,hF⟩:=hS.chunk m hm;have hF:aL.own w [s] l F:=hF;obtain⟨ad,cap,rfl,hlc⟩:=TZ hF;have hk:(cc2.take (min xs.length (l.length-a)*aL.n O)).length=min xs.length (l.length-a)*aL.n O:=by simp_all
 have hfirst:(Builtin.firstCells (aL.n O) (min xs.length (l.length-a)) (.slice ad2 xs.length c2)).run P w=.ok (cc2.take (min xs.length (l.length-a)*aL.n O)).toArray w:=by
  rcases hc2 with h|⟨b,off,rfl,h⟩
  ·subst h;have h0:cc2=[]:=xL aj;subst h0;cases ad2<;>simp[Builtin.firstCells,loadCells,loadCellsFrom]
  grind[bL,rW,Builtin.firstCells]
 have hone:∀v∈cc2.take (min xs.length (l.length-a)*aL.n O),v.oneCell'=true:=λv hv=>aK0 hl2 hr2 v (List.mem_of_mem_take hv);have hexec:∀(w':World),(Builtin.copy_ #[t,t2] o.type #[iU (aL.n O) a l.length (.slice ad l.length cap),.slice ad2 xs.length c2]).run P w=.ok (.int .i64 ((min xs.length (l.length-a):Nat):Int)) w'->fE P o e w (.int .i64 ((min xs.length (l.length-a):Nat):Int)) w':=by intro w' h _ a' hA;simp[execOp,ho,resolve,invoke,builtin,hA.eval hx,hA.eval hy,h]
 have hmn:Nat.min xs.length (l.length-a)=min xs.length (l.length-a):=rfl;obtain⟨ad',cap',he,_,_,hrest⟩:=(show LA w [_] l F from hF);simp at he;obtain⟨rfl,rfl⟩:=he;by_cases h0:min xs.length (l.length-a)=0
 ·
  have hsame:dL l a xs=l:=by
   unfold dL;by_cases h1:xs.length=0
   ·simp_all
   ·have h2:l.length=a:=aa
    rw[<-h2];simp
  rw[hsame];have hcz:cc2.take (min xs.length (l.length-a)*aL.n O)=[]:=aj
  rw[hcz] at hfirst;refine⟨_,w,hexec _ ?_,rfl,?_⟩
  ·rw[h0] at hfirst ⊢;have hmn0:Nat.min xs.length (l.length-a)=0:=h0;cases ad with
   |none=>simp[Builtin.copy_,run_underlying hu,iU,Builtin.lenOf,hz,hmn0,hfirst,goInt]
   |some a0=>
    by_cases hca:cap=a
    ·simp[Builtin.copy_,run_underlying hu,iU,hca,Builtin.lenOf,hz,hmn0,hfirst,goInt,storeCells]
    ·simp[Builtin.copy_,run_underlying hu,iU,hca,Builtin.lenOf,hz,hmn0,hfirst,goInt,storeCells]
  ·refine hS.aDO m hm λF hF=>⟨F,F0,eJ.refl _ _,λ_ _ h=>h.elim,hF,λ_ _ h=>.inl h⟩
 ·have hca:cap≠a:=aa
  rcases hrest with ⟨_,hc0,_⟩|⟨b,off,Fs,rfl,_⟩
  ·omega
  have hadd:(⟨b,off,none⟩:Addr).add (a*aL.n O)=⟨b,off+a*aL.n O,none⟩:=by grind[Addr.add]
  have hbl:=T0 P (S:=All w) (w0:=w) (a:=a) (k:=min xs.length (l.length-a)) (l':=dL l a xs) hF (gZ ha) hk aa hone (λi x hx=>by
   rcases Z8 ha hx with ⟨g1,g2,g3⟩|g
   ·refine .inl ⟨g1,g2,?_⟩;have hs:LY (cc2.take (min xs.length (l.length-a)*aL.n O)) (aL.n O) (i-a)=LY cc2 (aL.n O) (i-a):=by
     apply aBI;intro p;by_cases hp:p<aL.n O
     ·have:(i-a+1)*aL.n O<=min xs.length (l.length-a)*aL.n O:=vK _ aa;rw[nK] at this;rw[uJ hp,uJ hp,aHS,aM aa]
     grind[LY]
    grind
   grind)
  obtain⟨w',G,F',hst,hkp,hGF,hown,hFF⟩:=hbl;refine⟨_,w',hexec w' ?_,rfl,?_⟩
  ·simp[Builtin.copy_,run_underlying hu,iU,hca,Builtin.lenOf,hz,hmn,hfirst,hadd,hst,goInt]
  ·refine hS.aDO m hm λF2 hF2=>?_;have hF2:aL.own w [.slice (some ⟨b,off,none⟩) l.length cap] l F2:=hF2;have hbl2:=T0 P (S:=All w) (w0:=w) (a:=a) (k:=min xs.length (l.length-a)) (l':=dL l a xs) hF2 (gZ ha) hk aa hone (λi x hx=>by
    rcases Z8 ha hx with ⟨g1,g2,g3⟩|g
    ·refine .inl ⟨g1,g2,?_⟩;have hs:LY (cc2.take (min xs.length (l.length-a)*aL.n O)) (aL.n O) (i-a)=LY cc2 (aL.n O) (i-a):=by
      apply aBI;intro p;by_cases hp:p<aL.n O
      ·have:(i-a+1)*aL.n O<=min xs.length (l.length-a)*aL.n O:=vK _ aa;rw[nK] at this;rw[uJ hp,uJ hp,aHS,aM aa]
      grind[LY]
     grind
    grind)
   obtain⟨w2,G2,F3,hst2,hkp2,hGF2,hown2,hFF2⟩:=hbl2;rw[hst] at hst2;cases hst2;rw[gZ ha] at hown2;exact⟨F3,G2,hkp2,hGF2,hown2,λb' o' p=>.inl (hFF2 b' o' p)⟩
end
theorem idx_eq{l:List O}(h0:0<=i)(h1:i<l.length):idx l i=some (l[i.toNat]' aa):=by simp_all[idx]
theorem aT{l:List O}{k:Nat}(h1:k<l.length):idx l (k:Int)=some l[k]:=by simp[idx]
theorem cE{p:Prop}[Decidable p](h:p)(k:Option O):need p k=k:=by simp_all[need]
theorem SI{x:Int}(h:-9223372036854775808<=x/\x<=9223372036854775807):bA x=x:=by grind[IntKind.wrap,IntKind.bits,IntKind.signed]
theorem mU{x:Nat}(h:x<maxLen):bA ((x:Int)+1)=((x+1:Nat):Int):=by have h2:x<9223372036854775807:=h;grind[SI]
theorem aS6{ρ:Type}{f:Int->Option (Step Int ρ)}(n:Nat)(g:Nat->ρ)
  (h:∀k:Nat,k<=n->f k=some (.stop (g k))\/(k<n/\f k=some (.next ((k+1:Nat):Int))/\g k=g (k+1))):∀k:Nat,k<=n->loop f (k:Int)=some (g k):=by
 intro k hk;obtain⟨d,rfl⟩:∃d,n=k+d:=⟨n-k,aa⟩;induction d generalizing k with
 |zero=>
  grind[bG]
 |succ d ih=>
  rcases h k hk with h1|⟨h1,h2,h3⟩
  ·exact bG h1
  grind[bW]
theorem O3{l:List O}{k:Nat}(h:k<l.length)(hm:l.length<=maxLen):k<maxLen:=aa
def a0G(O:Type)(n:Int):Option (List O):=need (0<=n/\n<=1073741824) (if decide (n<0)=true then none else if decide (0<bA (n-bA (0-0)))=true then some [] else some [])
section
variable {v:Value} {i j:Int} {P:Program} {o:Oper} {e:Env} {w w':World} {c:Ctx} {L:List Chunk} {R:List Fact} {x y z:Operand} {t t2 el:TypeId}
theorem T1{b off:Nat}:(⟨b,off,none⟩:Addr).add n=⟨b,off+n,none⟩:=by grind[Addr.add]
theorem aF3[aL O]{l:List O}(h:aL.own w [s] l F):∃ad cap cc,s=.slice ad l.length cap/\l.length<=cap/\cc.length=l.length*aL.n O/\((ad=none/\cap=0/\l=[])\/∃b off,ad=some ⟨b,off,none⟩/\bL w b off cc)/\∀i x,l[i]?=some x->aL.rd (All w) w (LY cc (aL.n O) i) x:=by
 have hr:aL.rd (All w) w [s] l:=aL.rd_mono (aL.own_rd h) λb o hf=>aL.own_lt h hf;obtain⟨ad,cap,cc,rfl,h1,h2,h3⟩:=O2 hr;obtain⟨ad',cap',e,k1,k2,k3⟩:=lZ.1 h;simp at e;obtain⟨rfl,rfl⟩:=e;refine⟨ad,cap,cc,rfl,k1,h1,?_,h3⟩;rcases k3 with ⟨rfl,rfl,_⟩|⟨b,off,cc2,Fe,rfl,_⟩
 ·grind
 ·right;rcases h2 with h2|⟨b2,off2,h2,h4⟩
  ·subst h2;have:cc=[]:=xL aj;subst this;exact⟨b,off,rfl,λj v hj=>by simp at hj⟩
  grind
theorem aX8[aL O][Flat O]{l:List O}{a b:Nat}(m:Nat)(hS:St c w L R)(hm:L[m]?=some (fK [s] l))(hn:aL.n O=n)(hab:a<=b)(hb:b<=l.length)(hu:P.underlying t=some (.slice el))(hz:∀w,(sizeOf el).run P w=.ok n w)
  (ho:o.op=.call {callee:=.builtin .append,args:=#[x,y],argTypes:=#[t,t]}) (hx:ev e x=some (iU n 0 a s)) (hy:ev e y=some (iU n b l.length s)) :
  ∃v w',fE P o e w v w'/\(v=iU n 0 (a+(l.length-b)) s/\St c w' (L.set m (fK [s] (dL l a (l.drop b)))) R):=by
 subst hn;obtain⟨F,hF⟩:=hS.chunk m hm;have hF:aL.own w [s] l F:=hF;obtain⟨ad,cap,cc,rfl,hlc,hcc,had,hrd⟩:=aF3 hF;have hexec:∀(v:Value) (w':World),(Builtin.append_ #[t,t] o.type #[iU (aL.n O) 0 a (.slice ad l.length cap),iU (aL.n O) b l.length (.slice ad l.length cap)]).run P w=.ok v w'->fE P o e w v w':=by intro v w' h _ a' hA;simp[execOp,ho,resolve,invoke,builtin,hA.eval hx,hA.eval hy,h]
 rcases had with ⟨rfl,rfl,rfl⟩|⟨bl,off,rfl,hcells⟩
 ·have ha:a=0:=aa
  have hb0:b=0:=aa
  subst ha;subst hb0;refine⟨_,w,hexec (iU (aL.n O) 0 0 (.slice none 0 0)) w ?_,rfl,?_⟩
  ·simp[Builtin.append_,run_underlying hu,iU,Builtin.lenOf,hz,Builtin.firstCells]
  ·have:dL ([]:List O) 0 (([]:List O).drop 0)=[]:=rfl;rw[this];exact hS.aDO m hm λF hF=>⟨F,F0,eJ.refl _ _,λ_ _ h=>h.elim,hF,λ_ _ h=>.inl h⟩
 ·
  have hk:(cc.drop (b*aL.n O)).length=(l.length-b)*aL.n O:=by grind[Nat.sub_mul]
  have hfirst:∀q,(Builtin.firstCells (aL.n O) (l.length-b) (.slice (if cap=b then some ⟨bl,off,none⟩ else some ⟨bl,off+b*aL.n O,none⟩) (l.length-b) q)).run P w=.ok (cc.drop (b*aL.n O)).toArray w:=by
   intro q;by_cases h0:l.length-b=0
   ·have:cc.drop (b*aL.n O)=[]:=xL aj;rw[this,h0];split<;>simp[Builtin.firstCells,loadCells,loadCellsFrom]
   ·have hcb:cap≠b:=aa
    rw[aO hcb];refine JE (O:=O) hk (.inr ⟨bl,off+b*aL.n O,rfl,λp v hp=>?_⟩);rw[List.getElem?_drop] at hp;have:=hcells _ v hp;grind
  have hone:∀v∈cc.drop (b*aL.n O),v.oneCell'=true:=λv hv=>aK0 hcc hrd v (aLW hv);have hdl:(l.drop b).length=l.length-b:=aHT;have hget:∀i x,(dL l a (l.drop b))[i]?=some x->(a<=i/\i<a+(l.length-b)/\aL.rd (All w) w (LY (cc.drop (b*aL.n O)) (aL.n O) (i-a)) x)\/((i<a\/a+(l.length-b)<=i)/\l[i]?=some x):=by
   intro i x hx;have hmin:min (l.drop b).length (l.length-a)=l.length-b:=aa
   grind[Z8,LY,List.drop_drop,nK]
  have hroom:a+(l.length-b)<=cap:=aa
  obtain⟨w',G,F',hst,hkp,hGF,hown,hFF⟩:=T0 P (S:=All w) (w0:=w) (a:=a) (k:=l.length-b) (l':=dL l a (l.drop b)) hF (gZ aa) hk hroom hone hget;have hv1:iU (aL.n O) 0 a (.slice (some ⟨bl,off,none⟩) l.length cap)=.slice (some ⟨bl,off,none⟩) a cap:=by simp[iU,T1]
  have hv2:iU (aL.n O) b l.length (.slice (some ⟨bl,off,none⟩) l.length cap)=.slice (if cap=b then some ⟨bl,off,none⟩ else some ⟨bl,off+b*aL.n O,none⟩) (l.length-b) (cap-b):=by grind[iU,T1]
  have hv3:iU (aL.n O) 0 (a+(l.length-b)) (.slice (some ⟨bl,off,none⟩) l.length cap)=.slice (some ⟨bl,off,none⟩) (a+(l.length-b)) cap:=by simp[iU,T1]
  refine⟨_,w',hexec (.slice (some ⟨bl,off,none⟩) (a+(l.length-b)) cap) w' ?_,hv3.symm,?_⟩
  ·rw[hv1,hv2];simp[Builtin.append_,run_underlying hu,Builtin.lenOf,hz,hfirst,hroom,T1,hst]
  ·refine hS.aDO m hm λF2 hF2=>?_;have hF2:aL.own w [.slice (some ⟨bl,off,none⟩) l.length cap] l F2:=hF2;obtain⟨w2,G2,F3,hst2,hkp2,hGF2,hown2,hFF2⟩:=T0 P (S:=All w) (w0:=w) (a:=a) (k:=l.length-b) (l':=dL l a (l.drop b)) hF2 (gZ aa) hk hroom hone hget;rw[hst] at hst2;cases hst2;rw[gZ aa] at hown2;exact⟨F3,G2,hkp2,hGF2,hown2,λb' o' p=>.inl (hFF2 b' o' p)⟩
theorem a5B{a b k:Nat}(h:(∃len cap,s=.slice none len cap/\cap=0/\a=0)\/∃bl off len cap,s=.slice (some ⟨bl,off,none⟩) len cap):iU n a b (iU n 0 k s)=iU n a b s:=by
 rcases h with ⟨len,cap,rfl,rfl,rfl⟩|⟨bl,off,len,cap,rfl⟩
 ·simp[iU]
 ·simp only[iU,Option.map_some,Nat.zero_mul,T1,aBL,Nat.sub_zero,ite_self]
theorem a5C[aL O]{l:List O}{a b k:Nat}(h:aL.own w [s] l F)(hab:a<=b)(hb:b<=l.length):iU n a b (iU n 0 k s)=iU n a b s:=by grind[aF3,a5B]
theorem aX9[aL O]{l:List O}{k':Nat}{k2:IntKind}(m:Nat)(hS:St c w L R)(hm:L[m]?=some (fK [s] l))(hn:aL.n O=n)(hu:P.underlying t=some (.slice el))(hz:∀w,(sizeOf el).run P w=.ok n w)(hb:0<=i/\i<=j/\j<=l.length)(ho:o.op=.slice t x (some y) (some z) none)(hx:ev e x=some (iU n 0 k' s))(hy:ev e y=some (.int k i))(hw:ev e z=some (.int k2 j)):fE P o e w (iU n i.toNat j.toNat s) w:=λ_ a hA=>by
 obtain⟨F,hF⟩:=hS.chunk m hm;have hF:aL.own w [s] l F:=hF;obtain⟨b0,b1,b2⟩:=hb;rw[<-a5C (k:=k') hF (show i.toNat<=j.toNat by omega) aa];obtain⟨ad,cp,rfl,hc⟩:=TZ hF;have h1:j<=(cp:Int):=aa
 have h3:0<=j:=aa
 have h2:max j 0=j:=aa
 simp[execOp,ho,Instr.sliceAt,Instr.slice,run_underlying hu,Instr.sliceBounds,hA.eval hx,hA.eval hy,hA.eval hw,Instr.sliceBound,asIntOf,hz,b0,b1,h1,h2,h3,iU]
theorem aVO{zc:Array Value}{k i:Nat}(hz:zc.size=n)(hi:i<k):LY (Builtin.zeroCells zc k).toList n i=zc.toList:=by have hmul:(i+1)*n<=k*n:=vK n aa;rw[nK] at hmul;apply aBI;grind[Nat.mul_comm,Nat.mul_add_mod,Nat.mod_eq_of_lt,Builtin.zeroCells,LY]
theorem a5D[aL O][Flat O]{zv:Value}{l:List O}{a b:Nat}(zd:O)(m:Nat)(hS:St c w L R)(hm:L[m]?=some (fK [s] l))(hn:aL.n O=n)(hab:a<=b)(hb:b<=l.length)(hu:P.underlying t=some (.slice el))(hinf:YH P el n zv)(hzs:zv.cells.size=n)(hzd:∀w,aL.rd F0 w zv.cells.toList zd)(hone:∀v∈zv.cells.toList,v.oneCell'=true)
  (ho:o.op=.call {callee:=.builtin .clear,args:=#[x],argTypes:=#[t]}) (hx:ev e x=some (iU n a b s)) :
  ∃v w',fE P o e w v w'/\(v=.tuple #[]/\St c w' (L.set m (fK [s] (dL l a (List.replicate (b-a) zd)))) R):=by
 subst hn;obtain⟨ti,hti,hz,hsz,hby⟩:=hinf;obtain⟨F,hF⟩:=hS.chunk m hm;have hF:aL.own w [s] l F:=hF;obtain⟨ad,cap,cc,rfl,hlc,hcc,had,hrd⟩:=aF3 hF;have hexec:∀(w':World),(Builtin.clear_ #[t] o.type #[iU (aL.n O) a b (.slice ad l.length cap)]).run P w=.ok (.tuple #[]) w'->fE P o e w (.tuple #[]) w':=by intro w' h _ a' hA;simp[execOp,ho,resolve,invoke,builtin,hA.eval hx,h]
 by_cases h0:b-a=0
 ·have hsame:dL l a (List.replicate (b-a) zd)=l:=by simp_all[dL]
  rw[hsame];refine⟨_,w,hexec w ?_,rfl,hS.aDO m hm λF hF=>⟨F,F0,eJ.refl _ _,λ_ _ h=>h.elim,hF,λ_ _ h=>.inl h⟩⟩;rcases had with ⟨rfl,rfl,rfl⟩|⟨bl,off,rfl,_⟩
  ·simp_all[Builtin.clear_,run_underlying,iU]
  ·by_cases hca:cap=a<;>simp[Builtin.clear_,run_underlying hu,iU,hca,h0]
 ·rcases had with ⟨rfl,rfl,rfl⟩|⟨bl,off,rfl,hcells⟩
  ·omega
  have hca:cap≠a:=aa
  have hk:(Builtin.zeroCells zv.cells (b-a)).toList.length=(b-a)*aL.n O:=by grind[size_zeroCells]
  have hone2:∀v∈(Builtin.zeroCells zv.cells (b-a)).toList,v.oneCell'=true:=by
   intro v hv;obtain⟨p,hp,rfl⟩:=aBK.1 hv;have hn0:0<aL.n O:=by rcases Nat.eq_zero_or_pos (aL.n O) with h|h;rw[hk,h] at hp;omega;exact h
   have hp2:p<(b-a)*aL.n O:=by rw[<-hk];exact hp
   have hi:p/aL.n O<b-a:=Nat.div_lt_of_lt_mul (by rw[Nat.mul_comm];exact hp2);have hs:=aVO (k:=b-a) hzs hi;have hpe:p/aL.n O*aL.n O+p % aL.n O=p:=by rw[Nat.mul_comm];exact Nat.div_add_mod p (aL.n O)
   have hg:=uJ (cc:=(Builtin.zeroCells zv.cells (b-a)).toList) (n:=aL.n O) (i:=p/aL.n O) (j:=p % aL.n O) (Nat.mod_lt _ hn0);rw[hs,hpe,lH hp] at hg;exact hone _ (K9 hg)
  have hget:∀i x,(dL l a (List.replicate (b-a) zd))[i]?=some x->(a<=i/\i<a+(b-a)/\aL.rd F0 w (LY (Builtin.zeroCells zv.cells (b-a)).toList (aL.n O) (i-a)) x)\/((i<a\/a+(b-a)<=i)/\l[i]?=some x):=by
   intro i x hx;have hmin:min (List.replicate (b-a) zd).length (l.length-a)=b-a:=ah
   rcases Z8 aa hx with ⟨g1,g2,g3⟩|⟨g1,g2⟩
   ·rw[hmin] at g2;rw[List.getElem?_replicate,aM aa] at g3;simp at g3;subst g3;refine .inl ⟨g1,g2,?_⟩;rw[aVO hzs aa];exact hzd w
   ·rw[hmin] at g1;exact .inr ⟨g1,g2⟩
  obtain⟨w',G,F',hst,hkp,hGF,hown,hFF⟩:=T0 P (S:=F0) (w0:=w) (a:=a) (k:=b-a) (l':=dL l a (List.replicate (b-a) zd)) hF (gZ aa) hk aa hone2 hget;refine⟨_,w',hexec w' ?_,rfl,?_⟩
  ·obtain⟨q,hq⟩:∃q,b-a=q+1:=⟨b-a-1,aa⟩;rw[hq] at hst;simp[Builtin.clear_,run_underlying hu,iU,hca,hq,T1,zeroValue,typeInfo,hti,hz,hst]
  ·refine hS.aDO m hm λF2 hF2=>?_;have hF2:aL.own w [.slice (some ⟨bl,off,none⟩) l.length cap] l F2:=hF2;obtain⟨w2,G2,F3,hst2,hkp2,hGF2,hown2,hFF2⟩:=T0 P (S:=F0) (w0:=w) (a:=a) (k:=b-a) (l':=dL l a (List.replicate (b-a) zd)) hF2 (gZ aa) hk aa hone2 hget;rw[hst] at hst2;cases hst2;rw[gZ aa] at hown2;exact⟨F3,G2,hkp2,hGF2,hown2,λb' o' p=>.inl (hFF2 b' o' p)⟩
end
structure AC where
 a:Option Addr
 c:Nat
abbrev AC.v(s:AC)(n:Nat):Value:=.slice s.a n s.c
inductive SV where
 |i (k:IntKind) (x:Int)
 |y (b:UInt8)
 |b (c:Bool)
 |l (c:Bool)
 |s (l:List UInt8)
 |p (n o:Nat)
 |h (s:AC) (n:Nat)
 |e (s:AC) (n i o:Nat)
 |k (x:Value)
 |g (cs:List SV)
 |t (cs:List SV)
 |f (f:FuncId) (cs:List Nat)
 |u
variable{x:SV}
abbrev SE:=List (Nat×SV)
inductive Ch where
 |box (n:Nat) (cs:List SV)
 |ro (n:Nat) (cs:List SV)
 |o (c:Chunk)
 |f (f:Fact)
 |no
 |w (n b z:Nat)
inductive TK where
 |i (k:IntKind)
 |b
 |st (fs:List (Nat×Nat))
 |s
 |sl (el:Nat)
 |x
structure TI where
 d:TK
 a:Bool
 n:Nat
 z:List SV
abbrev TT:=List (Nat×TI)
def AU:TT->Nat->Option TI
 |[],_=>none
 |(k,v)::r,n=>match Nat.beq n k with
  |true=>some v
  |false=>AU r n
def EO:SE->Nat->Option SV
 |[],_=>none
 |(k,v)::r,n=>match Nat.beq n k with
  |true=>some v
  |false=>EO r n
def aW{O J:Type}(f:O->Option J):List O->Option (List J)
 |[]=>some []
 |x::r=>match f x with
  |none=>none
  |some y=>match aW f r with
   |none=>none
   |some ys=>some (y::ys)
def one?(v:Value):Option SV:=match v.oneCell' with
 |true=>some (.k v)
 |false=>none
def a5E(n:Nat):Option SV:=match Nat.blt n 256 with
 |true=>some (.y (UInt8.ofNat n))
 |false=>none
def ofC:Value->Option SV
 |.int .u8 (.ofNat n)=>a5E n
 |.int k n=>some (.i k n)
 |.bool c=>some (.l c)
 |.string s=>some (.s s.data.toList)
 |.slice a n c=>some (.h ⟨a,c⟩ n)
 |.agg _=>none
 |v=>one? v
def iL(e:SE):Operand->Option SV
 |.tmp t=>EO e t
 |.const v=>ofC v
 |.global _=>none
 |.func f=>some (.f f [])
def rX:SV->Option (IntKind×Int)
 |.i k x=>some (k,x)
 |.y b=>some (.u8,(b.toNat:Int))
 |_=>none
def a91(op:BinOp)(k:IntKind)(x y:Int)(yo:Operand):Option SV:=match op with
 |.add=>some (.i k (k.wrap (x+y)))
 |.sub=>some (.i k (k.wrap (x-y)))
 |.mul=>some (.i k (k.wrap (x*y)))
 |.lss=>some (.b (decide (x<y)))
 |.leq=>some (.b (decide (x<=y)))
 |.gtr=>some (.b (decide (y<x)))
 |.geq=>some (.b (decide (y<=x)))
 |.eql=>some (.b (x == y))
 |.neq=>some (.b (x != y))
 |.and=>some (.i k (iE .and k x y))
 |.or=>some (.i k (iE .or k x y))
 |.xor=>some (.i k (iE .xor k x y))
 |.andNot=>some (.i k (iE .andNot k x y))
 |.quo=>match yo with
  |.const (.int _ (.ofNat (_+1)))=>some (.i k (k.wrap (x.tdiv y)))
  |.const (.int _ (.negSucc _))=>some (.i k (k.wrap (x.tdiv y)))
  |_=>none
 |.rem=>match yo with
  |.const (.int _ (.ofNat (_+1)))=>some (.i k (x.tmod y))
  |.const (.int _ (.negSucc _))=>some (.i k (x.tmod y))
  |_=>none
 |_=>none
def shI(op:BinOp)(k:IntKind)(x y:Int)(yo:Operand):Option SV:=match op with
 |.shl=>match yo with
  |.const (.int _ (.ofNat _))=>some (.i k (aLZ k x y))
  |_=>none
 |.shr=>match yo with
  |.const (.int _ (.ofNat _))=>some (.i k (pN k x y))
  |_=>none
 |_=>none
def a0H:SV->Option Bool
 |.b c=>some c
 |.l c=>some c
 |_=>none
def bin(T:TT)(op:BinOp)(t:TypeId)(x y:SV)(yo:Operand):Option SV:=
 match rX x,rX y with
 |some (k,a),some (k',c)=>match op with
  |.shl=>shI op k a c yo
  |.shr=>shI op k a c yo
  |_=>match decEq k k' with
   |.isTrue _=>a91 op k a c yo
   |.isFalse _=>none
 |_,_=>match x,y with
  |.s a,.s c=>match op with
   |.eql=>some (.b (a == c))
   |.neq=>some (.b (!(a == c)))
   |_=>none
  |_,_=>match a0H x,a0H y,AU T t with
   |some a,some c,some ⟨.b,_,_,_⟩=>match op with
    |.eql=>some (.b (a == c))
    |.neq=>some (.b (!(a == c)))
    |_=>none
   |_,_,_=>none
def conv(T:TT)(s t:TypeId)(x:SV):Option SV:=match AU T s,AU T t with
 |some _,some ⟨.i k',_,_,_⟩=>match x with
  |.i _ a=>match k' with
   |.u8=>some (.y (u8 a))
   |_=>some (.i k' (k'.wrap a))
  |.y b=>match k' with
   |.i64=>some (.i .i64 (b.toNat:Int))
   |_=>none
  |_=>none
 |_,_=>none
def a92(T:TT)(t:TypeId)(ix:Nat):Option Nat:=match AU T t with
 |some ⟨.st fs,_,_,_⟩=>match fs[ix]? with
  |some (o,_+1)=>some o
  |_=>none
 |_=>none
def a5F(T:TT)(t:TypeId)(x:SV)(ix:Nat):Option SV:=match x with
 |.p n o=>match a92 T t ix with
  |some k=>some (.p n (o+k))
  |none=>none
 |.e s n i o=>match a92 T t ix with
  |some k=>some (.e s n i (o+k))
  |none=>none
 |_=>none
def I7(n:Nat):List Ch->Option (List SV)
 |[]=>none
 |.box k cs::L=>match Nat.beq n k with
  |true=>some cs
  |false=>I7 n L
 |.ro k cs::L=>match Nat.beq n k with
  |true=>some cs
  |false=>I7 n L
 |_::L=>I7 n L
def frc{O:Type}:List O->Option (List O)
 |[]=>some []
 |x::r=>match frc r with
  |some s=>some (x::s)
  |none=>none
def oR:SV->List SV
 |.g cs=>cs
 |x=>[x]
def isCells:SV->Bool
 |.t _=>false
 |.f _ _=>false
 |.u=>false
 |_=>true
def aR4(T:TT)(t:TypeId)(p:SV)(L:List Ch):Option SV:=match p with
 |.p n o=>match I7 n L,AU T t with
  |some cs,some ⟨_,true,m,_⟩=>match Nat.ble (o + m) cs.length with
   |true=>match frc ((cs.drop o).take m) with
    |some ds=>some (.g ds)
    |none=>none
   |false=>none
  |some cs,some ⟨_,false,_,_⟩=>cs[o]?
  |_,_=>none
 |_=>none
def a5G(cs:List SV)(o:Nat):List SV->List SV
 |[]=>cs
 |v::vs=>a5G (cs.set o v) (o+1) vs
def ovw:List SV->Nat->List SV->List SV
 |[],_,_=>[]
 |c::cs,n+1,vs=>c::ovw cs n vs
 |c::cs,0,vs=>match vs with
  |[]=>c::cs
  |v::vs=>v::ovw cs 0 vs
def aS7(e:SE)(fs:List (Nat×Nat)):List (Nat×Operand)->List SV->Option (List SV)
 |[],cs=>some cs
 |(ix,o)::r,cs=>match fs[ix]?,iL e o with
  |some (f,m),some v=>match isCells v,Nat.beq (oR v).length m,Nat.ble (f + m) cs.length with
   |true,true,true=>match frc (ovw cs f (oR v)) with
    |some cs'=>aS7 e fs r cs'
    |none=>none
   |_,_,_=>none
  |_,_=>none
def aYA(T:TT)(e:SE)(t:TypeId)(ps:List (Nat×Operand)):Option SV:=match AU T t with
 |some ⟨.st fs,true,_,z⟩=>match aS7 e fs ps z with
  |some cs=>some (.g cs)
  |none=>none
 |_=>none
def bF6(k:TK)(x:SV):Option SV:=match x with
 |.h _ n=>match k with
  |.sl _=>some (.i .i64 (n:Int))
  |_=>none
 |.s l=>match k with
  |.s=>some (.i .i64 (l.length:Int))
  |_=>none
 |_=>none
def ev1(T:TT)(e:SE)(L:List Ch):Op->Option SV
 |.move x=>iL e x
 |.assign x=>iL e x
 |.nilCheck x=>match iL e x with
  |some (.p n o)=>some (.p n o)
  |some (.e s n i o)=>some (.e s n i o)
  |some (.f f cs)=>some (.f f cs)
  |some (.k (.func (.func f) a b))=>some (.k (.func (.func f) a b))
  |_=>none
 |.pick c a b=>match iL e c with
  |some (.l true)=>iL e a
  |some (.l false)=>iL e b
  |_=>none
 |.unOp .not _ x=>match iL e x with
  |some (.b c)=>some (.b (!c))
  |some (.l c)=>some (.l (!c))
  |_=>none
 |.unOp .neg _ x=>match iL e x with
  |some (.i k a)=>some (.i k (k.wrap (0-a)))
  |_=>none
 |.binOp op t x y _=>match iL e x,iL e y with
  |some a,some b=>bin T op t a b y
  |_,_=>none
 |.convert s t x=>match iL e x with
  |some a=>conv T s t a
  |none=>none
 |.extract x ix=>match iL e x with
  |some (.t xs)=>xs[ix]?
  |_=>none
 |.fieldAddr t x ix=>match iL e x with
  |some a=>a5F T t a ix
  |none=>none
 |.load t p=>match iL e p with
  |some a=>aR4 T t a L
  |none=>none
 |.build t ps=>aYA T e t ps.toList
 |.call { callee:=.builtin .len,args:=⟨[x]⟩,argTypes:=⟨[t]⟩ } => match iL e x,AU T t with
  |some a,some ⟨k,_,_,_⟩=>bF6 k a
  |_,_=>none
 |_=>none
abbrev Bl:=List (Nat×Nat)
variable{B:Bl}
inductive Fr where
 |s (y:Code)
 |k (id:Nat)
inductive uB where
 |n
 |c (x:Code)
 |r (ops:Array Oper) (l:List Oper)
 |d (B1:Bl) (ops:Array Oper) (l:List Bool) (is:List Nat) (Lf Lv:List Ch)
 |o (B1:Bl) (ops:Array Oper) (l:List Bool) (is:List Nat) (Lf Lv:List Ch) (i:Nat)
def uB.ext(Ln:List Ch):uB->uB
 |.d B1 ops l is Lf Lv=>.d B1 ops l is Lf (Lv++Ln)
 |.o B1 ops l is Lf Lv i=>.o B1 ops l is Lf (Lv++Ln) i
 |x=>x
inductive Stop where
 |ret (m:Nat) (e:SE) (L:List Ch)
 |fin (m:Nat) (e:SE) (L:List Ch)
 |ex (id m:Nat) (e:SE) (L:List Ch)
 |cond (o:Operand) (b:Bool) (x y:Code) (K:List Fr) (m:Nat) (e:SE) (L:List Ch)
 |case (b:Bool) (cf:uB) (K:List Fr) (m:Nat) (e:SE) (L:List Ch)
 |loop (id:Nat) (x:Code) (K:List Fr) (m:Nat) (e:SE) (L:List Ch)
 |idx (o:Oper) (d t:Nat) (s:AC) (n:Nat) (i:Int) (Lv:List Ch) (cf cf':uB) (K:List Fr) (m:Nat) (e:SE) (L:List Ch)
 |call (o:Oper) (d:Option Nat) (f:FuncId) (xs:List SV) (cf cf':uB) (K:List Fr) (m:Nat) (e:SE) (L:List Ch)
 |callp (o:Oper) (d:Option Nat) (f:FuncId) (xs:List SV) (cf cf':uB) (K:List Fr) (m:Nat) (e:SE) (L:List Ch)
 |opp (o:Oper) (Lv:List Ch) (cf cf':uB) (K:List Fr) (m:Nat) (e:SE) (L:List Ch)
 |op (o:Oper) (Lv:List Ch) (cf cf':uB) (K:List Fr) (m:Nat) (e:SE) (L:List Ch)
 |rgn (id:Nat) (ops:Array Oper) (K:List Fr) (m:Nat) (e:SE) (L:List Ch)
 |alt (cf:uB) (K:List Fr) (m:Nat) (e:SE) (L:List Ch)
 |stuck
def pop:List Fr->Option (Code×List Fr)
 |[]=>none
 |.s y::K=>some (y,K)
 |.k _::K=>pop K
def xit(id:Nat):List Fr->Option (List Fr)
 |[]=>none
 |.s _::K=>xit id K
 |.k j::K=>match Nat.beq id j with
  |true=>some K
  |false=>xit id K
inductive Gd where
 |yes|no|ask (b:Bool)|bad
def EP (ops : Array Oper) (e : SE) : Option (Nat × Bool) -> Gd
 |none=>.yes
 |some (j,w)=>match ops.toList[j]? with
  |some q=>match q.dst with
   |some s=>match EO e s with
    |some (.l c)=>match c,w with
     |true,true=>.yes
     |false,false=>.yes
     |_,_=>.no
    |some .u=>.no
    |some (.b c)=>.ask c
    |_=>.bad
   |none=>.bad
  |none=>.bad
def uK(n:Nat)(cs:List SV):List Ch->List Ch
 |[]=>[]
 |.box k c::L=>match Nat.beq n k with
  |true=>.box k cs::L
  |false=>.box k c::uK n cs L
 |x::L=>x::uK n cs L
def T2(n:Nat):List Ch->Bool
 |[]=>false
 |.box k _::L=>match Nat.beq n k with
  |true=>true
  |false=>T2 n L
 |.ro k _::L=>match Nat.beq n k with
  |true=>false
  |false=>T2 n L
 |_::L=>T2 n L
def VD (T : TT) (t : TypeId) (p v : SV) (L : List Ch) : Option (List Ch):=match p with
 |.p n o=>match T2 n L with
  |true=>match I7 n L,AU T t with
   |some cs,some ⟨_,_,m,_⟩=>match isCells v,Nat.beq (oR v).length m,Nat.ble (o + m) cs.length with
    |true,true,true=>match frc (ovw cs o (oR v)) with
     |some cs'=>match frc (uK n cs' L) with
      |some L'=>some L'
      |none=>none
     |none=>none
    |_,_,_=>none
   |_,_=>none
  |false=>none
 |_=>none
inductive Ef where
 |val (v:SV)
 |box (cs:List SV)
 |st (L:List Ch)
 |no
def eff(T:TT)(e:SE)(L:List Ch)(o:Op):Ef:=match ev1 T e L o with
 |some v=>.val v
 |none=>match o with
  |.alloc t=>match AU T t with
   |some ⟨_,_,_,z⟩=>.box z
   |none=>.no
  |.box _ v=>match iL e v with
   |some a=>match isCells a with
    |true=>.box (oR a)
    |false=>.no
   |none=>.no
  |.store t p v=>match iL e p,iL e v with
   |some a,some b=>match VD T t a b L with
    |some L'=>.st L'
    |none=>.no
   |_,_=>.no
  |_=>.no
def AQ(m:Nat):SV->Bool
 |.p n _=>Nat.blt n m
 |.g cs=>okC m cs
 |.t cs=>okT m cs
 |.f _ cs=>okF m cs
 |_=>true
where
 okC (m:Nat):List SV->Bool
  |[]=>true
  |x::r=>match x with
   |.p n _=>match Nat.blt n m with
    |true=>okC m r
    |false=>false
   |.g _=>false
   |_=>okC m r
 okT (m:Nat):List SV->Bool
  |[]=>true
  |x::r=>match x with
   |.p n _=>match Nat.blt n m with
    |true=>okT m r
    |false=>false
   |.g cs=>match okC m cs with
    |true=>okT m r
    |false=>false
   |_=>okT m r
 okF (m:Nat):List Nat->Bool
  |[]=>true
  |n::r=>match Nat.blt n m with
   |true=>okF m r
   |false=>false
def nb1:SV->SV
 |.l c=>.b c
 |x=>x
def nbL:List SV->List SV
 |[]=>[]
 |x::r=>nb1 x::nbL r
def nbG:SV->SV
 |.g cs=>.g (nbL cs)
 |x=>nb1 x
def nbT:List SV->List SV
 |[]=>[]
 |x::r=>nbG x::nbT r
def nbS:SV->SV
 |.t xs=>.t (nbT xs)
 |x=>nbG x
def nbA:List SV->List SV
 |[]=>[]
 |x::r=>match x with
  |.f g []=>.k (.func (.func g) #[] #[])::nbA r
  |y=>nbG y::nbA r
def okA:List SV->Bool
 |[]=>true
 |x::r=>match AQ 0 x with
  |true=>okA r
  |false=>false
def a93(e:SE)(o:Oper)(Lv:List Ch)(cf cf':uB)(K:List Fr)(m:Nat)(L:List Ch):Op->Stop
 |.pick c _ _=>match iL e c with
  |some (.b b)=>.case b cf K m e L
  |_=>.stuck
 |.indexAddr t x y=>match iL e x,iL e y,o.dst with
  |some (.h s n),some (.i .i64 i),some d=>.idx o d t s n i Lv cf cf' K m e L
  |_,_,_=>.op o Lv cf cf' K m e L
 |.call { callee:=.value f,args,.. } => match iL e f,aW (iL e) args.toList with
  |some (.f g []),some xs=>match okA (nbA xs) with
   |true=>.call o o.dst g (nbA xs) cf cf' K m e L
   |false=>.callp o o.dst g (nbA xs) cf cf' K m e L
  |_,_=>.op o Lv cf cf' K m e L
 |_=>.op o Lv cf cf' K m e L
def bDQ(e:SE)(o:Oper)(Lv:List Ch)(cf cf':uB)(K:List Fr)(m:Nat)(L:List Ch):Op->Stop
 |.pick c _ _=>match iL e c with
  |some (.b b)=>.case b cf K m e L
  |_=>.stuck
 |.indexAddr t x y=>match iL e x,iL e y,o.dst with
  |some (.h s n),some (.i .i64 i),some d=>.idx o d t s n i Lv cf cf' K m e L
  |_,_,_=>.opp o Lv cf cf' K m e L
 |_=>.opp o Lv cf cf' K m e L
def opS:Stop->Option (Oper×List Ch×uB×uB×List Fr×Nat×SE×List Ch)
 |.op o Lv cf cf' K m e L=>some (o,Lv,cf,cf',K,m,e,L)
 |.opp o Lv cf cf' K m e L=>some (o,Lv,cf,cf',K,m,e,L)
 |_=>none
def rY(n:Nat):Option Nat->Bool
 |none=>true
 |some d=>Nat.blt d n
def a5H:Ground->Bool
 |.textOnly _=>false
 |.gcOnly _=>false
 |_=>true
def SJ(l:List Bool):List Edge->Bool
 |[]=>true
 |⟨on,g⟩::r=>match a5H g with
  |true=>match l[on]? with
   |some true=>SJ l r
   |_=>false
  |false=>SJ l r
def aHX(l:List Bool)(i:Nat):List Oper->Nat->Bool
 |[],_=>true
 |o::r,j=>match l[j]? with
  |some false=>match Nat.beq j i with
   |true=>match SJ l o.after.toList with
    |true=>aHX l i r (j+1)
    |false=>false
   |false=>match SJ l o.after.toList with
    |true=>false
    |false=>aHX l i r (j+1)
  |some true=>aHX l i r (j+1)
  |none=>false
def bB3:Op->Bool
 |.pick ..=>true
 |.indexAddr ..=>true
 |.index ..=>true
 |.binOp ..=>true
 |.slice ..=>true
 |.convert ..=>true
 |.call {callee:=.builtin .len,..}=>true
 |.call {callee:=.builtin .min,..}=>true
 |.call {callee:=.builtin .max,..}=>true
 |_=>false
inductive Ps where
 |fin (l:List Bool) (e:SE) (q:List (Nat×Oper))
 |ask (b:Bool) (l:List Bool) (e:SE)
 |pur (i:Nat) (o:Oper) (l:List Bool) (e:SE)
 |bad
def pass (T : TT) (n : Nat) (ops : Array Oper) (Lv : List Ch) : List Oper -> Nat -> List Bool -> SE -> List (Nat × Oper) -> Ps
 |[],_,l,e,q=>.fin l e q
 |o::r,i,l,e,q=>match l[i]? with
  |some true=>pass T n ops Lv r (i+1) l e q
  |some false=>match SJ l o.after.toList with
   |false=>pass T n ops Lv r (i+1) l e q
   |true=>match EP ops e o.guard with
    |.bad=>.bad
    |.ask c=>.ask c l e
    |.no=>match o.dst with
     |some d=>match Nat.blt d n with
      |true=>pass T n ops Lv r (i+1) (l.set i true) ((d,.u)::e) q
      |false=>.bad
     |none=>.bad
    |.yes=>match ev1 T e Lv o.op with
     |some v=>match o.dst with
      |some d=>match Nat.blt d n with
       |true=>pass T n ops Lv r (i+1) (l.set i true) ((d,v)::e) q
       |false=>.bad
      |none=>.bad
     |none=>match bB3 o.op with
      |true=>.pur i o l e
      |false=>pass T n ops Lv r (i+1) l e ((i,o)::q)
  |none=>.bad
def yJ(l:List Bool):List Oper->Nat->List Nat
 |[],_=>[]
 |o::r,j=>match l[j]? with
  |some false=>match SJ l o.after.toList with
   |true=>j::yJ l r (j+1)
   |false=>yJ l r (j+1)
  |_=>yJ l r (j+1)
def a94:List Bool->Bool
 |[]=>true
 |b::l=>match b with
  |true=>a94 l
  |false=>false
def aS8(n:Nat):List Ch->Nat->Nat
 |[],i=>i
 |.box k _::L,i=>match Nat.beq n k with
  |true=>i
  |false=>aS8 n L (i+1)
 |_::L,i=>aS8 n L (i+1)
def fX(i:Nat):List Nat->Bool
 |[]=>true
 |j::r=>match Nat.beq i j with
  |true=>false
  |false=>fX i r
def bDR(e:SE)(L:List Ch)(is:List Nat):Op->Bool
 |.store _ p _=>match iL e p with
  |some (.p n _)=>fX (aS8 n L 0) is
  |_=>false
 |_=>true
def stp(T:TT)(n:Nat):Nat->List Fr->uB->Nat->SE->List Ch->Stop
 |0,_,_,_,_,_=>.stuck
 |F + 1,K,.c x,m,e,L=>match x with
  |.skip=>match pop K with
   |some (y,K')=>stp T n F K' (.c y) m e L
   |none=>.fin m e L
  |.seq a b=>stp T n F (.s b::K) (.c a) m e L
  |.block id b=>match b with
   |.loop y=>.loop id y K m e L
   |b=>stp T n F (.k id::K) (.c b) m e L
  |.exit id=>match xit id K with
   |some K'=>match pop K' with
    |some (y,K'')=>stp T n F K'' (.c y) m e L
    |none=>.fin m e L
   |none=>.ex id m e L
  |.ret=>.ret m e L
  |.cond o x y=>match iL e o with
   |some (.l c)=>match c with
    |true=>stp T n F K (.c x) m e L
    |false=>stp T n F K (.c y) m e L
   |some (.b c)=>.cond o c x y K m e L
   |_=>.stuck
  |.region id ops d=>match d with
   |false=>stp T n F K (.r ops ops.toList) m e L
   |true=>.rgn id ops K m e L
  |_=>.stuck
 |F + 1,K,.n,m,e,L=>match pop K with
  |some (y,K')=>stp T n F K' (.c y) m e L
  |none=>.fin m e L
 |F + 1,K,.r _ [],m,e,L=>match pop K with
  |some (y,K')=>stp T n F K' (.c y) m e L
  |none=>.fin m e L
 |F + 1,K,.r ops (⟨dst,op,ty,ps,af,gd⟩::l),m,e,L=>match EP ops e gd with
  |.bad=>.stuck
  |.ask c=>.case c (.r ops (⟨dst,op,ty,ps,af,gd⟩::l)) K m e L
  |.no=>match dst with
   |some d=>match Nat.blt d n with
    |true=>stp T n F K (.r ops l) m ((d,.u)::e) L
    |false=>.stuck
   |none=>.stuck
  |.yes=>match eff T e L op,dst with
   |.val v,some d=>match Nat.blt d n with
    |true=>stp T n F K (.r ops l) m ((d,v)::e) L
    |false=>.stuck
   |.box cs,some d=>match Nat.blt d n with
    |true=>stp T n F K (.r ops l) (m+1) ((d,.p m 0)::e) (L++[.box m cs])
    |false=>.stuck
   |.st L',none=>stp T n F K (.r ops l) m e L'
   |.no,_=>match rY n dst with
    |true=>a93 e ⟨dst,op,ty,ps,af,gd⟩ L (.r ops (⟨dst,op,ty,ps,af,gd⟩::l)) (.r ops l) K m L op
    |false=>.stuck
   |_,_=>.stuck
 |F + 1,K,.d B1 ops l is Lf Lv,m,e,L=>match pass T n ops Lv ops.toList 0 l e [] with
  |.bad=>.stuck
  |.ask c l' e'=>.case c (.d B1 ops l' is Lf Lv) K m e' L
  |.pur i o l' e'=>match rY n o.dst with
   |true=>bDQ e' o Lv (.d B1 ops l' is Lf Lv) (.d B1 ops (l'.set i true) is Lf Lv) K m L o.op
   |false=>.stuck
  |.fin l' e' []=>match a94 l' with
   |true=>stp T n F K .n m e' L
   |false=>.stuck
  |.fin l' e' [(i,_)]=>match aHX l' i ops.toList 0 with
   |true=>stp T n F K (.o B1 ops l' is Lf Lv i) m e' L
   |false=>.stuck
  |.fin l' e' _=>.alt (.d B1 ops l' is Lf Lv) K m e' L
 |F + 1,K,.o B1 ops l is Lf Lv i,m,e,L=>match ops.toList[i]? with
  |some ⟨dst,op,ty,ps,af,gd⟩=>match SJ l af.toList,l[i]?,EP ops e gd with
   |true,some false,.yes=>match eff T e L op,dst with
    |.val v,some d=>match Nat.blt d n with
     |true=>stp T n F K (.d B1 ops (l.set i true) is Lf Lv) m ((d,v)::e) L
     |false=>.stuck
    |.box cs,some d=>match Nat.blt d n with
     |true=>stp T n F K (.d B1 ops (l.set i true) is Lf Lv) (m+1) ((d,.p m 0)::e) (L++[.box m cs])
     |false=>.stuck
    |.st L',none=>match bDR e L is op with
     |true=>stp T n F K (.d B1 ops (l.set i true) is Lf Lv) m e L'
     |false=>.stuck
    |.no,_=>match rY n dst with
     |true=>a93 e ⟨dst,op,ty,ps,af,gd⟩ Lv (.o B1 ops l is Lf Lv i) (.d B1 ops (l.set i true) is Lf Lv) K m L op
     |false=>.stuck
    |_,_=>.stuck
   |_,_,_=>.stuck
  |none=>.stuck
def a2J:SE->Option SE
 |[]=>some []
 |(k,v)::r=>match a2J r with
  |some s=>some ((k,v)::s)
  |none=>none
def a2K:List Ch->Option (List Ch)
 |[]=>some []
 |x::r=>match a2K r with
  |some s=>match x with
   |.box n cs=>match frc cs with
    |some ds=>some (.box n ds::s)
    |none=>none
   |.ro n cs=>match frc cs with
    |some ds=>some (.ro n ds::s)
    |none=>none
   |y=>some (y::s)
  |none=>none
def i4(T:TT)(n:Nat)(K:List Fr)(cf:uB)(m:Nat)(e:SE)(L:List Ch):Stop:=match a2J e,a2K L with
 |some e',some L'=>stp T n 9999 K cf m e' L'
 |_,_=>.stuck
def kp(e:SE):List Nat->SE
 |[]=>[]
 |k::ks=>match EO e k with
  |some x=>(k,x)::kp e ks
  |none=>kp e ks
def kl(L:List Ch):List Nat->List Ch
 |[]=>[]
 |i::is=>match L[i]? with
  |some x=>x::kl L is
  |none=>kl L is
def re1:SV->SV->SV
 |.b _,.l c=>.b c
 |_,x=>x
def reC:List SV->List SV->List SV
 |x::xs,y::ys=>re1 x y::reC xs ys
 |_,ys=>ys
def reE(e:SE):SE->Option SE
 |[]=>some []
 |(k,z)::r=>match EO e k with
  |some x=>match reE e r with
   |some s=>some ((k,re1 z x)::s)
   |none=>none
  |none=>none
def reL:List Ch->List Ch->List Ch
 |.box _ cs::M,.box n ds::L=>.box n (reC cs ds)::reL M L
 |_::M,x::L=>x::reL M L
 |[],L=>L
 |_,[]=>[]
def okE(m:Nat):SE->Bool
 |[]=>true
 |(_,x)::e=>match AQ m x with
  |true=>okE m e
  |false=>false
def okL(m:Nat):List Ch->Bool
 |[]=>true
 |.box n cs::L=>match Nat.blt n m,AQ.okC m cs with
  |true,true=>okL m L
  |_,_=>false
 |.ro n cs::L=>match Nat.blt n m,AQ.okC m cs with
  |true,true=>okL m L
  |_,_=>false
 |.w n _ _::L=>match Nat.blt n m with
  |true=>okL m L
  |false=>false
 |_::L=>okL m L
def asS(e:SE)(L:List Ch)(is:List Nat)(m:Nat)(e':SE)(L':List Ch):Option (SE×List Ch):=match reE e e' with
 |some s=>match okE m s,okL m (reL L' (kl L is)) with
  |true,true=>some (s,reL L' (kl L is))
  |_,_=>none
 |none=>none
def Z9(b m:Nat)(e:SE)(L:List Ch)(is:List Nat)(m':Nat)(e':SE)(L':List Ch):Option (SE×List Ch):=match Nat.ble b m',Nat.ble m' m,dJ is with
 |true,true,true=>asS e L is m' e' L'
 |_,_,_=>none
def ovr(c:Bool)(e:SE):List Nat->SE
 |[]=>e
 |s::ss=>(s,.l c)::ovr c e ss
def T3:Stop->Option (List Fr×uB×Nat×SE×List Ch)
 |.cond o _ x y K m e L=>some (K,.c (.cond o x y),m,e,L)
 |.case _ cf K m e L=>some (K,cf,m,e,L)
 |.loop id y K m e L=>some (K,.c (.block id (.loop y)),m,e,L)
 |.idx _ _ _ _ _ _ _ cf _ K m e L=>some (K,cf,m,e,L)
 |.call _ _ _ _ cf _ K m e L=>some (K,cf,m,e,L)
 |.callp _ _ _ _ cf _ K m e L=>some (K,cf,m,e,L)
 |.op _ _ cf _ K m e L=>some (K,cf,m,e,L)
 |.opp _ _ cf _ K m e L=>some (K,cf,m,e,L)
 |.rgn id ops K m e L=>some (K,.c (.region id ops true),m,e,L)
 |.alt cf K m e L=>some (K,cf,m,e,L)
 |_=>none
def aCK(i:Nat):List Edge->Bool
 |[]=>false
 |⟨on,g⟩::r=>match a5H g with
  |true=>match Nat.beq on i with
   |true=>true
   |false=>aCK i r
  |false=>aCK i r
def aVQ(ops:Array Oper):Bool:=Region.noSelect ops && ops.toList.zipIdx.all λp=>ops.toList.zipIdx.all λq=>Nat.beq p.2 q.2 || aCK p.2 q.1.after.toList || aCK q.2 p.1.after.toList || p.1.apart ops q.1
def a5I(T:TT)(e:SE)(L:List Ch):ResultVar->Option SV
 |.tmp t=>EO e t
 |.cell t ty=>match EO e t with
  |some p=>aR4 T ty p L
  |none=>none
def aYB(T:TT)(e:SE)(L:List Ch)(r:ResultVar):Option SV:=match a5I T e L r with
 |some x=>match isCells x with
  |true=>some x
  |false=>none
 |none=>none
def aTA(T:TT)(e:SE)(L:List Ch):List ResultVar->Option SV
 |[]=>some (.t [])
 |[r]=>a5I T e L r
 |[r,s]=>match aYB T e L r,aYB T e L s with
  |some x,some y=>some (.t [x,y])
  |_,_=>none
 |[r,s,t]=>match aYB T e L r,aYB T e L s,aYB T e L t with
  |some x,some y,some z=>some (.t [x,y,z])
  |_,_,_=>none
 |_=>none
def bU(B:Bl):SV->Option Value
 |.i k x=>some (.int k x)
 |.y b=>some (.int .u8 (b.toNat:Int))
 |.b c=>some (.bool c)
 |.l c=>some (.bool c)
 |.s l=>some (sv l)
 |.p n o=>match B[n]? with
  |some (b,z)=>some (.pointer (some ⟨b,z+o,none⟩))
  |none=>none
 |.h s n=>some (s.v n)
 |.e s n i o=>some (.pointer (some ⟨X5 (s.v 0),WT n i (s.v 0)+o,none⟩))
 |.k x=>match x.oneCell' with
  |true=>some x
  |false=>none
 |_=>none
def gV(B:Bl):SV->Option Value
 |.g cs=>match aW (bU B) cs with
  |some vs=>some (.agg vs.toArray)
  |none=>none
 |x=>bU B x
def X6(B:Bl)(n:Nat):Option Value:=match B[n]? with
 |some (b,z)=>some (.pointer (some ⟨b,z,none⟩))
 |none=>none
def fJ(B:Bl):SV->Option Value
 |.t xs=>match aW (gV B) xs with
  |some vs=>some (.tuple vs.toArray)
  |none=>none
 |.f f cs=>match aW (X6 B) cs with
  |some vs=>some (.func (.func f) #[] vs.toArray)
  |none=>none
 |.u=>some undef
 |x=>gV B x
theorem aL7{v:Value}(h:bU B x=some v):v.oneCell'=true:=by
 cases x<;>simp only[bU] at h<;>try (simp at h;done)
 all_goals try (cases h;rfl)
 ·split at h<;>cases h;rfl
 grind
theorem lI{O J:Type}{f:O->Option J}:∀{l:List O} {r:List J},aW f l=some r->r.length=l.length
 |[],r,h=>by cases h;rfl
 |x::l,r,h=>by
  simp only[aW] at h;split at h
  ·cases h
  ·split at h
   ·cases h
   ·rename_i h2;cases h;simp[lI h2]
theorem T4{O J:Type}{f:O->Option J}:∀{l:List O} {r:List J} {i:Nat} {x:O},aW f l=some r->l[i]?=some x->∃y,f x=some y/\r[i]?=some y
 |[],_,_,_,_,h=>by simp at h
 |x::l,r,i,z,h,hi=>by
  simp only[aW] at h;split at h
  ·cases h
  ·rename_i h1;split at h
   ·cases h
   ·rename_i h2;cases h;cases i with
    |zero=>grind
    |succ i=>obtain⟨y,h3,h4⟩:=T4 h2 (by simpa using hi);grind
theorem T5{O J:Type}{f:O->Option J}:∀{l:List O} {r:List J} (k:Nat),aW f l=some r->aW f (l.drop k)=some (r.drop k)
 |l,r,0,h=>h
 |[],r,k+1,h=>by cases h;rfl
 |x::l,r,k + 1,h=>by
  simp only[aW] at h;split at h
  ·cases h
  ·split at h
   ·cases h
   ·rename_i h2;cases h;exact T5 k h2
theorem T6{O J:Type}{f:O->Option J}:∀{l:List O} {r:List J} (k:Nat),aW f l=some r->aW f (l.take k)=some (r.take k)
 |l,r,0,h=>rfl
 |[],r,k+1,h=>by cases h;rfl
 |x::l,r,k + 1,h=>by
  simp only[aW] at h;split at h
  ·cases h
  ·rename_i h1;split at h
   ·cases h
   ·rename_i h2;cases h;simp[aW,h1,T6 k h2]
theorem eY{O J:Type}{f g:O->Option J}(hfg:∀x y,f x=some y->g x=some y):∀{l:List O} {r:List J},aW f l=some r->aW g l=some r
 |[],r,h=>h
 |x::l,r,h=>by
  simp only[aW] at h;split at h
  ·cases h
  ·rename_i h1;split at h
   ·cases h
   ·rename_i h2;cases h;simp[aW,hfg _ _ h1,eY hfg h2]
theorem aVR{O J:Type}{f:O->Option J}:∀{l:List O} {r:List J} {x:O} {y:J} (k:Nat),aW f l=some r->f x=some y->aW f (l.set k x)=some (r.set k y)
 |[],r,_,_,k,h,_=>by cases h;rfl
 |z::l,r,x,y,k,h,hx=>by
  simp only[aW] at h;split at h
  ·cases h
  ·rename_i h1;split at h
   ·cases h
   ·rename_i h2;cases h;cases k with
    |zero=>grind[aW]
    |succ k=>simp[aW,h1,aVR k h2 hx]
theorem aDT{f:SV->Option Value}:∀{ds:List SV} {vs:List Value} {cs:List SV} {r:List Value} (k:Nat),aW f cs=some r->aW f ds=some vs->aW f (a5G cs k ds)=some (aDP r k vs)
 |[],vs,cs,r,k,h,h2=>by cases h2;exact h
 |d::ds,vs,cs,r,k,h,h2=>by
  simp only[aW] at h2;split at h2
  ·cases h2
  ·rename_i h3;split at h2
   ·cases h2
   ·rename_i h4;cases h2;exact aDT (k+1) (aVR k h h3) h4
theorem Bl.app(B':Bl){q:Nat×Nat}(h:B[n]?=some q):(B++B')[n]?=some q:=aj
theorem gD(B':Bl){v:Value}(h:bU B x=some v):bU (B++B') x=some v:=by
 cases x<;>simp only[bU] at h ⊢<;>try exact h
 grind
theorem a5J(B':Bl){v:Value}(h:gV B x=some v):gV (B++B') x=some v:=by
 cases x<;>simp only[gV] at h ⊢<;>try exact gD B' h
 grind[eY,gD]
theorem a5K(B':Bl){x:Nat}{v:Value}(h:X6 B x=some v):X6 (B++B') x=some v:=by grind[X6]
theorem xN(B':Bl){v:Value}(h:fJ B x=some v):fJ (B++B') x=some v:=by
 cases x<;>simp only[fJ] at h ⊢<;>try exact a5J B' h
 ·split at h
  ·rename_i h1;rw[eY (λ_ _=>a5J B') h1];exact h
  ·cases h
 ·split at h
  ·rename_i h1;rw[eY (λ_ _=>a5K B') h1];exact h
  ·cases h
 ·exact h
theorem bF7{v:Value}(h:gV B x=some v):fJ B x=some v:=by cases x<;>first|exact h|grind[gV,bU]
theorem a0I{v:Value}(h:bU B x=some v):fJ B x=some v:=by cases x<;>first|exact h|grind[bU]
structure gU (n:Nat) (B:Bl) (e:SE) (a:Act):Prop where
 d:a.defers=[]
 size:a.tmps.size=n
 get:∀k x,EO e k=some x->∃v,fJ B x=some v/\a.tmps[k]?=some v
def vE(B:Bl):SE->Env
 |[]=>[]
 |(k,x)::e=>(k,(fJ B x).getD undef)::vE B e
theorem a5L{B:Bl}{k:Nat}{v:Value}:∀{e:SE},lk (vE B e) k=some v->∃x,EO e k=some x/\v=(fJ B x).getD undef
 |[],h=>by simp[vE,lk] at h
 |(j,x)::e,h=>by
  simp only[vE,lk] at h;simp only[EO];cases hb:Nat.beq k j with
  |true=>grind
  |false=>rw[hb] at h;exact a5L h
theorem aL8{B:Bl}{k:Nat}{x:SV}:∀{e:SE},EO e k=some x->lk (vE B e) k=some ((fJ B x).getD undef)
 |[],h=>by simp[EO] at h
 |(j,y)::e,h=>by
  simp only[EO] at h;simp only[vE,lk];cases hb:Nat.beq k j with
  |true=>grind
  |false=>rw[hb] at h;exact aL8 h
section
variable {n:Nat} {B:Bl} {e:SE} {a:Act}
theorem gU.env(h:gU n B e a):NI n (vE B e) a:=⟨h.d,h.size,λk v hk=>by
 obtain⟨x,h1,h2⟩:=a5L hk;obtain⟨u,h3,h4⟩:=h.get k x h1;grind⟩
theorem gU.of{a':Act}(h:gU n B e a){d:Nat}{v:Value}(hx:fJ B x=some v)(h2:NI n ((d,v)::vE B e) a'):gU n B ((d,x)::e) a':=⟨h2.d,h2.size,λk y hk=>by
 simp only[EO] at hk;cases hb:Nat.beq k d with
 |true=>
  rw[hb] at hk;cases hk;exact⟨v,hx,h2.get k v (by grind[lk])⟩
 |false=>
  rw[hb] at hk;obtain⟨u,h3,h4⟩:=h.get k y hk;refine⟨u,h3,h2.get k u ?_⟩;grind[lk,aL8]⟩
theorem gU.app(h:gU n B e a)(B':Bl):gU n (B++B') e a:=⟨h.d,h.size,λk x hk=>by
 obtain⟨v,h1,h2⟩:=h.get k x hk;grind[xN]⟩
theorem a0J(h:a5E m=some x):fJ B x=some (.int .u8 (m:Int))/\rX x=some (.u8,(m:Int)):=by grind[a5E,yI,UInt8.toNat_ofNat',fJ,gV,bU,rX]
theorem bDS{v:Value}(h:one? v=some x):fJ B x=some v:=by grind[one?,fJ,gV,bU]
theorem bDT{v:Value}(h:ofC v=some x):fJ B x=some v:=by
 unfold ofC at h;split at h
 ·exact(a0J h).1
 ·cases h;rfl
 ·cases h;rfl
 ·cases h;rename_i s;cases s;simp[fJ,gV,bU]
 ·cases h;rfl
 ·cases h
 ·exact bDS h
theorem eH(hA:gU n B e a){o:Operand}(h:iL e o=some x):∃v,fJ B x=some v/\ev (vE B e) o=some v:=by
 cases o with
 |tmp t=>
  obtain⟨v,h1,_⟩:=hA.get t x h;exact⟨v,h1,by simp only[ev];rw[aL8 h,h1];rfl⟩
 |const v=>exact⟨v,bDT h,rfl⟩
 |global g=>cases h
 |func f=>cases h;exact⟨_,rfl,rfl⟩
theorem aYC{v:Value}(h:rX x=some (k,i))(hv:fJ B x=some v):v=.int k i:=by
 cases x<;>simp only[rX] at h<;>cases h
 ·cases hv;rfl
 ·cases hv;rfl
theorem a0K{c:Bool}{v:Value}(h:a0H x=some c)(hv:fJ B x=some v):v=.bool c:=by
 cases x<;>simp only[a0H] at h<;>cases h
 ·cases hv;rfl
 ·cases hv;rfl
theorem bDU{k':IntKind}(h:iL e (.const (.int k' j))=some x)(h2:rX x=some (k,i)):j=i:=by
 simp only[iL] at h;unfold ofC at h;split at h
 ·rename_i heq;cases heq;have:=(a0J (B:=[]) h).2;rw[this] at h2;cases h2;rfl
 ·rename_i heq;cases heq;cases h;cases h2;rfl
 all_goals (rename_i heq;first|(cases heq;done)|skip)
 rename_i h1 h2 h3 h4 h5;exact absurd rfl (h2 _ _)
end
structure FY (P:Program) (T:TT):Prop where
 und:∀t i,AU T t=some i->∃d,P.underlying t=some d/\match i.d with
  |.i k=>d=.int k
  |.b=>d=.bool
  |.st fs=>∃Fs:Array Field,d=.struct Fs/\Fs.toList.map (·.offset)=fs.map (·.1)/\(∀(j:Nat) F,Fs[j]?=some F->∃m,fs[j]?=some (F.offset,m)/\∀w,(sizeOf F.type).run P w=.ok m w)/\∀w,(Fs.mapM λf=>(do pure (f.offset,<-sizeOf f.type):Sem (Nat×Nat))).run P w=.ok fs.toArray w
  |.s=>d=.string
  |.sl el=>d=.slice el
  |.x=>True
 agg:∀t i,AU T t=some i->∀w,(isAgg t).run P w=.ok i.a w
 size:∀t i,AU T t=some i->∀w,(sizeOf t).run P w=.ok i.n w
 zero:∀t i,AU T t=some i->∃z,(∀w,(zeroValue t).run P w=.ok z w)/\aW (bU []) i.z=some z.cells.toList
section
variable {P:Program} {T:TT} {n:Nat} {B:Bl} {e:SE} {E:Env} {o:Oper} {w:World} {x y:Operand}
theorem a95{yv r:SV}(ho:o.op=.binOp op t x y z)(hx:ev E x=some (.int k i))(hy:ev E y=some (.int k j))(hyc:iL e y=some yv)(hyn:rX yv=some (k,j))(h:a91 op k i j y=some r):∃v,fJ B r=some v/\fE P o E w v w:=by
 have h0:∀k' m,y=.const (.int k' (.ofNat (m+1)))->j≠0:=λk' m e1=>by grind[bDU]
 have h1:∀k' m,y=.const (.int k' (.negSucc m))->j≠0:=λk' m e1=>by grind[bDU]
 cases op with
 |add=>cases h;exact⟨_,rfl,bCZ ho hx hy⟩
 |sub=>cases h;exact⟨_,rfl,bC0 ho hx hy⟩
 |mul=>cases h;exact⟨_,rfl,bC1 ho hx hy⟩
 |lss=>cases h;exact⟨_,rfl,bC2 ho hx hy⟩
 |leq=>cases h;exact⟨_,rfl,bC3 ho hx hy⟩
 |gtr=>cases h;exact⟨_,rfl,bC4 ho hx hy⟩
 |geq=>cases h;exact⟨_,rfl,bC5 ho hx hy⟩
 |eql=>cases h;exact⟨_,rfl,bC6 ho hx hy⟩
 |neq=>cases h;exact⟨_,rfl,bC7 ho hx hy⟩
 |and=>cases h;exact⟨_,rfl,bC8 ho hx hy⟩
 |or=>cases h;exact⟨_,rfl,bF3 ho hx hy⟩
 |xor=>cases h;exact⟨_,rfl,bC9 ho hx hy⟩
 |andNot=>cases h;exact⟨_,rfl,a19 ho hx hy⟩
 |quo=>
  simp only[a91] at h;split at h
  ·cases h;exact⟨_,rfl,aX1 ho hx hy (h0 _ _ rfl)⟩
  ·cases h;exact⟨_,rfl,aX1 ho hx hy (h1 _ _ rfl)⟩
  ·cases h
 |rem=>
  simp only[a91] at h;split at h
  ·cases h;exact⟨_,rfl,aX2 ho hx hy (h0 _ _ rfl)⟩
  ·cases h;exact⟨_,rfl,aX2 ho hx hy (h1 _ _ rfl)⟩
  ·cases h
 |_=>cases h
theorem a5M{k':IntKind}{yv r:SV}(ho:o.op=.binOp op t x y z)(hx:ev E x=some (.int k i))(hy:ev E y=some (.int k' j))(hyc:iL e y=some yv)(hyn:rX yv=some (k',j))(h:shI op k i j y=some r):∃v,fJ B r=some v/\fE P o E w v w:=by
 have h0:∀k' m,y=.const (.int k' (.ofNat m))->¬j<0:=λk' m e1=>by grind[bDU]
 cases op<;>simp only[shI] at h<;>try (cases h;done)
 ·split at h
  ·cases h;exact⟨_,rfl,a4K ho hx hy (h0 _ _ rfl)⟩
  ·cases h
 ·split at h
  ·cases h;exact⟨_,rfl,bDA ho hx hy (h0 _ _ rfl)⟩
  ·cases h
theorem bDV(hT:FY P T){a c r:SV}{vc:Value}(ho:o.op=.binOp op t x y z)(hx:ev E x=some va)(hy:ev E y=some vc)(ha:fJ B a=some va)(hc:fJ B c=some vc)(hyc:iL e y=some c)(h:bin T op t a c y=some r):∃v,fJ B r=some v/\fE P o E w v w:=by
 unfold bin at h;split at h
 ·rename_i k i k' j h1 h2;have e1:=aYC h1 ha;have e2:=aYC h2 hc;subst e1;subst e2;split at h
  ·exact a5M ho hx hy hyc h2 h
  ·exact a5M ho hx hy hyc h2 h
  ·split at h
   ·rename_i hk _;subst hk;exact a95 ho hx hy hyc h2 h
   ·cases h
 ·split at h
  ·cases ha;cases hc;split at h
   ·cases h;exact⟨_,rfl,a9H ho hx hy⟩
   ·cases h;exact⟨_,rfl,a9I ho hx hy⟩
   ·cases h
  ·split at h
   ·rename_i h1 h2 h3;have e1:=a0K h1 ha;have e2:=a0K h2 hc;subst e1;subst e2;obtain⟨d,hd,hd2⟩:=hT.und _ _ h3;simp only at hd2;subst hd2;split at h
    ·cases h;exact⟨_,rfl,a9F hd ho hx hy⟩
    ·cases h;exact⟨_,rfl,a9G hd ho hx hy⟩
    ·cases h
   ·cases h
theorem a96(hT:FY P T){s:TypeId}{a r:SV}(ho:o.op=.convert s t x)(hx:ev E x=some va)(ha:fJ B a=some va)(h:conv T s t a=some r):∃v,fJ B r=some v/\fE P o E w v w:=by
 unfold conv at h
 split at h
 ·rename_i i k' _ _ _ h1 h2;obtain⟨ds,hs,_⟩:=hT.und _ _ h1;obtain⟨d,hd,hd2⟩:=hT.und _ _ h2;simp only at hd2;subst hd2;split at h
  ·cases ha;split at h
   ·cases h;exact⟨_,rfl,a4O hs hd ho hx⟩
   ·cases h;exact⟨_,rfl,aS5 hs hd ho hx⟩
  ·cases ha;split at h
   ·cases h;exact⟨_,rfl,a4P hs hd ho hx⟩
   ·cases h
  ·cases h
 ·cases h
theorem a0L(hT:FY P T){t ix k:Nat}(h:a92 T t ix=some k):∃(fs:Array Field) (f:Field) (m:Nat),P.underlying t=some (.struct fs)/\fs[ix]?=some f/\f.offset=k/\∀w,(sizeOf f.type).run P w=.ok (m+1) w:=by
 unfold a92 at h;split at h
 ·rename_i fs _ _ _ h1;obtain⟨d,hd,Fs,rfl,hoff,hall,_⟩:=hT.und _ _ h1;split at h
  ·rename_i k' m h2;cases h;have hlen:Fs.size=fs.length:=by have:=dA List.length hoff;grind
   have hlt:ix<Fs.size:=aj
   obtain⟨m',h3,h4⟩:=hall ix Fs[ix] (by simp[hlt]);rw[h2] at h3;cases h3;exact⟨Fs,Fs[ix],m,hd,by simp[hlt],rfl,h4⟩
  ·cases h
 ·cases h
theorem a5N(hT:FY P T){t ix:Nat}{a r:SV}(ho:o.op=.fieldAddr t x ix)(hx:ev E x=some va)(ha:fJ B a=some va)(h:a5F T t a ix=some r):∃v,fJ B r=some v/\fE P o E w v w:=by
 unfold a5F at h;split at h
 ·split at h
  ·rename_i n0 o0 k hk;cases h;obtain⟨fs,f,m,h1,h2,h3,h4⟩:=a0L hT hk;simp only[fJ,gV,bU] at ha ⊢;split at ha
   ·rename_i b z hb;cases ha;exact⟨_,rfl,a4N h1 ho h2 h4 hx aa⟩
   ·cases ha
  ·cases h
 ·split at h
  ·rename_i s0 n0 i0 o0 k hk;cases h;obtain⟨fs,f,m,h1,h2,h3,h4⟩:=a0L hT hk;cases ha;exact⟨_,rfl,a4N h1 ho h2 h4 hx aa⟩
  ·cases h
 ·cases h
end
def VE(B:Bl)(n:Nat)(cs:List SV):Chunk where
 P:=λw F=>∃b z vs,B[n]?=some (b,z)/\aW (bU B) cs=some vs/\(YG b z vs).P w F
 keep:=λ⟨b,z,vs,h1,h2,h3⟩ hk hd=>⟨b,z,vs,h1,h2,(YG b z vs).keep h3 hk hd⟩
 lt:=λ⟨b,z,vs,_,_,h3⟩ hf=>(YG b z vs).lt h3 hf
def kL(B:Bl):Ch->Chunk
 |.box n cs=>VE B n cs
 |.o c=>c
 |_=>NH
def roF(B:Bl)(R:List Fact):Ch->Prop
 |.ro n cs=>∃b z vs,B[n]?=some (b,z)/\aW (bU B) cs=some vs/\fAt b z vs∈R
 |.f f=>f∈R
 |.w n b z=>B[n]?=some (b,z)
 |_=>True
structure mM (c:Ctx) (w:World) (B:Bl) (L:List Ch):Prop where
 ex:∃R,St c w (L.map (kL B)) R/\∀x∈L,roF B R x
 s0:∀b o,c.S0 b o->b<c.w0.heap.size
inductive jI (w:World):List Chunk->List Chunk->Prop where
 |nil:jI w [] []
 |cons {a b:Chunk} {A B:List Chunk} (h:∀F,a.P w F->b.P w F) (t:jI w A B):jI w (a::A) (b::B)
theorem Sep.imp{w:World}:∀{A B:List Chunk} {F:cV},jI w A B->Sep w A F->Sep w B F
 |_,_,_,.nil,h=>h
 |_,_,_,.cons h t,⟨F1,F2,h1,h2,hd,hF⟩=>⟨F1,F2,h F1 h1,Sep.imp t h2,hd,hF⟩
theorem St.imp{A B:List Chunk}(h:St c w A R)(hi:jI w A B):St c w B R:=by obtain⟨F,S,hsep,rest⟩:=h.sep;exact⟨h.keep,⟨F,S,Sep.imp hi hsep,rest⟩,h.apart⟩
theorem jI.refl{w:World}:∀(A:List Chunk),jI w A A
 |[]=>.nil
 |_::A=>.cons (λ_ h=>h) (jI.refl A)
theorem jI.append{w:World}:∀{A B A' B':List Chunk},jI w A B->jI w A' B'->jI w (A++A') (B++B')
 |_,_,_,_,.nil,h=>h
 |_,_,_,_,.cons h t,h2=>.cons h (jI.append t h2)
theorem jI.set{w:World}{a b:Chunk}:∀{A B:List Chunk} (i:Nat),jI w A B->(∀F,a.P w F->b.P w F)->jI w (A.set i a) (B.set i b)
 |_,_,_,.nil,_=>.nil
 |_,_,0,.cons _ t,h=>.cons h t
 |_,_,i+1,.cons g t,h=>.cons g (jI.set i t h)
theorem jI.put{w:World}{a b:Chunk}:∀{A:List Chunk} (i:Nat),A[i]?=some a->(∀F,a.P w F->b.P w F)->jI w A (A.set i b)
 |[],_,h,_=>by simp at h
 |x::A,0,h,g=>by simp at h;subst h;exact .cons g (jI.refl A)
 |x::A,i+1,h,g=>.cons (λ_ h=>h) (jI.put i aj g)
theorem a5O(B':Bl){cs:List SV}(h:(VE B n cs).P w F):(VE (B++B') n cs).P w F:=by obtain⟨b,z,vs,h1,h2,h3⟩:=h;exact⟨b,z,vs,Bl.app B' h1,eY (λ_ _=>gD B') h2,h3⟩
theorem a97(B':Bl){x:Ch}(h:(kL B x).P w F):(kL (B++B') x).P w F:=by cases x<;>first|exact a5O B' h|exact h
theorem aAA{B:Bl}(B':Bl){w:World}:∀(L:List Ch),jI w (L.map (kL B)) (L.map (kL (B++B')))
 |[]=>.nil
 |_::L=>.cons (λ_ h=>a97 B' h) (aAA B' L)
theorem aTB(B':Bl){x:Ch}(h:roF B R x):roF (B++B') R x:=by
 cases x<;>try exact h
 ·obtain⟨b,z,vs,h1,h2,h3⟩:=h;exact⟨b,z,vs,Bl.app B' h1,eY (λ_ _=>gD B') h2,h3⟩
 ·exact Bl.app B' h
theorem aDU{R':List Fact}(hR:∀f∈R,f∈R'){x:Ch}(h:roF B R x):roF B R' x:=by
 cases x<;>try exact h
 ·obtain⟨b,z,vs,h1,h2,h3⟩:=h;exact⟨b,z,vs,h1,h2,hR _ h3⟩
 ·exact hR _ h
section
variable {P:Program} {T:TT} {n:Nat} {B:Bl} {e:SE} {E:Env} {o:Oper} {w w':World} {x y:Operand} {c:Ctx} {L:List Ch}
theorem mM.app(h:mM c w B L)(B':Bl):mM c w (B++B') L:=by obtain⟨⟨R,h1,h2⟩,h3⟩:=h;exact⟨⟨R,h1.imp (aAA B' L),λx hx=>aTB B' (h2 x hx)⟩,h3⟩
theorem aR5{n:Nat}{cs:List SV}:∀{L:List Ch},I7 n L=some cs->Ch.box n cs∈L\/Ch.ro n cs∈L
 |[],h=>by cases h
 |x::L,h=>by
  have ih:I7 n L=some cs->Ch.box n cs∈x::L\/Ch.ro n cs∈x::L:=λh=>by
   rcases aR5 h with h|h
   ·exact .inl (BS _ h)
   ·exact .inr (BS _ h)
  cases x<;>simp only[I7] at h<;>try exact ih h
  ·split at h
   ·rename_i hb;cases h;rw[pM hb];exact .inl (List.mem_cons_self ..)
   ·exact ih h
  ·split at h
   ·rename_i hb;cases h;rw[pM hb];exact .inr (List.mem_cons_self ..)
   ·exact ih h
theorem mM.cells(h:mM c w B L){n:Nat}{cs:List SV}(hb:I7 n L=some cs):∃b z vs,B[n]?=some (b,z)/\aW (bU B) cs=some vs/\bL w b z vs:=by
 obtain⟨⟨R,h1,h2⟩,_⟩:=h;rcases aR5 hb with hm|hm
 ·obtain⟨i,hi⟩:=aHR hm;obtain⟨F,b,z,vs,h3,h4,h5⟩:=h1.chunk (ch:=VE B n cs) i (by rw[CH,hi];rfl);exact⟨b,z,vs,h3,h4,h5.1⟩
 ·obtain⟨b,z,vs,h3,h4,h5⟩:=h2 _ hm;obtain⟨i,hi⟩:=aHR h5;exact⟨b,z,vs,h3,h4,h1.fat i hi⟩
theorem aDV{b z o:Nat}(h:bL w b z vs)(_hm:o+m<=vs.length):bL w b (z+o) ((vs.drop o).take m):=by
 intro q u hq;rw[aHS] at hq;split at hq
 ·rw[List.getElem?_drop] at hq;have:=h (o+q) u hq;grind
 ·cases hq
theorem a0M:∀(cs:List SV) (o:Nat) (v:SV) (vs:List SV),o<cs.length->ovw cs o (v::vs)=ovw (cs.set o v) (o+1) vs
 |[],o,v,vs,h=>by simp at h
 |c::cs,0,v,vs,_=>by simp[ovw]
 |c::cs,o + 1,v,vs,h=>by simp only[ovw,List.set_cons_succ];rw[a0M cs o v vs aj]
theorem aTC:∀(cs:List SV) (o:Nat),ovw cs o []=cs
 |[],o=>by simp[ovw]
 |c::cs,0=>by simp[ovw]
 |c::cs,o+1=>by simp[ovw,aTC cs o]
theorem aL9:∀(vs cs:List SV) (o:Nat),o+vs.length<=cs.length->ovw cs o vs=a5G cs o vs
 |[],cs,o,_=>by rw[aTC];rfl
 |v::vs,cs,o,h=>by simp at h;rw[a0M cs o v vs aa,aL9 vs _ _ ah];rfl
theorem VF{O:Type}:∀{l r:List O},frc l=some r->r=l
 |[],r,h=>by cases h;rfl
 |x::l,r,h=>by
  simp only[frc] at h;split at h
  ·rename_i s hs;cases h;rw[VF hs]
  ·cases h
theorem aVS(hT:FY P T){a r:SV}(hS:mM c w B L)(ho:o.op=.load t x)(hx:ev E x=some va)(ha:fJ B a=some va)(h:aR4 T t a L=some r):∃v,fJ B r=some v/\fE P o E w v w:=by
 unfold aR4 at h;split at h
 ·rename_i n0 o0;split at h
  ·rename_i cs _ m _ hb hl;split at h
   ·rename_i hle;split at h
    case h_2=>cases h
    rename_i ds hds;cases h;have:=VF hds;subst this;obtain⟨b,z,vs,h1,h2,h3⟩:=hS.cells hb;have hlen:=lI h2;have hle:=TX hle;simp only[fJ,gV,bU,h1] at ha;cases ha;have h4:=T6 m (T5 o0 h2);refine⟨_,by grind[fJ,gV],a4M (cs:=(vs.drop o0).take m) ho hx (hT.agg _ _ hl) (hT.size _ _ hl) ah (aDV h3 aa)⟩
   ·cases h
  ·rename_i cs _ _ _ hb hl;obtain⟨b,z,vs,h1,h2,h3⟩:=hS.cells hb;simp only[fJ,gV,bU,h1] at ha;cases ha;obtain⟨v,h4,h5⟩:=T4 h2 h;exact⟨v,a0I h4,a4L ho hx (hT.agg _ _ hl) (h3 o0 v h5)⟩
  ·cases h
 ·cases h
theorem T7{a:SV}{v:Value}(ha:fJ B a=some v)(h:aW (bU B) (oR a)=some vs):v.cells.toList=vs:=by
 cases a
 case g cs=>
  simp only[oR] at h;simp only[fJ,gV,h] at ha;cases ha;rfl
 all_goals
  simp only[oR,aW] at h;split at h
  ·cases h
  ·rename_i u hu;cases h;have h2:=a0I hu;rw[ha] at h2;cases h2;have:=aL7 hu;cases v<;>first|rfl|cases this
end
theorem bF8{a:SV}{v:Value}(h:bU B a=some v)(hc:oR a=[a]):∃vs,aW (bU B) (oR a)=some vs:=⟨[v],by grind[aW]⟩
theorem aCL{a:SV}{v:Value}(h:isCells a=true)(ha:fJ B a=some v):∃vs,aW (bU B) (oR a)=some vs:=by
 cases a
 case g cs=>
  simp only[fJ,gV] at ha;split at ha
  ·rename_i vs hv;exact⟨vs,hv⟩
  ·cases ha
 case t=>cases h
 case f=>cases h
 case u=>cases h
 all_goals exact bF8 ha rfl
theorem bB4(off:Nat):∀(vs:List Value) (k:Nat) (cells:Array Value),((vs.zipIdx k).foldl (λcs (q:Value×Nat)=>cs.setIfInBounds (off+q.2) q.1) cells).toList=aDP cells.toList (off+k) vs
 |[],k,cells=>rfl
 |v::vs,k,cells=>by simp only[List.zipIdx_cons,List.foldl_cons,aDP];rw[bB4 off vs (k+1)];grind
theorem aR6{n:Nat}{B:Bl}{e:SE}{a:Act}(hA:gU n B e a){fs:List (Nat×Nat)}:∀(ps:List (Nat×Operand)) {cs r:List SV} {cells:Array Value},aW (bU B) cs=some cells.toList->aS7 e fs ps cs=some r ->
  ∃vs rs,evs (vE B e) (ps.map (·.2))=some vs/\aW (bU B) r=some rs/\Instr.fill (fs.toArray[·]?) cells ((ps.map (·.1)).zip vs)=some rs.toArray
 |[],cs,r,cells,hc,h=>by cases h;exact⟨[],cells.toList,rfl,hc,by simp[Instr.fill]⟩
 |(ix,o)::ps,cs,r,cells,hc,h=>by
  simp only[aS7] at h;split at h
  ·rename_i f m v h1 h2;split at h
   ·rename_i h3 h4 h5;split at h
    case h_2=>cases h
    rename_i ds hds;have h4:=pM h4;have h5:=TX h5;have:=VF hds;rw[aL9 _ _ _ aa] at this;subst this;obtain⟨u,h6,h7⟩:=eH hA h2;obtain⟨ws,h8⟩:=aCL h3 h6;have h9:=T7 h6 h8;have hl:=lI h8;have hl2:=lI hc;have hu:u.cells.size=m:=aj
    have hcs:cells.size=cs.length:=aa
    have h10:aW (bU B) (a5G cs f (oR v))=some ((u.cells.zipIdx.foldl (λcs (q:Value×Nat)=>cs.setIfInBounds (f+q.2) q.1) cells).toList):=by have:=bB4 f u.cells.toList 0 cells;grind[Array.toList_zipIdx,aDT]
    obtain⟨vs,rs,g1,g2,g3⟩:=aR6 hA ps h10 h;simp_all[evs,Instr.fill]
   ·cases h
  ·cases h
section
variable {P:Program} {T:TT} {n:Nat} {B:Bl} {e:SE} {a:Act} {o:Oper} {w w':World} {x y:Operand} {c:Ctx} {L:List Ch}
theorem a2M(hT:FY P T)(hA:gU n B e a){ps:Array (Nat×Operand)}{r:SV}(ho:o.op=.build t ps)(h:aYA T e t ps.toList=some r):∃v,fJ B r=some v/\fE P o (vE B e) w v w:=by
 unfold aYA at h;split at h
 ·rename_i fs _ z h1;split at h
  ·rename_i cs h2;cases h;obtain⟨d,hd,Fs,rfl,_,_,hp⟩:=hT.und _ _ h1;obtain⟨zv,hz,hzc⟩:=hT.zero _ _ h1;have hzc':aW (bU B) z=some zv.cells.toList:=by have:=eY (g:=bU B) (λx v h=>by simpa using gD (B:=[]) B h) hzc;exact this
   obtain⟨vs,rs,g1,g2,g3⟩:=aR6 hA ps.toList hzc' h2;exact⟨_,by grind[fJ,gV],a4Q (ps:=ps.toList) aa hz hd hp g1 g3⟩
  ·cases h
 ·cases h
theorem aTD(hT:FY P T)(hA:gU n B e a)(hS:mM c w B L){r:SV}(h:ev1 T e L o.op=some r):∃v,fJ B r=some v/\fE P o (vE B e) w v w:=by
 generalize ho:o.op=op at h;unfold ev1 at h;split at h
 ·grind[eH,a9E]
 ·grind[eH,a16]
 ·grind[eH,fJ,gV,bU,bCX,a9N]
 ·split at h
  ·rename_i heq;obtain⟨v,h1,h2⟩:=eH hA heq;cases h1;grind[eH,a17]
  ·rename_i heq;obtain⟨v,h1,h2⟩:=eH hA heq;cases h1;grind[eH,a18]
  ·cases h
 ·split at h
  ·rename_i heq;cases h;obtain⟨v,h1,h2⟩:=eH hA heq;cases h1;exact⟨_,rfl,a4J ho h2⟩
  ·rename_i heq;cases h;obtain⟨v,h1,h2⟩:=eH hA heq;cases h1;exact⟨_,rfl,a4J ho h2⟩
  ·cases h
 ·split at h
  ·rename_i heq;cases h;obtain⟨v,h1,h2⟩:=eH hA heq;cases h1;exact⟨_,rfl,bCY ho h2⟩
  ·cases h
 ·split at h
  ·rename_i h1 h2;obtain⟨v,g1,g2⟩:=eH hA h1;obtain⟨u,g3,g4⟩:=eH hA h2;exact bDV hT ho g2 g4 g1 g3 h2 h
  ·cases h
 ·split at h
  ·rename_i h1;obtain⟨v,g1,g2⟩:=eH hA h1;exact a96 hT ho g2 g1 h
  ·cases h
 ·split at h
  ·rename_i h1;obtain⟨v,g1,g2⟩:=eH hA h1;simp only[fJ] at g1;split at g1
   ·rename_i xs _ vs h3;cases g1;obtain⟨u,h4,h5⟩:=T4 h3 h;grind[bF7,aX3]
   ·cases g1
  ·cases h
 ·split at h
  ·rename_i h1;obtain⟨v,g1,g2⟩:=eH hA h1;exact a5N hT ho g2 g1 h
  ·cases h
 ·grind[eH,aVS]
 ·exact a2M hT hA ho h
 ·split at h
  ·rename_i h1 h2;obtain⟨v,g1,g2⟩:=eH hA h1;obtain⟨d,hd,hd2⟩:=hT.und _ _ h2;unfold bF6 at h;split at h
   ·split at h
    ·cases h;cases g1;simp only at hd2;subst hd2;exact⟨_,rfl,bDC hd ho g2⟩
    ·cases h
   ·split at h
    ·cases h;cases g1;simp only at hd2;subst hd2;exact⟨_,rfl,a9J hd ho g2⟩
    ·cases h
   ·cases h
  ·cases h
 ·cases h
end
def pQ(n:Nat)(c:Ctx)(B0:Bl)(m:Nat)(e:SE)(L:List Ch)(a:Act)(w:World):Prop:=∃B,(B0++B).length=m/\gU n (B0++B) e a/\mM c w (B0++B) L
section
variable {m:Nat} {e:SE} {L:List Ch}
theorem aMA{m:Nat}{v:Value}(hv:bU B x=some v)(h:∀n o,x=.p n o->n<m):bU (B.take m) x=some v:=by
 cases x<;>simp only[bU] at hv ⊢<;>try exact hv
 grind
theorem DL{B:Bl}{m:Nat}:∀{cs:List SV} {vs:List Value},AQ.okC m cs=true->aW (bU B) cs=some vs->aW (bU (B.take m)) cs=some vs
 |[],vs,_,h=>h
 |x::cs,vs,ho,h=>by
  simp only[aW] at h;split at h
  ·cases h
  ·rename_i h1;split at h
   ·cases h
   ·rename_i h2;cases h;have hx:(∀n o,x=.p n o->n<m)/\AQ.okC m cs=true:=by simp only[AQ.okC] at ho;grind[yI]
    simp[aW,aMA h1 hx.1,DL hx.2 h2]
theorem a0N{B:Bl}{m:Nat}:∀{cs:List SV} {vs:List Value},AQ.okT m cs=true->aW (gV B) cs=some vs->aW (gV (B.take m)) cs=some vs
 |[],vs,_,h=>h
 |x::cs,vs,ho,h=>by
  simp only[aW] at h;split at h
  ·cases h
  ·rename_i y0 h1;split at h
   ·cases h
   ·rename_i h2;cases h;have hx:gV (B.take m) x=some y0/\AQ.okT m cs=true:=by simp only[AQ.okT] at ho;grind[aMA,yI,gV,DL]
    simp[aW,hx.1,a0N hx.2 h2]
theorem a0O{B:Bl}{m:Nat}:∀{cs:List Nat} {vs:List Value},AQ.okF m cs=true->aW (X6 B) cs=some vs->aW (X6 (B.take m)) cs=some vs
 |[],vs,_,h=>h
 |x::cs,vs,ho,h=>by
  simp only[aW] at h;split at h
  ·cases h
  ·rename_i y0 h1;split at h
   ·cases h
   ·rename_i h2;cases h;simp only[AQ.okF] at ho;split at ho
    ·rename_i hb;have hx:X6 (B.take m) x=some y0:=by simp_all[X6]
     simp[aW,hx,a0O ho h2]
    ·cases ho
theorem VG{m:Nat}{v:Value}(h:AQ m x=true)(hv:fJ B x=some v):fJ (B.take m) x=some v:=by
 cases x
 case p n o=>exact aMA (x:=.p n o) hv (λn' o' he=>by grind[AQ,yI])
 case g cs=>
  simp only[fJ,gV] at hv ⊢;split at hv
  ·rename_i h1;rw[DL h h1];exact hv
  ·cases hv
 case t cs=>
  simp only[fJ] at hv ⊢;split at hv
  ·rename_i h1;rw[a0N h h1];exact hv
  ·cases hv
 case f f cs=>
  simp only[fJ] at hv ⊢;split at hv
  ·rename_i h1;rw[a0O h h1];exact hv
  ·cases hv
 all_goals exact hv
theorem a5P{z:SV}:bU B (re1 z x)=bU B x:=by cases z<;>cases x<;>rfl
theorem a98{z:SV}:fJ B (re1 z x)=fJ B x:=by cases z<;>cases x<;>rfl
theorem a0P{B:Bl}:∀{cs ds:List SV},aW (bU B) (reC cs ds)=aW (bU B) ds
 |[],[]=>rfl
 |[],_::_=>rfl
 |_::_,[]=>rfl
 |c::cs,d::ds=>by simp only[reC,aW,a5P,a0P]
theorem a5Q:bU B (nb1 x)=bU B x:=by cases x<;>rfl
theorem QT{B:Bl}:∀{cs:List SV},aW (bU B) (nbL cs)=aW (bU B) cs
 |[]=>rfl
 |c::cs=>by simp only[nbL,aW,a5Q,QT]
theorem bDW:gV B (nbG x)=gV B x:=by
 cases x<;>try rfl
 grind[nbG,gV,QT]
theorem a0Q{B:Bl}:∀{cs:List SV},aW (gV B) (nbT cs)=aW (gV B) cs
 |[]=>rfl
 |c::cs=>by simp only[nbT,aW,bDW,a0Q]
theorem aTE:fJ B (nbG x)=fJ B x:=by
 cases x<;>try rfl
 grind[nbG,fJ,gV,QT]
theorem aK1:fJ B (nbS x)=fJ B x:=by
 cases x with
 |g cs=>exact aTE (x:=.g cs)
 |t xs=>grind[nbS,fJ,a0Q]
 |_=>rfl
theorem a0R{B:Bl}:∀{cs:List SV},aW (fJ B) (nbT cs)=aW (fJ B) cs
 |[]=>rfl
 |c::cs=>by simp only[nbT,aW,aTE,a0R]
theorem QU{B:Bl}:∀{cs:List SV},aW (fJ B) (nbA cs)=aW (fJ B) cs
 |[]=>rfl
 |c::cs=>by
  simp only[nbA];split
  ·simp only[aW,QU];rfl
  ·simp only[aW,aTE,QU]
theorem a5R{e:SE}:∀{e' s:SE} {k:Nat} {x:SV},reE e e'=some s->EO s k=some x->∃y,EO e k=some y/\∀B,fJ B x=fJ B y
 |[],s,k,x,h,hk=>by cases h;cases hk
 |(j,y)::r,s,k,x,h,hk=>by
  simp only[reE] at h;split at h
  ·rename_i z hz;split at h
   ·rename_i s' hs;cases h;simp only[EO] at hk;cases hb:Nat.beq k j with
    |true=>grind[pM,a98]
    |false=>rw[hb] at hk;exact a5R hs hk
   ·cases h
  ·cases h
theorem aTF{B:Bl}{w:World}{R:List Fact}:∀(M L:List Ch),jI w (L.map (kL B)) ((reL M L).map (kL B))/\((∀x∈L,roF B R x)->∀x∈reL M L,roF B R x)
 |[],L=>by grind[reL,jI.refl]
 |x::M,[]=>by cases x<;>exact⟨.nil,λh=>h⟩
 |x::M,y::L=>by
  obtain⟨h1,h2⟩:=aTF (B:=B) (w:=w) (R:=R) M L;have gen:reL (x::M) (y::L)=y::reL M L->jI w ((y::L).map (kL B)) ((reL (x::M) (y::L)).map (kL B))/\((∀x∈y::L,roF B R x)->∀z∈reL (x::M) (y::L),roF B R z):=λhe=>by rw[he];refine⟨.cons (λ_ h=>h) h1,λh z hz=>?_⟩;grind
  cases x with
  |box n cs=>
   cases y with
   |box k ds=>
    simp only[reL];refine⟨.cons (λF ⟨b,z,vs,k1,k2,k3⟩=>⟨b,z,vs,k1,by grind[a0P],k3⟩) h1,λh z hz=>?_⟩;rcases vJ.1 hz with hz|hz
    ·subst hz;trivial
    grind
   |_=>exact gen rfl
  |_=>exact gen (by cases y<;>rfl)
theorem a5S{m:Nat}:∀{s:SE} {k:Nat} {x:SV},okE m s=true->EO s k=some x->AQ m x=true
 |[],k,x,h,hk=>by cases hk
 |(j,y)::r,k,x,h,hk=>by
  simp only[okE] at h;split at h
  ·rename_i ho;simp only[EO] at hk;cases hb:Nat.beq k j with
   |true=>grind
   |false=>rw[hb] at hk;exact a5S h hk
  ·cases h
theorem aTG{m:Nat}:∀{L:List Ch} {x:Ch},okL m L=true->x∈L->(∀n cs,x=.box n cs\/x=.ro n cs->n<m/\AQ.okC m cs=true)
 |y::L,x,h,hx,n,cs,he=>by
  have key:(∀n cs,y=.box n cs\/y=.ro n cs->n<m/\AQ.okC m cs=true)/\okL m L=true:=by
   cases y with
   |box k c=>
    grind[okL,yI]
   |ro k c=>
    grind[okL,yI]
   |o c=>exact⟨λn cs he=>aj,h⟩
   |f c=>exact⟨λn cs he=>aj,h⟩
   |no=>exact⟨λn cs he=>aj,h⟩
   |w k b z=>
    grind[okL]
  rcases vJ.1 hx with hx|hx
  ·grind
  ·exact aTG key.2 hx n cs he
theorem bB5{m n b z:Nat}:∀{L:List Ch},okL m L=true->Ch.w n b z∈L->n<m
 |y::L,h,hx=>by
  have key:(y=.w n b z->n<m)/\okL m L=true:=by
   cases y with
   |box k c=>
    grind[okL]
   |ro k c=>
    grind[okL]
   |w k b z=>
    grind[okL,yI]
   |o c=>exact⟨λhe=>(by cases he),h⟩
   |f c=>exact⟨λhe=>(by cases he),h⟩
   |no=>exact⟨λhe=>(by cases he),h⟩
  rcases vJ.1 hx with hx|hx
  ·grind
  ·exact bB5 key.2 hx
theorem aMB{L:List Ch}:∀{is:List Nat} {x:Ch},x∈kl L is->x∈L
 |i::is,x,h=>by
  simp only[kl] at h;split at h
  ·rename_i y hy;rcases vJ.1 h with h|h
   ·grind
   ·exact aMB h
  ·exact aMB h
theorem a0S{B:Bl}{w:World}{L:List Ch}:∀(is:List Nat),∃is',(∀j∈is',j∈is)/\(dJ is=true->dJ is'=true)/\jI w (pick (L.map (kL B)) is') ((kl L is).map (kL B))
 |[]=>⟨[],ae,λh=>h,.nil⟩
 |i::is=>by
  obtain⟨is',h1,h2,h3⟩:=a0S (B:=B) (w:=w) (L:=L) is;cases hi:L[i]? with
  |none=>
   refine⟨is',λj hj=>BS _ (h1 j hj),λh=>h2 ?_,?_⟩
   ·simp only[dJ,FX] at h;exact h.2
   ·simp only[kl,hi];exact h3
  |some x=>
   refine⟨i::is',λj hj=>?_,λh=>?_,?_⟩
   ·grind
   ·simp_all[dJ]
   ·simp only[kl,hi,pick,CH,Option.map_some,Option.getD_some,aBJ];exact .cons (λ_ h=>h) h3
theorem a5T(h:mM c w B L)(is:List Nat)(ha:dJ is=true):mM c w B (kl L is):=by obtain⟨⟨R,s1,s2⟩,s0⟩:=h;obtain⟨is',_,h2,h3⟩:=a0S (B:=B) (w:=w) (L:=L) is;exact⟨⟨R,(s1.sel is' (h2 ha)).imp h3,λx hx=>s2 x (aMB hx)⟩,s0⟩
theorem aDW{m:Nat}{L:List Ch}(h:mM c w B L)(ho:okL m L=true):mM c w (B.take m) L:=by
 obtain⟨⟨R,s1,s2⟩,s0⟩:=h;have key:∀x∈L,∀F,(kL B x).P w F->(kL (B.take m) x).P w F:=by
  intro x hx F hF;cases x with
  |box n cs=>
   obtain⟨h1,h2⟩:=aTG ho hx n cs (.inl rfl);obtain⟨b,z,vs,k1,k2,k3⟩:=hF;exact⟨b,z,vs,aj,DL h2 k2,k3⟩
  |_=>exact hF
 have imp:∀(M:List Ch),(∀x∈M,x∈L)->jI w (M.map (kL B)) (M.map (kL (B.take m))):=by
  intro M;induction M with
  |nil=>exact λ_=>.nil
  |cons x M ih=>exact λhM=>.cons (key x (hM x ae)) (ih λy hy=>hM y (BS _ hy))
 refine⟨⟨R,s1.imp (imp L λ_ h=>h),λx hx=>?_⟩,s0⟩;have:=s2 x hx;cases x with
 |ro n cs=>
  obtain⟨h1,h2⟩:=aTG ho hx n cs (.inr rfl);obtain⟨b,z,vs,k1,k2,k3⟩:=this;exact⟨b,z,vs,aj,DL h2 k2,k3⟩
 |w n b z=>
  have h1:=bB5 ho hx;exact(by rw[aHS,aM h1];exact this:(List.take m B)[n]?=some (b,z))
 |_=>exact this
theorem bDX{L:List Ch}(h:mM c w B L)(M:List Ch):mM c w B (reL M L):=by obtain⟨⟨R,s1,s2⟩,s0⟩:=h;exact⟨⟨R,s1.imp (aTF (R:=R) M L).1,(aTF (w:=w) M L).2 s2⟩,s0⟩
theorem Rel.as{B0:Bl}{m':Nat}{e':SE}{L':List Ch}{a:Act}(hr:pQ n c B0 m e L a w)(is:List Nat)(ha:dJ is=true){f:SE}{M:List Ch}(h:asS e L is m' f M=some (e',L'))(hm:m'<=m)(h0:B0.length<=m'):pQ n c B0 m' e' L' a w:=by
 unfold asS at h;split at h
 ·rename_i s hs;split at h
  ·rename_i h1 h2;cases h;obtain⟨B,hl,hA,hS⟩:=hr;have hB:(B0++B).take m'=B0++B.take (m'-B0.length):=by rw[List.take_append,aHV h0]
   refine⟨B.take (m'-B0.length),aj,?_,?_⟩
   ·rw[<-hB];exact⟨hA.d,hA.size,λk x hk=>by
     obtain⟨y,q1,q2⟩:=a5R hs hk;obtain⟨v,k1,k2⟩:=hA.get k y q1;grind[VG,a5S]⟩
   grind[aDW,bDX,a5T]
  ·cases h
 ·cases h
theorem pQ.Z9{B0:Bl}{m':Nat}{e':SE}{L':List Ch}{a:Act}(hr:pQ n c B0 m e L a w)(is:List Nat){f:SE}{M:List Ch}(h:Z9 B0.length m e L is m' f M=some (e',L')):pQ n c B0 m' e' L' a w:=by grind[Go.Gv.Z9,Rel.as,TX]
end
end Go.Gv
end
