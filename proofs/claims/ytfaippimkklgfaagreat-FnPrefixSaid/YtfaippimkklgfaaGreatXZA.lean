import Derived.WalkKit
import Derived.OrdersHeld
import Derived.LoopN
import Derived.Laws.BytesString
import Derived.Deep.Slices
import Derived.ProofKit
import Derived.OpenShut
import Derived.ShutString
import Derived.ChangeOld
import Derived.Below
import Derived.Carry
set_option linter.unusedVariables false
set_option linter.unusedSimpArgs false
set_option linter.unusedSectionVars false
set_option linter.constructorNameAsVariable false
set_option linter.unnecessarySimpa false
noncomputable section
namespace Go.Gv
theorem aD{α β:Type}(a:α)(f:α->Option β):(some a).bind f=f a:=rfl
theorem aT:(false=true)=False:=by simp
theorem b9{p:Prop}[inst:Decidable p](h:p):decide p=true:=by simp[h]
theorem eE{p:Prop}[inst:Decidable p](h:¬p):decide p=false:=by simp[h]
theorem eF:(!true)=false:=rfl
theorem o7:(!false)=true:=rfl
theorem aL:type_of% @if_pos:=@if_pos
theorem aO:type_of% @if_neg:=@if_neg
theorem aS:type_of% @if_false:=@if_false
theorem aP:type_of% @if_true:=@if_true
theorem eA:type_of% @congrArg:=@congrArg
theorem C8:type_of% @Bool.and_eq_true:=@Bool.and_eq_true
theorem QJ:type_of% @Bool.eq_iff_iff:=@Bool.eq_iff_iff
theorem a6K:type_of% @Int.eq_ofNat_of_zero_le:=@Int.eq_ofNat_of_zero_le
theorem aM4:type_of% @Int.le_refl:=@Int.le_refl
theorem OR:type_of% @Int.toNat_natCast:=@Int.toNat_natCast
theorem aM5:type_of% @List.all_cons:=@List.all_cons
theorem aM6:type_of% @List.all_eq_true:=@List.all_eq_true
theorem M4:type_of% @List.append_assoc:=@List.append_assoc
theorem EJ:type_of% @List.append_nil:=@List.append_nil
theorem aSA:type_of% @List.concat_eq_append:=@List.concat_eq_append
theorem ZY:type_of% @List.cons_append:=@List.cons_append
theorem M5:type_of% @List.drop_eq_getElem_cons:=@List.drop_eq_getElem_cons
theorem RX:type_of% @List.drop_zero:=@List.drop_zero
theorem AD:type_of% @List.eq_nil_of_length_eq_zero:=@List.eq_nil_of_length_eq_zero
theorem aSB:type_of% @List.eq_nil_or_concat:=@List.eq_nil_or_concat
theorem aBY:type_of% @List.ext_getElem?:=@List.ext_getElem?
theorem M6:type_of% @List.getD_eq_getElem?_getD:=@List.getD_eq_getElem?_getD
theorem aFY:type_of% @List.getElem?_append:=@List.getElem?_append
theorem aSC:type_of% @List.getElem?_append_left:=@List.getElem?_append_left
theorem aOK:type_of% @List.getElem?_append_right:=@List.getElem?_append_right
theorem l9:type_of% @List.getElem?_eq_getElem:=@List.getElem?_eq_getElem
theorem A4:type_of% @List.getElem?_eq_some_iff:=@List.getElem?_eq_some_iff
theorem JN:type_of% @List.getElem?_map:=@List.getElem?_map
theorem aI9:type_of% @List.getElem?_of_mem:=@List.getElem?_of_mem
theorem aFZ:type_of% @List.getElem?_take:=@List.getElem?_take
theorem dW:type_of% @List.getElem_mem:=@List.getElem_mem
theorem aJA:type_of% @List.getElem_of_mem:=@List.getElem_of_mem
theorem JO:type_of% @List.length_append:=@List.length_append
theorem W5:type_of% @List.length_cons:=@List.length_cons
theorem aBZ:type_of% @List.length_drop:=@List.length_drop
theorem bK:type_of% @List.length_set:=@List.length_set
theorem ZZ:type_of% @List.length_take:=@List.length_take
theorem A5:type_of% @List.map_append:=@List.map_append
theorem Z0:type_of% @List.map_cons:=@List.map_cons
theorem RY:type_of% @List.map_set:=@List.map_set
theorem jB:type_of% @List.mem_append:=@List.mem_append
theorem aOL:type_of% @List.mem_append_left:=@List.mem_append_left
theorem aSD:type_of% @List.mem_append_right:=@List.mem_append_right
theorem mA:type_of% @List.mem_cons:=@List.mem_cons
theorem AE:type_of% @List.mem_cons_of_mem:=@List.mem_cons_of_mem
theorem aSE:type_of% @List.mem_cons_self:=@List.mem_cons_self
theorem aOM:type_of% @List.mem_flatMap:=@List.mem_flatMap
theorem Z1:type_of% @List.mem_iff_getElem:=@List.mem_iff_getElem
theorem A6:type_of% @List.mem_of_getElem?:=@List.mem_of_getElem?
theorem aB0:type_of% @List.mem_of_mem_drop:=@List.mem_of_mem_drop
theorem oC:type_of% @List.mem_or_eq_of_mem_set:=@List.mem_or_eq_of_mem_set
theorem a88:type_of% @List.mem_singleton:=@List.mem_singleton
theorem aSF:type_of% @List.nil_append:=@List.nil_append
theorem VI:type_of% @List.not_mem_nil:=@List.not_mem_nil
theorem aJB:type_of% @List.set_getElem_self:=@List.set_getElem_self
theorem K8:type_of% @List.set_set:=@List.set_set
theorem aF0:type_of% @List.take_append_drop:=@List.take_append_drop
theorem aON:type_of% @List.take_of_length_le:=@List.take_of_length_le
theorem W6:type_of% @List.take_succ_eq_append_getElem:=@List.take_succ_eq_append_getElem
theorem W7:type_of% @Nat.add_assoc:=@Nat.add_assoc
theorem o9:type_of% @Nat.add_mul:=@Nat.add_mul
theorem Z2:type_of% @Nat.add_zero:=@Nat.add_zero
theorem wY:type_of% @Nat.blt_eq:=@Nat.blt_eq
theorem qY:type_of% @Nat.eq_of_beq_eq_true:=@Nat.eq_of_beq_eq_true
theorem M7:type_of% @Nat.le_of_ble_eq_true:=@Nat.le_of_ble_eq_true
theorem RZ:type_of% @Nat.le_of_eq:=@Nat.le_of_eq
theorem kX:type_of% @Nat.le_refl:=@Nat.le_refl
theorem jC:type_of% @Nat.le_succ:=@Nat.le_succ
theorem tG:type_of% @Nat.le_trans:=@Nat.le_trans
theorem R0:type_of% @Nat.lt_of_lt_of_le:=@Nat.lt_of_lt_of_le
theorem uQ:type_of% @Nat.mul_le_mul_right:=@Nat.mul_le_mul_right
theorem VJ:type_of% @Nat.zero_add:=@Nat.zero_add
theorem lL:type_of% @Nat.zero_le:=@Nat.zero_le
theorem aJC:type_of% @Option.isSome_iff_exists:=@Option.isSome_iff_exists
abbrev cN:=Nat->Nat->Prop
def cN.HJ(F G:cN):Prop:=∀b o,F b o->G b o->False
def F0:cN:=fun _ _=>False
theorem cN.aZD{F G:cN}(h:F.HJ G):G.HJ F:=fun b o hg hf=>h b o hf hg
structure eT (F:cN) (w w':World):Prop where
 os:w'.os=w.os
 tape:w'.tape=w.tape
 output:w'.output=w.output
 size:w.heap.size<=w'.heap.size
 block:∀b,b<w.heap.size->(∀o,¬F b o)->w'.heap[b]?=w.heap[b]?
 cell:∀b o,b<w.heap.size->¬F b o->w'.cell? ⟨b,o,none⟩=w.cell? ⟨b,o,none⟩
 yZ:∀b o,b<w.heap.size->w'.frozen? ⟨b,o,none⟩=w.frozen? ⟨b,o,none⟩
 stay:∀b o,(w.cell? ⟨b,o,none⟩).isSome=true->(w'.cell? ⟨b,o,none⟩).isSome=true
theorem kK{w:World}{b o:Nat}(h:(w.cell? ⟨b,o,none⟩).isSome=true):b<w.heap.size:=by obtain⟨v,hv⟩:=aJC.1 h;exact World.block_lt_of_cell? w ⟨b,o,none⟩ hv
theorem eT.refl(F:cN)(w:World):eT F w w:=⟨rfl,rfl,rfl,kX _,fun _ _ _=>rfl,fun _ _ _ _=>rfl,fun _ _ _=>rfl,fun _ _ h=>h⟩
theorem eT.mono{F G:cN}{w w':World}(h:eT F w w')(hs:∀b o,b<w.heap.size->F b o->G b o):eT G w w':=
 ⟨h.os,h.tape,h.output,h.size,fun b hb hg=>h.block b hb fun o hf=>hg o (hs b o hb hf),fun b o hb hg=>h.cell b o hb fun hf=>hg (hs b o hb hf),h.yZ,h.stay⟩
theorem eT.trans{F G:cN}{w w1 w2:World}(h:eT F w w1)(k:eT G w1 w2)(hs:∀b o,b<w.heap.size->G b o->F b o):eT F w w2:=
  ⟨k.os.trans h.os, k.tape.trans h.tape, k.output.trans h.output, tG h.size k.size,
   fun b hb hf=>(k.block b (R0 hb h.size) fun o hg=>hf o (hs b o hb hg)).trans (h.block b hb hf),
   fun b o hb hf=>(k.cell b o (R0 hb h.size) fun hg=>hf (hs b o hb hg)).trans (h.cell b o hb hf),
   fun b o hb=>(k.yZ b o (R0 hb h.size)).trans (h.yZ b o hb),fun b o hc=>k.stay b o (h.stay b o hc)⟩
theorem eT.drew(F:cN)(w:World):eT F w w.drew:=⟨rfl,rfl,rfl,kX _,fun _ _ _=>rfl,fun _ _ _ _=>rfl,fun _ _ _=>rfl,fun _ _ h=>h⟩
theorem eT.alloc(F:cN)(w:World)(ob:Obj):eT F w (w.alloc ob):=by
 have hb:∀b,b<w.heap.size->(w.alloc ob).heap[b]?=w.heap[b]?:=fun b hb=>by grind[heap_alloc_old]
 have hc:∀b o,b<w.heap.size->(w.alloc ob).cell? ⟨b,o,none⟩=w.cell? ⟨b,o,none⟩:=fun b o h=>World.cell?_of_block (hb b h);exact⟨rfl,rfl,rfl,by simp,fun b h _=>hb b h,fun b o h _=>hc b o h,fun b o h=>World.frozen?_of_block (hb b h),
  fun b o h=>by grind[kK]⟩
theorem eT.setCell(F:cN)(w:World)(a:Addr)(v:Value)(hf:F a.block a.off)(ha:a.spot=none):eT F w (w.setCell a v):=by
 have hsz:(w.setCell a v).heap.size=w.heap.size:=by simp
 refine⟨rfl,rfl,rfl,by simp,fun b _ hn=>?_,fun b o _ hn=>?_,fun b o _=>by simp,fun b o h=>?_⟩
 ·exact heap_setCell_other w a b v (fun e=>hn a.off (e ▸ hf))
 ·refine World.cell?_setCell_other (h:=fun e=>hn ?_) ..;rw[e] at hf;exact hf
 ·by_cases e:a=⟨b,o,none⟩
  ·subst e;obtain⟨u,hu⟩:=aJC.1 h;rw[World.cell?_setCell_same (h:=hu)];rfl
  ·rw[World.cell?_setCell_other (h:=e)];exact h
def bG(w:World)(b off:Nat)(cs:List Value):Prop:=∀j v,cs[j]?=some v->w.cell? ⟨b,off+j,none⟩=some v
class aJ (α:Type) where
 n:Nat
 rd:cN->World->List Value->α->Prop
 own:World->List Value->α->cN->Prop
 mB:∀{S w cs d},rd S w cs d->cs.length=n
 rd_one:∀{S w cs d},rd S w cs d->∀v∈cs,v.oneCell'=true
 rd_agree:∀{S w w' cs d},rd S w cs d->(∀b o,S b o->w'.cell? ⟨b,o,none⟩=w.cell? ⟨b,o,none⟩)->rd S w' cs d
 rd_mono:∀{S S' w cs d},rd S w cs d->(∀b o,S b o->S' b o)->rd S' w cs d
 own_rd:∀{w cs d F},own w cs d F->rd F w cs d
 own_keep:∀{w w' cs d F G},own w cs d F->eT G w w'->F.HJ G->own w' cs d F
 own_lt:∀{w cs d F b o},own w cs d F->F b o->b<w.heap.size
@[reducible] def aJ.flat {α : Type} (f : α -> Value) (hf : ∀ x, (f x).oneCell' = true) : aJ α where
 n:=1
 rd:=fun _ _ cs x=>cs=[f x]
 own:=fun _ cs x F=>cs=[f x]/\∀b o,¬F b o
 mB:=fun h=>by simp[h]
 rd_one:=fun h v hv=>by grind
 rd_agree:=fun h _=>h
 rd_mono:=fun h _=>h
 own_rd:=fun h=>h.1
 own_keep:=fun h _ _=>h
 own_lt:=fun h hf=>(h.2 _ _ hf).elim
instance:aJ Int:=aJ.flat (fun x=>.int .i64 x) fun _=>rfl
instance:aJ Bool:=aJ.flat (fun x=>.bool x) fun _=>rfl
instance:aJ UInt8:=aJ.flat (fun x=>.int .u8 (x.toNat:Int)) fun _=>rfl
structure a94 where
 b:List UInt8
 deriving DecidableEq,Inhabited
instance:aJ a94:=aJ.flat (fun x=>.string ⟨x.b.toArray⟩) fun _=>rfl
instance {α β:Type} [aJ α] [aJ β]:aJ (α×β) where
 n:=aJ.n α+aJ.n β
 rd:=fun S w cs d=>∃c1 c2,cs=c1++c2/\aJ.rd S w c1 d.1/\aJ.rd S w c2 d.2
 own:=fun w cs d F=>∃c1 c2 F1 F2,cs=c1++c2/\aJ.own w c1 d.1 F1/\aJ.own w c2 d.2 F2/\cN.HJ F1 F2/\∀b o,F b o↔F1 b o\/F2 b o
 mB:=by grind[aJ.mB]
 rd_one:=by grind[aJ.rd_one]
 rd_agree:=by grind[aJ.rd_agree]
 rd_mono:=by grind[aJ.rd_mono]
 own_rd:=by rintro w cs d F ⟨c1,c2,F1,F2,rfl,h1,h2,_,hF⟩;exact⟨c1,c2,rfl,aJ.rd_mono (aJ.own_rd h1) fun b o h=>(hF b o).2 (.inl h),aJ.rd_mono (aJ.own_rd h2) fun b o h=>(hF b o).2 (.inr h)⟩
 own_keep:=by rintro w w' cs d F G ⟨c1,c2,F1,F2,rfl,h1,h2,hd,hF⟩ hk hdj;exact⟨c1,c2,F1,F2,rfl,aJ.own_keep h1 hk fun b o h g=>hdj b o ((hF b o).2 (.inl h)) g,aJ.own_keep h2 hk fun b o h g=>hdj b o ((hF b o).2 (.inr h)) g,hd,hF⟩
 own_lt:=by
  rintro w cs d F b o ⟨c1,c2,F1,F2,rfl,h1,h2,hd,hF⟩ hf;rcases(hF b o).1 hf with h | h
  ·exact aJ.own_lt h1 h
  ·exact aJ.own_lt h2 h
@[reducible] def aJ.via {σ τ : Type} [aJ τ] (f : σ -> τ) : aJ σ where
 n:=aJ.n τ
 rd:=fun S w cs d=>aJ.rd S w cs (f d)
 own:=fun w cs d F=>aJ.own w cs (f d) F
 mB:=fun h=>aJ.mB h
 rd_one:=fun h=>aJ.rd_one h
 rd_agree:=fun h ha=>aJ.rd_agree h ha
 rd_mono:=fun h ha=>aJ.rd_mono h ha
 own_rd:=fun h=>aJ.own_rd h
 own_keep:=fun h hk hd=>aJ.own_keep h hk hd
 own_lt:=fun h hf=>aJ.own_lt h hf
theorem bG.agree{w w':World}{b off:Nat}{cs:List Value}(h:bG w b off cs)(ha:∀o,off<=o->o<off+cs.length->w'.cell? ⟨b,o,none⟩=w.cell? ⟨b,o,none⟩):bG w' b off cs:=by intro j v hj;have hlt:=(A4.1 hj).1;rw[ha _ (by omega) (by omega)];exact h j v hj
theorem bG.lt{w:World}{b off:Nat}{cs:List Value}(h:bG w b off cs)(hc:cs≠[]):b<w.heap.size:=by
 cases cs with
 | nil=>grind
 | cons v r=>exact World.block_lt_of_cell? w ⟨b,off+0,none⟩ (h 0 v rfl)
def eS(b off n:Nat):cN:=fun b' o=>b'=b/\off<=o/\o<off+n
def tL{α:Type}[aJ α](S:cN)(w:World)(cs:List Value)(l:List α):Prop:=
 ∃a c,cs=[.slice a l.length c]/\l.length<=c/\c<=maxLen /\
  (l=[]\/∃b off,a=some ⟨b,off,none⟩/\∀i (h:i<l.length),∃ec,bG w b (off+i*aJ.n α) ec/\(∀o,eS b (off+i*aJ.n α) ec.length b o->S b o)/\aJ.rd S w ec l[i])
def JQ{α:Type}[aJ α](w:World)(cs:List Value)(l:List α)(F:cN):Prop:=
  ∃a c,cs=[.slice a l.length c]/\l.length<=c/\c<=maxLen /\
    ((a = none /\ c = 0 /\ ∀ b o, ¬ F b o) \/
     ∃b off,∃Fs:Nat->cN,a=some ⟨b,off,none⟩/\(∀o,eS b off (c*aJ.n α) b o->(w.cell? ⟨b,o,none⟩).isSome=true/\w.frozen? ⟨b,o,none⟩=false) /\
       (∀i (h:i<l.length),∃ec,bG w b (off+i*aJ.n α) ec/\aJ.own w ec l[i] (Fs i)) /\
       (∀i j,i<l.length->j<l.length->i≠j->cN.HJ (Fs i) (Fs j))/\(∀i,i<l.length->cN.HJ (Fs i) (eS b off (c*aJ.n α))) /\
       ∀b' o,F b' o↔eS b off (c*aJ.n α) b' o\/∃i,i<l.length/\Fs i b' o)
theorem a89{i len c n j:Nat}(hi:i<len)(hc:len<=c)(hj:j<n):i*n+j<c*n:=by have:(i+1)*n<=c*n:=uQ n (by omega);grind
instance a9A {α:Type} [aJ α]:aJ (List α) where
 n:=1
 rd:=tL
 own:=JQ
 mB:=by rintro S w cs d ⟨a,c,rfl,_⟩;rfl
 rd_one:=by rintro S w cs d ⟨a,c,rfl,_⟩ v hv;simp at hv;subst hv;rfl
 rd_agree:=by
  rintro S w w' cs l ⟨a,c,rfl,h1,h2,h3⟩ ha;refine⟨a,c,rfl,h1,h2,?_⟩;rcases h3 with h | ⟨b,off,rfl,h⟩
  ·exact .inl h
  ·refine .inr ⟨b,off,rfl,fun i hi=>?_⟩;obtain⟨ec,hc,hr,hd⟩:=h i hi;exact⟨ec,hc.agree fun o a1 a2=>ha b o (hr o ⟨rfl,a1,a2⟩),hr,aJ.rd_agree hd ha⟩
 rd_mono:=by rintro S S' w cs l ⟨a,c,rfl,h1,h2,h3⟩ ha;refine⟨a,c,rfl,h1,h2,?_⟩;grind[aJ.rd_mono]
 own_rd:=by
  rintro w cs l F ⟨a,c,rfl,h1,h2,h3⟩;refine⟨a,c,rfl,h1,h2,?_⟩;rcases h3 with ⟨rfl,hc,_⟩ | ⟨b,off,Fs,rfl,hrow,hel,_,_,hF⟩
  ·simp_all
  ·refine .inr ⟨b,off,rfl,fun i hi=>?_⟩;obtain⟨ec,hc,ho⟩:=hel i hi;refine⟨ec,hc,fun o h4=>(hF b o).2 (.inl ⟨rfl,?_,?_⟩),aJ.rd_mono (aJ.own_rd ho) fun b' o hf=>(hF b' o).2 (.inr ⟨i,hi,hf⟩)⟩
   ·have:=h4.2.1;omega
   ·have hl:=aJ.mB (aJ.own_rd ho);obtain⟨_,h5,h6⟩:=h4;rw[hl] at h6;have:=a89 (j:=o - (off+i*aJ.n α)) (n:=aJ.n α) hi h1 (by omega);omega
 own_keep:=by
  rintro w w' cs l F G ⟨a,c,rfl,h1,h2,h3⟩ hk hd;refine⟨a,c,rfl,h1,h2,?_⟩;rcases h3 with h | ⟨b,off,Fs,rfl,hrow,hel,h4,h5,hF⟩
  ·exact .inl h
  ·refine .inr ⟨b,off,Fs,rfl,fun o ho=>?_,fun i hi=>?_,h4,h5,hF⟩
   ·have hs:=hrow o ho;exact⟨hk.stay b o hs.1,(hk.yZ b o (kK hs.1)).trans hs.2⟩
   ·obtain⟨ec,hc,ho⟩:=hel i hi;refine⟨ec,hc.agree fun o h6 h7=>?_,aJ.own_keep ho hk fun b' o hf hg=>hd b' o ((hF b' o).2 (.inr ⟨i,hi,hf⟩)) hg⟩;have hin:eS b off (c*aJ.n α) b o:=by refine⟨rfl,by omega,?_⟩;have hl:=aJ.mB (aJ.own_rd ho);rw[hl] at h7;have:=a89 (j:=o - (off+i*aJ.n α)) (n:=aJ.n α) hi h1 (by omega);omega
    exact hk.cell b o (kK (hrow o hin).1) fun hg=>hd b o ((hF b o).2 (.inl hin)) hg
 own_lt:=by
  rintro w cs l F b' o ⟨a,c,rfl,h1,h2,h3⟩ hf;rcases h3 with ⟨_,_,h⟩ | ⟨b,off,Fs,rfl,hrow,hel,h4,h5,hF⟩
  ·grind
  ·rcases(hF b' o).1 hf with h | ⟨i,hi,h⟩
   ·have e:b'=b:=h.1;subst e;exact kK (hrow o h).1
   ·obtain⟨ec,hc,ho⟩:=hel i hi;exact aJ.own_lt ho h
structure Chunk where
 P:World->cN->Prop
 keep:∀{w w' F G},P w F->eT G w w'->F.HJ G->P w' F
 lt:∀{w F b o},P w F->F b o->b<w.heap.size
def K9:Chunk:=⟨fun _ F=>∀b o,¬F b o,fun h _ _=>h,fun h hf=>(h _ _ hf).elim⟩
def WU(b off:Nat)(cs:List Value):Chunk where
 P:=fun w F=>bG w b off cs/\(∀o,eS b off cs.length b o->w.frozen? ⟨b,o,none⟩=false)/\∀b' o,F b' o↔eS b off cs.length b' o
 keep:=by
  rintro w w' F G ⟨h1,h2,hF⟩ hk hd;have hlt:∀o,eS b off cs.length b o->b<w.heap.size:=fun o ho=>by obtain⟨_,h3,h4⟩:=ho;exact World.block_lt_of_cell? w _ (h1 (o - off) cs[o - off] (l9 (by omega)))
  refine⟨h1.agree fun o h3 h4=>?_,fun o ho=>(hk.yZ b o (hlt o ho)).trans (h2 o ho),hF⟩;have hin:eS b off cs.length b o:=⟨rfl,h3,h4⟩;exact hk.cell b o (hlt o hin) fun hg=>hd b o ((hF b o).2 hin) hg
 lt:=by rintro w F b' o ⟨h1,h2,hF⟩ hf;obtain⟨rfl,h3,h4⟩:=(hF b' o).1 hf;exact World.block_lt_of_cell? w _ (h1 (o - off) cs[o - off] (l9 (by omega)))
def bL{α:Type}[aJ α](cs:List Value)(d:α):Chunk:=⟨fun w F=>aJ.own w cs d F,fun h hk hd=>aJ.own_keep h hk hd,fun h hf=>aJ.own_lt h hf⟩
def Sep(w:World):List Chunk->cN->Prop
 | [],F=>∀b o,¬F b o
 | c :: L,F=>∃F1 F2,c.P w F1/\Sep w L F2/\F1.HJ F2/\∀b o,F b o↔F1 b o\/F2 b o
theorem Sep.keep{w w':World}{G:cN}(hk:eT G w w'):∀{L:List Chunk} {F:cN},Sep w L F->F.HJ G->Sep w' L F
 | [],_,h,_=>h
 | c :: _, _, ⟨F1, F2, h1, h2, hd, hF⟩, hdj =>
  ⟨F1,F2,c.keep h1 hk fun b o h g=>hdj b o ((hF b o).2 (.inl h)) g,Sep.keep hk h2 fun b o h g=>hdj b o ((hF b o).2 (.inr h)) g,hd,hF⟩
theorem Sep.lt{w:World}:∀{L:List Chunk} {F:cN} {b o:Nat},Sep w L F->F b o->b<w.heap.size
 | [],_,_,_,h,hf=>(h _ _ hf).elim
 | c :: L, F, b, o, ⟨F1, F2, h1, h2, hd, hF⟩, hf => by
  rcases(hF b o).1 hf with h | h
  ·exact c.lt h1 h
  ·exact Sep.lt h2 h
theorem Sep.congr{w:World}{L:List Chunk}{F G:cN}(h:Sep w L F)(hFG:∀b o,F b o↔G b o):Sep w L G:=by
 have:F=G:=by grind
 grind
theorem Sep.append{w:World}:∀{A B:List Chunk} {F:cN},Sep w (A++B) F↔∃F1 F2,Sep w A F1/\Sep w B F2/\F1.HJ F2/\∀b o,F b o↔F1 b o\/F2 b o
 | [], B, F => by
  constructor
  ·intro h;exact⟨F0,F,fun _ _ h=>h,h,fun _ _ h _=>h,fun b o=>by simp[F0]⟩
  ·rintro⟨F1,F2,h1,h2,_,hF⟩;exact Sep.congr h2 fun b o=>by rw[hF];exact⟨.inr,fun h=>h.elim (fun h=>(h1 _ _ h).elim) id⟩
 | c :: A, B, F => by
  constructor
  ·rintro⟨F1,F2,h1,h2,hd,hF⟩;obtain⟨G1,G2,g1,g2,gd,hG⟩:=Sep.append.1 h2;exact⟨fun b o=>F1 b o\/G1 b o,G2,⟨F1,G1,h1,g1,fun b o h g=>hd b o h ((hG b o).2 (.inl g)),fun _ _=>Iff.rfl⟩,g2,
    fun b o h g=>h.elim (fun h=>hd b o h ((hG b o).2 (.inr g))) (fun h=>gd b o h g),fun b o=>by grind⟩
  ·rintro⟨F1,F2,⟨G1,G2,g1,g2,gd,hG⟩,h2,hd,hF⟩;exact⟨G1,fun b o=>G2 b o\/F2 b o,g1,Sep.append.2 ⟨G2,F2,g2,h2,fun b o h g=>hd b o ((hG b o).2 (.inr h)) g,fun _ _=>Iff.rfl⟩,
    fun b o h g=>g.elim (fun g=>gd b o h g) (fun g=>hd b o ((hG b o).2 (.inl h)) g),fun b o=>by grind⟩
theorem Sep.swap{w:World}{A B:List Chunk}{F:cN}(h:Sep w (A++B) F):Sep w (B++A) F:=by obtain⟨F1,F2,h1,h2,hd,hF⟩:=Sep.append.1 h;exact Sep.append.2 ⟨F2,F1,h2,h1,cN.aZD hd,fun b o=>by grind⟩
theorem Sep.take{w:World}{c:Chunk}:∀{L:List Chunk} {i:Nat} {F:cN},L[i]?=some c->(Sep w L F↔Sep w (c :: L.set i K9) F)
 | [],i,F,h=>by simp at h
 | d :: L, 0, F, h => by
  simp at h;subst h;show(∃F1 F2,_)↔∃F1 F2,d.P w F1/\(∃G1 G2,K9.P w G1/\Sep w L G2/\G1.HJ G2/\_)/\_;constructor
  ·rintro⟨F1,F2,h1,h2,hd,hF⟩;exact⟨F1,F2,h1,⟨F0,F2,fun _ _ h=>h,h2,fun _ _ h _=>h,fun b o=>by simp[F0]⟩,hd,hF⟩
  ·rintro⟨F1,F2,h1,⟨G1,G2,g1,g2,_,hG⟩,hd,hF⟩;exact⟨F1,G2,h1,g2,fun b o h g=>hd b o h ((hG b o).2 (.inr g)),fun b o=>by
    rw[hF,hG];constructor
    ·rintro(h | h | h)
     ·exact .inl h
     ·exact(g1 _ _ h).elim
     grind
    grind⟩
 | d :: L, i + 1, F, h => by
  have h':L[i]?=some c:=by grind
  show(∃F1 F2,d.P w F1/\Sep w L F2/\_)↔Sep w (c :: d :: L.set i K9) F;have step:∀G,Sep w L G↔Sep w (c :: L.set i K9) G:=fun G=>Sep.take h';constructor
  ·rintro⟨F1,F2,h1,h2,hd,hF⟩;obtain⟨G1,G2,g1,g2,gd,hG⟩:=(step F2).1 h2;exact⟨G1,fun b o=>F1 b o\/G2 b o,g1,⟨F1,G2,h1,g2,fun b o h g=>hd b o h ((hG b o).2 (.inr g)),fun _ _=>Iff.rfl⟩,
    fun b o g h=>h.elim (fun h=>hd b o h ((hG b o).2 (.inl g))) (fun h=>gd b o g h),fun b o=>by grind⟩
  ·rintro⟨G1,H,g1,⟨F1,G2,h1,g2,hd,hH⟩,gd,hF⟩;exact⟨F1,fun b o=>G1 b o\/G2 b o,h1,(step _).2 ⟨G1,G2,g1,g2,fun b o g h=>gd b o g ((hH b o).2 (.inr h)),fun _ _=>Iff.rfl⟩,
    fun b o h g=>g.elim (fun g=>gd b o g ((hH b o).2 (.inl h))) (fun g=>hd b o h g),fun b o=>by grind⟩
structure Ctx where
 w0:World
 W:cN
 S0:cN
structure Fact where
 P:cN->World->Prop
 agree:∀{S w w'},P S w->(∀b o,S b o->w'.cell? ⟨b,o,none⟩=w.cell? ⟨b,o,none⟩)->P S w'
 mono:∀{S S' w},P S w->(∀b o,S b o->S' b o)->P S' w
def C9{α:Type}[aJ α](cs:List Value)(d:α):Fact:=⟨fun S w=>aJ.rd S w cs d,fun h ha=>aJ.rd_agree h ha,fun h ha=>aJ.rd_mono h ha⟩
def R1(w:World):cN:=fun b _=>b<w.heap.size
structure St (c:Ctx) (w:World) (L:List Chunk) (R:List Fact):Prop where
 keep:eT c.W c.w0 w
 sep:∃F S,Sep w L F/\F.HJ S/\(∀b o,F b o->c.W b o\/c.w0.heap.size<=b)/\(∀b o,S b o->c.S0 b o\/c.W b o\/c.w0.heap.size<=b) /\
  (∀b o,S b o->b<w.heap.size)/\∀f∈R,f.P S w
 apart:c.W.HJ c.S0
noncomputable section
variable {c:Ctx} {w w':World} {L:List Chunk} {R:List Fact}
theorem St.fact(h:St c w L R){f:Fact}(i:Nat)(hi:R[i]?=some f):f.P (R1 w) w:=by obtain⟨F,S,_,_,_,_,h5,hR⟩:=h.sep;exact f.mono (hR f (A6 hi)) h5
theorem St.rd{α:Type}[aJ α]{cs:List Value}{d:α}(h:St c w L R)(i:Nat)(hi:R[i]?=some (C9 cs d)):aJ.rd (R1 w) w cs d:=h.fact i hi
theorem St.chunk(h:St c w L R){ch:Chunk}(i:Nat)(hi:L[i]?=some ch):∃F,ch.P w F:=by obtain⟨F,S,hs,_⟩:=h.sep;obtain⟨F1,F2,h1,_⟩:=(Sep.take hi).1 hs;grind
theorem St.aXD{α:Type}[aJ α]{cs:List Value}{d:α}(h:St c w L R)(i:Nat)(hi:L[i]?=some (bL cs d)):aJ.rd (R1 w) w cs d:=by obtain⟨F,hF⟩:=h.chunk i hi;have hF:aJ.own w cs d F:=hF;exact aJ.rd_mono (aJ.own_rd hF) fun b o hf=>aJ.own_lt hF hf
theorem St.step{A A' B:List Chunk}(h:St c w (A++B) R)(hs:∀F,Sep w A F->∃F' G,eT G w w'/\(∀b o,G b o->F b o)/\Sep w' A' F'/\∀b o,F' b o->F b o\/w.heap.size<=b) :
  St c w' (A'++B) R:=by
 obtain⟨F,S,hsep,hFS,hFW,hSS,hSlt,hR⟩:=h.sep;obtain⟨F1,F2,h1,h2,hd,hF⟩:=Sep.append.1 hsep;obtain⟨F',G,hk,hG,h1',hF'⟩:=hs F1 h1;have hGW:∀b o,b<c.w0.heap.size->G b o->c.W b o:=fun b o hb g=>by grind
 refine⟨h.keep.trans hk hGW,⟨fun b o=>F' b o\/F2 b o,S,Sep.append.2 ⟨F',F2,h1',Sep.keep hk h2 fun b o hf g=>hd b o (hG b o g) hf,?_,fun _ _=>Iff.rfl⟩,?_,?_,hSS,fun b o hS=>R0 (hSlt b o hS) hk.size,?_⟩,h.apart⟩
 ·intro b o hf hg;rcases hF' b o hf with h | h
  ·exact hd b o h hg
  ·have:=Sep.lt h2 hg;omega
 ·rintro b o (hf | hf) hS
  ·rcases hF' b o hf with h | h
   ·exact hFS b o ((hF b o).2 (.inl h)) hS
   grind
  ·exact hFS b o ((hF b o).2 (.inr hf)) hS
 ·rintro b o (hf | hf)
  ·rcases hF' b o hf with h' | h'
   ·grind
   ·exact .inr (tG h.keep.size h')
  grind
 ·intro f hf;exact f.agree (hR f hf) fun b o hS=>hk.cell b o (hSlt b o hS) fun g=>hFS b o ((hF b o).2 (.inl (hG b o g))) hS
theorem St.rot{A B:List Chunk}(h:St c w (A++B) R):St c w (B++A) R:=by obtain⟨F,S,hsep,rest⟩:=h.sep;exact⟨h.keep,⟨F,S,hsep.swap,rest⟩,h.apart⟩
theorem St.take(h:St c w L R){ch:Chunk}(i:Nat)(hi:L[i]?=some ch):St c w (ch :: L.set i K9) R:=by obtain⟨F,S,hsep,rest⟩:=h.sep;exact⟨h.keep,⟨F,S,(Sep.take hi).1 hsep,rest⟩,h.apart⟩
theorem Sep.put{w:World}{ch:Chunk}:∀{L:List Chunk} {i:Nat} {F:cN},i<L.length->Sep w (ch :: L.set i K9) F->Sep w (L.set i ch) F
 | L,i,F,hi,h=>(Sep.take (c:=ch) (L:=L.set i ch) (i:=i) (by simp[hi])).2 (by simp_all)
theorem St.put{ch:Chunk}{i:Nat}(h:St c w (ch :: L.set i K9) R)(hi:i<L.length):St c w (L.set i ch) R:=by obtain⟨F,S,hsep,rest⟩:=h.sep;exact⟨h.keep,⟨F,S,Sep.put hi hsep,rest⟩,h.apart⟩
theorem St.aB1(h:St c w L R){ch ch':Chunk}(i:Nat)(hi:L[i]?=some ch)(hs:∀F,ch.P w F->∃F' G,eT G w w'/\(∀b o,G b o->F b o)/\ch'.P w' F'/\∀b o,F' b o->F b o\/w.heap.size<=b) :
  St c w' (L.set i ch') R:=by
 have h1:St c w ([ch]++L.set i K9) R:=h.take i hi;have h2:St c w' ([ch']++L.set i K9) R:=h1.step fun F hF=>by obtain⟨F1,F2,p1,p2,pd,pF⟩:=hF;obtain⟨F',G,hk,hG,hp,hF'⟩:=hs F1 p1;refine⟨F',G,hk,fun b o g=>(pF b o).2 (.inl (hG b o g)),⟨F',F0,hp,fun _ _ h=>h,fun _ _ _ h=>h,fun b o=>by simp[F0]⟩,fun b o hf=>?_⟩;grind
 grind[St.put]
theorem St.more(h:St c w L R){ch:Chunk}(hk:eT F0 w w')(hp:∃F,ch.P w' F/\∀b o,F b o->w.heap.size<=b):St c w' (L ++ [ch]) R:=by obtain⟨F,hp,hF⟩:=hp;have h2:St c w' ([ch]++L) R:=St.step (A:=[]) (by grind) fun G _=>⟨F,F0,hk,fun _ _ h=>h.elim,⟨F,F0,hp,fun _ _ h=>h,fun _ _ _ h=>h,fun b o=>by simp[F0]⟩,fun b o hf=>.inr (hF b o hf)⟩;exact St.rot h2
theorem St.same(h:St c w L R)(hk:eT F0 w w'):St c w' L R:=
 St.step (A:=[]) (A':=[]) (B:=L) h fun _ _=>⟨F0,F0,hk,fun _ _ h=>h.elim,fun _ _ h=>h,fun _ _ h=>h.elim⟩
theorem St.weaken(h:St c w L R){R':List Fact}(hs:∀f∈R',f∈R):St c w L R':=by obtain⟨F,S,a1,a2,a3,a4,a5,a6⟩:=h.sep;exact⟨h.keep,⟨F,S,a1,a2,a3,a4,a5,fun f hf=>a6 f (hs f hf)⟩,h.apart⟩
theorem St.drop{A:List Chunk}(h:St c w (A++L) R):St c w L R:=
 St.step (A:=A) (A':=[]) h fun _ _=>⟨F0,F0,eT.refl _ _,fun _ _ h=>h.elim,fun _ _ h=>h,fun _ _ h=>h.elim⟩
theorem St.derive(h:St c w L R){f:Fact}{Gs:List Fact}(i:Nat)(hi:R[i]?=some f)(hfg:∀S,f.P S w->∀g∈Gs,g.P S w):St c w L (R++Gs):=by obtain⟨F,S,a1,a2,a3,a4,a5,a6⟩:=h.sep;refine⟨h.keep,⟨F,S,a1,a2,a3,a4,a5,fun g hg=>?_⟩,h.apart⟩;grind
theorem St.bCN{α:Type}[aJ α]{cs:List Value}{d:α}(h:St c w L R)(i:Nat)(hi:L[i]?=some (bL cs d)):St c w (L.set i K9) (R ++ [C9 cs d]):=by
 have h1:=h.take i hi;obtain⟨F,S,⟨F1,F2,h1,h2,hd,hF⟩,a2,a3,a4,a5,a6⟩:=h1.sep;have h1:aJ.own w cs d F1:=h1;refine⟨h.keep,⟨F2,fun b o=>S b o\/F1 b o,h2,?_,fun b o hf=>a3 b o ((hF b o).2 (.inr hf)),?_,?_,?_⟩,h.apart⟩
 ·rintro b o hf (hs | hs)
  ·exact a2 b o ((hF b o).2 (.inr hf)) hs
  ·exact hd b o hs hf
 ·grind
 ·rintro b o (hs | hs)
  ·grind
  ·exact aJ.own_lt h1 hs
 ·intro f hf;rcases jB.1 hf with hf | hf
  ·exact f.mono (a6 f hf) fun b o hs=>.inl hs
  ·simp at hf;subst hf;exact aJ.rd_mono (aJ.own_rd h1) fun b o hs=>.inr hs
def cL(w:World):Ctx:=⟨w,F0,R1 w⟩
theorem St.enter{RA:List Fact}(hR:∀f∈RA,f.P (R1 w) w):St (cL w) w [] RA:=
 ⟨eT.refl _ _,⟨F0,R1 w,fun _ _ h=>h,fun _ _ h=>h.elim,fun _ _ h=>h.elim,fun _ _ h=>.inl h,fun _ _ h=>h,hR⟩,fun _ _ h=>h.elim⟩
theorem St.after{A':List Chunk}{RA:List Fact}(h:St c w L R)(k:St (cL w) w' A' RA):St c w' (L++A') R:=by obtain⟨F,S,a1,a2,a3,a4,a5,a6⟩:=k.sep;have h2:St c w' (A'++L) R:=St.step (w:=w) (A:=[]) (by grind) fun G _=>⟨F,F0,k.keep,fun _ _ h=>h.elim,a1,fun b o hf=>(a3 b o hf).elim (fun h=>h.elim) .inr⟩;exact St.rot h2
theorem St.call{A:List Chunk}{RA:List Fact}(h:St c w (A++L) R)(hRA:∀f∈RA,f∈R) :
  ∃c',c'.w0=w/\St c' w A RA/\∀w' A' R',St c' w' A' R'->St c w' (L++A') (R++R'):=by
 obtain⟨F,S,hsep,hFS,hFW,hSS,hSlt,hR⟩:=h.sep;obtain⟨F1,F2,h1,h2,hd,hF⟩:=Sep.append.1 hsep;refine⟨⟨w,F1,S⟩,rfl,⟨eT.refl _ _,⟨F1,S,h1,fun b o hf=>hFS b o ((hF b o).2 (.inl hf)),fun _ _ h=>.inl h,fun _ _ h=>.inl h,hSlt,fun f hf=>hR f (hRA f hf)⟩,fun b o hf=>hFS b o ((hF b o).2 (.inl hf))⟩,?_⟩;intro w' A' R' k;obtain⟨F',S',b1,b2,b3,b4,b5,b6⟩:=k.sep;have hk:=k.keep;have hGW:∀b o,b<c.w0.heap.size->F1 b o->c.W b o:=fun b o hb g=>by grind
 refine⟨h.keep.trans hk hGW,⟨fun b o=>F2 b o\/F' b o,fun b o=>S b o/\True\/S' b o,Sep.append.2 ⟨F2,F',Sep.keep hk h2 fun b o hf g=>hd b o g hf,b1,?_,fun _ _=>Iff.rfl⟩,?_,?_,?_,?_,?_⟩,h.apart⟩
 ·intro b o hf hg;rcases b3 b o hg with h | h
  ·exact hd b o h hf
  ·have h:w.heap.size<=b:=h;have:=Sep.lt h2 hf;omega
 ·rintro b o (hf | hf) (⟨hs,_⟩ | hs)
  ·exact hFS b o ((hF b o).2 (.inr hf)) hs
  ·rcases b4 b o hs with h | h | h
   ·exact hFS b o ((hF b o).2 (.inr hf)) h
   ·exact hd b o h hf
   ·have h:w.heap.size<=b:=h;have:=Sep.lt h2 hf;omega
  ·rcases b3 b o hf with h | h
   ·exact hFS b o ((hF b o).2 (.inl h)) hs
   grind
  ·exact b2 b o hf hs
 ·rintro b o (hf | hf)
  ·grind
  ·rcases b3 b o hf with h' | h'
   ·grind
   ·exact .inr (tG h.keep.size h')
 ·rintro b o (⟨hs,_⟩ | hs)
  ·grind
  ·rcases b4 b o hs with h' | h' | h'
   ·grind
   ·grind
   ·exact .inr (.inr (tG h.keep.size h'))
 ·rintro b o (⟨hs,_⟩ | hs)
  ·exact R0 (hSlt b o hs) hk.size
  grind
 ·intro f hf;rcases jB.1 hf with hf | hf
  ·exact f.mono (f.agree (hR f hf) fun b o hs=>hk.cell b o (hSlt b o hs) fun g=>hFS b o ((hF b o).2 (.inl g)) hs) fun b o hs=>.inl ⟨hs,trivial⟩
  ·exact f.mono (b6 f hf) fun b o hs=>.inr hs
end
end Go.Gv
end
noncomputable section
namespace Go.Gv
abbrev Env:=List (Nat×Value)
def lk:Env->Nat->Option Value
 | [],_=>none
 | (k, v) :: e, n => match Nat.beq n k with
  | true=>some v
  | false=>lk e n
structure mX (n:Nat) (e:Env) (a:Act):Prop where
 d:a.defers=[]
 size:a.tmps.size=n
 get:∀k v,lk e k=some v->a.tmps[k]?=some v
def ev(e:Env):Operand->Option Value
 | .tmp t=>lk e t
 | .const v=>some v
 | .global g=>some (.pointer (some ⟨g,0,none⟩))
 | .func f=>some (.func (.func f) #[] #[])
theorem mX.eval{n:Nat}{e:Env}{a:Act}{x:Operand}{v:Value}(h:mX n e a)(hx:ev e x=some v):a.eval x=v:=by
 cases x with
 | tmp t =>
  have:=h.get t v hx;show a.tmps.getD t undef=v;simp_all
 | const u=>grind[ev,Act.eval]
 | global g=>grind[ev,Act.eval]
 | func f=>grind[ev,Act.eval]
theorem mX.put{n d:Nat}{e:Env}{a:Act}(h:mX n e a)(hd:d<n)(v:Value):mX n ((d,v) :: e) (a.put (some d) v):=by
 refine⟨h.d,by simp[Act.put,h.size],fun k u hk=>?_⟩;simp only[lk] at hk;show(a.tmps.setIfInBounds d v)[k]?=some u;by_cases e1:k=d
 ·subst e1;have:Nat.beq k k=true:=by simp
  rw[this] at hk;simp at hk;rw[Array.getElem?_setIfInBounds_self_of_lt (by rw[h.size];exact hd),hk]
 ·have:Nat.beq k d=false:=by grind[qY]
  rw[this] at hk;rw[Array.getElem?_setIfInBounds_ne (Ne.symm e1)];exact h.get k u hk
def Has(e:Env):Env->Prop
 | []=>True
 | (k,v) :: r=>lk e k=some v/\Has e r
theorem Has.get{e:Env}:∀{e':Env} {k:Nat} {v:Value},Has e e'->lk e' k=some v->lk e k=some v
 | [],_,_,_,h=>by simp[lk] at h
 | (k', v') :: r, k, v, ⟨h1, h2⟩, h => by
  simp only[lk] at h;cases hb:Nat.beq k k' with
  | true=>simp_all
  | false=>rw[hb] at h;exact Has.get h2 h
theorem mX.part{n:Nat}{e e':Env}{a:Act}(h:mX n e a)(hh:Has e e'):mX n e' a:=⟨h.d,h.size,fun k v hk=>h.get k v (hh.get hk)⟩
def aP3:Nat->List Value->Env
 | _,[]=>[]
 | k,v :: r=>(k,v) :: aP3 (k+1) r
theorem a09(l:List Value):∀(b k:Nat) (v:Value),lk (aP3 b l) k=some v->b<=k/\l[k - b]?=some v:=by
 induction l with
 | nil=>grind[aP3,lk]
 | cons x r ih =>
  intro b k v h;simp only[aP3,lk] at h;cases hb:Nat.beq k b with
  | true =>
   simp_all
  | false =>
   grind
theorem a9B(l:List Value)(n:Nat)(hn:l.length<=n):mX n (aP3 0 l) {tmps:=l.toArray++Array.replicate (n - l.toArray.size) undef,defers:=[]}:=by refine⟨rfl,by simp;omega,fun k v hk=>?_⟩;obtain⟨_,h2⟩:=a09 l 0 k v hk;grind
def mkQ(N:Act->World->Prop)(X:Nat->Act->World->Prop)(T:Act->World->Prop):Exit->Act->World->Prop
 | .normal,a,w=>N a w
 | .exit i,a,w=>X i a w
 | .ret,a,w=>T a w
 | _,_,_=>False
def CW(P:Program)(c:Code)(N:Act->World->Prop)(X:Nat->Act->World->Prop)(T:Act->World->Prop)(a:Act)(w:World):Prop:=c.wp P (mkQ N X T) a w
def aJD(id:Nat)(N:Act->World->Prop)(X:Nat->Act->World->Prop):Nat->Act->World->Prop:=fun i a w=>if i=id then N a w else X i a w
theorem HV{id:Nat}{N:Act->World->Prop}{X:Nat->Act->World->Prop}{a:Act}{w:World}(h:N a w):aJD id N X id a w:=by simp[aJD,h]
noncomputable section
variable {P:Program} {c x y:Code} {N:Act->World->Prop} {X:Nat->Act->World->Prop} {T:Act->World->Prop} {a:Act} {w:World}
theorem CW.mono{N':Act->World->Prop}{X':Nat->Act->World->Prop}{T':Act->World->Prop}(h:CW P c N X T a w)(hN:∀a w,N a w->N' a w)(hX:∀i a w,X i a w->X' i a w)(hT:∀a w,T a w->T' a w):CW P c N' X' T' a w:=
 wp_mono h fun e a w q=>by cases e<;>first | exact hN _ _ q | exact hX _ _ _ q | exact hT _ _ q | exact q
theorem b7(h:CW P x (fun a w=>CW P y N X T a w) X T a w):CW P (.seq x y) N X T a w:=
 wp_seq (wp_mono h fun e a w q=>by cases e<;>exact q)
theorem rA(h:N a w):CW P .skip N X T a w:=wp_skip h
theorem O3{id:Nat}(h:X id a w):CW P (.exit id) N X T a w:=wp_exit h
theorem DA(h:T a w):CW P .ret N X T a w:=wp_ret h
theorem nD{id:Nat}(h:CW P c N (aJD id N X) T a w):CW P (.block id c) N X T a w:=
 wp_block (wp_mono h fun e a w q=>by cases e<;>exact q)
theorem nO{o:Operand}{t:Bool}{n:Nat}{e:Env}(hA:mX n e a)(ho:ev e o=some (.bool t))(ht:t=true->CW P x N X T a w)(hf:t=false->CW P y N X T a w):CW P (.cond o x y) N X T a w:=
 wp_cond_split (hA.eval ho) ht hf
theorem a95{o:Operand}{t:Bool}{n:Nat}{e:Env}(hA:mX n e a)(ho:ev e o=some (.bool t))(ht:t=true)(h:CW P x N X T a w):CW P (.cond o x y) N X T a w:=
 nO hA ho (fun _=>h) (fun hf=>by grind)
theorem bCO{o:Operand}{t:Bool}{n:Nat}{e:Env}(hA:mX n e a)(ho:ev e o=some (.bool t))(ht:t=false)(h:CW P y N X T a w):CW P (.cond o x y) N X T a w:=
 nO hA ho (fun hf=>by grind) (fun _=>h)
theorem aOO{id:Nat}{ops:Array Oper}(h:wpList P ops (mkQ N X T) ops.toList a w):CW P (.region id ops false) N X T a w:=wp_region_list h
end
inductive Step (σ ρ:Type) where
 | next (s:σ)
 | stop (r:ρ)
inductive Out (β ρ:Type) where
 | brk (s:β)
 | ret (r:ρ)
def iter{σ ρ:Type}(body:σ->Option (Step σ ρ)):Nat->σ->Option ρ
 | 0,_=>none
 | n + 1, s => match body s with
  | none=>none
  | some (.next s')=>iter body n s'
  | some (.stop r)=>some r
theorem aSG{σ ρ:Type}{body:σ->Option (Step σ ρ)}:∀{n m:Nat} {s:σ} {r r':ρ},iter body n s=some r->iter body m s=some r'->r=r'
 | 0,_,_,_,_,h,_=>by grind[iter]
 | _+1,0,_,_,_,_,h=>by grind[iter]
 | n + 1, m + 1, s, r, r', h, h' => by
  simp only[iter] at h h';cases hb:body s with
  | none=>grind
  | some o => cases o with
   | next s'=>rw[hb] at h h';exact aSG h h'
   | stop q=>grind
open Classical in
def loop{σ ρ:Type}(body:σ->Option (Step σ ρ))(s:σ):Option ρ:=
 if h:∃r,∃n,iter body n s=some r then some (Classical.choose h) else none
theorem R3{σ ρ:Type}{body:σ->Option (Step σ ρ)}{s:σ}{r:ρ}:loop body s=some r↔∃n,iter body n s=some r:=by
 unfold loop;by_cases h:∃r,∃n,iter body n s=some r
 ·rw[dif_pos h];grind[aSG]
 grind
theorem bV{σ ρ:Type}{body:σ->Option (Step σ ρ)}{s:σ}{r:ρ}(h:body s=some (.stop r)):loop body s=some r:=R3.2 ⟨1,by simp[iter,h]⟩
theorem bW{σ ρ:Type}{body:σ->Option (Step σ ρ)}{s s':σ}(h:body s=some (.next s')):loop body s=loop body s':=by
 cases h2:loop body s' with
 | some r =>
  obtain⟨n,hn⟩:=R3.1 h2;exact R3.2 ⟨n+1,by grind[iter]⟩
 | none =>
  cases h1:loop body s with
  | none=>rfl
  | some r =>
   obtain⟨n,hn⟩:=R3.1 h1;cases n with
   | zero=>grind[iter]
   | succ n=>grind[iter,R3]
theorem O4{P:Program}{c:Code}{N:Act->World->Prop}{X:Nat->Act->World->Prop}{T:Act->World->Prop}{σ ρ:Type}{body:σ->Option (Step σ ρ)}{r:ρ}(Inv:σ->Act->World->Prop)
  (round:∀s a w o,Inv s a w->body s=some o->(∀q,o=.stop q->q=r)->CW P c (fun a' w'=>∃s',o=.next s'/\Inv s' a' w') X T a w)
  {s:σ} (hl:loop body s=some r) {a:Act} {w:World} (h:Inv s a w):CW P (.loop c) N X T a w:=by
 obtain⟨n,hn⟩:=R3.1 hl;refine wp_loop_rounds n ?_;clear hl;induction n generalizing s a w with
 | zero=>grind[iter]
 | succ n ih =>
  simp only[iter] at hn;rw[rounds_succ];cases hb:body s with
  | none=>grind
  | some o =>
   have hr:∀q,o=.stop q->q=r:=fun q e=>by grind
   refine wp_mono (round s a w o h hb hr) fun e a' w' q=>?_;cases e with
   | normal=>obtain⟨s',e,hI⟩:=q;subst e;rw[hb] at hn;exact ih hI hn
   | _=>exact q
end Go.Gv
end
noncomputable section
namespace Go.Gv
abbrev bB(n:Int):Int:=IntKind.i64.wrap n
def eR(P:Program)(o:Oper)(e:Env)(w:World)(v:Value)(w':World):Prop:=∀n a,mX n e a->(execOp a.eval o).run P w=.ok (.value v) w'
def a1A(P:Program)(o:Oper)(e:Env)(w:World)(w':World):Prop:=∀n a,mX n e a->(execOp a.eval o).run P w=.ok .skip w'
def a1B(P:Program)(o:Oper)(e:Env)(w:World)(f:FuncId)(args:Array Value):Prop:=∀n a,mX n e a->(execOp a.eval o).run P w=.ok (.enter f args) w
def lX(P:Program)(ops:Array Oper)(Q:Exit->Act->World->Prop)(rest:List Oper)(n:Nat)(e:Env)(w:World):Prop:=∀a,mX n e a->wpList P ops Q rest a w
noncomputable section
variable {P:Program} {a':Act} {ops:Array Oper} {Q:Exit->Act->World->Prop} {o:Oper} {rest:List Oper} {n d:Nat} {e:Env} {w w':World}
theorem cV{N:Act->World->Prop}{X:Nat->Act->World->Prop}{T:Act->World->Prop}{id:Nat}{a:Act}(hA:mX n e a)(h:lX P ops (mkQ N X T) ops.toList n e w):CW P (.region id ops false) N X T a w:=
 aOO (h a hA)
theorem bP{N:Act->World->Prop}{X:Nat->Act->World->Prop}{T:Act->World->Prop}(h:∀a,mX n e a->N a w):lX P ops (mkQ N X T) [] n e w:=fun a hA=>h a hA
def Want(ops:Array Oper)(o:Oper)(e:Env)(b:Bool):Prop:=∀n a,mX n e a->Region.wanted o (yielded ops a.tmps)=b
theorem cA(hg:o.guard=none):Want ops o e true:=fun _ _ _=>by grind[Region.wanted]
theorem cO{j:Nat}{t c b:Bool}{s:Tmp}(hg:o.guard=some (j,t))(hj:(ops[j]?).bind (·.dst)=some s)(hv:lk e s=some (.bool c))(hb:Bool.xor c t=!b):Want ops o e b:=fun _ a hA=>by
 have:yielded ops a.tmps j=some c:=by have h1:=hA.get s _ hv;grind[yielded]
 grind[Region.wanted]
theorem gK{v:Value}(hr:eR P o e w v w')(hw:Want ops o e true)(hd:o.dst=some d)(hn:Nat.blt d n=true)(k:lX P ops Q rest n ((d,v) :: e) w'):lX P ops Q (o :: rest) n e w:=fun a hA=>by refine wpList_step fun K hK=>?_;rw[hw n a hA,aL rfl];unfold Oper.wp;rw[hr n a hA,Oper.upon_value,hd];exact hK _ _ (k _ (hA.put (by simp_all) v))
theorem gX(hw:Want ops o e false)(hd:o.dst=some d)(hn:Nat.blt d n=true)(k:lX P ops Q rest n ((d,undef) :: e) w):lX P ops Q (o :: rest) n e w:=fun a hA=>by refine wpList_step fun K hK=>?_;rw[hw n a hA,aO (by simp),hd];exact hK _ _ (k _ (hA.put (by simp_all) undef))
theorem QK{S:Value->World->Prop}(hr:∃v w',eR P o e w v w'/\S v w')(hw:Want ops o e true)(hd:o.dst=some d)(hn:Nat.blt d n=true)(k:∀v w',S v w'->lX P ops Q rest n ((d,v) :: e) w'):lX P ops Q (o :: rest) n e w:=by grind[gK]
theorem W8{S:World->Prop}(hr:∃w',a1A P o e w w'/\S w')(hw:Want ops o e true)(hd:o.dst=none)(k:∀w',S w'->lX P ops Q rest n e w'):lX P ops Q (o :: rest) n e w:=fun a hA=>by obtain⟨w',hr,hS⟩:=hr;refine wpList_step fun K hK=>?_;rw[hw n a hA,aL rfl];unfold Oper.wp;rw[hr n a hA,Oper.upon_skip,hd];exact hK _ _ (k _ hS _ hA)
def Ret(K:Value->World->Prop):Ending->World->Prop:=fun en w'=>∃v,en=.returned v/\K v w'
theorem aF1{f:FuncId}{args:Array Value}{K:Value->World->Prop}(hr:a1B P o e w f args)(hw:Want ops o e true)(hd:o.dst=some d)(hn:Nat.blt d n=true)(hc:Calls P f args w (Ret K))(k:∀v w',K v w'->lX P ops Q rest n ((d,v) :: e) w'):lX P ops Q (o :: rest) n e w:=fun a hA=>by refine wpList_step fun K' hK=>?_;rw[hw n a hA,aL rfl];unfold Oper.wp;rw[hr n a hA,Oper.upon_enter];refine hc.mono fun en w' ⟨v,hv,h⟩=>?_;subst hv;rw[hd];exact hK _ _ (k v w' h _ (hA.put (by simp_all) v))
variable {x y z:Operand} {v u:Value} {k:IntKind} {i j:Int} {t z':TypeId}
theorem pU(ho:o.op=.move x)(hx:ev e x=some v):eR P o e w v w:=fun _ a hA=>by simp[execOp,ho,hA.eval hx]
theorem HW(ho:o.op=.assign x)(hx:ev e x=some v):eR P o e w v w:=fun _ a hA=>by simp[execOp,ho,hA.eval hx]
theorem a96(ho:o.op=.nilCheck x){p:Addr}(hx:ev e x=some (.pointer (some p))):eR P o e w (.pointer (some p)) w:=fun _ a hA=>by simp[execOp,ho,hA.eval hx]
theorem yW{c:Bool}(ho:o.op=.pick x y z)(hx:ev e x=some (.bool c))(hc:c=true)(hy:ev e y=some v):eR P o e w v w:=fun _ a hA=>by simp[execOp,ho,hA.eval hx,hA.eval hy,hc,asBool]
theorem D0{c:Bool}(ho:o.op=.pick x y z)(hx:ev e x=some (.bool c))(hc:c=false)(hz:ev e z=some v):eR P o e w v w:=fun _ a hA=>by simp[execOp,ho,hA.eval hx,hA.eval hz,hc,asBool]
theorem aJE{b:Bool}(ho:o.op=.unOp .not t x)(hx:ev e x=some (.bool b)):eR P o e w (.bool (!b)) w:=fun _ a hA=>by simp[execOp,ho,hA.eval hx,Op.unary]
theorem a97(ho:o.op=.unOp .neg t x)(hx:ev e x=some (.int k i)):eR P o e w (.int k (k.wrap (0 - i))) w:=fun _ a hA=>by simp[execOp,ho,hA.eval hx,Op.unary,Op.intArith]
theorem QL(ho:o.op=.binOp .add t x y z')(hx:ev e x=some (.int k i))(hy:ev e y=some (.int k j)):eR P o e w (.int k (k.wrap (i+j))) w:=fun _ a hA=>by simp[execOp,ho,hA.eval hx,hA.eval hy,eqGuard,binOp,Op.intArith]
theorem aU5(ho:o.op=.binOp .sub t x y z')(hx:ev e x=some (.int k i))(hy:ev e y=some (.int k j)):eR P o e w (.int k (k.wrap (i - j))) w:=fun _ a hA=>by simp[execOp,ho,hA.eval hx,hA.eval hy,eqGuard,binOp,Op.intArith]
theorem a98(ho:o.op=.binOp .mul t x y z')(hx:ev e x=some (.int k i))(hy:ev e y=some (.int k j)):eR P o e w (.int k (k.wrap (i*j))) w:=fun _ a hA=>by simp[execOp,ho,hA.eval hx,hA.eval hy,eqGuard,binOp,Op.intArith]
theorem aU6(ho:o.op=.binOp .quo t x y z')(hx:ev e x=some (.int k i))(hy:ev e y=some (.int k j))(h0:j≠0):eR P o e w (.int k (k.wrap (i.tdiv j))) w:=fun _ a hA=>by simp[execOp,ho,hA.eval hx,hA.eval hy,eqGuard,binOp,Op.intDiv,h0]
theorem aEJ(ho:o.op=.binOp .rem t x y z')(hx:ev e x=some (.int k i))(hy:ev e y=some (.int k j))(h0:j≠0):eR P o e w (.int k (i.tmod j)) w:=fun _ a hA=>by simp[execOp,ho,hA.eval hx,hA.eval hy,eqGuard,binOp,Op.intDiv,h0]
theorem KG(ho:o.op=.binOp .lss t x y z')(hx:ev e x=some (.int k i))(hy:ev e y=some (.int k j)):eR P o e w (.bool (decide (i<j))) w:=fun _ a hA=>by simp[execOp,ho,hA.eval hx,hA.eval hy,eqGuard,binOp,Op.intCmp]
theorem aU7(ho:o.op=.binOp .leq t x y z')(hx:ev e x=some (.int k i))(hy:ev e y=some (.int k j)):eR P o e w (.bool (decide (i<=j))) w:=fun _ a hA=>by simp[execOp,ho,hA.eval hx,hA.eval hy,eqGuard,binOp,Op.intCmp]
theorem aU8(ho:o.op=.binOp .gtr t x y z')(hx:ev e x=some (.int k i))(hy:ev e y=some (.int k j)):eR P o e w (.bool (decide (j<i))) w:=fun _ a hA=>by simp[execOp,ho,hA.eval hx,hA.eval hy,eqGuard,binOp,Op.intCmp]
theorem a1C(ho:o.op=.binOp .geq t x y z')(hx:ev e x=some (.int k i))(hy:ev e y=some (.int k j)):eR P o e w (.bool (decide (j<=i))) w:=fun _ a hA=>by simp[execOp,ho,hA.eval hx,hA.eval hy,eqGuard,binOp,Op.intCmp]
theorem a99(ho:o.op=.binOp .eql t x y z')(hx:ev e x=some (.int k i))(hy:ev e y=some (.int k j)):eR P o e w (.bool (i == j)) w:=fun _ a hA=>by simp[execOp,ho,hA.eval hx,hA.eval hy,eqGuard,binOp,Op.intCmp]
theorem aP4(ho:o.op=.binOp .neq t x y z')(hx:ev e x=some (.int k i))(hy:ev e y=some (.int k j)):eR P o e w (.bool (i != j)) w:=fun _ a hA=>by simp[execOp,ho,hA.eval hx,hA.eval hy,eqGuard,binOp,Op.intCmp]
def iP(op:BinOp)(k:IntKind)(i j:Int):Int:=
 match op with
 | .and=>k.wrap ((BitVec.ofInt k.bits i &&& BitVec.ofInt k.bits j).toNat:Int)
 | .or=>k.wrap ((BitVec.ofInt k.bits i ||| BitVec.ofInt k.bits j).toNat:Int)
 | .xor=>k.wrap ((BitVec.ofInt k.bits i ^^^ BitVec.ofInt k.bits j).toNat:Int)
 | _=>k.wrap ((BitVec.ofInt k.bits i &&& ~~~ (BitVec.ofInt k.bits j)).toNat:Int)
theorem bAA(ho:o.op=.binOp .and t x y z')(hx:ev e x=some (.int k i))(hy:ev e y=some (.int k j)):eR P o e w (.int k (iP .and k i j)) w:=fun _ a hA=>by simp[execOp,ho,hA.eval hx,hA.eval hy,eqGuard,binOp,Op.intBits,iP]
theorem bCP(ho:o.op=.binOp .or t x y z')(hx:ev e x=some (.int k i))(hy:ev e y=some (.int k j)):eR P o e w (.int k (iP .or k i j)) w:=fun _ a hA=>by simp[execOp,ho,hA.eval hx,hA.eval hy,eqGuard,binOp,Op.intBits,iP]
theorem bAB(ho:o.op=.binOp .xor t x y z')(hx:ev e x=some (.int k i))(hy:ev e y=some (.int k j)):eR P o e w (.int k (iP .xor k i j)) w:=fun _ a hA=>by simp[execOp,ho,hA.eval hx,hA.eval hy,eqGuard,binOp,Op.intBits,iP]
theorem aZE(ho:o.op=.binOp .andNot t x y z')(hx:ev e x=some (.int k i))(hy:ev e y=some (.int k j)):eR P o e w (.int k (iP .andNot k i j)) w:=fun _ a hA=>by simp[execOp,ho,hA.eval hx,hA.eval hy,eqGuard,binOp,Op.intBits,iP]
def aJF(k:IntKind)(i j:Int):Int:=k.wrap (i*2 ^ min j.toNat k.bits)
def pW(k:IntKind)(i j:Int):Int:=i.fdiv (2 ^ min j.toNat k.bits)
theorem a1D{yk:IntKind}(ho:o.op=.binOp .shl t x y z')(hx:ev e x=some (.int k i))(hy:ev e y=some (.int yk j))(h0:¬j<0):eR P o e w (.int k (aJF k i j)) w:=fun _ a hA=>by simp[execOp,ho,hA.eval hx,hA.eval hy,eqGuard,binOp,Op.shift,h0,aJF]
theorem bAC{yk:IntKind}(ho:o.op=.binOp .shr t x y z')(hx:ev e x=some (.int k i))(hy:ev e y=some (.int yk j))(h0:¬j<0):eR P o e w (.int k (pW k i j)) w:=fun _ a hA=>by simp[execOp,ho,hA.eval hx,hA.eval hy,eqGuard,binOp,Op.shift,h0,pW]
theorem a6L{p q:Bool}(hu:P.underlying t=some .bool)(ho:o.op=.binOp .eql t x y z')(hx:ev e x=some (.bool p))(hy:ev e y=some (.bool q)):eR P o e w (.bool (p == q)) w:=fun _ a hA=>by have h1:binOp .eql t (.bool p) (.bool q)=(do pure (.bool (<-Op.equal t (.bool p) (.bool q)))):=rfl;simp[execOp,ho,hA.eval hx,hA.eval hy,eqGuard,h1,Op.equal,Op.maxDepth,run_equalIn_bool' _ _ _ _ _ hu]
theorem a6M{p q:Bool}(hu:P.underlying t=some .bool)(ho:o.op=.binOp .neq t x y z')(hx:ev e x=some (.bool p))(hy:ev e y=some (.bool q)):eR P o e w (.bool (!(p == q))) w:=fun _ a hA=>by have h1:binOp .neq t (.bool p) (.bool q)=(do pure (.bool (!(<-Op.equal t (.bool p) (.bool q))))):=rfl;simp[execOp,ho,hA.eval hx,hA.eval hy,eqGuard,h1,Op.equal,Op.maxDepth,run_equalIn_bool' _ _ _ _ _ hu]
abbrev sv(l:List UInt8):Value:=.string ⟨l.toArray⟩
theorem a6N{p q:List UInt8}(ho:o.op=.binOp .eql t x y z')(hx:ev e x=some (sv p))(hy:ev e y=some (sv q)):eR P o e w (.bool (p == q)) w:=fun _ a hA=>by simp[execOp,ho,hA.eval hx,hA.eval hy,eqGuard,binOp,Op.stringOp]
theorem a6O{p q:List UInt8}(ho:o.op=.binOp .neq t x y z')(hx:ev e x=some (sv p))(hy:ev e y=some (sv q)):eR P o e w (.bool (!(p == q))) w:=fun _ a hA=>by simp[execOp,ho,hA.eval hx,hA.eval hy,eqGuard,binOp,Op.stringOp]
theorem bAD{p q:List UInt8}(ho:o.op=.binOp .add t x y z')(hx:ev e x=some (sv p))(hy:ev e y=some (sv q))(hb:p.length+q.length<=9223372036854775807):eR P o e w (sv (p++q)) w:=fun _ a hA=>by
 have h2:(⟨p.toArray⟩:ByteArray)++⟨q.toArray⟩=⟨(p++q).toArray⟩:=by apply ByteArray.ext;simp
 have h3:(⟨p.toArray⟩:ByteArray).size=p.length:=by simp[ByteArray.size]
 have h4:(⟨q.toArray⟩:ByteArray).size=q.length:=by simp[ByteArray.size]
 simp[execOp,ho,hA.eval hx,hA.eval hy,eqGuard,binOp,Op.stringOp,h3,h4,h2];omega
theorem aP5{k':IntKind}{s t:TypeId}{ds:TypeDesc}(hs:P.underlying s=some ds)(ht:P.underlying t=some (.int k'))(ho:o.op=.convert s t x)(hx:ev e x=some (.int k i)):eR P o e w (.int k' (k'.wrap i)) w:=fun _ a hA=>by simp[execOp,ho,hA.eval hx,convert,run_underlying hs,run_underlying ht,Conv.intToInt]
theorem aU9{vs:Array Value}{ix:Nat}(ho:o.op=.extract x ix)(hx:ev e x=some (.tuple vs))(hv:vs[ix]?=some v):eR P o e w v w:=fun _ a hA=>by simp[execOp,ho,hA.eval hx,Instr.extract,hv]
theorem a1E{ad:Option Addr}{m c:Nat}{el:TypeId}(hu:P.underlying t=some (.slice el))(ho:o.op=.call {callee:=.builtin .len,args:=#[x],argTypes:=#[t]})(hx:ev e x=some (.slice ad m c)):eR P o e w (.int .i64 (m:Int)) w:=fun _ a hA=>by simp[execOp,ho,resolve,invoke,builtin,Builtin.len_,hA.eval hx,run_underlying hu,goInt]
theorem a6P{l:List UInt8}(hu:P.underlying t=some .string)(ho:o.op=.call {callee:=.builtin .len,args:=#[x],argTypes:=#[t]})(hx:ev e x=some (sv l)):eR P o e w (.int .i64 (l.length:Int)) w:=fun _ a hA=>by
 have h3:(⟨l.toArray⟩:ByteArray).size=l.length:=by simp[ByteArray.size]
 simp[execOp,ho,resolve,invoke,builtin,Builtin.len_,hA.eval hx,run_underlying hu,goInt,h3]
theorem a6Q{fn:Fn}{fs cs:Array Operand}{vf vc:List Value}(ho:o.op=.makeFunc fn fs cs)(hf:fs.toList.map (ev e)=vf.map some)(hc:cs.toList.map (ev e)=vc.map some):eR P o e w (.func fn vf.toArray vc.toArray) w:=fun _ a hA=>by
 have key:∀(xs:Array Operand) (vs:List Value),xs.toList.map (ev e)=vs.map some->xs.map a.eval=vs.toArray:=by
  intro xs vs h;apply Array.toList_inj.1;simp
  revert vs
  generalize xs.toList=l;induction l with
  | nil=>simp
  | cons y r ih =>
   intro vs h;cases vs with
   | nil=>simp at h
   | cons v vs=>simp at h ⊢;exact⟨hA.eval h.1,ih vs h.2⟩
 simp[execOp,ho,key _ _ hf,key _ _ hc,Instr.makeFunc]
variable {c:Ctx} {L:List Chunk} {R:List Fact}
abbrev HK(b:Nat)(cs:List Value):Chunk:=WU b 0 cs
theorem St.cell(h:St c w L R){b:Nat}{cs:List Value}(i:Nat){j:Nat}(hi:L[i]?=some (HK b cs))(hj:cs[j]?=some v):w.cell? ⟨b,j,none⟩=some v:=by obtain⟨F,h1,_⟩:=h.chunk i hi;have:=h1 j v hj;grind
theorem St.cells(h:St c w L R){b:Nat}{cs cs':List Value}(i j:Nat)(hi:L[i]?=some (HK b cs))(hj:(cs.drop j).take cs'.length=cs'):bG w b j cs':=by intro m u hm;have hlt:=(A4.1 hm).1;refine h.cell i hi ?_;grind
theorem rP{b j:Nat}{cs:List Value}(h:bG w b j cs)(P:Program):(loadCells ⟨b,j,none⟩ cs.length).run P w=.ok cs.toArray w:=by
 refine run_loadCells_list w ⟨b,j,none⟩ cs fun m u hm=>?_;have:(⟨b,j,none⟩:Addr).add m=⟨b,j+m,none⟩:=by grind[Addr.add]
 rw[this];exact h m u hm
theorem kL{p:Addr}(ho:o.op=.load t x)(hx:ev e x=some (.pointer (some p)))(ha:∀w,(isAgg t).run P w=.ok false w)(hc:w.cell? p=some v):eR P o e w v w:=fun _ a hA=>by simp[execOp,ho,Instr.loadAt,Instr.sureAddr,hA.eval hx,loadVar,ha,load,Sem.run,hc]
theorem W9{b j:Nat}{cs:List Value}{m:Nat}(ho:o.op=.load t x)(hx:ev e x=some (.pointer (some ⟨b,j,none⟩)))(ha:∀w,(isAgg t).run P w=.ok true w)(hz:∀w,(sizeOf t).run P w=.ok m w)(hm:cs.length=m)(hc:bG w b j cs):eR P o e w (.agg cs.toArray) w:=fun _ a hA=>by subst hm;simp[execOp,ho,Instr.loadAt,Instr.sureAddr,hA.eval hx,loadVar,ha,hz,rP hc P]
theorem St.alloc(h:St c w L R)(cs:List Value)(t:TypeId):St c (w.alloc (.cells cs.toArray t)) (L ++ [HK w.heap.size cs]) R:=by
 refine h.more (eT.alloc _ _ _) ⟨eS w.heap.size 0 cs.length,⟨fun j u hj=>?_,fun o' ho=>?_,fun _ _=>?_⟩,fun b o' hb=>?_⟩
 ·simp_all
 ·simp
 ·simp
 ·exact RZ hb.1.symm
theorem R4{z:Value}{cs:List Value}(hS:St c w L R)(ho:o.op=.alloc t)(hz:∀w,(zeroValue t).run P w=.ok z w)(hcs:z.cells.toList=cs):∃v w',eR P o e w v w'/\∃b,v=.pointer (some ⟨b,0,none⟩)/\St c w' (L ++ [HK b cs]) R:=by subst hcs;refine⟨_,_,fun _ a hA=>?_,w.heap.size,rfl,hS.alloc z.cells.toList t⟩;simp_all[execOp,Instr.alloc,newVar,newRow]
theorem bAE{cs:List Value}(hS:St c w L R)(ho:o.op=.box t x)(hx:ev e x=some v)(hcs:v.cells.toList=cs):∃v w',eR P o e w v w'/\∃b,v=.pointer (some ⟨b,0,none⟩)/\St c w' (L ++ [HK b cs]) R:=by subst hcs;refine⟨_,_,fun _ a hA=>?_,w.heap.size,rfl,hS.alloc v.cells.toList t⟩;simp[execOp,ho,Instr.box,hA.eval hx,newVar,newRow]
theorem DB{fs:Array Field}{f:Field}{ix m b j j':Nat}(hu:P.underlying t=some (.struct fs))(ho:o.op=.fieldAddr t x ix)(hf:fs[ix]?=some f)(hz:∀w,(sizeOf f.type).run P w=.ok (m+1) w)(hx:ev e x=some (.pointer (some ⟨b,j,none⟩)))(hj:j+f.offset=j'):eR P o e w (.pointer (some ⟨b,j',none⟩)) w:=fun _ a hA=>by
 have h1:(⟨b,j,none⟩:Addr).add f.offset=⟨b,j',none⟩:=by grind[Addr.add]
 simp[execOp,ho,Instr.fieldAt,hA.eval hx,run_underlying hu,hf,Instr.sureAddr,fieldPlace,hz,h1]
def RW:Value->Nat
 | .slice (some a) _ _=>a.block
 | _=>0
def QM(n k:Nat):Value->Nat
 | .slice (some a) _ _=>a.off+k*n
 | _=>0
theorem mB{α:Type}[aJ α]{S:cN}{s:Value}{l:List α}(h:aJ.rd S w [s] l):∃ad m,s=.slice ad l.length m:=by obtain⟨ad,m,h1,_⟩:=(show tL S w [s] l from h);grind
theorem aSH{α:Type}[aJ α]{S:cN}{s:Value}{l:List α}(h:aJ.rd S w [s] l){k:Nat}{x:α}(hk:l[k]?=some x):∃ec,bG w (RW s) (QM (aJ.n α) k s) ec/\aJ.rd S w ec x:=by
 obtain⟨ad,m,h1,h2,h3,h4⟩:=(show tL S w [s] l from h);obtain⟨hlt,hx⟩:=A4.1 hk;simp at h1;subst h1;rcases h4 with h4 | ⟨b,off,rfl,h4⟩
 ·grind
 ·obtain⟨ec,a1,_,a2⟩:=h4 k hlt;exact⟨ec,a1,hx ▸ a2⟩
theorem rB{α:Type}[aJ α]{S:cN}{s:Value}{l:List α}{el:TypeId}(h:aJ.rd S w [s] l)(hu:P.underlying t=some (.slice el))(ho:o.op=.call {callee:=.builtin .len,args:=#[x],argTypes:=#[t]})(hx:ev e x=some s):eR P o e w (.int .i64 (l.length:Int)) w:=by grind[mB,a1E]
def idx{α:Type}(l:List α)(i:Int):Option α:=if 0<=i then l[i.toNat]? else none
theorem mC{α:Type}{l:List α}{i:Int}{x:α}(h:idx l i=some x):0<=i/\i<l.length/\l[i.toNat]?=some x:=by grind[idx]
theorem XA{α:Type}[aJ α]{S:cN}{s:Value}{l:List α}{el m:Nat}{q:α}(h:aJ.rd S w [s] l)(_hn:aJ.n α=m)(hq:idx l i=some q)(hu:P.underlying t=some (.slice el))(hz:∀w,(sizeOf el).run P w=.ok m w)(ho:o.op=.indexAddr t x y)(hx:ev e x=some s)(hy:ev e y=some (.int k i)):eR P o e w (.pointer (some ⟨RW s,QM m i.toNat s,none⟩)) w:=by
 obtain⟨h0,h1,h2⟩:=mC hq;obtain⟨ad,c,rfl⟩:=mB h;obtain⟨ad',c',e1,_,_,h4⟩:=(show tL S w [_] l from h);simp at e1;obtain⟨rfl,rfl⟩:=e1;rcases h4 with h4 | ⟨b,off,rfl,_⟩
 ·grind
 ·intro _ a hA;have h5:(⟨b,off,none⟩:Addr).add (i.toNat*m)=⟨b,off+i.toNat*m,none⟩:=by grind[Addr.add]
  simp[execOp,ho,Instr.indexAt,hA.eval hx,hA.eval hy,asIntOf,run_underlying hu,h0,h1,hz,h5,RW,QM]
theorem mP{b:Nat}(P:Program):∀(vs:List Value) (w:World) (j m:Nat),(∀v∈vs,v.oneCell'=true)->(∀q,m<=q->q<m+vs.length->(w.cell? ⟨b,j+q,none⟩).isSome=true/\w.frozen? ⟨b,j+q,none⟩=false) ->
  ∃w',(storeCells ⟨b,j,none⟩ vs m).run P w=.ok () w'/\eT (eS b (j+m) vs.length) w w'/\w'.heap.size=w.heap.size/\bG w' b (j+m) vs
 | [],w,j,m,_,_=>⟨w,rfl,eT.refl _ _,rfl,fun q v h=>by simp at h⟩
 | v :: vs, w, j, m, h1, h2 => by
  have hadd:(⟨b,j,none⟩:Addr).add m=⟨b,j+m,none⟩:=by grind[Addr.add]
  obtain⟨hs,hf⟩:=h2 m (kX _) (by simp);obtain⟨u,hu⟩:=aJC.1 hs;have hk1:eT (eS b (j+m) (v :: vs).length) w (w.setCell ⟨b,j+m,none⟩ v):=eT.setCell _ _ _ _ ⟨rfl,kX _,by simp⟩ rfl;obtain⟨w',hr,hk,hsz,hc⟩:=mP P vs (w.setCell ⟨b,j+m,none⟩ v) j (m+1) (fun v h=>h1 v (AE _ h)) (fun q a1 a2=>by
   obtain⟨b1,b2⟩:=h2 q (by omega) (by simp;omega);exact⟨hk1.stay _ _ b1,by simp_all⟩)
  refine⟨w',?_,hk1.trans hk fun b' o _ hh=>?_,by simp_all,?_⟩
  ·simp_all[run_store,storeCells]
  ·obtain⟨c1,c2,c3⟩:=hh;exact⟨c1,by omega,by simp;omega⟩
  ·intro q u' hq;cases q with
   | zero =>
    simp at hq;subst hq;have hlt:b<w.heap.size:=kK hs;rw[Z2,hk.cell b (j+m) (by simp_all) (fun hh=>by obtain⟨_,c2,_⟩:=hh;omega)];grind[World.cell?_setCell_same]
   | succ q =>
    have:=hc q u' (by grind);grind
def ZN(cs:List Value)(j:Nat):List Value->List Value
 | []=>cs
 | v :: vs=>ZN (cs.set j v) (j+1) vs
theorem O5:∀(vs cs:List Value) (j:Nat),(ZN cs j vs).length=cs.length
 | [],_,_=>rfl
 | v :: vs,cs,j=>by simp[ZN,O5 vs]
theorem aJG:∀(vs cs:List Value) (j q:Nat),j+vs.length<=cs.length->(ZN cs j vs)[q]?=if j<=q/\q<j+vs.length then vs[q - j]? else cs[q]?
 | [],cs,j,q,_=>by simp[ZN,aO]
 | v :: vs, cs, j, q, h => by simp only[ZN];rw[aJG vs (cs.set j v) (j+1) q (by grind)];grind
theorem aAX{b j m i:Nat}{cs vs:List Value}(hS:St c w L R)(hi:L[i]?=some (HK b cs))(ho:o.op=.store t x y)(hx:ev e x=some (.pointer (some ⟨b,j,none⟩)))(hy:ev e y=some v)(hvs:v.cells.toList=vs)(hz:∀w,(sizeOf t).run P w=.ok m w)(hm:vs.length=m)(hj:Nat.ble (j+m) cs.length=true)(h1:vs.all Value.oneCell'=true) :
  ∃w',a1A P o e w w'/\St c w' (L.set i (HK b (ZN cs j vs))) R:=by
 subst hm;have hj':j+vs.length<=cs.length:=M7 hj;have h1':∀v∈vs,v.oneCell'=true:=fun v hv=>by grind
 obtain⟨F,hF⟩:=hS.chunk i hi;obtain⟨hc,hfz,_⟩:=hF;obtain⟨w',hr,hk,hsz,hcell⟩:=mP (b:=b) P vs w j 0 h1' (fun q _ hq=>by
  refine⟨?_,hfz (j+q) ⟨rfl,by omega,by omega⟩⟩;have:=hc (j+q) cs[j+q] (l9 (by omega));grind)
 refine⟨w',fun _ a hA=>?_,hS.aB1 i hi fun F ⟨a1,a2,a3⟩=>⟨F,eS b (j+0) vs.length,hk,fun b' o' h=>(a3 b' o').2 ?_,⟨?_,?_,?_⟩,fun _ _ h=>.inl h⟩⟩
 ·have hsize:v.cells.size=vs.length:=by grind
  have hr':(storeCells ⟨b,j,none⟩ v.cells.toList).run P w=.ok () w':=by grind
  simp[execOp,ho,Instr.storeAt,Instr.sureAddr,hA.eval hx,hA.eval hy,storeVar,hz,hsize,hr']
 ·obtain⟨b1,b2,b3⟩:=h;exact⟨b1,by omega,by omega⟩
 ·intro q u hq;rw[aJG vs cs j q hj'] at hq;split at hq
  ·rename_i hin;have:=hcell (q - j) u hq;grind
  ·rename_i hin;have hlt:=(A4.1 hq).1;rw[hk.cell b (0+q) (World.block_lt_of_cell? w _ (a1 q u hq)) (fun hh=>by obtain⟨_,b2,b3⟩:=hh;omega)];exact a1 q u hq
 ·intro o' ho';have ho2:eS b 0 cs.length b o':=by grind[O5]
  have hlt:o'<cs.length:=by obtain⟨_,_,b3⟩:=ho2;omega
  have hcell2:=a1 o' cs[o'] (l9 hlt);rw[VJ] at hcell2;exact(hk.yZ b o' (World.block_lt_of_cell? w _ hcell2)).trans (a2 o' ho2)
 grind[O5]
def evs(e:Env):List Operand->Option (List Value)
 | []=>some []
 | x :: r => match ev e x, evs e r with
  | some v,some vs=>some (v :: vs)
  | _,_=>none
theorem O6{e:Env}{a:Act}{n:Nat}(hA:mX n e a):∀{xs:List Operand} {vs:List Value},evs e xs=some vs->xs.map a.eval=vs
 | [],vs,h=>by grind[evs]
 | x :: r, vs, h => by
  simp only[evs] at h;split at h
  ·rename_i v vs' h1 h2;simp at h;subst h;simp[hA.eval h1,O6 hA h2]
  ·cases h
theorem O7{f:FuncId}{xs:List Operand}{ts:Array TypeId}{vs:List Value}(hcall:∀args w,(callFunc f args).run P w=.ok (.enter f args) w)(ho:o.op=.call {callee:=.value (.func f),args:=xs.toArray,argTypes:=ts})(hv:evs e xs=some vs):a1B P o e w f vs.toArray:=fun _ a hA=>by grind[O6,execOp,resolve,Act.eval,Deferred.ofValue,invoke]
theorem aSI{f:FuncId}{xs:List Operand}{ts:Array TypeId}{vs cap:List Value}(hcall:∀args w,(callFunc f args).run P w=.ok (.enter f args) w)(ho:o.op=.call {callee:=.value x,args:=xs.toArray,argTypes:=ts})(hx:ev e x=some (.func (.func f) #[] cap.toArray))(hv:evs e xs=some vs):a1B P o e w f (vs++cap).toArray:=fun _ a hA=>by simp[execOp,ho,resolve,hA.eval hx,Deferred.ofValue,invoke,hcall,O6 hA hv]
def XB(tmps:Array Value):ResultVar->Sem Value
 | .tmp t=>pure (tmps.getD t undef)
 | .cell p t=>do loadVar t (<-asAddr (tmps.getD p undef))
def a1F(P:Program)(e:Env)(w:World)(r:ResultVar)(v:Value):Prop:=∀n a,mX n e a->(XB a.tmps r).run P w=.ok v w
theorem aII{s:Tmp}(h:lk e s=some v):a1F P e w (.tmp s) v:=fun _ a hA=>by have:=hA.get s v h;simp_all[XB]
def Fin(P:Program)(fn:Func)(K:Value->World->Prop)(a:Act)(w:World):Prop:=a.defers=[]/\∃v,(results fn a.tmps).run P w=.ok v w/\K v w
theorem aJI{fn:Func}{rs:List ResultVar}(hf:fn.results=rs.toArray)(tmps:Array Value):results fn tmps=(do let vs <-rs.toArray.mapM (XB tmps);pure (if h:vs.size=1 then vs[0] else .tuple vs)):=by unfold results;rw[hf];rfl
theorem a6R{fn:Func}{K:Value->World->Prop}{r:ResultVar}(hf:fn.results=#[r])(hA:mX n e a')(hr:a1F P e w r v)(hK:K v w):Fin P fn K a' w:=by refine⟨hA.d,v,?_,hK⟩;rw[aJI (rs:=[r]) hf];simp[hr n a' hA]
theorem a1G{f:FuncId}{fn:Func}{cd:Code}{args:List Value}{m:Nat}{K:Value->World->Prop}(hf:P.funcs[f]?=some fn)(hb:fn.body=some cd)(hm:fn.ntmps=m)(hl:Nat.ble args.length m=true)
  (h:∀a,mX m (aP3 0 args) a->CW P cd (fun _ _=>False) (fun _ _ _=>False) (Fin P fn K) a w):Calls P f args.toArray w (Ret K):=by
 refine calls_of_wp hf hb ?_;subst hm;refine wp_mono (h _ (a9B args fn.ntmps (M7 hl))) fun ex a w q=>?_;cases ex with
 | ret=>obtain⟨h1,v,h2,h3⟩:=q;exact⟨h1,v,h2,v,rfl,h3⟩
 | _=>exact q.elim
theorem D1{f:FuncId}{fn:Func}{cd:Code}{args:List Value}{m:Nat}{K:Value->World->Prop}(hf:P.funcs[f]?=some fn)(hb:fn.body=some cd)(hm:fn.ntmps=m)(hl:Nat.ble args.length m=true)
  (h:∀a,mX m (aP3 0 args) a->CW P cd (Fin P fn K) (fun _ _ _=>False) (Fin P fn K) a w):Calls P f args.toArray w (Ret K):=by
 refine calls_of_wp hf hb ?_;subst hm;refine wp_mono (h _ (a9B args fn.ntmps (M7 hl))) fun ex a w q=>?_;cases ex with
 | ret=>obtain⟨h1,v,h2,h3⟩:=q;exact⟨h1,v,h2,v,rfl,h3⟩
 | normal=>obtain⟨h1,v,h2,h3⟩:=q;exact⟨h1,v,h2,v,rfl,h3⟩
 | _=>exact q.elim
end
end Go.Gv
end
noncomputable section
namespace Go.Gv
theorem wF{α β:Type}{o:Option α}{f:α->Option β}{r:Option β}{q:β}(h:o.bind f=r)(hr:r=some q:=by rfl):∃x,o=some x/\f x=r:=by
 subst hr;cases o with
 | none=>simp at h
 | some x=>grind
theorem R5{p:Prop}[Decidable p]{α:Type}{a b r:α}(hp:p)(h:(if p then a else b)=r):a=r:=by grind
theorem R6{t:Bool}{α:Type}{a b r:α}(hp:t=false)(h:(if t=true then a else b)=r):b=r:=by grind
def need(p:Prop)[Decidable p]{α:Type}(k:Option α):Option α:=if p then k else none
theorem kG{p:Prop}[Decidable p]{α:Type}{k:Option α}{q:α}(h:need p k=some q):p/\k=some q:=by grind[need]
theorem HX{P:Program}{x:Code}{N:Act->World->Prop}{X:Nat->Act->World->Prop}{T:Act->World->Prop}{a:Act}{w:World}(J:Act->World->Prop)(h1:CW P x J X T a w)(h2:∀a w,J a w->N a w):CW P x N X T a w:=h1.mono h2 (fun _ _ _ h=>h) (fun _ _ h=>h)
theorem M8{P:Program}{ops:Array Oper}{Q:Exit->Act->World->Prop}{rest:List Oper}{n s:Nat}{e:Env}{w:World}{b:Bool}(_hv:lk e s=some (.bool b))(ht:b=true->lX P ops Q rest n e w)(hf:b=false->lX P ops Q rest n e w):lX P ops Q rest n e w:=by grind
theorem a6S{ops:Array Oper}{o:Oper}{e:Env}{j s:Nat}{t:Bool}(hg:o.guard=some (j,t))(hj:(ops[j]?).bind (·.dst)=some s)(hv:lk e s=some undef):Want ops o e false:=fun _ a hA=>by
 have:yielded ops a.tmps j=none:=by have h1:=hA.get s _ hv;grind[yielded,undef]
 grind[Region.wanted]
def u8(z:Int):UInt8:=UInt8.ofNat (z % 256).toNat
theorem bAF(z:Int):((u8 z).toNat:Int)=IntKind.u8.wrap z:=by unfold u8;simp[IntKind.wrap,IntKind.bits,IntKind.signed];omega
noncomputable section
variable {P:Program} {o:Oper} {e:Env} {w w':World} {c:Ctx} {L:List Chunk} {R:List Fact} {x:Operand} {v:Value} {k:IntKind} {i:Int} {t:TypeId}
theorem a1H{s:TypeId}{ds:TypeDesc}(hs:P.underlying s=some ds)(ht:P.underlying t=some (.int .u8))(ho:o.op=.convert s t x)(hx:ev e x=some (.int k i)):eR P o e w (.int .u8 ((u8 i).toNat:Int)) w:=by grind[bAF,aP5]
theorem a1I{s:TypeId}{ds:TypeDesc}{b:UInt8}(hs:P.underlying s=some ds)(ht:P.underlying t=some (.int .i64))(ho:o.op=.convert s t x)(hx:ev e x=some (.int .u8 (b.toNat:Int))):eR P o e w (.int .i64 (b.toNat:Int)) w:=by have h:=aP5 (w:=w) hs ht ho hx;have hb:=b.toNat_lt;grind[IntKind.wrap,IntKind.bits]
theorem a6T{fn:Fn}{fs cs:Array Value}(ho:o.op=.nilCheck x)(hm:∀n,fn≠.method n)(hx:ev e x=some (.func fn fs cs)):eR P o e w (.func fn fs cs) w:=fun _ a hA=>by cases fn<;>simp_all[execOp,hA.eval hx]
theorem a1J{b j:Nat}{v:Value}(h:bG w b j [v]):w.cell? ⟨b,j,none⟩=some v:=by simpa using h 0 v rfl
theorem bG.sub{b j m:Nat}{cs cs':List Value}(h:bG w b j cs)(k:Nat)(hj:(cs.drop k).take cs'.length=cs')(hm:j+k=m):bG w b m cs':=by subst hm;intro q u hq;have hlt:=(A4.1 hq).1;rw[<-hj] at hq;rw[aFZ,aL (by omega),List.getElem?_drop] at hq;have:=h (k+q) u hq;grind
theorem jD{α:Type}[aJ α]{S:cN}{cs:List Value}{d:List α}(h:aJ.rd S w cs d):∃v,cs=[v]:=by obtain⟨a,c,h,_⟩:=(show tL S w cs d from h);grind
theorem a1K{α:Type}[aJ α]{S:cN}:aJ.rd S w [.slice none 0 0] ([]:List α):=⟨none,0,rfl,kX _,lL _,.inl rfl⟩
theorem bAG{S:cN}{s:Value}{l:List Int}{i:Nat}{x:Int}(h:aJ.rd S w [s] l)(hi:l[i]?=some x):bG w (RW s) (QM 1 i s) [.int .i64 x]:=by
 obtain⟨ec,h1,h2⟩:=aSH h hi;have h2:ec=[_]:=h2
 (simp_all;omega)
theorem St.a1L(h:St c w L R){f:Fact}{j:Nat}(hj:R[j]?=some f):∃S,f.P S w/\∀Gs:List Fact,(∀g∈Gs,g.P S w)->St c w L (R++Gs):=by obtain⟨F,S,a1,a2,a3,a4,a5,a6⟩:=h.sep;refine⟨S,a6 f (A6 hj),fun Gs hG=>⟨h.keep,⟨F,S,a1,a2,a3,a4,a5,fun g hg=>?_⟩,h.apart⟩⟩;grind
theorem a9C{f:Fact}(h:f.P (R1 w) w)(hk:eT F0 w w'):f.P (R1 w') w':=
 f.mono (f.agree h fun b o hb=>hk.cell b o hb fun h=>h) fun _ _ hb=>R0 hb hk.size
def pick(L:List Chunk):List Nat->List Chunk
 | []=>[]
 | i :: r=>(L[i]?).getD K9 :: pick L r
def dQ:List Nat->Bool
 | []=>true
 | i :: r=>(r.all fun j=>!Nat.beq i j) && dQ r
theorem aJJ{L:List Chunk}{i:Nat}:∀{is:List Nat},(is.all fun j=>!Nat.beq i j)=true->pick (L.set i K9) is=pick L is
 | [],_=>rfl
 | j :: r, h => by
  simp only[aM5,C8,Bool.not_eq_true'] at h;have hne:i≠j:=fun e=>by simp_all
  simp only[pick,aJJ h.2,List.getElem?_set_ne hne]
theorem Sep.pick{w:World}:∀{is:List Nat} {L:List Chunk} {F:cN},dQ is=true->Sep w L F->∃F1 F2,Sep w (pick L is) F1/\F1.HJ F2/\∀b o,F b o↔F1 b o\/F2 b o
 | [],L,F,_,_=>⟨F0,F,fun _ _ h=>h,fun _ _ h _=>h,fun b o=>by simp[F0]⟩
 | i :: r, L, F, ha, h => by
  simp only[dQ,C8] at ha;have h':Sep w ((L[i]?).getD K9 :: L.set i K9) F:=by
   cases hi:L[i]? with
   | some ch=>grind[Sep.take]
   | none =>
    rw[List.set_eq_of_length_le (List.getElem?_eq_none_iff.1 hi)];exact⟨F0,F,fun _ _ h=>h,h,fun _ _ h _=>h,fun b o=>by simp[F0]⟩
  obtain⟨F1,F2,h1,h2,hd,hF⟩:=h';obtain⟨G1,G2,g1,gd,hG⟩:=Sep.pick ha.2 h2;rw[aJJ ha.1] at g1;exact⟨fun b o=>F1 b o\/G1 b o,G2,⟨F1,G1,h1,g1,fun b o h g=>hd b o h ((hG b o).2 (.inl g)),fun _ _=>Iff.rfl⟩,
   fun b o h g=>h.elim (fun h=>hd b o h ((hG b o).2 (.inr g))) (fun h=>gd b o h g),fun b o=>by grind⟩
theorem St.R7(h:St c w L R)(is:List Nat)(ha:dQ is=true):St c w (pick L is) R:=by obtain⟨F,S,a1,a2,a3,a4,a5,a6⟩:=h.sep;obtain⟨F1,F2,h1,hd,hF⟩:=Sep.pick ha a1;exact⟨h.keep,⟨F1,S,h1,fun b o hf=>a2 b o ((hF b o).2 (.inl hf)),fun b o hf=>a3 b o ((hF b o).2 (.inl hf)),a4,a5,a6⟩,h.apart⟩
def bEW:Fact:=⟨fun _ _=>True,fun _ _=>trivial,fun _ _=>trivial⟩
def a9D(R:List Fact):List Nat->List Fact
 | []=>[]
 | i :: r=>(R[i]?).getD bEW :: a9D R r
theorem St.yX(h:St c w L R)(is:List Nat)(_h:true=true):St c w L (a9D R is):=by
 obtain⟨F,S,a1,a2,a3,a4,a5,a6⟩:=h.sep;refine⟨h.keep,⟨F,S,a1,a2,a3,a4,a5,?_⟩,h.apart⟩;induction is with
 | nil=>intro f hf;cases hf
 | cons i r ih =>
  intro f hf;rcases mA.1 hf with hf | hf
  ·subst hf;cases hi:R[i]? with
   | some g=>grind
   | none=>trivial
  grind
theorem a1M{z:Value}{fs:Array Field}{places:Array (Nat×Nat)}{ps:List (Nat×Operand)}{vs:List Value}{cells:Array Value}(ho:o.op=.build t ps.toArray)(hz:∀w,(zeroValue t).run P w=.ok z w)(hu:P.underlying t=some (.struct fs))
  (hp:∀w,(fs.mapM fun f=>(do pure (f.offset,<-sizeOf f.type):Sem (Nat×Nat))).run P w=.ok places w) (hv:evs e (ps.map (·.2))=some vs) (hc:Instr.fill (places[·]?) z.cells ((ps.map (·.1)).zip vs)=some cells):eR P o e w (.agg cells) w:=fun _ a hA=>by
 have h1:ps.map (fun p=>(p.1,a.eval p.2))=(ps.map (·.1)).zip vs:=by rw[<-O6 hA hv];grind
 simp[execOp,ho,Instr.build,hz,run_underlying hu];simp_all
end
theorem aXE{P:Program}{w:World}(d:Nat)(xs ys:Array Value):(Op.eqFields d xs ys []).run P w=.ok true w:=by simp[Op.eqFields]
theorem wZ{P:Program}{w:World}(d:Nat)(xs ys:Array Value)(f:Field)(fs:List Field){p q:Value}{b b':Bool}(hn:(f.name == "_")=false)(hx:(part f.type xs f.offset).run P w=.ok p w)(hy:(part f.type ys f.offset).run P w=.ok q w)(he:(Op.equalIn d f.type p q).run P w=.ok b w)(hr:(Op.eqFields d xs ys fs).run P w=.ok b' w) :
  (Op.eqFields d xs ys (f :: fs)).run P w=.ok (b && b') w:=by
 simp only[beq_eq_false_iff_ne,ne_eq] at hn;cases b<;>simp[Op.eqFields,hn,hx,hy,he,hr]
theorem AF{P:Program}{w:World}{t:TypeId}{cs:Array Value}{j:Nat}{v:Value}(ha:∀w,(isAgg t).run P w=.ok false w)(hv:cs[j]?=some v):(part t cs j).run P w=.ok v w:=by simp_all[part]
theorem a6U{P:Program}{o:Oper}{e:Env}{w:World}{x y:Operand}{t z':TypeId}{xs ys:Array Value}{fs:Array Field}{b:Bool}(hg:P.eqGuardType P.depth t=false)(hst:P.stoodInHeld t=false)(hu:P.underlying t=some (.struct fs))(hb:∀w,(Op.eqFields 9999 xs ys (match P.underlying t with | some (.struct fs)=>fs | _=>#[]).toList).run P w=.ok b w)(ho:o.op=.binOp .neq t x y z')(hx:ev e x=some (.agg xs))(hy:ev e y=some (.agg ys)):eR P o e w (.bool (!b)) w:=fun _ a hA=>by
 have hf:P.fieldsOf t=fs:=by grind[Program.fieldsOf]
 rw[hu] at hb;have h1:binOp .neq t (.agg xs) (.agg ys)=(do pure (.bool (!(<-Op.equal t (.agg xs) (.agg ys))))):=rfl;simp[execOp,ho,hA.eval hx,hA.eval hy,run_eqGuard_agg _ _ _ _ _ _ _ hg,h1,Op.equal,Op.maxDepth,run_equalIn_struct _ _ _ _ _ (by grind) hst,hf,hb]
theorem T4{P:Program}{w:World}{d:Nat}{t:TypeId}{k':IntKind}{k:IntKind}{a b:Int}(h:P.underlying t=some (.int k')):(Op.equalIn (d+1) t (.int k a) (.int k b)).run P w=.ok (a == b) w:=run_equalIn_int w d t k k' a b h
theorem aXF{P:Program}{w:World}{d:Nat}{t:TypeId}{a b:Bool}(h:P.underlying t=some .bool):(Op.equalIn (d+1) t (.bool a) (.bool b)).run P w=.ok (a == b) w:=run_equalIn_bool' w d t a b h
def a6V(P:Program)(ops:Array Oper)(Q:Exit->Act->World->Prop)(S:World->Prop)(fuel:Nat)(tC:Array Bool)(n:Nat)(e:Env)(w:World):Prop:=∀a,mX n e a->wpAnyH P .any ops Q S fuel tC a w
abbrev a1N(c:Ctx)(L:List Chunk)(R:List Fact):World->Prop:=fun w=>∃L',St c w (L++L') R
noncomputable section
variable {P:Program} {ops:Array Oper} {N:Act->World->Prop} {X:Nat->Act->World->Prop} {T:Act->World->Prop} {S:World->Prop} {fuel n d i:Nat} {tC:Array Bool} {e:Env} {w w':World} {o:Oper} {v:Value}
theorem bCQ(i:Nat)(hs:Region.noSelect ops=true)(hi:ops[i]?=some o)(hf:Region.free .any ops tC i=true)(hr:(Region.ready .any ops tC).contains i=true)(hS:S w)(hv:∀w',S w'->eR P o e w' v w')(hw:Want ops o e true)(hd:o.dst=some d)(hn:Nat.blt d n=true)
  (k:a6V P ops (mkQ N X T) S fuel (tC.setIfInBounds i true) n ((d,v) :: e) w):a6V P ops (mkQ N X T) S (fuel+1) tC n e w:=fun a hA=>by
 refine wpAnyH_take (v:=v) hi hs hf hr (fun _ _ _ h=>h.elim) (.inl ⟨hw n a hA,fun w' hS'=>hv w' hS' n a hA⟩) hS ?_;rw[hd];exact k _ (hA.put (by simp_all) v)
end
end Go.Gv
end
noncomputable section
namespace Go.Gv
class Flat (α:Type) [aJ α]:Prop where
 own_of:∀{S:cN} {w w':World} {cs:List Value} {d:α},aJ.rd S w cs d->aJ.own w' cs d F0
 no:∀{w:World} {cs:List Value} {d:α} {F:cN},aJ.own w cs d F->∀b o,¬F b o
instance:Flat Int:=⟨fun h=>⟨h,fun _ _ h=>h⟩,fun h=>h.2⟩
instance:Flat Bool:=⟨fun h=>⟨h,fun _ _ h=>h⟩,fun h=>h.2⟩
instance:Flat UInt8:=⟨fun h=>⟨h,fun _ _ h=>h⟩,fun h=>h.2⟩
instance:Flat a94:=⟨fun h=>⟨h,fun _ _ h=>h⟩,fun h=>h.2⟩
instance {α β:Type} [aJ α] [aJ β] [Flat α] [Flat β]:Flat (α×β):=⟨by
 rintro S w w' cs d ⟨c1,c2,rfl,h1,h2⟩;exact⟨c1,c2,F0,F0,rfl,Flat.own_of h1,Flat.own_of h2,fun _ _ h _=>h,fun _ _=>by simp[F0]⟩,by
 rintro w cs d F ⟨c1,c2,F1,F2,_,h1,h2,_,hF⟩ b o h;exact((hF b o).1 h).elim (Flat.no h1 b o) (Flat.no h2 b o)⟩
theorem a1O{α:Type}[aJ α][Flat α]{w w':World}{cs:List Value}{d:α}{F:cN}(h:aJ.own w cs d F):aJ.own w' cs d F0:=Flat.own_of (aJ.own_rd h)
def KH(cc:List Value)(n i:Nat):List Value:=(cc.drop (i*n)).take n
theorem tM{cc:List Value}{n i j:Nat}(hj:j<n):(KH cc n i)[j]?=cc[i*n+j]?:=by simp_all[KH]
theorem aJK{cc:List Value}{n i len:Nat}(hc:cc.length=len*n)(hi:i<len):(KH cc n i).length=n:=by unfold KH;rw[ZZ,aBZ,hc];have:(i+1)*n<=len*n:=uQ n (by omega);grind
theorem aJL{w:World}{b off:Nat}:∀(k:Nat),(∀j,j<k->(w.cell? ⟨b,off+j,none⟩).isSome=true)->∃cc:List Value,cc.length=k/\bG w b off cc
 | 0,_=>⟨[],rfl,fun j v h=>by simp at h⟩
 | k + 1, h => by
  obtain⟨cc,h1,h2⟩:=aJL k fun j hj=>h j (by omega);obtain⟨v,hv⟩:=aJC.1 (h k (by omega));refine⟨cc ++ [v],by simp[h1],fun j u hj=>?_⟩;rw[aFY] at hj;split at hj
  ·exact h2 j u hj
  grind
theorem a1P{w:World}{b off n i:Nat}{cc ec:List Value}(h:bG w b off cc)(h2:bG w b (off+i*n) ec)(he:ec.length=n)(hc:(i+1)*n<=cc.length):KH cc n i=ec:=by
 rw[o9] at hc;apply aBY;intro j;by_cases hj:j<n
 ·rw[tM hj];have h3:=h (i*n+j) cc[i*n+j] (l9 (by omega));have h4:=h2 j ec[j] (l9 (by omega));grind
 grind[KH]
theorem M9{α:Type}[aJ α]{S:cN}{w:World}{s:Value}{l:List α}(h:aJ.rd S w [s] l):∃ad c cc,s=.slice ad l.length c/\cc.length=l.length*aJ.n α/\(l=[]\/∃b off,ad=some ⟨b,off,none⟩/\bG w b off cc)/\∀i x,l[i]?=some x->aJ.rd S w (KH cc (aJ.n α) i) x:=by
 obtain⟨ad,c,h1,h2,h3,h4⟩:=(show tL S w [s] l from h);simp at h1;subst h1;rcases h4 with h4 | ⟨b,off,rfl,h4⟩
 ·simp_all
 ·have hs:∀j,j<l.length*aJ.n α->(w.cell? ⟨b,off+j,none⟩).isSome=true:=fun j hj=>by
   have hn:0<aJ.n α:=by grind
   have hi:j / aJ.n α<l.length:=(Nat.div_lt_iff_lt_mul hn).2 hj;obtain⟨ec,e1,_,e2⟩:=h4 _ hi;have hm:=Nat.mod_lt j hn;have hl:=aJ.mB e2;have:=e1 (j % aJ.n α) ec[j % aJ.n α] (l9 (by omega));grind[Nat.div_add_mod]
  obtain⟨cc,c1,c2⟩:=aJL _ hs;grind[a1P,aJ.mB,uQ]
noncomputable section
variable {P:Program} {o:Oper} {e:Env} {w w':World} {c:Ctx} {L:List Chunk} {R:List Fact} {x y:Operand} {t el:TypeId}
theorem aIJ{α:Type}[aJ α]{S:cN}{cc:List Value}{l:List α}(hc:cc.length=l.length*aJ.n α)(h:∀i x,l[i]?=some x->aJ.rd S w (KH cc (aJ.n α) i) x):∀v∈cc,v.oneCell'=true:=by
 intro v hv;obtain⟨j,hj,rfl⟩:=aJA hv;have hn:0<aJ.n α:=by grind
 have hi:j / aJ.n α<l.length:=(Nat.div_lt_iff_lt_mul hn).2 (by omega);have hm:=Nat.mod_lt j hn;refine aJ.rd_one (h _ _ (l9 hi)) _ (A6 (i:=j % aJ.n α) ?_);grind[tM,Nat.div_add_mod]
theorem aXG{α:Type}[aJ α][Flat α]{S:cN}{w w0:World}{b off cap:Nat}{cc:List Value}{l:List α}(hc:bG w b off cc)(hcl:cc.length=l.length*aJ.n α)(hr:∀i x,l[i]?=some x->aJ.rd S w0 (KH cc (aJ.n α) i) x)(hlen:l.length<=cap)(hmax:cap<=maxLen)
  (hrow:∀o,eS b off (cap*aJ.n α) b o->(w.cell? ⟨b,o,none⟩).isSome=true/\w.frozen? ⟨b,o,none⟩=false):aJ.own w [.slice (some ⟨b,off,none⟩) l.length cap] l (eS b off (cap*aJ.n α)):=by
 refine⟨_,cap,rfl,hlen,hmax,.inr ⟨b,off,fun _=>F0,rfl,hrow,fun i hi=>⟨KH cc (aJ.n α) i,?_,Flat.own_of (hr i l[i] (l9 hi))⟩,fun _ _ _ _ _ _ _ h _=>h,fun _ _ _ _ h _=>h,fun b' o=>by simp[F0]⟩⟩;intro j v hj;have hlt:=(A4.1 hj).1;rw[aJK hcl hi] at hlt;rw[tM hlt] at hj;have:=hc _ v hj;grind
theorem St.bAH(h:St c w L R){α:Type}[aJ α]:St c w (L ++ [bL [.slice none 0 0] ([]:List α)]) R:=
 h.more (eT.refl _ _) ⟨F0,⟨none,0,rfl,kX _,lL _,.inl ⟨rfl,rfl,fun _ _ h=>h⟩⟩,fun _ _ h=>h.elim⟩
theorem aXH{α:Type}[aJ α][Flat α]{S:cN}(w0:World)(hS:St c w L R)(cells:List Value)(rest:List Value)(l:List α)(cap:Nat)(ty:TypeId)(hc:cells.length=l.length*aJ.n α)(hr:∀i x,l[i]?=some x->aJ.rd S w0 (KH cells (aJ.n α) i) x)(hcap:(cells++rest).length=cap*aJ.n α)(hlen:l.length<=cap)(hmax:cap<=maxLen) :
  St c (w.alloc (.cells (cells++rest).toArray ty)) (L ++ [bL [.slice (some ⟨w.heap.size,0,none⟩) l.length cap] l]) R:=by
 have hcell:∀j,(w.alloc (.cells (cells++rest).toArray ty)).cell? ⟨w.heap.size,j,none⟩=(cells++rest)[j]?:=fun j=>by simp
 refine hS.more (eT.alloc _ _ _) ⟨_,aXG (w0:=w0) (cc:=cells) (fun j v hj=>?_) hc hr hlen hmax (fun o' ho=>?_),fun b o' hb=>RZ hb.1.symm⟩
 ·grind
 ·obtain⟨_,_,h3⟩:=ho;simp_all
def T3(P:Program)(el:TypeId)(m:Nat)(z:Value):Prop:=∃ti,P.info? el=some ti/\ti.zero=some z/\ti.size=m/\ti.bytes<=65536
theorem rQ{el m b:Nat}{z:Value}(h:(P.info? el).map (fun i=>(i.zero,i.size,i.bytes))=some (some z,m,b))(hb:Nat.ble b 65536=true):T3 P el m z:=by
 cases hi:P.info? el with
 | none=>grind
 | some ti =>
  rw[hi] at h;simp at h;exact⟨ti,hi,h.1,h.2.1,by simp_all⟩
theorem a1Q{z:Value}{m k i:Nat}(hz:z.cells.size=m)(hi:i<k):KH (madeCells z.cells (k*m)).toList m i=z.cells.toList:=by
 apply aBY;intro j;by_cases hj:j<m
 ·rw[tM hj];have h1:i*m+j<k*m:=by have:(i+1)*m<=k*m:=uQ m (by omega);grind
  simp_all[Nat.mod_eq_of_lt,madeCells]
 grind[KH]
theorem HY{α:Type}[aJ α]{ad:Option Addr}{n k:Nat}{cc:List Value}{m:Nat}(hc:cc.length=n*m)(h:n=0\/∃b off,ad=some ⟨b,off,none⟩/\bG w b off cc):(Builtin.firstCells m n (.slice ad n k)).run P w=.ok cc.toArray w:=by
 rcases h with h | ⟨b,off,rfl,h⟩
 ·subst h;have:cc=[]:=AD (by omega);subst this;cases ad<;>simp[Builtin.firstCells,loadCells,loadCellsFrom]
 grind[rP,Builtin.firstCells]
theorem aOP{α:Type}[aJ α][Flat α]{s s2 z:Value}{l xs:List α}{m:Nat}(i:Nat)(hS:St c w L R)(hi:L[i]?=some (bL [s] l))(hsrc:aJ.rd (R1 w) w [s2] xs)(hn:aJ.n α=m)(hu:P.underlying t=some (.slice el))(hinf:T3 P el m z)(hzs:z.cells.size=m)
  (hb:l.length+xs.length<=1073741824) (ho:o.op=.call {callee:=.builtin .append,args:=#[x,y],argTypes:=#[t,t]}) (hx:ev e x=some s) (hy:ev e y=some s2) :
  ∃v w',eR P o e w v w'/\St c w' (L.set i (bL [v] (l++xs))) R:=by
 subst hn;obtain⟨ti,hti,hz,hsz,hby⟩:=hinf;obtain⟨ad2,c2,cc2,rfl,hl2,hc2,hr2⟩:=M9 hsrc;obtain⟨F,hF⟩:=hS.chunk i hi;have hF:aJ.own w [s] l F:=hF;obtain⟨ad,cap,cc,rfl,hl1,hc1,hr1⟩:=M9 (aJ.own_rd hF);obtain⟨ad',cap',he,hlc,hcm,hrest⟩:=(show JQ w [_] l F from hF);simp at he;obtain⟨rfl,rfl⟩:=he;have hone2:=aIJ hl2 hr2;have hsegs:∀j q,(l++xs)[j]?=some q->aJ.rd (fun b o=>True) w (KH (cc++cc2) (aJ.n α) j) q:=by
  intro j q hj;rw[aFY] at hj;split at hj
  ·rename_i hlt;have:KH (cc++cc2) (aJ.n α) j=KH cc (aJ.n α) j:=by
    have hle:(j+1)*aJ.n α<=l.length*aJ.n α:=uQ _ (by omega);rw[o9] at hle;apply aBY;intro p;by_cases hp:p<aJ.n α
    ·rw[tM hp,tM hp,aSC (by omega)]
    ·rw[List.getElem?_eq_none (by unfold KH;simp;omega),List.getElem?_eq_none (by unfold KH;simp;omega)]
   rw[this];exact aJ.rd_mono (hr1 j q hj) fun _ _ _=>trivial
  ·rename_i hge;have:KH (cc++cc2) (aJ.n α) j=KH cc2 (aJ.n α) (j - l.length):=by
    apply aBY;intro p;by_cases hp:p<aJ.n α
    ·have hj2:j*aJ.n α=l.length*aJ.n α+(j - l.length)*aJ.n α:=by rw[<-o9];grind
     rw[tM hp,tM hp,aOK (by omega)];congr 1;omega
    grind[KH]
   rw[this];exact aJ.rd_mono (hr2 _ q hj) fun _ _ _=>trivial
 have hlen:(cc++cc2).length=(l++xs).length*aJ.n α:=by grind
 have hsrc':xs.length=0\/∃b off,ad2=some ⟨b,off,none⟩/\bG w b off cc2:=hc2.imp (fun h=>by simp[h]) id;have hf2:=HY (P:=P) (α:=α) (k:=c2) hl2 hsrc';have hexec:∀(v:Value) (w':World),(Builtin.append_ #[t,t] o.type #[.slice ad l.length cap,.slice ad2 xs.length c2]).run P w=.ok v w'->eR P o e w v w':=by intro v w' h _ a hA;simp[execOp,ho,resolve,invoke,builtin,hA.eval hx,hA.eval hy,h]
 by_cases hroom:l.length+xs.length<=cap
 ·
  rcases hrest with ⟨rfl,rfl,_⟩ | ⟨b,off,Fs,rfl,hrow,hel,hd1,hd2,hFF⟩
  ·have hl0:l=[]:=AD (by omega);have hx0:xs=[]:=AD (by omega);subst hl0;subst hx0;refine⟨.slice none 0 0,w,hexec _ _ ?_,?_⟩
   ·have hf2:(Builtin.firstCells (aJ.n α) 0 (.slice ad2 0 c2)).run P w=.ok cc2.toArray w:=hf2;simp[Builtin.append_,run_underlying hu,sizeOf,typeInfo,hti,Builtin.lenOf,hsz,hf2]
   ·rw[EJ];refine hS.aB1 i hi fun F hF=>⟨F,F0,eT.refl _ _,fun _ _ h=>h.elim,hF,fun _ _ h=>.inl h⟩
  ·have hcc:bG w b off cc:=by
    rcases hc1 with h | ⟨b',off',h,hc⟩
    ·subst h;have:cc=[]:=AD (by grind);subst this;intro j v hj;simp at hj
    grind
   have hmul:(l.length+xs.length)*aJ.n α<=cap*aJ.n α:=uQ _ hroom;rw[o9] at hmul;obtain⟨w',hst,hk,hws,hcell⟩:=mP (b:=b) P cc2 w (off+l.length*aJ.n α) 0 hone2 (fun q _ hq=>hrow _ ⟨rfl,by omega,by omega⟩);refine⟨_,w',hexec _ _ (by
    have hadd:(⟨b,off,none⟩:Addr).add (l.length*aJ.n α)=⟨b,off+l.length*aJ.n α,none⟩:=by simp[Addr.add]
    simp[Builtin.append_,run_underlying hu,sizeOf,typeInfo,hti,Builtin.lenOf,hsz,hf2,hroom,hadd,hst];rfl),?_⟩
   refine hS.aB1 i hi fun F2 hF2=>?_;have hF2:JQ w [_] l F2:=hF2;obtain⟨_,_,he2,_,_,hr⟩:=hF2;simp at he2;obtain⟨rfl,rfl⟩:=he2;rcases hr with ⟨h,_,_⟩ | ⟨b',off',Fs',h,_,_,_,_,hFF2⟩
   ·cases h
   simp at h;obtain⟨rfl,rfl⟩:=h;refine⟨eS b off (cap*aJ.n α),_,hk,fun b' o' h=>(hFF2 b' o').2 (.inl ?_),?_,fun b' o' h=>.inl ((hFF2 b' o').2 (.inl h))⟩
   ·obtain⟨e1,e2,e3⟩:=h;exact⟨e1,by omega,by omega⟩
   ·have hcc':bG w' b off (cc++cc2):=by
     intro j v hj;rw[aFY] at hj;split at hj
     ·rename_i hlt;have hc:=hcc j v hj;rw[hk.cell b (off+j) (World.block_lt_of_cell? w _ hc) (fun hh=>by obtain⟨_,e2,_⟩:=hh;omega)];exact hc
     ·rename_i hge;have:=hcell _ v hj;rw[show off+l.length*aJ.n α+0+(j - cc.length)=off+j from by omega] at this;exact this
    have hll:l.length+xs.length=(l++xs).length:=by simp
    rw[hll];exact aXG hcc' hlen hsegs (by simp;omega) hcm (fun o' ho'=>⟨hk.stay b o' (hrow o' ho').1,(hk.yZ b o' (kK (hrow o' ho').1)).trans (hrow o' ho').2⟩)
 ·
  have hbytes:(l.length+xs.length)*ti.bytes<=140737488355328:=by have:(l.length+xs.length)*ti.bytes<=1073741824*65536:=Nat.mul_le_mul hb hby;omega
  have hfit:=growslice_fits (need:=l.length+xs.length) (old:=cap) (bytes:=ti.bytes) (by omega) hbytes;obtain⟨hge,hle⟩:l.length+xs.length<=grownCap w (l.length+xs.length) cap el/\grownCap w (l.length+xs.length) cap el<=maxLen:=⟨grownCap_ge _ _ _ _,grownCap_le_maxLen _ _ _ _ (by grind[maxLen])⟩;have hrun:(Builtin.append_ #[t,t] o.type #[.slice ad l.length cap,.slice ad2 xs.length c2]).run P w=.ok (.slice (some ⟨w.heap.size,0,none⟩) (l.length+xs.length) (grownCap w (l.length+xs.length) cap el)) (w.drew.alloc (.cells (cc.toArray++cc2.toArray++Builtin.zeroCells z.cells (grownCap w (l.length+xs.length) cap el - (l.length+xs.length))) el)):=by
   have hn1:¬(l.length+xs.length<=cap):=hroom;have h63':¬(9223372036854775807<((l.length:Int)+(xs.length:Int))):=by omega
   have h48':¬(281474976710656<Builtin.nextslicecap (l.length+xs.length) cap*ti.bytes):=by omega
   have hf1:(Builtin.firstCells (aJ.n α) l.length (.slice ad l.length cap)).run P w.drew=.ok cc.toArray w.drew:=HY (α:=α) hl1 (hc1.imp (fun h=>by simp[h]) id);have hf2:(Builtin.firstCells (aJ.n α) xs.length (.slice ad2 xs.length c2)).run P w.drew=.ok cc2.toArray w.drew:=HY (α:=α) hl2 hsrc';simp[Builtin.append_,run_underlying hu,sizeOf,typeInfo,zeroValue,hti,hz,hsz,Builtin.lenOf,hn1,h63',h48',Question.forced,hf1,hf2,newRow,grownCap];grind
  refine⟨_,_,hexec _ _ hrun,?_⟩;refine hS.aB1 i hi fun F2 hF2=>?_;have hz2:(Builtin.zeroCells z.cells (grownCap w (l.length+xs.length) cap el - (l.length+xs.length))).size=(grownCap w (l.length+xs.length) cap el - (l.length+xs.length))*aJ.n α:=by grind[size_zeroCells]
  have htot:((cc++cc2)++(Builtin.zeroCells z.cells (grownCap w (l.length+xs.length) cap el - (l.length+xs.length))).toList).length=grownCap w (l.length+xs.length) cap el*aJ.n α:=by
   have hz3:(Builtin.zeroCells z.cells (grownCap w (l.length+xs.length) cap el - (l.length+xs.length))).toList.length=(grownCap w (l.length+xs.length) cap el - (l.length+xs.length))*aJ.n α:=by omega
   rw[JO,hlen,hz3,JO,<-o9];grind
  have hst0:St (cL w) w [] []:=St.enter (by simp);have hnew:=aXH (S:=fun b o=>True) w (hst0.same (eT.drew F0 w)) (cc++cc2) (Builtin.zeroCells z.cells (grownCap w (l.length+xs.length) cap el - (l.length+xs.length))).toList (l++xs) (grownCap w (l.length+xs.length) cap el) el hlen hsegs htot (by simp;omega) hle;obtain⟨Fn,hFn⟩:=hnew.chunk 0 rfl;obtain⟨Ft,St',⟨Fa,Fb,ha,_,_,hFab⟩,_,hFt,_⟩:=hnew.sep;have heq:((cc++cc2)++(Builtin.zeroCells z.cells (grownCap w (l.length+xs.length) cap el - (l.length+xs.length))).toList).toArray=cc.toArray++cc2.toArray++Builtin.zeroCells z.cells (grownCap w (l.length+xs.length) cap el - (l.length+xs.length)):=by simp
  rw[heq] at ha;have hll:l.length+xs.length=(l++xs).length:=by simp
  refine⟨Fa,F0,(eT.drew F0 w).trans (eT.alloc F0 _ _) (fun _ _ _ h=>h),fun _ _ h=>h.elim,?_,fun b' o' h=>.inr ?_⟩
  ·have ha:aJ.own _ _ (l++xs) Fa:=ha;have hsz2:w.drew.heap.size=w.heap.size:=rfl;grind
  ·rcases hFt b' o' ((hFab b' o').2 (.inl h)) with h | h
   ·exact h.elim
   ·exact h
theorem aJM{α:Type}[aJ α]{S:cN}{v:Value}{l:List α}(h:aJ.rd S w [v] l):v.oneCell'=true:=aJ.rd_one h v (by simp)
theorem bAI{v:Value}{l:List Value}(h:v.oneCell'=true)(hl:l.all Value.oneCell'=true):(v :: l).all Value.oneCell'=true:=by grind
theorem a1R{α:Type}[aJ α]{S:cN}{v:Value}{l:List α}(h:aJ.rd S w [v] l):v.cells.toList=[v]:=by obtain⟨a,c,h1,_⟩:=(show tL S w [v] l from h);simp at h1;subst h1;rfl
def aOQ{α:Type}[aJ α](m:Nat):List Value->List α->Prop
 | cs,[]=>cs=[]
 | cs,x :: r=>aJ.rd F0 default (cs.take m) x/\aOQ m (cs.drop m) r
theorem aOQ.get{α:Type}[aJ α]{m:Nat}(hn:aJ.n α=m):∀{l:List α} {cs:List Value},aOQ m cs l->cs.length=l.length*m/\∀i x,l[i]?=some x->aJ.rd F0 default (KH cs m i) x
 | [], cs, h => by have h:cs=[]:=h;grind
 | y :: r, cs, ⟨h1, h2⟩ => by
  obtain⟨h3,h4⟩:=aOQ.get hn h2;have h5:=aJ.mB h1;rw[ZZ,hn] at h5;rw[aBZ] at h3;refine⟨by simp[o9];omega,fun i x hx=>?_⟩;cases i with
  | zero=>grind[KH]
  | succ i =>
   grind[KH,List.drop_drop]
theorem aVA{α:Type}[aJ α][Flat α]{z:Value}{m len:Nat}{ps:List (Nat×Operand)}{vs cells:List Value}(l:List α)(hS:St c w L R)(hn:aJ.n α=m)(hu:P.underlying t=some (.slice el))(hinf:T3 P el m z)(hl:l.length=len)(hm:Nat.ble 1 m=true)(hsmall:Nat.ble (len*m) 16777216=true)(hrd:aOQ m cells l)
  (ho:o.op=.buildSlice t len ps.toArray) (hv:evs e (ps.map (·.2))=some vs) (hc:Instr.fill (fun i=>some (i*m,m)) ((Array.range (len*m)).map (fun i=>(if len*m=0 then #[] else z.cells)[i % (if len*m=0 then #[] else z.cells).size]!)) ((ps.map (·.1)).zip vs)=some cells.toArray) :
  ∃v w',eR P o e w v w'/\St c w' (L ++ [bL [v] l]) R:=by
 subst hl;obtain⟨ti,hi,hz,hsz,hby⟩:=hinf;obtain⟨h1,h2⟩:=hrd.get hn;have hsm:¬l.length*m > 2 ^ 24:=by simp_all
 have hlm:l.length<=16777216:=by have:=Nat.le_mul_of_pos_right l.length (M7 hm);omega
 have hlmax:l.length<=maxLen:=by grind[maxLen]
 have hnew:=aXH (S:=F0) default hS cells [] l l.length el (by grind) (by grind) (by grind) (kX _) hlmax;rw[EJ] at hnew;refine⟨_,_,fun _ a hA=>?_,hnew⟩;have hps:ps.map (fun p=>(p.1,a.eval p.2))=(ps.map (·.1)).zip vs:=by rw[<-O6 hA hv];grind
 by_cases h0:l.length*m=0
 ·simp only[h0,aP] at hc;simp[execOp,ho,Instr.buildSlice,run_underlying hu,sizeOf,typeInfo,hi,hsz,h0,hps];simp_all[newRow]
 ·simp only[h0,aS] at hc;simp[execOp,ho,Instr.buildSlice,run_underlying hu,sizeOf,typeInfo,zeroValue,hi,hz,hsz,h0,hsm,hps];simp_all[newRow]
end
end Go.Gv
end
noncomputable section
namespace Go.Gv
def dF{α:Type}[aJ α](w:World):List Value->List α->cN->Prop
 | cs,[],F=>cs=[]/\∀b o,¬F b o
 | cs,x :: r,F=>∃c1 c2 F1 F2,cs=c1++c2/\aJ.own w c1 x F1/\dF w c2 r F2/\cN.HJ F1 F2/\∀b o,F b o↔F1 b o\/F2 b o
theorem dF.congr{α:Type}[aJ α]{w:World}{cs:List Value}{l:List α}{F G:cN}(h:dF w cs l F)(hFG:∀b o,F b o↔G b o):dF w cs l G:=by
 have:F=G:=by grind
 grind
theorem dF.length{α:Type}[aJ α]{w:World}:∀{l:List α} {cs:List Value} {F:cN},dF w cs l F->cs.length=l.length*aJ.n α
 | [],cs,F,h=>by simp[h.1]
 | x :: r, cs, F, ⟨c1, c2, F1, F2, e, h1, h2, _, _⟩ => by have a:=aJ.mB (aJ.own_rd h1);have b:=dF.length h2;grind
theorem dF.keep{α:Type}[aJ α]{w w':World}{G:cN}(hk:eT G w w'):∀{l:List α} {cs:List Value} {F:cN},dF w cs l F->F.HJ G->dF w' cs l F
 | [],cs,F,h,_=>h
 | x :: r, cs, F, ⟨c1, c2, F1, F2, e, h1, h2, hd, hF⟩, hg =>
  ⟨c1,c2,F1,F2,e,aJ.own_keep h1 hk fun b o h g=>hg b o ((hF b o).2 (.inl h)) g,dF.keep hk h2 fun b o h g=>hg b o ((hF b o).2 (.inr h)) g,hd,hF⟩
theorem dF.lt{α:Type}[aJ α]{w:World}:∀{l:List α} {cs:List Value} {F:cN} {b o:Nat},dF w cs l F->F b o->b<w.heap.size
 | [],_,_,b,o,h,hf=>(h.2 b o hf).elim
 | x :: r, cs, F, b, o, ⟨c1, c2, F1, F2, e, h1, h2, hd, hF⟩, hf => by
  rcases(hF b o).1 hf with h | h
  ·exact aJ.own_lt h1 h
  ·exact dF.lt h2 h
theorem dF.app{α:Type}[aJ α]{w:World}:∀{l m:List α} {cs ds:List Value} {F G H:cN},dF w cs l F->dF w ds m G->F.HJ G->(∀b o,H b o↔F b o\/G b o)->dF w (cs++ds) (l++m) H
 | [], m, cs, ds, F, G, H, h, k, _, hH => by rw[h.1];exact dF.congr k fun b o=>by rw[hH];exact⟨.inr,fun q=>q.elim (fun q=>(h.2 b o q).elim) id⟩
 | x :: r, m, cs, ds, F, G, H, ⟨c1, c2, F1, F2, e, h1, h2, hd, hF⟩, k, hdj, hH => by
  subst e;refine⟨c1,c2++ds,F1,fun b o=>F2 b o\/G b o,by simp,h1,dF.app h2 k (fun b o p q=>hdj b o ((hF b o).2 (.inr p)) q) fun _ _=>Iff.rfl,?_,fun b o=>by grind⟩;rintro b o p (q | q)
  ·exact hd b o p q
  ·exact hdj b o ((hF b o).2 (.inl p)) q
theorem dF.split{α:Type}[aJ α]{w:World}:∀{l m:List α} {cs:List Value} {H:cN},dF w cs (l++m) H->∃c1 c2 F G,cs=c1++c2/\dF w c1 l F/\dF w c2 m G/\F.HJ G/\∀b o,H b o↔F b o\/G b o
 | [],m,cs,H,h=>⟨[],cs,F0,H,rfl,⟨rfl,fun _ _ h=>h⟩,h,fun _ _ h=>h.elim,fun b o=>by simp[F0]⟩
 | x :: r, m, cs, H, ⟨c1, c2, F1, F2, e, h1, h2, hd, hF⟩ => by
  obtain⟨d1,d2,G1,G2,e2,k1,k2,kd,kF⟩:=dF.split h2;subst e;subst e2;refine⟨c1++d1,d2,fun b o=>F1 b o\/G1 b o,G2,by simp,⟨c1,d1,F1,G1,rfl,h1,k1,fun b o p q=>hd b o p ((kF b o).2 (.inl q)),fun _ _=>Iff.rfl⟩,k2,?_,fun b o=>by grind⟩;rintro b o (p | p) q
  ·exact hd b o p ((kF b o).2 (.inr q))
  ·exact kd b o p q
theorem dF.one{α:Type}[aJ α]{w:World}{c:List Value}{x:α}{F:cN}:dF w c [x] F↔aJ.own w c x F:=by
 constructor
 ·rintro⟨c1,c2,F1,F2,e,h1,⟨h2,h3⟩,hd,hF⟩;subst e;subst h2;have:F=F1:=by grind
  grind
 ·intro h;exact⟨c,[],F,F0,by simp,h,⟨rfl,fun _ _ h=>h⟩,fun _ _ _ h=>h,fun b o=>by simp[F0]⟩
theorem dF.rd{α:Type}[aJ α]{w:World}:∀{l:List α} {cs:List Value} {F:cN},dF w cs l F->∀i x,l[i]?=some x->aJ.rd F w (KH cs (aJ.n α) i) x
 | [],cs,F,_,i,x,h=>by simp at h
 | y :: r, cs, F, ⟨c1, c2, F1, F2, e, h1, h2, hd, hF⟩, i, x, h => by
  have a:=aJ.mB (aJ.own_rd h1);subst e;cases i with
  | zero =>
   simp at h;subst h;have:KH (c1++c2) (aJ.n α) 0=c1:=by grind[KH]
   rw[this];exact aJ.rd_mono (aJ.own_rd h1) fun b o q=>(hF b o).2 (.inl q)
  | succ i =>
   have:KH (c1++c2) (aJ.n α) (i+1)=KH c2 (aJ.n α) i:=by grind[KH,o9,List.drop_drop,List.drop_left]
   rw[this];exact aJ.rd_mono (dF.rd h2 i x (by grind)) fun b o q=>(hF b o).2 (.inr q)
def Row(w:World)(b off n:Nat):Prop:=∀o,eS b off n b o->(w.cell? ⟨b,o,none⟩).isSome=true/\w.frozen? ⟨b,o,none⟩=false
theorem aXI{α:Type}[aJ α]{w:World}{b:Nat}:∀{l:List α} {off:Nat} {Fs:Nat->cN},(∀i (h:i<l.length),∃ec,bG w b (off+i*aJ.n α) ec/\aJ.own w ec l[i] (Fs i)) ->
  (∀i j,i<l.length->j<l.length->i≠j->cN.HJ (Fs i) (Fs j))->∃cc,bG w b off cc/\dF w cc l (fun b' o=>∃i,i<l.length/\Fs i b' o)
 | [],off,Fs,_,_=>⟨[],fun j v h=>by simp at h,rfl,fun b o ⟨i,h,_⟩=>by simp at h⟩
 | x :: r, off, Fs, h, hd => by
  obtain⟨ec,h1,h2⟩:=h 0 (by simp);obtain⟨cc,h3,h4⟩:=aXI (l:=r) (off:=off+aJ.n α) (Fs:=fun i=>Fs (i+1)) (fun i hi=>by
   obtain⟨ec,k1,k2⟩:=h (i+1) (by simp;omega);exact⟨ec,by rw[show off+aJ.n α+i*aJ.n α=off+(i+1)*aJ.n α by grind];exact k1,by grind⟩)
   fun i j hi hj hij=>hd (i+1) (j+1) (by simp;omega) (by simp;omega) (by omega)
  have hl:=aJ.mB (aJ.own_rd h2);refine⟨ec++cc,fun j v hj=>?_,ec,cc,Fs 0,_,rfl,by grind,h4,?_,fun b' o=>?_⟩
  ·rw[aFY] at hj;split at hj
   ·have:=h1 j v hj;grind
   ·have:=h3 _ v hj;grind
  ·rintro b' o p ⟨i,hi,q⟩;exact hd 0 (i+1) (by simp) (by simp;omega) (by omega) b' o p q
  ·constructor
   ·rintro⟨i,hi,q⟩;cases i with
    | zero=>exact .inl q
    | succ i=>grind
   grind
theorem aXJ{α:Type}[aJ α]{w:World}{b:Nat}:∀{l:List α} {off:Nat} {cc:List Value} {F:cN},bG w b off cc->dF w cc l F ->
  ∃Fs:Nat->cN,(∀i (h:i<l.length),∃ec,bG w b (off+i*aJ.n α) ec/\aJ.own w ec l[i] (Fs i))/\(∀i j,i<l.length->j<l.length->i≠j->cN.HJ (Fs i) (Fs j))/\∀b' o,F b' o↔∃i,i<l.length/\Fs i b' o
 | [],off,cc,F,_,h=>⟨fun _=>F0,fun i h=>by simp at h,fun i j h=>by simp at h,fun b o=>⟨fun q=>(h.2 b o q).elim,fun⟨i,h,_⟩=>by simp at h⟩⟩
 | x :: r, off, cc, F, hc, ⟨c1, c2, F1, F2, e, h1, h2, hd, hF⟩ => by
  have hl:=aJ.mB (aJ.own_rd h1);subst e;have k1:bG w b off c1:=fun j v hj=>hc j v (by grind);have k2:bG w b (off+aJ.n α) c2:=fun j v hj=>by have:=hc (c1.length+j) v (by grind);grind
  obtain⟨Fs,a1,a2,a3⟩:=aXJ k2 h2;refine⟨fun i=>match i with | 0=>F1 | i+1=>Fs i,fun i hi=>?_,fun i j hi hj hij=>?_,fun b' o=>?_⟩
  ·cases i with
   | zero=>grind
   | succ i =>
    obtain⟨ec,q1,q2⟩:=a1 i (by grind);grind
  ·cases i with
   | zero =>
    cases j with
    | zero=>omega
    | succ j=>exact fun b o p q=>hd b o p ((a3 b o).2 ⟨j,by grind,q⟩)
   | succ i =>
    cases j with
    | zero=>exact fun b o p q=>hd b o q ((a3 b o).2 ⟨i,by grind,p⟩)
    | succ j=>grind
  ·rw[hF,a3];constructor
   ·rintro(q | ⟨i,hi,q⟩)
    ·exact⟨0,by simp,q⟩
    ·exact⟨i+1,by simp;omega,q⟩
   ·rintro⟨i,hi,q⟩;cases i with
    | zero=>exact .inl q
    | succ i=>grind
theorem nP{α:Type}[aJ α]{w:World}{s:Value}{l:List α}{F:cN}:aJ.own w [s] l F↔∃a c,s=.slice a l.length c/\l.length<=c/\c<=maxLen /\
  ((a=none/\c=0/\∀b o,¬F b o)\/∃b off cc Fe,a=some ⟨b,off,none⟩/\Row w b off (c*aJ.n α)/\bG w b off cc/\dF w cc l Fe/\cN.HJ Fe (eS b off (c*aJ.n α))/\∀b' o,F b' o↔eS b off (c*aJ.n α) b' o\/Fe b' o):=by
 show JQ w [s] l F↔_;constructor
 ·rintro⟨a,c,e,h1,h2,h3⟩;simp at e;refine⟨a,c,e,h1,h2,h3.imp id ?_⟩;rintro⟨b,off,Fs,e2,hr,he,hd1,hd2,hF⟩;obtain⟨cc,k1,k2⟩:=aXI he hd1;exact⟨b,off,cc,_,e2,hr,k1,k2,fun b o ⟨i,hi,q⟩ p=>hd2 i hi b o q p,hF⟩
 ·rintro⟨a,c,e,h1,h2,h3⟩;refine⟨a,c,by rw[e],h1,h2,h3.imp id ?_⟩;rintro⟨b,off,cc,Fe,e2,hr,k1,k2,hd,hF⟩;obtain⟨Fs,a1,a2,a3⟩:=aXJ k1 k2;exact⟨b,off,Fs,e2,hr,a1,a2,fun i hi b o q p=>hd b o ((a3 b o).2 ⟨i,hi,q⟩) p,fun b' o=>by rw[hF,a3]⟩
def blank(L:List Chunk):List Nat->List Chunk
 | []=>L
 | i :: r=>blank (L.set i K9) r
theorem Sep.blank{w:World}:∀{is:List Nat} {L:List Chunk} {F:cN},dQ is=true->Sep w L F->Sep w (Gv.pick L is++Gv.blank L is) F
 | [],L,F,_,h=>h
 | i :: r, L, F, ha, h => by
  simp only[dQ,C8] at ha;have hp:=aJJ (L:=L) ha.1;show Sep w ((L[i]?).getD K9 :: (Gv.pick L r++Gv.blank (L.set i K9) r)) F;cases hi:L[i]? with
  | none =>
   have:L.set i K9=L:=List.set_eq_of_length_le (by grind);rw[this];exact⟨F0,F,fun _ _ h=>h,Sep.blank ha.2 h,fun _ _ h=>h.elim,fun b o=>by simp[F0]⟩
  | some ch =>
   obtain⟨F1,F2,h1,h2,hd,hF⟩:=(Sep.take hi).1 h;exact⟨F1,F2,h1,by rw[<-hp];exact Sep.blank ha.2 h2,hd,hF⟩
noncomputable section
variable {c:Ctx} {w w':World} {L:List Chunk} {R:List Fact}
theorem St.front(h:St c w L R)(is:List Nat)(ha:dQ is=true):St c w (pick L is++blank L is) R:=by obtain⟨F,S,hsep,rest⟩:=h.sep;exact⟨h.keep,⟨F,S,Sep.blank ha hsep,rest⟩,h.apart⟩
theorem St.a1S(h:St c w L R)(is:List Nat)(ha:dQ is=true){A':List Chunk}(hs:∀F,Sep w (pick L is) F->∃F' G,eT G w w'/\(∀b o,G b o->F b o)/\Sep w' A' F'/\∀b o,F' b o->F b o\/w.heap.size<=b) :
  St c w' (blank L is++A') R:=St.rot (St.step (h.front is ha) hs)
theorem St.shift(h:St c w L R)(is:List Nat)(ha:dQ is=true){A':List Chunk}(hs:∀F,Sep w (pick L is) F->Sep w A' F):St c w (blank L is++A') R:=
 h.a1S is ha fun F hF=>⟨F,F0,eT.refl _ _,fun _ _ h=>h.elim,hs F hF,fun _ _ h=>.inl h⟩
end
theorem Sep.one{w:World}{ch:Chunk}{F:cN}:Sep w [ch] F↔ch.P w F:=by
 constructor
 ·rintro⟨F1,F2,h1,h2,_,hF⟩;have:F=F1:=by funext b o;exact propext ((hF b o).trans ⟨fun q=>q.elim id fun q=>(h2 b o q).elim,.inl⟩)
  grind
 ·intro h;exact⟨F,F0,h,fun _ _ h=>h,fun _ _ _ h=>h,fun b o=>by simp[F0]⟩
def rR{α:Type}[aJ α](s:Value)(l:List α)(k:Nat):Chunk where
 P:=fun w F=>∃a c b off c1 c2 F1 F2,s=.slice a l.length c/\l.length<=c/\c<=maxLen/\k<l.length/\a=some ⟨b,off,none⟩ /\
  (∀o,eS b off (c*aJ.n α) b o->¬eS b (off+k*aJ.n α) (aJ.n α) b o->(w.cell? ⟨b,o,none⟩).isSome=true/\w.frozen? ⟨b,o,none⟩=false) /\
  bG w b off c1/\bG w b (off+(k+1)*aJ.n α) c2/\dF w c1 (l.take k) F1/\dF w c2 (l.drop (k+1)) F2/\F1.HJ F2/\F1.HJ (eS b off (c*aJ.n α))/\F2.HJ (eS b off (c*aJ.n α)) /\
  ∀b' o,F b' o↔(eS b off (c*aJ.n α) b' o/\¬eS b (off+k*aJ.n α) (aJ.n α) b' o)\/F1 b' o\/F2 b' o
 keep:=by
  rintro w w' F G ⟨a,c,b,off,c1,c2,F1,F2,e,h1,h2,h3,e2,hr,k1,k2,o1,o2,d1,d2,d3,hF⟩ hk hd;have hcell:∀o,eS b off (c*aJ.n α) b o->¬eS b (off+k*aJ.n α) (aJ.n α) b o->b<w.heap.size->w'.cell? ⟨b,o,none⟩=w.cell? ⟨b,o,none⟩:=fun o p q hb=>hk.cell b o hb fun g=>hd b o ((hF b o).2 (.inl ⟨p,q⟩)) g;have hn:(k+1)*aJ.n α<=c*aJ.n α:=uQ _ (by omega);rw[o9] at hn;have l1:=o1.length;have l2:=o2.length;rw[ZZ,Nat.min_eq_left (by omega)] at l1;rw[aBZ] at l2;have hn2:(l.length - (k+1))*aJ.n α+(k+1)*aJ.n α<=c*aJ.n α:=by rw[<-o9];exact uQ _ (by omega)
  refine⟨a,c,b,off,c1,c2,F1,F2,e,h1,h2,h3,e2,fun o p q=>?_,?_,?_,o1.keep hk fun b o p g=>hd b o ((hF b o).2 (.inr (.inl p))) g,o2.keep hk fun b o p g=>hd b o ((hF b o).2 (.inr (.inr p))) g,d1,d2,d3,hF⟩
  ·have:=hr o p q;exact⟨hk.stay b o this.1,(hk.yZ b o (kK this.1)).trans this.2⟩
  ·by_cases hc:c1=[]
   ·subst hc;intro j v h;simp at h
   ·refine k1.agree fun o p q=>hcell o ⟨rfl,p,by omega⟩ (fun⟨_,p2,_⟩=>by omega) (k1.lt hc)
  ·by_cases hc:c2=[]
   ·subst hc;intro j v h;simp at h
   ·rw[o9] at k2 hn2;refine bG.agree (by rw[o9];exact k2) fun o p q=>?_;rw[o9] at p q;exact hcell o ⟨rfl,by omega,by omega⟩ (fun⟨_,_,p3⟩=>by omega) (k2.lt hc)
 lt:=by
  rintro w F b' o ⟨a,c,b,off,c1,c2,F1,F2,e,h1,h2,h3,e2,hr,k1,k2,o1,o2,d1,d2,d3,hF⟩ hf;rcases(hF b' o).1 hf with ⟨p,q⟩ | p | p
  ·have:b'=b:=p.1;subst this;exact kK (hr o p q).1
  ·exact o1.lt p
  ·exact o2.lt p
theorem D2{w:World}{b off:Nat}{c1 c2:List Value}(h:bG w b off (c1++c2)):bG w b off c1/\bG w b (off+c1.length) c2:=
 ⟨fun j v hj=>h j v (by grind),fun j v hj=>by
  have:=h (c1.length+j) v (by grind);grind⟩
theorem T5{w:World}{b off:Nat}{c1 c2:List Value}(h1:bG w b off c1)(h2:bG w b (off+c1.length) c2):bG w b off (c1++c2):=fun j v hj=>by
 rw[aFY] at hj;split at hj
 ·exact h1 j v hj
 ·have:=h2 _ v hj;grind
theorem a1T{α:Type}{l:List α}{k:Nat}{x:α}(h:l[k]?=some x):l=l.take k++([x]++l.drop (k+1)):=by obtain⟨hk,rfl⟩:=A4.1 h;simp
theorem a1U{α:Type}{l:List α}{k:Nat}{x:α}(h:k<l.length):l.set k x=l.take k++([x]++l.drop (k+1)):=by rw[List.set_eq_take_append_cons_drop,aL h];simp
theorem a1V{α:Type}[aJ α]{w:World}{s:Value}{l:List α}{k:Nat}{x:α}{F:cN}(h:aJ.own w [s] l F)(hx:l[k]?=some x) :
  ∃ec:List Value,Sep w [rR s l k,WU (RW s) (QM (aJ.n α) k s) ec,bL ec x] F:=by
 obtain⟨a,c,e,h1,h2,h3⟩:=nP.1 h;obtain⟨hk,_⟩:=A4.1 hx;rcases h3 with ⟨_,h3,_⟩ | ⟨b,off,cc,Fe,rfl,hr,hc,ho,hd,hF⟩
 ·omega
 rw[a1T hx] at ho;obtain⟨c1,c23,F1,F23,rfl,o1,o23,d1,e1⟩:=ho.split;obtain⟨ec,c2,F2,F3,rfl,o2,o3,d2,e2⟩:=o23.split;have l1:=o1.length;have l2:=o2.length;have l3:=o3.length;rw[ZZ,Nat.min_eq_left (by omega)] at l1;rw[aBZ] at l3;simp only[W5,List.length_nil,VJ,Nat.one_mul] at l2;obtain⟨k1,k23⟩:=D2 hc;obtain⟨k2,k3⟩:=D2 k23;rw[l1] at k2 k3;rw[l2] at k3;have hn:(k+1)*aJ.n α<=c*aJ.n α:=uQ _ (by omega);have hn':=hn;rw[o9] at hn';subst e;refine⟨ec,_,fun b' o=>eS b (off+k*aJ.n α) (aJ.n α) b' o\/F2 b' o,⟨some ⟨b,off,none⟩,c,b,off,c1,c2,F1,F3,rfl,h1,h2,hk,rfl,fun o p q=>hr o p,k1,?_,o1,o3,?_,?_,?_,fun _ _=>Iff.rfl⟩,?_⟩
 ·grind
 ·exact fun b o p q=>d1 b o p ((e2 b o).2 (.inr q))
 ·exact fun b o p q=>hd b o ((e1 b o).2 (.inl p)) q
 ·exact fun b o p q=>hd b o ((e1 b o).2 (.inr ((e2 b o).2 (.inr p)))) q
 ·refine⟨⟨eS b (off+k*aJ.n α) (aJ.n α),F2,⟨k2,fun o p=>(hr o ?_).2,fun b' o=>by grind[RW,QM]⟩,Sep.one.2 (dF.one.1 o2),?_,fun _ _=>Iff.rfl⟩,?_,fun b' o=>?_⟩
  ·obtain⟨_,p1,p2⟩:=p;simp only[QM,l2] at p1 p2;exact⟨rfl,by omega,by omega⟩
  ·rintro b' o ⟨rfl,p1,p2⟩ q;exact hd b' o ((e1 b' o).2 (.inr ((e2 b' o).2 (.inl q)))) ⟨rfl,by omega,by omega⟩
  ·rintro b' o (⟨p,q⟩ | p | p) (u | u)
   ·exact q u
   ·exact hd b' o ((e1 b' o).2 (.inr ((e2 b' o).2 (.inl u)))) p
   ·obtain⟨rfl,u1,u2⟩:=u;exact hd b' o ((e1 b' o).2 (.inl p)) ⟨rfl,by omega,by omega⟩
   ·exact d1 b' o p ((e2 b' o).2 (.inl u))
   ·obtain⟨rfl,u1,u2⟩:=u;exact hd b' o ((e1 b' o).2 (.inr ((e2 b' o).2 (.inr p)))) ⟨rfl,by omega,by omega⟩
   ·exact d2 b' o u p
  grind[eS]
theorem aOR{α:Type}[aJ α]{w:World}{s:Value}{l:List α}{k:Nat}{x:α}{ec:List Value}{F:cN}(h:Sep w [rR s l k,WU (RW s) (QM (aJ.n α) k s) ec,bL ec x] F):aJ.own w [s] (l.set k x) F:=by
 obtain⟨G1,G2,⟨a,c,b,off,c1,c2,F1,F3,e,h1,h2,hk,rfl,hr,k1,k3,o1,o3,d1,d2,d3,hG1⟩,⟨H1,H2,⟨k2,hz,hH1⟩,hs,dH,hG2⟩,dG,hF⟩:=h;have ho:aJ.own w ec x H2:=Sep.one.1 hs;subst e;simp only[RW,QM] at k2 hz hH1;have l1:=o1.length;have l2:=aJ.mB (aJ.own_rd ho);have l3:=o3.length;rw[ZZ,Nat.min_eq_left (by omega)] at l1;have hn:(k+1)*aJ.n α<=c*aJ.n α:=uQ _ (by omega);have hn':=hn;rw[o9] at hn';rw[l2] at hH1;refine nP.2 ⟨some ⟨b,off,none⟩,c,by simp,by grind,h2,.inr ⟨b,off,c1++(ec++c2),fun b' o=>F1 b' o\/(H2 b' o\/F3 b' o),rfl,fun o p=>?_,?_,?_,?_,fun b' o=>?_⟩⟩
 ·by_cases q:eS b (off+k*aJ.n α) (aJ.n α) b o
  ·refine⟨?_,hz o (by grind)⟩;obtain⟨_,q1,q2⟩:=q;have:=k2 (o - (off+k*aJ.n α)) _ (l9 (by omega));grind
  grind
 ·grind[T5]
 ·rw[a1U hk];refine dF.app o1 (dF.app (dF.one.2 ho) o3 ?_ fun _ _=>Iff.rfl) ?_ fun _ _=>Iff.rfl
  ·exact fun b' o p q=>dG b' o ((hG1 b' o).2 (.inr (.inr q))) ((hG2 b' o).2 (.inr p))
  ·rintro b' o p (q | q)
   ·exact dG b' o ((hG1 b' o).2 (.inr (.inl p))) ((hG2 b' o).2 (.inr q))
   ·exact d1 b' o p q
 ·rintro b' o (p | p | p) q
  ·exact d2 b' o p q
  ·by_cases u:eS b (off+k*aJ.n α) (aJ.n α) b' o
   ·exact dH b' o ((hH1 b' o).2 u) p
   ·exact dG b' o ((hG1 b' o).2 (.inl ⟨q,u⟩)) ((hG2 b' o).2 (.inr p))
  ·exact d3 b' o p q
 grind[eS]
end Go.Gv
end
noncomputable section
namespace Go.Gv
def OP{α:Type}[aJ α](cs:List Value)(d:α)(A:List Chunk):Prop:=∀w F,aJ.own w cs d F↔Sep w A F
theorem cQ{α:Type}[aJ α][Flat α]{cs:List Value}{d:α}(h:aJ.rd F0 default cs d):OP cs d []:=fun w F=>by
 constructor
 ·intro k;exact Flat.no k
 ·intro k;have:F=F0:=by funext b o;exact propext ⟨fun q=>(k b o q).elim,fun q=>q.elim⟩
  grind[Flat.own_of]
theorem HZ{α:Type}[aJ α]{cs:List Value}{d:α}:OP cs d [bL cs d]:=fun w F=>(Sep.one (ch:=bL cs d)).symm
theorem cZ{α β:Type}[aJ α][aJ β]{c1 c2:List Value}{d:α×β}{A B:List Chunk}(h1:OP c1 d.1 A)(h2:OP c2 d.2 B)(hl:c1.length=aJ.n α):OP (c1++c2) d (A++B):=fun w F=>by
 constructor
 ·rintro⟨e1,e2,F1,F2,e,k1,k2,hd,hF⟩;have hl2:=aJ.mB (aJ.own_rd k1);obtain⟨rfl,rfl⟩:=List.append_inj e (by omega);exact Sep.append.2 ⟨F1,F2,(h1 w F1).1 k1,(h2 w F2).1 k2,hd,hF⟩
 ·intro k;obtain⟨F1,F2,k1,k2,hd,hF⟩:=Sep.append.1 k;exact⟨c1,c2,F1,F2,rfl,(h1 w F1).2 k1,(h2 w F2).2 k2,hd,hF⟩
noncomputable section
variable {P:Program} {o:Oper} {e:Env} {w w':World} {c:Ctx} {L:List Chunk} {R:List Fact} {x y:Operand} {t el:TypeId}
theorem St.open(h:St c w L R){α:Type}[aJ α]{s:Value}{l:List α}{k:Nat}{q:α}(i:Nat)(hi:L[i]?=some (bL [s] l))(hq:l[k]?=some q) :
  ∃ec,St c w (L.set i K9 ++ [rR s l k,WU (RW s) (QM (aJ.n α) k s) ec,bL ec q]) R:=by
 have h1:St c w ([bL [s] l]++L.set i K9) R:=h.take i hi;obtain⟨F,S,hsep,rest⟩:=h1.sep;obtain⟨F1,F2,g1,g2,gd,gF⟩:=Sep.append.1 hsep;obtain⟨ec,hec⟩:=a1V (Sep.one.1 g1) hq;exact⟨ec,St.rot ⟨h1.keep,⟨F,S,Sep.append.2 ⟨F1,F2,hec,g2,gd,gF⟩,rest⟩,h1.apart⟩⟩
theorem St.unpack(h:St c w L R){α:Type}[aJ α]{cs:List Value}{d:α}{A':List Chunk}(i:Nat)(hi:L[i]?=some (bL cs d))(ho:OP cs d A'):St c w (L.set i K9++A') R:=by have h1:St c w ([bL cs d]++L.set i K9) R:=h.take i hi;obtain⟨F,S,hsep,rest⟩:=h1.sep;obtain⟨F1,F2,g1,g2,gd,gF⟩:=Sep.append.1 hsep;exact St.rot ⟨h1.keep,⟨F,S,Sep.append.2 ⟨F1,F2,(ho w F1).1 (Sep.one.1 g1),g2,gd,gF⟩,rest⟩,h1.apart⟩
theorem St.close(h:St c w L R){α:Type}[aJ α]{s:Value}{l:List α}{k:Nat}{q:α}{ec:List Value}(is:List Nat)(ha:dQ is=true)(hp:pick L is=[rR s l k,WU (RW s) (QM (aJ.n α) k s) ec,bL ec q]):St c w (blank L is ++ [bL [s] (l.set k q)]) R:=
 h.shift is ha fun F hF=>Sep.one.2 (aOR (hp ▸ hF))
theorem aAY{b off:Nat}{c1 c2:List Value}(h1:bG w b off c1)(h2:bG w b off c2)(hl:c1.length=c2.length):c1=c2:=by
 apply aBY;intro j;by_cases hj:j<c1.length
 ·have a:=h1 j _ (l9 hj);have b:=h2 j _ (l9 (by omega));grind
 grind
theorem NA{α:Type}[aJ α]{b off cap:Nat}{cc:List Value}{l:List α}{Fe:cN}(hr:Row w b off (cap*aJ.n α))(hc:bG w b off cc)(ho:dF w cc l Fe)(hd:Fe.HJ (eS b off (cap*aJ.n α)))(hlen:l.length<=cap)(hmax:cap<=maxLen) :
  aJ.own w [.slice (some ⟨b,off,none⟩) l.length cap] l (fun b' o=>eS b off (cap*aJ.n α) b' o\/Fe b' o):=
 nP.2 ⟨_,cap,rfl,hlen,hmax,.inr ⟨b,off,cc,Fe,rfl,hr,hc,ho,hd,fun _ _=>Iff.rfl⟩⟩
theorem aB2{α:Type}[aJ α](hS:St c w L R)(is:List Nat)(ha:dQ is=true){A:List Chunk}(hp:pick L is=A)(cells rest:List Value)(l:List α)(cap:Nat)(ty:TypeId)
  (hA:∀F,Sep w A F->∃Fe,dF w cells l Fe/\∀b o,Fe b o->F b o) (hcap:(cells++rest).length=cap*aJ.n α) (hlen:l.length<=cap) (hmax:cap<=maxLen) :
  St c (w.alloc (.cells (cells++rest).toArray ty)) (blank L is ++ [bL [.slice (some ⟨w.heap.size,0,none⟩) l.length cap] l]) R:=by
 have hcell:∀j,(w.alloc (.cells (cells++rest).toArray ty)).cell? ⟨w.heap.size,j,none⟩=(cells++rest)[j]?:=fun j=>by simp
 refine hS.a1S is ha fun F hF=>?_;obtain⟨Fe,h1,h2⟩:=hA F (hp ▸ hF);have hk:=eT.alloc F0 w (.cells (cells++rest).toArray ty);refine⟨_,F0,hk,fun _ _ h=>h.elim,Sep.one.2 (NA (fun o' ho=>?_) (fun j v hj=>?_) (h1.keep hk fun _ _ _ h=>h) (fun b o' p q=>?_) hlen hmax),?_⟩
 ·obtain⟨_,_,h3⟩:=ho;simp_all
 ·grind
 ·have:=h1.lt p;obtain⟨rfl,_⟩:=q;omega
 ·rintro b o' (p | p)
  ·exact .inr (RZ p.1.symm)
  grind
theorem a1W{α:Type}[aJ α]{i:Int}{z:Value}{m:Nat}(zd:α)(hS:St c w L R)(hn:aJ.n α=m)(hu:P.underlying t=some (.slice el))(hinf:T3 P el m z)(hzs:z.cells.size=m)(hzd:∀w,aJ.own w z.cells.toList zd F0)
  (h01:0<=i/\i<=4294967296) (ho:o.op=.makeSlice t x y) (hx:ev e x=some (.int .i64 i)) (hy:ev e y=some (.int .i64 i)) :
  ∃v w',eR P o e w v w'/\St c w' (L ++ [bL [v] (List.replicate i.toNat zd)]) R:=by
 obtain⟨h0,h1⟩:=h01;subst hn;obtain⟨ti,hi,hz,hsz,hby⟩:=hinf;have hb:(ti.bytes:Int)*i<=281474976710656:=by have:(ti.bytes:Int)*i<=65536*4294967296:=Int.mul_le_mul (by omega) h1 h0 (by omega);omega
 have hr:=run_make (P:=P) w t el ti z hu hi hz .i64 .i64 i i h0 (aM4 _) hb (by omega);rw[hsz] at hr;refine⟨.slice (some ⟨w.heap.size,0,none⟩) i.toNat i.toNat,w.alloc (.cells (madeCells z.cells (i.toNat*aJ.n α)) el),fun _ a hA=>?_,?_⟩
 rotate_left 1
 ·have all:∀(k:Nat) (cc:List Value),cc.length=k*aJ.n α->(∀j,j<k->KH cc (aJ.n α) j=z.cells.toList)->dF w cc (List.replicate k zd) F0:=by
   intro k;induction k with
   | zero=>intro cc h _;exact⟨AD (by omega),fun _ _ h=>h⟩
   | succ k ih =>
    intro cc h hs;rw[o9] at h;refine⟨cc.take (aJ.n α),cc.drop (aJ.n α),F0,F0,by simp,?_,ih _ (by grind) fun j hj=>?_,fun _ _ h _=>h,fun b o=>by simp[F0]⟩
    ·have:=hs 0 (by omega);grind[KH]
    grind[KH,List.drop_drop]
  have h:=aB2 hS [] rfl rfl (madeCells z.cells (i.toNat*aJ.n α)).toList [] (List.replicate i.toNat zd) i.toNat el (fun F _=>⟨F0,all _ _ (by simp[size_madeCells]) fun j hj=>a1Q hzs hj,fun _ _ h=>h.elim⟩) (by simp[size_madeCells]) (by simp) (by grind[maxLen]);simp only[EJ,List.length_replicate] at h;exact h
 ·simp[execOp,ho,hA.eval hx,hA.eval hy,hr]
def OPs{α:Type}[aJ α](m:Nat):List Value->List α->List Chunk->Prop
 | cs,[],A=>cs=[]/\A=[]
 | cs,x :: r,A=>∃B,A=bL (cs.take m) x :: B/\(cs.take m).length=m/\OPs m (cs.drop m) r B
theorem OPs.all{α:Type}[aJ α]{m:Nat}(hn:aJ.n α=m):∀{l:List α} {cs:List Value} {A:List Chunk} {F:cN},OPs m cs l A->Sep w A F->dF w cs l F
 | [],cs,A,F,⟨h1,h2⟩,h=>by subst h1;subst h2;exact⟨rfl,h⟩
 | x :: r, cs, A, F, ⟨B, h1, _, h2⟩, h => by subst h1;obtain⟨F1,F2,k1,k2,kd,kF⟩:=h;exact⟨cs.take m,cs.drop m,F1,F2,by simp,k1,OPs.all hn h2 k2,kd,kF⟩
theorem OPs.len{α:Type}[aJ α]{m:Nat}:∀{l:List α} {cs:List Value} {A:List Chunk},OPs m cs l A->cs.length=l.length*m
 | [],cs,A,⟨h1,h2⟩=>by simp[h1]
 | x :: r, cs, A, ⟨B, h1, h3, h2⟩ => by have:=OPs.len h2;grind[o9]
theorem a6W{α:Type}[aJ α]{z:Value}{m len:Nat}{ps:List (Nat×Operand)}{vs cells:List Value}(l:List α)(hS:St c w L R)(is:List Nat)(ha:dQ is=true)(hrd:OPs m cells l (pick L is))(hn:aJ.n α=m)(hu:P.underlying t=some (.slice el))(hinf:T3 P el m z)(hl:l.length=len)(hm:Nat.ble 1 m=true)(hsmall:Nat.ble (len*m) 16777216=true)
  (ho:o.op=.buildSlice t len ps.toArray) (hv:evs e (ps.map (·.2))=some vs) (hc:Instr.fill (fun i=>some (i*m,m)) ((Array.range (len*m)).map (fun i=>(if len*m=0 then #[] else z.cells)[i % (if len*m=0 then #[] else z.cells).size]!)) ((ps.map (·.1)).zip vs)=some cells.toArray) :
  ∃v w',eR P o e w v w'/\St c w' (blank L is ++ [bL [v] l]) R:=by
 subst hl;obtain⟨ti,hi,hz,hsz,hby⟩:=hinf;have h1:=hrd.len;have hsm:¬l.length*m > 2 ^ 24:=by simp_all
 have hlm:l.length<=16777216:=by have:=Nat.le_mul_of_pos_right l.length (M7 hm);omega
 have hlmax:l.length<=maxLen:=by grind[maxLen]
 have hnew:=aB2 hS is ha rfl cells [] l l.length el (fun F hF=>⟨F,hrd.all hn hF,fun _ _ h=>h⟩) (by grind) (kX _) hlmax;rw[EJ] at hnew;refine⟨_,_,fun _ a hA=>?_,hnew⟩;have hps:ps.map (fun p=>(p.1,a.eval p.2))=(ps.map (·.1)).zip vs:=by rw[<-O6 hA hv];grind
 by_cases h0:l.length*m=0
 ·simp only[h0,aP] at hc;simp[execOp,ho,Instr.buildSlice,run_underlying hu,sizeOf,typeInfo,hi,hsz,h0,hps];simp_all[newRow]
 ·simp only[h0,aS] at hc;simp[execOp,ho,Instr.buildSlice,run_underlying hu,sizeOf,typeInfo,zeroValue,hi,hz,hsz,h0,hsm,hps];simp_all[newRow]
theorem a6X{α:Type}[aJ α]{s s2 z:Value}{l xs:List α}{m:Nat}(is:List Nat)(hS:St c w L R)(ha:dQ is=true)(hp:pick L is=[bL [s] l,bL [s2] xs])(hn:aJ.n α=m)(hu:P.underlying t=some (.slice el))(hinf:T3 P el m z)(hzs:z.cells.size=m)
  (hb:l.length+xs.length<=1073741824) (ho:o.op=.call {callee:=.builtin .append,args:=#[x,y],argTypes:=#[t,t]}) (hx:ev e x=some s) (hy:ev e y=some s2) :
  ∃v w',eR P o e w v w'/\St c w' (blank L is ++ [bL [v] (l++xs)]) R:=by
 subst hn;obtain⟨ti,hti,hz,hsz,hby⟩:=hinf;have h12:St c w ([bL [s] l,bL [s2] xs]++blank L is) R:=hp ▸ hS.front is ha;obtain⟨F,hF⟩:=h12.chunk 0 rfl;obtain⟨G,hG⟩:=h12.chunk 1 rfl;have hF:aJ.own w [s] l F:=hF;have hG:aJ.own w [s2] xs G:=hG;obtain⟨ad2,c2,cc2,rfl,hl2,hc2,hr2⟩:=M9 (aJ.own_rd hG);obtain⟨ad,cap,cc,rfl,hl1,hc1,hr1⟩:=M9 (aJ.own_rd hF);have hone2:=aIJ hl2 hr2;have hlen:(cc++cc2).length=(l++xs).length*aJ.n α:=by grind
 have hsrc':xs.length=0\/∃b off,ad2=some ⟨b,off,none⟩/\bG w b off cc2:=hc2.imp (fun h=>by simp[h]) id;have hf2:=HY (P:=P) (α:=α) (k:=c2) hl2 hsrc';have hexec:∀(v:Value) (w':World),(Builtin.append_ #[t,t] o.type #[.slice ad l.length cap,.slice ad2 xs.length c2]).run P w=.ok v w'->eR P o e w v w':=by intro v w' h _ a hA;simp[execOp,ho,resolve,invoke,builtin,hA.eval hx,hA.eval hy,h]
 have hall:∀{s:Value} {l:List α} {F:cN} {ad:Option Addr} {cap:Nat} {cc:List Value},s=.slice ad l.length cap->aJ.own w [s] l F->cc.length=l.length*aJ.n α->(l=[]\/∃b off,ad=some ⟨b,off,none⟩/\bG w b off cc)->∃Fe,dF w cc l Fe/\∀b o,Fe b o->F b o:=by
  intro s l F ad cap cc e h hl hc;obtain⟨a',c',e',_,_,h3⟩:=nP.1 h;rw[e] at e';simp at e';obtain⟨rfl,rfl⟩:=e';rcases hc with hc | ⟨b,off,rfl,hc⟩
  ·subst hc;exact⟨F0,⟨AD (by grind),fun _ _ h=>h⟩,fun _ _ h=>h.elim⟩
  ·rcases h3 with ⟨h,_⟩ | ⟨b',off',cc',Fe,h,_,k1,k2,_,hF⟩
   ·cases h
   simp at h;obtain⟨rfl,rfl⟩:=h;have:cc'=cc:=aAY k1 hc (by rw[k2.length,hl]);grind
 by_cases hroom:l.length+xs.length<=cap
 ·
  obtain⟨a',cap',e',hlc,hcm,h3⟩:=nP.1 hF;simp at e';obtain⟨rfl,rfl⟩:=e';rcases h3 with ⟨rfl,h0,_⟩ | ⟨b,off,cc',Fe0,rfl,hrow,hcc',hoA,hdj0,hFF0⟩
  ·have hl0:l=[]:=AD (by omega);have hx0:xs=[]:=AD (by omega);subst hl0;subst hx0;refine⟨.slice none 0 0,w,hexec _ _ ?_,?_⟩
   ·have hf2:(Builtin.firstCells (aJ.n α) 0 (.slice ad2 0 c2)).run P w=.ok cc2.toArray w:=hf2;simp[h0,Builtin.append_,run_underlying hu,sizeOf,typeInfo,hti,Builtin.lenOf,hsz,hf2]
   ·rw[EJ];refine hS.a1S is ha fun F hF=>?_;rw[hp] at hF;obtain⟨F1,F2,k1,k2,kd,kF⟩:=hF;subst h0;exact⟨F1,F0,eT.refl _ _,fun _ _ h=>h.elim,Sep.one.2 k1,fun b o h=>.inl ((kF b o).2 (.inl h))⟩
  ·have hcc:bG w b off cc:=by
    rcases hc1 with h | ⟨b',off',h,hc⟩
    ·subst h;have:cc=[]:=AD (by grind);subst this;intro j v hj;simp at hj
    grind
   have hmul:(l.length+xs.length)*aJ.n α<=cap*aJ.n α:=uQ _ hroom;rw[o9] at hmul;obtain⟨w',hst,hk,hws,hcell⟩:=mP (b:=b) P cc2 w (off+l.length*aJ.n α) 0 hone2 (fun q _ hq=>hrow _ ⟨rfl,by omega,by omega⟩);refine⟨_,w',hexec _ _ (by
    have hadd:(⟨b,off,none⟩:Addr).add (l.length*aJ.n α)=⟨b,off+l.length*aJ.n α,none⟩:=by simp[Addr.add]
    simp[Builtin.append_,run_underlying hu,sizeOf,typeInfo,hti,Builtin.lenOf,hsz,hf2,hroom,hadd,hst];rfl),?_⟩
   refine hS.a1S is ha fun F2 hF2=>?_;rw[hp] at hF2;obtain⟨Fa,Fb,ka,kb,kd,kF⟩:=hF2;have ka:aJ.own w [_] l Fa:=ka;have kb:aJ.own w [_] xs Fb:=Sep.one.1 kb;obtain⟨_,_,he2,_,_,hr⟩:=nP.1 ka;simp at he2;obtain⟨rfl,rfl⟩:=he2;rcases hr with ⟨h,_,_⟩ | ⟨b',off',cc'',Fe,h,hrow2,k1,k2,hdj,hFF⟩
   ·cases h
   simp at h;obtain⟨rfl,rfl⟩:=h;have ecc:cc''=cc:=aAY k1 hcc (by rw[k2.length,hl1]);subst ecc;obtain⟨Fe2,o2,hFe2⟩:=hall rfl kb hl2 hc2;have hkd:∀{G:cN},(∀b' o',G b' o'->¬eS b off (cap*aJ.n α) b' o')->G.HJ (fun b' o'=>b'=b/\off+l.length*aJ.n α+0<=o'/\o'<off+l.length*aJ.n α+0+cc2.length):=by rintro G hG b' o' g ⟨e1,e2,e3⟩;exact hG b' o' g ⟨e1,by omega,by omega⟩
   have hcc2:bG w' b off (cc''++cc2):=by
    intro j v hj;rw[aFY] at hj;split at hj
    ·rename_i hlt;have hc:=hcc j v hj;rw[hk.cell b (off+j) (World.block_lt_of_cell? w _ hc) (fun hh=>by obtain⟨_,e2,_⟩:=hh;omega)];exact hc
    ·rename_i hge;have:=hcell _ v hj;grind
   refine⟨fun b' o'=>eS b off (cap*aJ.n α) b' o'\/(Fe b' o'\/Fe2 b' o'),_,hk,?_,Sep.one.2 ?_,?_⟩
   ·rintro b' o' ⟨e1,e2,e3⟩;exact(kF b' o').2 (.inl ((hFF b' o').2 (.inl ⟨e1,by omega,by omega⟩)))
   ·have hll:l.length+xs.length=(l++xs).length:=by simp
    rw[hll];refine NA (fun o' ho'=>⟨hk.stay b o' (hrow o' ho').1,(hk.yZ b o' (kK (hrow o' ho').1)).trans (hrow o' ho').2⟩) hcc2 (dF.app (k2.keep hk (hkd fun b' o' g q=>hdj b' o' g q)) (o2.keep hk (hkd fun b' o' g q=>?_)) (fun b' o' p q=>?_) fun _ _=>Iff.rfl) ?_ (by simp;omega) hcm
    ·exact kd b' o' ((hFF b' o').2 (.inl q)) (hFe2 b' o' g)
    ·exact kd b' o' ((hFF b' o').2 (.inr p)) (hFe2 b' o' q)
    ·rintro b' o' (p | p) q
     ·exact hdj b' o' p q
     ·exact kd b' o' ((hFF b' o').2 (.inl q)) (hFe2 b' o' p)
   grind
 ·
  have hbytes:(l.length+xs.length)*ti.bytes<=140737488355328:=by have:(l.length+xs.length)*ti.bytes<=1073741824*65536:=Nat.mul_le_mul hb hby;omega
  have hfit:=growslice_fits (need:=l.length+xs.length) (old:=cap) (bytes:=ti.bytes) (by omega) hbytes;obtain⟨hge,hle⟩:l.length+xs.length<=grownCap w (l.length+xs.length) cap el/\grownCap w (l.length+xs.length) cap el<=maxLen:=⟨grownCap_ge _ _ _ _,grownCap_le_maxLen _ _ _ _ (by grind[maxLen])⟩;have hrun:(Builtin.append_ #[t,t] o.type #[.slice ad l.length cap,.slice ad2 xs.length c2]).run P w=.ok (.slice (some ⟨w.heap.size,0,none⟩) (l.length+xs.length) (grownCap w (l.length+xs.length) cap el)) (w.drew.alloc (.cells (cc.toArray++cc2.toArray++Builtin.zeroCells z.cells (grownCap w (l.length+xs.length) cap el - (l.length+xs.length))) el)):=by
   have hn1:¬(l.length+xs.length<=cap):=hroom;have h63':¬(9223372036854775807<((l.length:Int)+(xs.length:Int))):=by omega
   have h48':¬(281474976710656<Builtin.nextslicecap (l.length+xs.length) cap*ti.bytes):=by omega
   have hf1:(Builtin.firstCells (aJ.n α) l.length (.slice ad l.length cap)).run P w.drew=.ok cc.toArray w.drew:=HY (α:=α) hl1 (hc1.imp (fun h=>by simp[h]) id);have hf2:(Builtin.firstCells (aJ.n α) xs.length (.slice ad2 xs.length c2)).run P w.drew=.ok cc2.toArray w.drew:=HY (α:=α) hl2 hsrc';simp[Builtin.append_,run_underlying hu,sizeOf,typeInfo,zeroValue,hti,hz,hsz,Builtin.lenOf,hn1,h63',h48',Question.forced,hf1,hf2,newRow,grownCap];grind
  refine⟨_,_,hexec _ _ hrun,?_⟩;have hz3:(Builtin.zeroCells z.cells (grownCap w (l.length+xs.length) cap el - (l.length+xs.length))).toList.length=(grownCap w (l.length+xs.length) cap el - (l.length+xs.length))*aJ.n α:=by grind[size_zeroCells]
  have htot:((cc++cc2)++(Builtin.zeroCells z.cells (grownCap w (l.length+xs.length) cap el - (l.length+xs.length))).toList).length=grownCap w (l.length+xs.length) cap el*aJ.n α:=by rw[JO,hlen,hz3,JO,<-o9];grind
  have hS':St c w.drew L R:=hS.same (eT.drew F0 w);have hnew:=aB2 hS' is ha hp (cc++cc2) (Builtin.zeroCells z.cells (grownCap w (l.length+xs.length) cap el - (l.length+xs.length))).toList (l++xs) (grownCap w (l.length+xs.length) cap el) el (fun F2 hF2=>by
   obtain⟨Fa,Fb,ka,kb,kd,kF⟩:=hF2;have ka:aJ.own w.drew [_] l Fa:=ka;have kb:aJ.own w.drew [_] xs Fb:=Sep.one.1 kb;have drop:eT F0 w.drew w:=⟨rfl,rfl,rfl,kX _,fun _ _ _=>rfl,fun _ _ _ _=>rfl,fun _ _ _=>rfl,fun _ _ h=>h⟩;obtain⟨Fe,o1,h1⟩:=hall rfl (aJ.own_keep ka drop fun _ _ _ h=>h) hl1 hc1;obtain⟨Fe2,o2,h2⟩:=hall rfl (aJ.own_keep kb drop fun _ _ _ h=>h) hl2 hc2;have hk:=eT.drew F0 w;exact⟨_,dF.app (o1.keep hk fun _ _ _ h=>h) (o2.keep hk fun _ _ _ h=>h) (fun b o p q=>kd b o (h1 b o p) (h2 b o q)) fun _ _=>Iff.rfl,fun b o p=>(kF b o).2 (p.imp (h1 b o) (h2 b o))⟩) htot (by simp;omega) hle
  have heq:((cc++cc2)++(Builtin.zeroCells z.cells (grownCap w (l.length+xs.length) cap el - (l.length+xs.length))).toList).toArray=cc.toArray++cc2.toArray++Builtin.zeroCells z.cells (grownCap w (l.length+xs.length) cap el - (l.length+xs.length)):=by simp
  rw[heq] at hnew;simp_all
end
end Go.Gv
end
noncomputable section
namespace Go.Gv
noncomputable section
variable {v:Value} {k:IntKind} {i:Int} {P:Program} {o:Oper} {e:Env} {w w':World} {c:Ctx} {L:List Chunk} {R:List Fact} {x y:Operand} {t el:TypeId}
theorem bCR{b q j m i:Nat}{cs vs:List Value}(hS:St c w L R)(hi:L[i]?=some (WU b q cs))(ho:o.op=.store t x y)(hx:ev e x=some (.pointer (some ⟨b,q+j,none⟩)))(hy:ev e y=some v)(hvs:v.cells.toList=vs)(hz:∀w,(sizeOf t).run P w=.ok m w)(hm:vs.length=m)(hj:Nat.ble (j+m) cs.length=true)(h1:vs.all Value.oneCell'=true) :
  ∃w',a1A P o e w w'/\St c w' (L.set i (WU b q (ZN cs j vs))) R:=by
 subst hm;have hj':j+vs.length<=cs.length:=M7 hj;have h1':∀v∈vs,v.oneCell'=true:=fun v hv=>by grind
 obtain⟨F,hF⟩:=hS.chunk i hi;obtain⟨hc,hfz,_⟩:=hF;obtain⟨w',hr,hk,hsz,hcell⟩:=mP (b:=b) P vs w (q+j) 0 h1' (fun p _ hp=>by
  refine⟨?_,hfz (q+j+p) ⟨rfl,by omega,by omega⟩⟩;have:=hc (j+p) _ (l9 (by omega));grind)
 refine⟨w',fun _ a hA=>?_,?_⟩
 ·have hsize:v.cells.size=vs.length:=by grind
  have hr':(storeCells ⟨b,q+j,none⟩ v.cells.toList).run P w=.ok () w':=by grind
  simp[execOp,ho,Instr.storeAt,Instr.sureAddr,hA.eval hx,hA.eval hy,storeVar,hz,hsize,hr']
 ·refine hS.aB1 i hi fun F2 hF2=>?_;obtain⟨k1,k2,kF⟩:=hF2;have hlen:(ZN cs j vs).length=cs.length:=O5 vs cs j;refine⟨F2,_,hk,?_,⟨?_,fun o' ho'=>?_,fun b' o'=>by grind⟩,fun _ _ h=>.inl h⟩
  ·rintro b' o' ⟨e1,e2,e3⟩;exact(kF b' o').2 ⟨e1,by omega,by omega⟩
  ·intro p u hp;rw[aJG vs cs j p (by omega)] at hp;split at hp
   ·have:=hcell _ u hp;grind
   ·have h3:=k1 p u hp;rw[hk.cell b (q+p) (World.block_lt_of_cell? w _ h3) (fun hh=>by obtain⟨_,e2,e3⟩:=hh;omega)];exact h3
  ·rw[hlen] at ho';obtain⟨_,e2,e3⟩:=ho';have h3:=k1 (o' - q) _ (l9 (by omega));rw[show q+(o' - q)=o' by omega] at h3;exact(hk.yZ b o' (World.block_lt_of_cell? w _ h3)).trans (k2 o' ⟨rfl,e2,e3⟩)
theorem a6Y(h:St c w L R){α:Type}[aJ α]{s:Value}{l:List α}{k:Nat}(i:Nat)(hi:L[i]?=some (rR s l k)):∃b off m,s=.slice (some ⟨b,off,none⟩) l.length m/\l.length<=maxLen:=by obtain⟨F,a,cp,b,off,c1,c2,F1,F2,e,h1,h2,h3,rfl,_⟩:=h.chunk i hi;grind
theorem a6Z{α:Type}[aJ α]{s:Value}{l:List α}{el m:Nat}{q:α}(h:∃b off m,s=.slice (some ⟨b,off,none⟩) l.length m/\l.length<=maxLen)(_hn:aJ.n α=m)(hq:idx l i=some q)(hu:P.underlying t=some (.slice el))(hz:∀w,(sizeOf el).run P w=.ok m w)(ho:o.op=.indexAddr t x y)(hx:ev e x=some s)(hy:ev e y=some (.int k i)):eR P o e w (.pointer (some ⟨RW s,QM m i.toNat s,none⟩)) w:=by
 obtain⟨h0,h1,h2⟩:=mC hq;obtain⟨b,off,cp,rfl,_⟩:=h;intro _ a hA;have h5:(⟨b,off,none⟩:Addr).add (i.toNat*m)=⟨b,off+i.toNat*m,none⟩:=by grind[Addr.add]
 simp[execOp,ho,Instr.indexAt,hA.eval hx,hA.eval hy,asIntOf,run_underlying hu,h0,h1,hz,h5,RW,QM]
theorem a1X{α:Type}[aJ α]{w:World}:aJ.own w [.slice none 0 0] ([]:List α) F0:=⟨none,0,rfl,kX _,lL _,.inl ⟨rfl,rfl,fun _ _ h=>h⟩⟩
theorem HL{w:World}:∀ch∈([]:List Chunk),ch.P w F0:=fun _ h=>nomatch h
theorem bO{w:World}{α:Type}[aJ α]{A:List Chunk}(h:∀ch∈A,ch.P w F0):∀ch∈bL [.slice none 0 0] ([]:List α) :: A,ch.P w F0:=fun ch hc=>by
 rcases mA.1 hc with rfl | hc
 ·exact a1X
 grind
theorem iN{w:World}{α:Type}[aJ α]{cs:List Value}{d:α}{A:List Chunk}(h:OP cs d A)(hz:∀ch∈A,ch.P w F0):aJ.own w cs d F0:=by
 refine(h w F0).2 ?_;clear h;induction A with
 | nil=>exact fun _ _ h=>h
 | cons a A ih=>exact⟨F0,F0,hz a (by simp),ih fun ch hc=>hz ch (by simp[hc]),fun _ _ h=>h.elim,fun b o=>by simp[F0]⟩
theorem aEK:∀{is:List Nat} {L:List Chunk} {j:Nat},(is.all fun i=>!Nat.beq i j)=true->(blank L is)[j]?=L[j]?
 | [],L,j,_=>rfl
 | i :: r, L, j, h => by
  simp only[aM5,C8,Bool.not_eq_true'] at h;have hne:i≠j:=fun e=>by simp_all
  show(blank (L.set i K9) r)[j]?=_;rw[aEK h.2,List.getElem?_set_ne hne]
theorem all_cons{Q:Fact->Prop}{f:Fact}{l:List Fact}(h:Q f)(hl:∀f∈l,Q f):∀g∈f :: l,Q g:=by grind
theorem aZF{b q:Nat}{A B C:List Value}{F:cN}(h:(WU b q (A++(B++C))).P w F):Sep w [WU b q A,WU b (q+A.length) B,WU b (q+A.length+B.length) C] F:=by
 obtain⟨h1,h2,hF⟩:=h;obtain⟨k1,k23⟩:=D2 h1;obtain⟨k2,k3⟩:=D2 k23;simp only[JO] at h2 hF;refine⟨eS b q A.length,fun b' o=>eS b (q+A.length) B.length b' o\/eS b (q+A.length+B.length) C.length b' o,⟨k1,fun o p=>h2 o ⟨rfl,by have:=p.2;omega,by have:=p.2;omega⟩,fun _ _=>Iff.rfl⟩,
  ⟨eS b (q+A.length) B.length,eS b (q+A.length+B.length) C.length,⟨k2,fun o p=>h2 o ⟨rfl,by have:=p.2;omega,by have:=p.2;omega⟩,fun _ _=>Iff.rfl⟩,Sep.one.2 ⟨k3,fun o p=>h2 o ⟨rfl,by have:=p.2;omega,by have:=p.2;omega⟩,fun _ _=>Iff.rfl⟩,?_,fun _ _=>Iff.rfl⟩,?_,fun b' o=>?_⟩
 ·rintro b' o ⟨_,p1,p2⟩ ⟨_,q1,q2⟩;omega
 ·rintro b' o ⟨_,p1,p2⟩ (⟨_,q1,q2⟩ | ⟨_,q1,q2⟩)<;>omega
 ·rw[hF];constructor
  ·rintro⟨e,p1,p2⟩;by_cases x1:o<q+A.length
   ·exact .inl ⟨e,p1,x1⟩
   ·by_cases x2:o<q+A.length+B.length
    ·exact .inr (.inl ⟨e,by omega,x2⟩)
    ·exact .inr (.inr ⟨e,by omega,by omega⟩)
  ·rintro(⟨e,p1,p2⟩ | ⟨e,p1,p2⟩ | ⟨e,p1,p2⟩)<;>exact⟨e,by omega,by omega⟩
theorem a1Y{b q:Nat}{A B C:List Value}{F:cN}(h:Sep w [WU b q A,WU b (q+A.length) B,WU b (q+A.length+B.length) C] F):(WU b q (A++(B++C))).P w F:=by
 obtain⟨F1,F23,⟨a1,a2,aF⟩,⟨F2,F3,⟨b1,b2,bF⟩,h3,_,f23⟩,_,f⟩:=h;obtain⟨c1,c2,cF⟩:=Sep.one.1 h3;refine⟨T5 a1 (T5 b1 c1),fun o p=>?_,fun b' o=>?_⟩
 ·obtain⟨_,p1,p2⟩:=p;simp only[JO] at p2;by_cases x1:o<q+A.length
  ·exact a2 o ⟨rfl,p1,x1⟩
  ·by_cases x2:o<q+A.length+B.length
   ·exact b2 o ⟨rfl,by omega,x2⟩
   ·exact c2 o ⟨rfl,by omega,by omega⟩
 ·rw[f,f23,aF,bF,cF];simp only[JO];constructor
  ·rintro(⟨e,p1,p2⟩ | ⟨e,p1,p2⟩ | ⟨e,p1,p2⟩)<;>exact⟨e,by omega,by omega⟩
  ·rintro⟨e,p1,p2⟩;by_cases x1:o<q+A.length
   ·exact .inl ⟨e,p1,x1⟩
   ·by_cases x2:o<q+A.length+B.length
    ·exact .inr (.inl ⟨e,by omega,x2⟩)
    ·exact .inr (.inr ⟨e,by omega,by omega⟩)
end
end Go.Gv
end
noncomputable section
namespace Go.Gv
def i4(n l h:Nat):Value->Value
 | .slice a _ cap=>.slice (if cap=l then a else a.map (·.add (l*n))) (h - l) (cap - l)
 | v=>v
theorem tN{α:Type}{l:List α}{a b:Nat}(h1:a<=b)(h2:b<=l.length):((l.take b).drop a).length=b - a:=by simp;omega
theorem a60{α:Type}{l:List α}{a b i:Nat}(h2:b<=l.length)(hi:i<b - a):((l.take b).drop a)[i]?=l[a+i]?:=by grind
theorem aVB{α:Type}[aJ α]{S:cN}{w:World}{s:Value}{l:List α}{n a b:Nat}(hn:aJ.n α=n)(h:aJ.rd S w [s] l)(h1:a<=b)(h2:b<=l.length):aJ.rd S w [i4 n a b s] ((l.take b).drop a):=by
 subst hn;obtain⟨ad,c,e,k1,k2,k3⟩:=(show tL S w [s] l from h);simp at e;subst e;have hl:=tN h1 h2;refine⟨if c=a then ad else ad.map (·.add (a*aJ.n α)),c - a,by grind[i4],by omega,by omega,?_⟩;by_cases h0:b=a
 ·grind
 ·right;rcases k3 with k3 | ⟨bl,off,rfl,k3⟩
  ·grind
  ·have hadd:(⟨bl,off,none⟩:Addr).add (a*aJ.n α)=⟨bl,off+a*aJ.n α,none⟩:=by grind[Addr.add]
   refine⟨bl,off+a*aJ.n α,by grind,fun i hi=>?_⟩;rw[hl] at hi;have hg:=a60 h2 hi;grind
theorem aXK{α:Type}[aJ α]{w:World}{s:Value}{l:List α}{n a b:Nat}{F:cN}(hn:aJ.n α=n)(h:aJ.own w [s] l F)(h1:a<=b)(h2:b<=l.length):∃F',aJ.own w [i4 n a b s] ((l.take b).drop a) F'/\∀b o,F' b o->F b o:=by
 subst hn;obtain⟨ad,c,e,k1,k2,k3⟩:=nP.1 h;subst e;have hl:=tN h1 h2;rcases k3 with ⟨rfl,rfl,hF⟩ | ⟨bl,off,cc,Fe,rfl,hr,hc,ho,hd,hF⟩
 ·have:l=[]:=AD (by omega);subst this;have ha:a=0:=by omega
  have hb:b=0:=by omega
  subst ha;subst hb;exact⟨F0,⟨none,0,rfl,kX _,lL _,.inl ⟨rfl,rfl,fun _ _ h=>h⟩⟩,fun _ _ h=>h.elim⟩
 ·have e3:l=l.take a++((l.take b).drop a++l.drop b):=by grind[aF0]
  rw[e3] at ho;obtain⟨c1,c23,F1,F23,rfl,o1,o23,d1,f1⟩:=ho.split;obtain⟨c2,c3,F2,F3,rfl,o2,o3,d2,f2⟩:=o23.split;have l1:=o1.length;rw[ZZ,Nat.min_eq_left (by omega)] at l1;obtain⟨q1,q23⟩:=D2 hc;obtain⟨q2,q3⟩:=D2 q23;rw[l1] at q2;by_cases hca:c=a
  ·have hab:b=a:=by omega
   have hz:(l.take b).drop a=[]:=by grind
   refine⟨F0,?_,fun _ _ h=>h.elim⟩;rw[hz];simp only[i4,hca,hab,Nat.sub_self,aP];exact nP.2 ⟨some ⟨bl,off,none⟩,0,rfl,kX _,lL _,.inr ⟨bl,off,[],F0,rfl,fun o p=>by obtain⟨_,p1,p2⟩:=p;omega,fun j v h=>by simp at h,⟨rfl,fun _ _ h=>h⟩,fun _ _ h=>h.elim,fun b' o=>by
    simp[F0,eS]⟩⟩
  ·have hmul:a*aJ.n α+(c - a)*aJ.n α=c*aJ.n α:=by rw[<-o9];grind
   refine⟨fun b' o=>eS bl (off+a*aJ.n α) ((c - a)*aJ.n α) b' o\/F2 b' o,?_,?_⟩
   ·have e4:i4 (aJ.n α) a b (.slice (some ⟨bl,off,none⟩) l.length c)=.slice (some ⟨bl,off+a*aJ.n α,none⟩) ((l.take b).drop a).length (c - a):=by
     have hadd:(⟨bl,off,none⟩:Addr).add (a*aJ.n α)=⟨bl,off+a*aJ.n α,none⟩:=by simp[Addr.add]
     simp only[i4,hl,aO hca,Option.map_some,hadd]
    rw[e4];refine NA (fun o p=>hr o ?_) q2 o2 (fun b' o p q=>hd b' o ((f1 b' o).2 (.inr ((f2 b' o).2 (.inl p)))) ?_) (by omega) (by omega)
    ·obtain⟨_,p1,p2⟩:=p;exact⟨rfl,by omega,by omega⟩
    ·obtain⟨p0,p1,p2⟩:=q;exact⟨p0,by omega,by omega⟩
   ·rintro b' o (p | p)
    ·obtain⟨p0,p1,p2⟩:=p;exact(hF b' o).2 (.inl ⟨p0,by omega,by omega⟩)
    grind
noncomputable section
variable {v:Value} {k k2:IntKind} {i j:Int} {P:Program} {o:Oper} {e:Env} {w w':World} {c:Ctx} {L:List Chunk} {R:List Fact} {x y z:Operand} {t el:TypeId}
theorem St.iC(h:St c w L R){α:Type}[aJ α]{s:Value}{l:List α}{n a b:Nat}(m:Nat)(hm:R[m]?=some (C9 [s] l))(hn:aJ.n α=n)(h1:a<=b)(h2:b<=l.length):St c w L (R ++ [C9 [i4 n a b s] ((l.take b).drop a)]):=
 h.derive m hm fun S hS g hg=>by simp at hg;subst hg;exact aVB hn hS h1 h2
theorem aJN{α:Type}[aJ α]{S:cN}{s:Value}{l:List α}(h:aJ.rd S w [s] l):∃ad cp,s=.slice ad l.length cp/\l.length<=cp:=by obtain⟨ad,cp,e,k1,_⟩:=(show tL S w [s] l from h);grind
theorem aZG{α:Type}[aJ α]{S:cN}{s:Value}{l:List α}{n:Nat}(h:aJ.rd S w [s] l)(hn:aJ.n α=n)(hu:P.underlying t=some (.slice el))(hz:∀w,(sizeOf el).run P w=.ok n w)(hb:0<=i/\i<=j/\j<=l.length)(ho:o.op=.slice t x (some y) (some z) none)(hx:ev e x=some s)(hy:ev e y=some (.int k i))(hw:ev e z=some (.int k2 j)):eR P o e w (i4 n i.toNat j.toNat s) w:=fun _ a hA=>by
 obtain⟨ad,cp,rfl,hc⟩:=aJN h;obtain⟨b0,b1,b2⟩:=hb;have h1:j<=(cp:Int):=by omega
 have h3:0<=j:=by omega
 have h2:max j 0=j:=by omega
 simp[execOp,ho,Instr.sliceAt,Instr.slice,run_underlying hu,Instr.sliceBounds,hA.eval hx,hA.eval hy,hA.eval hw,Instr.sliceBound,asIntOf,hz,b0,b1,h1,h2,h3,i4]
theorem a1Z{α:Type}[aJ α]{S:cN}{s:Value}{l:List α}{n:Nat}(h:aJ.rd S w [s] l)(hn:aJ.n α=n)(hu:P.underlying t=some (.slice el))(hz:∀w,(sizeOf el).run P w=.ok n w)(hb:0<=j/\j<=l.length)(ho:o.op=.slice t x none (some z) none)(hx:ev e x=some s)(hw:ev e z=some (.int k2 j)):eR P o e w (i4 n 0 j.toNat s) w:=fun _ a hA=>by
 obtain⟨ad,cp,rfl,hc⟩:=aJN h;obtain⟨b0,b1⟩:=hb;have h1:j<=(cp:Int):=by omega
 simp[execOp,ho,Instr.sliceAt,Instr.slice,run_underlying hu,Instr.sliceBounds,hA.eval hx,hA.eval hw,Instr.sliceBound,asIntOf,hz,b0,h1,i4]
theorem a61{l:List UInt8}{q:UInt8}(hu:P.underlying t=some .string)(hq:idx l i=some q)(ho:o.op=.index t x y)(hx:ev e x=some (sv l))(hy:ev e y=some (.int k i)):eR P o e w (.int .u8 (q.toNat:Int)) w:=fun _ a hA=>by
 obtain⟨h0,h1,h2⟩:=mC hq;have h3:(⟨l.toArray⟩:ByteArray)[i.toNat]?=some q:=by rw[getElem?_pos _ _ (by simp[ByteArray.size];omega)];rw[l9 (by omega)] at h2;simp only[Option.some.injEq] at h2;rw[<-h2];rfl
 simp[execOp,ho,Instr.index,run_underlying hu,hA.eval hx,hA.eval hy,asIntOf,h0,h3]
theorem bAJ(ho:o.op=.call {callee:=.builtin .min,args:=#[x,y],argTypes:=#[t,el]})(hx:ev e x=some (.int .i64 i))(hy:ev e y=some (.int k j)):eR P o e w (.int .i64 (if j<i then j else i)) w:=fun _ a hA=>by simp[execOp,ho,resolve,invoke,builtin,Builtin.min_,Builtin.min2,hA.eval hx,hA.eval hy]
theorem bAK(ho:o.op=.call {callee:=.builtin .max,args:=#[x,y],argTypes:=#[t,el]})(hx:ev e x=some (.int .i64 i))(hy:ev e y=some (.int k j)):eR P o e w (.int .i64 (if i<j then j else i)) w:=fun _ a hA=>by simp[execOp,ho,resolve,invoke,builtin,Builtin.max_,Builtin.max2,hA.eval hx,hA.eval hy]
theorem aJO:∀(l:List UInt8) (s:ByteArray),(l.map fun q=>(q.toNat:Int)).foldl (fun r n=>r.push (UInt8.ofNat n.toNat)) s=⟨s.data++l.toArray⟩
 | [],s=>by simp
 | q :: l, s => by rw[Z0,List.foldl_cons,aJO l];simp
theorem bAL{S:cN}{s:Value}{l:List UInt8}{t':TypeId}(h:aJ.rd S w [s] l)(hu:P.underlying t=some (.slice el))(he:P.underlying el=some (.int .u8))(hu':P.underlying t'=some .string)(ho:o.op=.convert t t' x)(hx:ev e x=some s):eR P o e w (sv l) w:=fun _ a hA=>by
 obtain⟨ad,cp,cc,rfl,h1,h2,h3⟩:=M9 h;have hcc:cc=(l.map fun q=>(q.toNat:Int)).map (Value.int .u8):=by
  have h1:cc.length=l.length*1:=h1;apply aBY;intro i;by_cases hi:i<l.length
  ·have:=h3 i l[i] (l9 hi);have:KH cc 1 i=[.int .u8 (l[i].toNat:Int)]:=this;have h5:(KH cc 1 i)[0]?=cc[i*1+0]?:=tM (by omega);grind
  grind
 have key:(Conv.bytesToString (.slice ad l.length cp)).run P w=.ok (sv l) w:=by
  rcases h2 with h2 | ⟨b,off,rfl,h2⟩
  ·subst h2;cases ad with
   | none=>rfl
   | some a =>
    rw[show([]:List UInt8).length=0 from rfl,run_bytesToString w a 0 cp [] (by simp[loadCells,loadCellsFrom])];rfl
  ·rw[run_bytesToString w _ _ cp _ (by
    have:=rP h2 P;have h1:cc.length=l.length*1:=h1;rw[h1,Nat.mul_one] at this;rw[<-hcc];exact this),aJO]
   simp[sv]
 simp[execOp,ho,convert,run_underlying hu,run_underlying hu',run_underlying he,hA.eval hx,key]
theorem bAM{α:Type}(f:α->Value){l:List α}{q:α}{cs:Array Value}{n:Nat}(hu:P.underlying t=some (.array n el))(hz:∀w,(sizeOf el).run P w=.ok 1 w)(hg:∀w,(isAgg el).run P w=.ok false w)(hq:idx l i=some q)(hn:l.length=n)(hcs:cs=(l.map f).toArray)(ho:o.op=.index t x y)(hx:ev e x=some (.agg cs))(hy:ev e y=some (.int k i)):eR P o e w (f q) w:=fun _ a hA=>by obtain⟨h0,h1,h2⟩:=mC hq;subst hn;subst hcs;have h3:=h2;rw[l9 (by omega)] at h3;simp only[Option.some.injEq] at h3;simp[execOp,ho,Instr.index,run_underlying hu,hA.eval hx,hA.eval hy,asIntOf,h0,h1,hz,part,hg,h3]
theorem aEL{zv:Value}{n m:Nat}{ps:List (Nat×Operand)}{vs:List Value}{cells:Array Value}(ho:o.op=.build t ps.toArray)(hz:∀w,(zeroValue t).run P w=.ok zv w)(hu:P.underlying t=some (.array n el))
  (hp:∀w,(sizeOf el).run P w=.ok m w) (hv:evs e (ps.map (·.2))=some vs) (hc:Instr.fill (fun i=>some (i*m,m)) zv.cells ((ps.map (·.1)).zip vs)=some cells):eR P o e w (.agg cells) w:=fun _ a hA=>by
 have h1:ps.map (fun p=>(p.1,a.eval p.2))=(ps.map (·.1)).zip vs:=by rw[<-O6 hA hv];grind
 simp_all[execOp,Instr.build,run_underlying]
theorem a62{α:Type}[aJ α]{zv:Value}{m:Nat}(hS:St c w L R)(hn:aJ.n α=m)(hu:P.underlying t=some (.slice el))(hinf:T3 P el m zv)(ho:o.op=.buildSlice t 0 #[]) :
  ∃v w',eR P o e w v w'/\St c w' (L ++ [bL [v] ([]:List α)]) R:=by
 obtain⟨ti,hi,hz,hsz,hby⟩:=hinf;have hnew:=aB2 (α:=α) hS [] rfl rfl [] [] [] 0 el (fun F _=>⟨F0,⟨rfl,fun _ _ h=>h⟩,fun _ _ h=>h.elim⟩) (by simp) (kX _) (lL _);refine⟨_,_,fun _ a hA=>?_,hnew⟩;simp_all[Array.eq_empty_of_size_eq_zero,execOp,Instr.buildSlice,run_underlying,sizeOf,typeInfo,Instr.fill,newRow]
theorem a10{zv v c0:Value}(hc:v.cells=#[c0]):Instr.fill (fun i=>some (i*1,1)) ((Array.range (1*1)).map (fun i=>(if 1*1=0 then #[] else zv.cells)[i % (if 1*1=0 then #[] else zv.cells).size]!)) [(0,v)]=some #[c0]:=by have h1:Array.range 1=#[0]:=rfl;simp_all[Instr.fill]
theorem a63{α:Type}[aJ α][Flat α](q:α){x:Operand}{v c0 zv:Value}(hS:St c w L R)(hn:aJ.n α=1)(hu:P.underlying t=some (.slice el))(hinf:T3 P el 1 zv)(hrd:aJ.rd F0 default [c0] q)
  (ho:o.op=.buildSlice t 1 #[(0,x)]) (hv:ev e x=some v) (hc:v.cells=#[c0]) :
  ∃v w',eR P o e w v w'/\St c w' (L ++ [bL [v] [q]]) R:=by
 refine aVA (ps:=[(0,x)]) (vs:=[v]) (cells:=[c0]) [q] hS hn hu hinf rfl (by rfl) (by rfl) ⟨hrd,rfl⟩ ho (by simp[evs,hv]) ?_;exact a10 hc
theorem aIK{n b:Nat}(hu:P.underlying t=some (.array n el))(hz:∀w,(sizeOf el).run P w=.ok 1 w)(hb:0<=i/\i<n)(ho:o.op=.indexAddr t x y)(hx:ev e x=some (.pointer (some ⟨b,0,none⟩)))(hy:ev e y=some (.int k i)):eR P o e w (.pointer (some ⟨b,i.toNat,none⟩)) w:=fun _ a hA=>by
 have h5:(⟨b,0,none⟩:Addr).add i.toNat=⟨b,i.toNat,none⟩:=by grind[Addr.add]
 simp[execOp,ho,Instr.indexAt,hA.eval hx,hA.eval hy,asIntOf,run_underlying hu,Instr.sureAddr,hb.1,hb.2,hz,h5]
theorem St.aXL{α:Type}{f:α->Value}{l:List α}{q:α}{b:Nat}(h:St c w L R)(m:Nat)(hm:L[m]?=some (HK b (l.map f)))(hq:idx l i=some q):w.cell? ⟨b,i.toNat,none⟩=some (f q):=
 h.cell m hm (by simp_all[mC])
theorem a11{α:Type}{f:α->Value}{l:List α}{k:Nat}{q:α}:ZN (l.map f) k [f q]=(l.set k q).map f:=by show(l.map f).set k (f q)=_;simp
theorem a12{α:Type}{f:α->Value}{l:List α}{q xd:α}{b m:Nat}(hS:St c w L R)(hm:L[m]?=some (HK b (l.map f)))(hq:idx l i=some q)(hz:∀w,(sizeOf t).run P w=.ok 1 w)(ho:o.op=.store t x y)(hx:ev e x=some (.pointer (some ⟨b,i.toNat,none⟩)))(hy:ev e y=some v)(hv:v=f xd)(h1:(f xd).cells=#[f xd])(h2:(f xd).oneCell'=true) :
  ∃w',a1A P o e w w'/\St c w' (L.set m (HK b ((l.set i.toNat xd).map f))) R:=by
 obtain⟨k0,k1,k2⟩:=mC hq;have:=aAX (i:=m) (vs:=[f xd]) hS hm ho hx hy (by rw[hv,h1]) hz rfl (by(simp_all;omega)) (by simp[h2]);grind[a11]
theorem a13{D n m:Nat}(hu:P.underlying t=some (.slice el)):(Op.equalIn (D+1) t (.slice none n m) (.slice none 0 0)).run P w=.ok true w:=by simp[Op.equalIn,run_underlying hu]
theorem a14{D n m:Nat}{ad:Addr}(hu:P.underlying t=some (.slice el)):(Op.equalIn (D+1) t (.slice (some ad) n m) (.slice none 0 0)).run P w=.ok false w:=by simp[Op.equalIn,run_underlying hu]
theorem aVC{s:Value}{t':TypeId}(hu:P.underlying t=some (.slice el))(h:∃n m,s=.slice none n m)(ho:o.op=.binOp .eql t x y t')(hx:ev e x=some s)(hy:ev e y=some (.slice none 0 0)):eR P o e w (.bool true) w:=fun _ a hA=>by obtain⟨n,m,rfl⟩:=h;have h1:binOp .eql t (.slice none n m) (.slice none 0 0)=(do pure (.bool (<-Op.equal t (.slice none n m) (.slice none 0 0)))):=rfl;have h2:(Op.equal t (.slice none n m) (.slice none 0 0)).run P w=.ok true w:=a13 (D:=9999) hu;simp[execOp,ho,hA.eval hx,hA.eval hy,eqGuard,h1,h2]
theorem aVD{s:Value}{t':TypeId}(hu:P.underlying t=some (.slice el))(h:∃a n m,s=.slice (some a) n m)(ho:o.op=.binOp .eql t x y t')(hx:ev e x=some s)(hy:ev e y=some (.slice none 0 0)):eR P o e w (.bool false) w:=fun _ a hA=>by obtain⟨ad,n,m,rfl⟩:=h;have h1:binOp .eql t (.slice (some ad) n m) (.slice none 0 0)=(do pure (.bool (<-Op.equal t (.slice (some ad) n m) (.slice none 0 0)))):=rfl;have h2:(Op.equal t (.slice (some ad) n m) (.slice none 0 0)).run P w=.ok false w:=a14 (D:=9999) hu;simp[execOp,ho,hA.eval hx,hA.eval hy,eqGuard,h1,h2]
end
end Go.Gv
end
noncomputable section
namespace Go.Gv
structure Raw where
 v:Value
instance:Inhabited Raw:=⟨⟨.slice none 0 0⟩⟩
instance:aJ Raw where
 n:=1
 rd:=fun _ _ cs x=>cs=[x.v]/\x.v.oneCell'=true
 own:=fun _ cs x F=>(cs=[x.v]/\x.v.oneCell'=true)/\∀b o,¬F b o
 mB:=fun h=>by simp[h.1]
 rd_one:=fun h v hv=>by grind
 rd_agree:=fun h _=>h
 rd_mono:=fun h _=>h
 own_rd:=fun h=>h.1
 own_keep:=fun h _ _=>h
 own_lt:=fun h hf=>(h.2 _ _ hf).elim
instance:Flat Raw:=⟨fun h=>⟨h,fun _ _ h=>h⟩,fun h=>h.2⟩
def aAZ{α:Type}[aJ α](S:cN)(w:World)(us:List Raw)(l:List α):Prop:=us.length=l.length/\∀(i:Nat) (u:Raw) (x:α),us[i]?=some u->l[i]?=some x->aJ.rd S w [u.v] x
theorem aAZ.append{α:Type}[aJ α]{S:cN}{w:World}{us vs:List Raw}{l m:List α}(h:aAZ S w us l)(k:aAZ S w vs m):aAZ S w (us++vs) (l++m):=by
 refine⟨by simp[h.1,k.1],fun i u x hu hx=>?_⟩;rw[aFY] at hu hx;rw[h.1] at hu;split at hu
 ·rename_i hlt;rw[aL hlt] at hx;exact h.2 i u x hu hx
 ·rename_i hlt;rw[aO hlt] at hx;exact k.2 _ u x hu hx
theorem a15{α:Type}[aJ α](hn:aJ.n α=1){S:cN}{w:World}{s:Value}{l:List α}(h:aJ.rd S w [s] l):∃us:List Raw,aJ.rd S w [s] us/\aAZ S w us l:=by
 obtain⟨ad,c,e,h1,h2,h3⟩:=(show tL S w [s] l from h);rcases h3 with h3 | ⟨b,off,rfl,h3⟩
 ·subst h3;exact⟨[],⟨ad,c,e,h1,h2,.inl rfl⟩,rfl,fun i u x hu=>by simp at hu⟩
 ·have hv:∀i,i<l.length->∃v:Value,bG w b (off+i*1) [v]/\(∀o,eS b (off+i*1) 1 b o->S b o)/\v.oneCell'=true/\∀x,l[i]?=some x->aJ.rd S w [v] x:=fun i hi=>by obtain⟨ec,q1,q2,q3⟩:=h3 i hi;have hl:=aJ.mB q3;rw[hn] at hl q1 q2;grind[List.length_eq_one_iff,aJ.rd_one]
  obtain⟨f,hf⟩:=Go.Deep.choose_lt (α:=Value) hv;refine⟨(List.range l.length).map fun i=>⟨f i⟩,⟨_,c,by rw[e];simp,by grind,h2,.inr ⟨b,off,rfl,fun i hi=>?_⟩⟩,by simp,fun i u x hu hx=>?_⟩
  ·have hi':i<l.length:=by grind
   refine⟨[f i],(hf i hi').1,(hf i hi').2.1,?_⟩;simp only[List.getElem_map,List.getElem_range];exact⟨rfl,(hf i hi').2.2.1⟩
  grind
theorem aSJ{α:Type}[aJ α](hn:aJ.n α=1){S:cN}{w:World}{s:Value}{us:List Raw}{l:List α}(h:aJ.rd S w [s] us)(hr:aAZ S w us l):aJ.rd S w [s] l:=by
 obtain⟨ad,c,e,h1,h2,h3⟩:=(show tL S w [s] us from h);have hl:us.length=l.length:=hr.1;refine⟨ad,c,by rw[e,hl],hl ▸ h1,h2,?_⟩;rcases h3 with h3 | ⟨b,off,rfl,h3⟩
 ·grind
 ·right;refine⟨b,off,rfl,fun i hi=>?_⟩;obtain⟨ec,q1,q2,q3⟩:=h3 i (by omega);have q3:ec=[(us[i]'(by omega)).v]/\_:=q3;refine⟨ec,by rw[hn];exact q1,by rw[hn];exact q2,?_⟩;rw[q3.1];exact hr.2 i _ _ (l9 _) (l9 hi)
def bAN(s:Value)(n:Nat):Chunk where
 P:=fun w F=>∃b off len c,s=.slice (some ⟨b,off,none⟩) len c/\c<=maxLen/\Row w b off (c*n)/\∀b' o,F b' o↔eS b off (c*n) b' o
 keep:=by rintro w w' F G ⟨b,off,len,c,e,h1,h2,hF⟩ hk hd;exact⟨b,off,len,c,e,h1,fun o p=>⟨hk.stay b o (h2 o p).1,(hk.yZ b o (kK (h2 o p).1)).trans (h2 o p).2⟩,hF⟩
 lt:=by rintro w F b' o ⟨b,off,len,c,e,h1,h2,hF⟩ hf;have p:=(hF b' o).1 hf;obtain rfl:b'=b:=p.1;exact kK (h2 o p).1
noncomputable section
variable {v:Value} {k k2:IntKind} {i j:Int} {P:Program} {o:Oper} {e:Env} {w w':World} {c:Ctx} {L:List Chunk} {R:List Fact} {x y z:Operand} {t t2 el:TypeId}
theorem St.aSK{α:Type}[aJ α]{s:Value}{l:List (List α)}{n:Nat}{q:List α}(h:St c w L R)(m:Nat)(hm:R[m]?=some (C9 [s] l))(hq:l[n]?=some q):∃v0:Value,bG w (RW s) (QM 1 n s) [v0]/\St c w L (R ++ [C9 [v0] q]):=by obtain⟨S,hS,hk⟩:=h.a1L hm;obtain⟨ec,h1,h2⟩:=aSH hS hq;obtain⟨v0,rfl⟩:=jD h2;exact⟨v0,h1,hk _ (by intro f hf;simp only[mA,VI,or_false] at hf;subst hf;exact h2)⟩
theorem St.bAO(h:St c w L R){α:Type}[aJ α]{s:Value}{n:Nat}(m:Nat)(hm:L[m]?=some (bAN s n))(hn:aJ.n α=n):St c w (L.set m (bL [i4 n 0 0 s] ([]:List α))) R:=
 h.aB1 m hm fun F hF=>by
  obtain⟨b,off,len,cp,rfl,h1,h2,hF⟩:=hF;have e:i4 n 0 0 (.slice (some ⟨b,off,none⟩) len cp)=.slice (some ⟨b,off,none⟩) 0 cp:=by simp[i4,Addr.add]
  subst hn;refine⟨fun b' o'=>eS b off (cp*aJ.n α) b' o'\/F0 b' o',F0,eT.refl _ _,fun _ _ h=>h.elim,?_,fun b' o' q=>.inl ((hF b' o').2 (q.elim id fun q=>q.elim))⟩;show aJ.own w [_] ([]:List α) _;rw[e];exact NA (l:=([]:List α)) (cc:=[]) (Fe:=F0) h2 (fun j v h=>by simp at h) ⟨rfl,fun _ _ h=>h⟩ (fun _ _ h=>h.elim) (lL _) h1
theorem aOS(hu:P.underlying t=some (.slice el))(ho:o.op=.call {callee:=.builtin .cap,args:=#[x],argTypes:=#[t]})(hx:ev e x=some (.slice none 0 0)):eR P o e w (.int .i64 0) w:=fun _ a hA=>by simp[execOp,ho,resolve,invoke,builtin,Builtin.cap_,hA.eval hx,run_underlying hu,goInt]
theorem a64{z:Value}{m:Nat}(hS:St c w L R)(hu:P.underlying t=some (.slice el))(hut:P.underlying t2=some (.int k))(hinf:T3 P el m z)(hzs:z.cells.size=m)(hm:Nat.ble 1 m=true)
  (hb:1<=i/\i<=1073741824) (ho:o.op=.call {callee:=.builtin .append,args:=#[x,y],argTypes:=#[t,t2]}) (hx:ev e x=some (.slice none 0 0)) (hy:ev e y=some (.int .i64 i)) :
  ∃v w',eR P o e w v w'/\St c w' (L ++ [bAN v m]) R:=by
 obtain⟨ti,hti,hz,hsz,hby⟩:=hinf;obtain⟨b0,b1⟩:=hb;have hw:IntKind.i64.wrap i=i:=by grind[IntKind.wrap,IntKind.bits]
 have hn0:¬(i.toNat<=0):=by omega
 have hbytes:i.toNat*ti.bytes<=140737488355328:=by have:i.toNat*ti.bytes<=1073741824*65536:=Nat.mul_le_mul (by omega) hby;omega
 have hfit:=growslice_fits (need:=i.toNat) (old:=0) (bytes:=ti.bytes) (by omega) hbytes;obtain⟨hge,hle⟩:i.toNat<=grownCap w i.toNat 0 el/\grownCap w i.toNat 0 el<=maxLen:=⟨grownCap_ge _ _ _ _,grownCap_le_maxLen _ _ _ _ (by grind[maxLen])⟩;have hrun:∃cs:Array Value,cs.size=grownCap w i.toNat 0 el*m/\(Builtin.append_ #[t,t2] o.type #[.slice none 0 0,.int .i64 i]).run P w=.ok (.slice (some ⟨w.heap.size,0,none⟩) i.toNat (grownCap w i.toNat 0 el)) (w.drew.alloc (.cells cs el)):=by
  have hn2:¬(i<=0):=by omega
  have hi:(i.toNat:Int)=i:=by omega
  have h63':¬(9223372036854775807<i):=by omega
  have h48':¬(281474976710656<Builtin.nextslicecap i.toNat 0*ti.bytes):=by omega
  have h48:¬(281474976710656<i*(ti.bytes:Int)):=by grind
  have hneg:¬(i<0):=by omega
  have hmax:max i 0=i:=by omega
  have hm1:=M7 hm;have hnm:¬(i.toNat*m=0):=by grind[Nat.mul_eq_zero]
  refine⟨Builtin.zeroCells z.cells i.toNat++Builtin.zeroCells z.cells (grownCap w i.toNat 0 el - i.toNat),?_,?_⟩
  rotate_left 1
  ·have hf1:(Builtin.firstCells m 0 (.slice none 0 0)).run P w.drew=.ok #[] w.drew:=rfl;simp[Builtin.append_,run_underlying hu,run_underlying hut,sizeOf,typeInfo,zeroValue,hti,hz,hsz,Builtin.lenOf,asInt,asIntOf,hw,hneg,h48,hn0,h63',h48',Question.forced,newRow,grownCap,hf1,hnm,hi,hn2,hmax]
  ·rw[Array.size_append,size_zeroCells,size_zeroCells,hzs,<-o9];grind
 obtain⟨cs,hcs,hrun⟩:=hrun;refine⟨.slice (some ⟨w.heap.size,0,none⟩) i.toNat (grownCap w i.toNat 0 el),w.drew.alloc (.cells cs el),fun _ a hA=>?_,?_⟩
 rotate_left 1
 ·refine(hS.same (eT.drew F0 w)).more (eT.alloc _ _ _) ⟨eS w.heap.size 0 (grownCap w i.toNat 0 el*m),⟨_,_,_,_,rfl,hle,fun o' p=>?_,fun _ _=>Iff.rfl⟩,fun b o' p=>RZ p.1.symm⟩;obtain⟨_,_,h3⟩:=p;refine⟨?_,World.frozen?_alloc_at (hn:=rfl) ..⟩;have h4:(w.drew.alloc (.cells cs el)).cell? ⟨w.drew.heap.size,o',none⟩=cs[o']?:=by grind[World.cell?_alloc_at]
  simp_all
 ·simp[execOp,ho,resolve,invoke,builtin,hA.eval hx,hA.eval hy,hrun]
theorem aXM{s:Value}{n:Nat}(h:∃ad len cp,s=.slice ad len cp)(hu:P.underlying t=some (.slice el))(hz:∀w,(sizeOf el).run P w=.ok n w)(ho:o.op=.slice t x none (some z) none)(hx:ev e x=some s)(hw:ev e z=some (.int k2 0)):eR P o e w (i4 n 0 0 s) w:=fun _ a hA=>by obtain⟨ad,len,cp,rfl⟩:=h;simp[execOp,ho,Instr.sliceAt,Instr.slice,run_underlying hu,Instr.sliceBounds,hA.eval hx,hA.eval hw,Instr.sliceBound,asIntOf,hz,i4]
theorem St.a16(h:St c w L R){s:Value}{n:Nat}(m:Nat)(hm:L[m]?=some (bAN s n)):∃ad len cp,s=.slice ad len cp:=by obtain⟨F,b,off,len,cp,e,_⟩:=h.chunk m hm;grind
def bCS{α:Type}[aJ α](us:List Raw)(l:List α):Fact where
 P:=fun S w=>aAZ S w us l
 agree:=fun h ha=>⟨h.1,fun i u x hu hx=>aJ.rd_agree (h.2 i u x hu hx) ha⟩
 mono:=fun h ha=>⟨h.1,fun i u x hu hx=>aJ.rd_mono (h.2 i u x hu hx) ha⟩
theorem St.a17(h:St c w L R):∃S,(∀f∈R,f.P S w)/\(∀b o,S b o->b<w.heap.size)/\∀Gs:List Fact,(∀g∈Gs,g.P S w)->St c w L (R++Gs):=by obtain⟨F,S,a1,a2,a3,a4,a5,a6⟩:=h.sep;refine⟨S,a6,a5,fun Gs hG=>⟨h.keep,⟨F,S,a1,a2,a3,a4,a5,fun g hg=>?_⟩,h.apart⟩⟩;grind
theorem St.a65(h:St c w L R){α:Type}[aJ α](hn:aJ.n α=1){s s1 s2:Value}{a b:List α}(m m1 m2:Nat)(hm:R[m]?=some (C9 [s] ([⟨s1⟩,⟨s2⟩]:List Raw)))(hm1:R[m1]?=some (C9 [s1] a))(hm2:R[m2]?=some (C9 [s2] b)) :
  ∃u1 u2:List Raw,aJ.rd (R1 w) w [s] ([u1,u2]:List (List Raw))/\(u1.length=a.length/\u2.length=b.length)/\St c w L (R ++ [bCS (u1++u2) (a++b)]):=by
 obtain⟨S,hS,hlt,hk⟩:=h.a17;have h0:aJ.rd S w [s] ([⟨s1⟩,⟨s2⟩]:List Raw):=hS _ (A6 hm);obtain⟨u1,k1,r1⟩:=a15 hn (show aJ.rd S w [s1] a from hS _ (A6 hm1));obtain⟨u2,k2,r2⟩:=a15 hn (show aJ.rd S w [s2] b from hS _ (A6 hm2));refine⟨u1,u2,aJ.rd_mono (aSJ rfl h0 ⟨rfl,fun i u q hu hq=>?_⟩) hlt,⟨r1.1,r2.1⟩,hk _ fun g hg=>?_⟩
 ·grind
 ·simp only[mA,VI,or_false] at hg;subst hg;exact r1.append r2
theorem St.bCT(h:St c w L R){α:Type}[aJ α](hn:aJ.n α=1){s:Value}{us:List Raw}{l:List α}(m m':Nat)(hm:R[m]?=some (C9 [s] us))(hm':R[m']?=some (bCS us l)):St c w L (R ++ [C9 [s] l]):=by obtain⟨S,hS,hlt,hk⟩:=h.a17;refine hk _ fun g hg=>?_;simp only[mA,VI,or_false] at hg;subst hg;exact aSJ hn (show aJ.rd S w [s] us from hS _ (A6 hm)) (hS _ (A6 hm'))
theorem a18{zv v c0 v' c1:Value}(hc:v.cells=#[c0])(hc':v'.cells=#[c1]):Instr.fill (fun i=>some (i*1,1)) ((Array.range (2*1)).map (fun i=>(if 2*1=0 then #[] else zv.cells)[i % (if 2*1=0 then #[] else zv.cells).size]!)) [(0,v),(1,v')]=some #[c0,c1]:=by have h1:Array.range 2=#[0,1]:=rfl;simp_all[Instr.fill]
theorem aF2{α:Type}[aJ α]{S:cN}{w:World}{v:Value}{l:List α}(h:aJ.rd S w [v] l):v.cells=#[v]:=Array.toList_inj.1 (by grind[a1R])
theorem aVE{α β:Type}[aJ α][aJ β]{S:cN}{x y:Operand}{v1 v2 zv:Value}{a:List α}{b:List β}(hS:St c w L R)(h1:aJ.rd S w [v1] a)(h2:aJ.rd S w [v2] b)(hu:P.underlying t=some (.slice el))(hinf:T3 P el 1 zv)
  (ho:o.op=.buildSlice t 2 #[(0,x),(1,y)]) (hx:ev e x=some v1) (hy:ev e y=some v2) :
  ∃v w',eR P o e w v w'/\St c w' (L ++ [bL [v] ([⟨v1⟩,⟨v2⟩]:List Raw)]) R:=by
 refine aVA (α:=Raw) (ps:=[(0,x),(1,y)]) (vs:=[v1,v2]) (cells:=[v1,v2]) [⟨v1⟩,⟨v2⟩] hS rfl hu hinf rfl (by rfl) (by rfl) ⟨⟨rfl,aJM h1⟩,⟨rfl,aJM h2⟩,rfl⟩ ho (by grind[evs]) ?_;exact a18 (aF2 h1) (aF2 h2)
end
end Go.Gv
end
noncomputable section
namespace Go.Gv
open Go.ChangeShapes Go.WideShapes Go.ChangeAt Go.RowKit
class Fits (α:Type) where
 fit:α->Prop
abbrev fit{α:Type}[Fits α](x:α):Prop:=Fits.fit x
instance:Fits Int:=⟨fun x=>-9223372036854775808<=x/\x<=9223372036854775807⟩
instance:Fits Bool:=⟨fun _=>True⟩
instance:Fits UInt8:=⟨fun _=>True⟩
instance:Fits a94:=⟨fun s=>s.b.length<=maxLen⟩
instance {α β:Type} [Fits α] [Fits β]:Fits (α×β):=⟨fun p=>fit p.1/\fit p.2⟩
instance {α:Type} [Fits α]:Fits (List α):=⟨fun l=>l.length<=maxLen/\∀x∈l,fit x⟩
@[reducible] def Fits.via {α β : Type} [Fits β] (f : α -> β) : Fits α := ⟨fun x => fit (f x)⟩
def Y7(P:Program)(t:TypeId)(α:Type)[aJ α][Fits α]:Prop:=
 ∀{H:Type} {enc:TypeId×Value->H} {w:World} {spare:Nat->Bool} {held:Bool} {fuel:Nat} {cs:List Value} {x:DataW H×List MemPlace},
  DataW.trod enc P w 0 spare held fuel t cs=some x->∃d:α,aJ.rd (R1 w) w cs d/\fit d
theorem a19{P:Program}{t:TypeId}(hu:P.underlying t=some (.int .u8)):Y7 P t UInt8:=fun h=>by
 obtain⟨n,rfl,_,hf⟩:=DataW.trod_int hu h;have hn:0<=n/\n<=255:=by simpa[Lit.wf,show IntKind.u8.min=0 by decide,show IntKind.u8.max=255 by decide] using hf
 refine⟨UInt8.ofNat n.toNat,?_,trivial⟩;show [Value.int .u8 n]=[Value.int .u8 ((UInt8.ofNat n.toNat).toNat:Int)]
 (simp_all;omega)
theorem aSL{P:Program}{t e:TypeId}{α:Type}[aJ α][Fits α](hu:P.underlying t=some (.slice e))(hc:P.cellsOf e=aJ.n α)(hn:0<aJ.n α)(he:Y7 P e α):Y7 P t (List α):=fun{H enc w spare held fuel cs x} h=>by
 rcases Go.Deep.open_slice hu h with ⟨rfl,_⟩ | ⟨a,len,cap,m,n,D,Pl,rfl,_,hl,hm,hmm,_,hx⟩
 ·exact⟨[],⟨none,0,rfl,kX _,lL _,.inl rfl⟩,lL _,fun _ h=>nomatch h⟩
 ·have hlm:len<=m:=by grind
  rw[hc] at hx;by_cases h0:len=0
  ·subst h0;exact⟨[],⟨some a,cap,rfl,lL _,hm,.inl rfl⟩,lL _,fun _ h=>nomatch h⟩
  have one:∀i,i<len->∃d:α,(∃ec,w.cells? 0 (a.add (i*aJ.n α)) (aJ.n α)=some ec/\aJ.rd (R1 w) w ec d)/\fit d:=fun i hi=>by obtain⟨ec,h1,h2⟩:=hx i (by omega);obtain⟨d,h3,h4⟩:=he h2;grind
  obtain⟨d0,_⟩:=one 0 (by omega);haveI:Inhabited α:=⟨d0⟩;obtain⟨f,hf⟩:=Go.Deep.choose_lt one;obtain⟨b,off,sp⟩:=a;refine⟨(List.range len).map f,⟨some ⟨b,off,sp⟩,cap,by simp,by grind,hm,?_⟩,by simp;omega,fun x hx=>by
   grind⟩
  right;have sp0:sp=none:=by obtain⟨ec,h1,_⟩:=hx 0 (by omega);obtain⟨_,h2,h3⟩:=World.cells?_some h1;have h4:=h3 0 hn;rw[l9 (by omega)] at h4;have h5:=World.cell?_spot h4;grind[Addr.add]
  subst sp0;refine⟨b,off,rfl,fun i hi=>?_⟩;have hi':i<len:=by grind
  obtain⟨ec,h1,h2⟩:=(hf i hi').1;obtain⟨_,h3,h4⟩:=World.cells?_some h1;have hcell:bG w b (off+i*aJ.n α) ec:=fun j v hj=>by
   obtain⟨hj',_⟩:=A4.1 hj;have h5:=h4 j (by omega);rw[hj] at h5;have e:((⟨b,off,none⟩:Addr).add (i*aJ.n α)).add j=⟨b,off+i*aJ.n α+j,none⟩:=by rw[Go.Deep.add_add];grind[Addr.add]
   grind
  refine⟨ec,hcell,fun o _=>?_,by grind⟩;exact hcell.lt (fun e=>by grind)
theorem Trod.opens{H:Type}{enc:TypeId×Value->H}{P:Program}{w:World}{spare:Nat->Bool}{held:Bool}{t:TypeId}{v:Value}{x:DataW H}{ps:List MemPlace}{α:Type}[aJ α][Fits α](ho:Y7 P t α)(h:DataW.Trod enc P w 0 spare held t v x ps) :
  ∃d:α,aJ.rd (R1 w) w v.cells.toList d/\fit d:=by
 obtain⟨fuel,hf⟩:=h;exact ho hf
theorem St.below{w0 w':World}{L:List Chunk}{R:List Fact}(h:St (cL w0) w' L R):Below w0.heap.size w0 w':=
 ⟨h.keep.os,h.keep.tape,h.keep.output,h.keep.size,fun k hk=>h.keep.block k hk fun _ hf=>hf⟩
end Go.Gv
end
noncomputable section
namespace Go.Gv
noncomputable section
variable {P:Program} {op:Op} {ty:TypeId} {ps:String} {af:Array Edge} {ops:Array Oper} {rest:List Oper} {Q:Exit->Act->World->Prop} {n d:Nat} {e:Env} {v:Value} {w w':World} {c:Ctx} {L:List Chunk} {R:List Fact}
theorem oy(hr:eR P ⟨some d,op,ty,ps,af,none⟩ e w v w')(hn:Nat.blt d n=true)(k:lX P ops Q rest n ((d,v) :: e) w'):lX P ops Q (⟨some d,op,ty,ps,af,none⟩ :: rest) n e w:=
 gK hr (cA rfl) rfl hn k
theorem om{x:Operand}(hx:ev e x=some v)(hn:Nat.blt d n=true)(k:lX P ops Q rest n ((d,v) :: e) w):lX P ops Q (⟨some d,.move x,ty,ps,af,none⟩ :: rest) n e w:=oy (pU rfl hx) hn k
theorem oa{x:Operand}(hx:ev e x=some v)(hn:Nat.blt d n=true)(k:lX P ops Q rest n ((d,v) :: e) w):lX P ops Q (⟨some d,.assign x,ty,ps,af,none⟩ :: rest) n e w:=oy (HW rfl hx) hn k
theorem ey{N:Act->World->Prop}{X:Nat->Act->World->Prop}{T:Act->World->Prop}{fuel:Nat}{tC:Array Bool}(i:Nat)(hi:ops[i]?=some ⟨some d,op,ty,ps,af,none⟩)
  (hc:(Region.noSelect ops && (Region.free .any ops tC i && (Region.ready .any ops tC).contains i))=true) (hK:a1N c L R w) (hv:∀(L':List Chunk) (w':World),St c w' (L++L') R->eR P ⟨some d,op,ty,ps,af,none⟩ e w' v w') (hn:Nat.blt d n=true)
  (k:a6V P ops (mkQ N X T) (a1N c L R) fuel (tC.setIfInBounds i true) n ((d,v) :: e) w):a6V P ops (mkQ N X T) (a1N c L R) (fuel+1) tC n e w:=by
 rw[C8,C8] at hc;grind[bCQ,cA]
theorem fy{fn:Func}{s:Tmp}{a':Act}(hf:fn.results=#[.tmp s])(hA:mX n e a')(hl:lk e s=some v)(hS:St c w L R):Fin P fn (fun u w'=>u=v/\St c w' [] []) a' w:=
 a6R hf hA (aII hl) ⟨rfl,(hS.R7 [] rfl).weaken (R':=[]) (fun _ h=>nomatch h)⟩
end
def fAt(b off:Nat)(cs:List Value):Fact where
 P:=fun S w=>bG w b off cs/\∀o,eS b off cs.length b o->S b o
 agree:=fun⟨h1,h2⟩ ha=>⟨h1.agree fun o h3 h4=>ha b o (h2 o ⟨rfl,h3,h4⟩),h2⟩
 mono:=fun⟨h1,h2⟩ ha=>⟨h1,fun o h=>ha b o (h2 o h)⟩
theorem bAP{α:Type}[aJ α]{S:cN}{w:World}{s:Value}{l:List α}(h:aJ.rd S w [s] l){k:Nat}{x:α}(hk:l[k]?=some x):∃ec,(fAt (RW s) (QM (aJ.n α) k s) ec).P S w/\aJ.rd S w ec x:=by
 obtain⟨ad,m,h1,h2,h3,h4⟩:=(show tL S w [s] l from h);obtain⟨hlt,hx⟩:=A4.1 hk;simp at h1;subst h1;rcases h4 with h4 | ⟨b,off,rfl,h4⟩
 ·grind
 ·obtain⟨ec,a1,a0,a2⟩:=h4 k hlt;have hn:ec.length=aJ.n α:=aJ.mB a2;exact⟨ec,⟨a1,fun o ho=>a0 o ho⟩,hx ▸ a2⟩
theorem St.fat{c:Ctx}{w:World}{L:List Chunk}{R:List Fact}{b off:Nat}{cs:List Value}(h:St c w L R)(j:Nat)(hj:R[j]?=some (fAt b off cs)):bG w b off cs:=(h.fact j hj).1
theorem bCU(off:Nat):∀(l:List Value) (k:Nat) (cells:Array Value),off+k+l.length<=cells.size ->
  ((l.zipIdx k).foldl (fun cs (q:Value×Nat)=>cs.setIfInBounds (off+q.2) q.1) cells).toList=cells.toList.take (off+k)++l++cells.toList.drop (off+k+l.length)
 | [],k,cells,h=>by simp
 | c :: r, k, cells, h => by
  have h':off+k<cells.size:=by grind
  rw[List.zipIdx_cons,List.foldl_cons,bCU off r (k+1) _ (by grind)];simp only[Array.toList_setIfInBounds];have e1:(cells.toList.set (off+k) c).take (off+(k+1))=cells.toList.take (off+k) ++ [c]:=by rw[show off+(k+1)=(off+k)+1 by omega,W6 (by grind),List.take_set_of_le (kX _),List.getElem_set_self]
  have e2:(cells.toList.set (off+k) c).drop (off+(k+1)+r.length)=cells.toList.drop (off+k+(c :: r).length):=by rw[List.drop_set_of_lt (by omega)];grind
  grind
theorem aSM(n:Nat):∀(vs:List Value) (i:Nat) (cells:Array Value),(∀v∈vs,v.cells.size=n)->cells.size=(i+vs.length)*n ->
  Instr.fill (fun i=>some (i*n,n)) cells ((List.range' i vs.length).zip vs)=some (cells.toList.take (i*n)++vs.flatMap fun v=>v.cells.toList).toArray
 | [], i, cells, _, h => by simp_all[aON,Instr.fill]
 | v :: r, i, cells, hv, h => by
  have hn:=hv v aSE;have hlen:(i+(r.length+1))*n=i*n+n+r.length*n:=by grind
  have hsz:i*n+n<=cells.size:=by grind
  have hb:=bCU (i*n) v.cells.toList 0 cells (by simp;omega);have hf:v.cells.zipIdx.foldl (fun cs (q:Value×Nat)=>cs.setIfInBounds (i*n+q.2) q.1) cells=(v.cells.toList.zipIdx 0).foldl (fun cs (q:Value×Nat)=>cs.setIfInBounds (i*n+q.2) q.1) cells:=by grind[Array.toList_zipIdx]
  rw[<-hf] at hb;simp only[W5,List.range'_succ,List.zip_cons_cons,Instr.fill,hn];rw[aO (by simp;omega)];have hsize:(v.cells.zipIdx.foldl (fun cs (q:Value×Nat)=>cs.setIfInBounds (i*n+q.2) q.1) cells).size=cells.size:=by grind[Array.length_toList]
  rw[aSM n r (i+1) _ (fun x hx=>hv x (AE _ hx)) (by grind),hb];congr 2;have e:(i+1)*n=i*n+n:=by grind
  rw[e,Z2,List.take_append_of_le_length (by simp;omega)];grind
theorem aJP{ps:List (Nat×Operand)}{vs cells:List Value}{m len:Nat}{F:Nat->Value}(h1:ps.map (·.1)=List.range' 0 len)(h0:vs.length=len)(h2:vs.all (fun v=>v.cells.size == m)=true)(h3:(vs.flatMap fun v=>v.cells.toList)=cells) :
  Instr.fill (fun i=>some (i*m,m)) ((Array.range (len*m)).map F) ((ps.map (·.1)).zip vs)=some cells.toArray:=by
 subst h0;simp_all[aSM]
end Go.Gv
end
noncomputable section
namespace Go.Gv
def a66(n a b m:Nat):Value->Value
 | .slice ad _ _=>.slice (if m=a then ad else ad.map (·.add (a*n))) (b - a) (m - a)
 | v=>v
theorem a67{α:Type}[aJ α]{w:World}{ad:Option Addr}{l:List α}{c m:Nat}{F:cN}(h:aJ.own w [.slice ad l.length c] l F)(h1:l.length<=m)(h2:m<=c)(h0:0<m):∃F',aJ.own w [.slice ad l.length m] l F'/\∀b o,F' b o->F b o:=by
 obtain⟨ad',c',e,k1,k2,k3⟩:=nP.1 h;simp at e;obtain⟨rfl,rfl⟩:=e;rcases k3 with ⟨_,hc,_⟩ | ⟨bl,off,cc,Fe,rfl,hr,hc,ho,hd,hF⟩
 ·omega
 ·have hmul:m*aJ.n α<=c*aJ.n α:=uQ _ h2;refine⟨fun b' o=>eS bl off (m*aJ.n α) b' o\/Fe b' o,NA (fun o p=>hr o ?_) hc ho (fun b' o p q=>hd b' o p ?_) h1 (by omega),?_⟩
  ·obtain⟨p0,p1,p2⟩:=p;exact⟨p0,p1,by omega⟩
  ·obtain⟨p0,p1,p2⟩:=q;exact⟨p0,p1,by omega⟩
  ·rintro b' o (p | p)
   ·obtain⟨p0,p1,p2⟩:=p;exact(hF b' o).2 (.inl ⟨p0,p1,by omega⟩)
   grind
theorem MY{α:Type}[aJ α]{w:World}{s:Value}{l:List α}{F:cN}(h:aJ.own w [s] l F):∃ad c,s=.slice ad l.length c/\l.length<=c:=by grind[nP]
theorem a2A{α:Type}[aJ α]{w:World}{s:Value}{l:List α}{n a b m:Nat}{F:cN}(hn:aJ.n α=n)(h:aJ.own w [s] l F)(h1:a<=b)(h2:b<=m)(h3:m<=l.length):∃F',aJ.own w [a66 n a b m s] ((l.take b).drop a) F'/\∀b o,F' b o->F b o:=by
 have hl:=tN h1 (tG h2 h3);obtain⟨ad,c,rfl,hc⟩:=MY h;by_cases hm:m=a
 ·have hb:b=a:=by omega
  have hz:(l.take b).drop a=[]:=by grind
  rw[hz];simp only[a66,hm,hb,Nat.sub_self,aP];refine⟨F0,?_,fun _ _ h=>h.elim⟩;obtain⟨ad',c',e,k1,k2,k3⟩:=nP.1 h;simp at e;obtain⟨rfl,rfl⟩:=e;rcases k3 with ⟨rfl,hc0,_⟩ | ⟨bl,off,cc,Fe,rfl,_⟩
  ·exact⟨none,0,rfl,kX _,lL _,.inl ⟨rfl,rfl,fun _ _ h=>h⟩⟩
  ·exact nP.2 ⟨some ⟨bl,off,none⟩,0,rfl,kX _,lL _,.inr ⟨bl,off,[],F0,rfl,fun o p=>by obtain⟨_,p1,p2⟩:=p;omega,fun j v h=>by simp at h,⟨rfl,fun _ _ h=>h⟩,fun _ _ h=>h.elim,fun b' o=>by
    simp[F0,eS]⟩⟩
 ·obtain⟨F1,k1,k2⟩:=aXK hn h h1 (tG h2 h3);have hca:c≠a:=by omega
  have e:i4 n a b (.slice ad l.length c)=.slice (ad.map (·.add (a*n))) ((l.take b).drop a).length (c - a):=by simp_all[i4]
  rw[e] at k1;obtain⟨F2,k3,k4⟩:=a67 (m:=m - a) k1 (by omega) (by omega) (by omega);refine⟨F2,?_,fun b' o p=>k2 _ _ (k4 _ _ p)⟩;simp_all[a66]
end Go.Gv
end
noncomputable section
namespace Go.Gv
def dC{α:Type}(l:List α)(a:Nat)(xs:List α):List α:=l.take a++(xs.take (l.length - a)++l.drop (a+xs.length))
theorem eY{α:Type}{l:List α}{a:Nat}{xs:List α}(h:a<=l.length):(dC l a xs).length=l.length:=by grind[dC]
theorem Y8{α:Type}{l:List α}{a:Nat}{xs:List α}(h:a<=l.length){i:Nat}{x:α}(hx:(dC l a xs)[i]?=some x) :
  (a<=i/\i<a+min xs.length (l.length - a)/\xs[i - a]?=some x)\/((i<a\/a+min xs.length (l.length - a)<=i)/\l[i]?=some x):=by
 unfold dC at hx;rw[aFY] at hx;grind
theorem R8{α:Type}[aJ α][Flat α](P:Program){w w0:World}{S:cN}{b off cap a k:Nat}{l l':List α}{F:cN}{ncc:List Value}(h:aJ.own w [.slice (some ⟨b,off,none⟩) l.length cap] l F)(hl':l'.length=l.length)(hk:ncc.length=k*aJ.n α)(hak:a+k<=cap)(hone:∀v∈ncc,v.oneCell'=true)
  (hr:∀i x,l'[i]?=some x->(a<=i/\i<a+k/\aJ.rd S w0 (KH ncc (aJ.n α) (i - a)) x)\/((i<a\/a+k<=i)/\l[i]?=some x)) :
  ∃w' G F',(storeCells ⟨b,off+a*aJ.n α,none⟩ ncc).run P w=.ok () w'/\eT G w w'/\(∀b o,G b o->F b o)/\aJ.own w' [.slice (some ⟨b,off,none⟩) l'.length cap] l' F'/\∀b o,F' b o->F b o:=by
 obtain⟨ad,c,e,k1,k2,k3⟩:=(show JQ w [_] l F from h);simp at e;obtain⟨rfl,rfl⟩:=e;rcases k3 with ⟨h0,_,_⟩ | ⟨b2,off2,Fs,h0,hrow,hel,hd1,hd2,hFF⟩
 ·cases h0
 simp at h0;obtain⟨rfl,rfl⟩:=h0;have hmul:a*aJ.n α+k*aJ.n α<=cap*aJ.n α:=by rw[<-o9];exact uQ _ hak
 obtain⟨w',hst,hkp,hws,hcell⟩:=mP (b:=b) P ncc w (off+a*aJ.n α) 0 hone (fun q _ hq=>hrow _ ⟨rfl,by omega,by omega⟩);refine⟨w',_,eS b off (cap*aJ.n α),hst,hkp,fun b' o' p=>(hFF b' o').2 (.inl ?_),?_,fun b' o' p=>(hFF b' o').2 (.inl p)⟩
 ·obtain⟨e1,e2,e3⟩:=p;exact⟨e1,by omega,by omega⟩
 ·refine⟨_,cap,rfl,by omega,k2,.inr ⟨b,off,fun _=>F0,rfl,fun o' ho'=>⟨hkp.stay b o' (hrow o' ho').1,(hkp.yZ b o' (kK (hrow o' ho').1)).trans (hrow o' ho').2⟩,fun i hi=>?_,fun _ _ _ _ _ _ _ h _=>h,fun _ _ _ _ h _=>h,fun b' o=>by simp[F0]⟩⟩;rcases hr i l'[i] (l9 hi) with ⟨g1,g2,g3⟩ | ⟨g1,g2⟩
  ·refine⟨KH ncc (aJ.n α) (i - a),?_,Flat.own_of g3⟩;intro j v hj;have hlt:=(A4.1 hj).1;rw[aJK hk (by omega)] at hlt;rw[tM hlt] at hj;have:=hcell _ v hj;have hi2:i*aJ.n α=a*aJ.n α+(i - a)*aJ.n α:=by rw[<-o9];grind
   rw[show off+i*aJ.n α+j=off+a*aJ.n α+0+((i - a)*aJ.n α+j) from by omega];exact this
  ·obtain⟨hi0,hx⟩:=A4.1 g2;obtain⟨ec,c1,c2⟩:=hel i hi0;have hrd:=aJ.own_rd c2;have hn:=aJ.mB hrd;refine⟨ec,?_,hx ▸ Flat.own_of hrd⟩;intro j v hj;have hlt:=(A4.1 hj).1;have hc:=c1 j v hj;have hi2:(i+1)*aJ.n α=i*aJ.n α+aJ.n α:=by grind
   rw[hkp.cell b (off+i*aJ.n α+j) (World.block_lt_of_cell? w _ hc) (fun hh=>by
    obtain⟨_,e2,e3⟩:=hh;rw[hk] at e3;rcases g1 with g1 | g1
    ·have:(i+1)*aJ.n α<=a*aJ.n α:=uQ _ (by omega);omega
    ·have:(a+k)*aJ.n α<=i*aJ.n α:=uQ _ g1;grind)]
   exact hc
noncomputable section
variable {v:Value} {i j:Int} {P:Program} {o:Oper} {e:Env} {w w':World} {c:Ctx} {L:List Chunk} {R:List Fact} {x y z:Operand} {t t2 el:TypeId}
theorem aXN{α:Type}[aJ α][Flat α]{s s2:Value}{l xs:List α}{n a:Nat}(m:Nat)(hS:St c w L R)(hm:L[m]?=some (bL [s] l))(hsrc:aJ.rd (R1 w) w [s2] xs)(hn:aJ.n α=n)(ha:a<=l.length)(hu:P.underlying t=some (.slice el))(hz:∀w,(sizeOf el).run P w=.ok n w)
  (ho:o.op=.call {callee:=.builtin .copy,args:=#[x,y],argTypes:=#[t,t2]}) (hx:ev e x=some (i4 n a l.length s)) (hy:ev e y=some s2) :
  ∃v w',eR P o e w v w'/\(v=.int .i64 ((min xs.length (l.length - a):Nat):Int)/\St c w' (L.set m (bL [s] (dC l a xs))) R):=by
 subst hn;obtain⟨ad2,c2,cc2,rfl,hl2,hc2,hr2⟩:=M9 hsrc;obtain⟨F,hF⟩:=hS.chunk m hm;have hF:aJ.own w [s] l F:=hF;obtain⟨ad,cap,rfl,hlc⟩:=MY hF;have hk:(cc2.take (min xs.length (l.length - a)*aJ.n α)).length=min xs.length (l.length - a)*aJ.n α:=by simp_all
 have hfirst:(Builtin.firstCells (aJ.n α) (min xs.length (l.length - a)) (.slice ad2 xs.length c2)).run P w=.ok (cc2.take (min xs.length (l.length - a)*aJ.n α)).toArray w:=by
  rcases hc2 with h | ⟨b,off,rfl,h⟩
  ·subst h;have h0:cc2=[]:=AD (by grind);subst h0;cases ad2<;>simp[Builtin.firstCells,loadCells,loadCellsFrom]
  grind[bG,rP,Builtin.firstCells]
 have hone:∀v∈cc2.take (min xs.length (l.length - a)*aJ.n α),v.oneCell'=true:=fun v hv=>aIJ hl2 hr2 v (List.mem_of_mem_take hv);have hexec:∀(w':World),(Builtin.copy_ #[t,t2] o.type #[i4 (aJ.n α) a l.length (.slice ad l.length cap),.slice ad2 xs.length c2]).run P w=.ok (.int .i64 ((min xs.length (l.length - a):Nat):Int)) w'->eR P o e w (.int .i64 ((min xs.length (l.length - a):Nat):Int)) w':=by intro w' h _ a' hA;simp[execOp,ho,resolve,invoke,builtin,hA.eval hx,hA.eval hy,h]
 have hmn:Nat.min xs.length (l.length - a)=min xs.length (l.length - a):=rfl;obtain⟨ad',cap',he,_,_,hrest⟩:=(show JQ w [_] l F from hF);simp at he;obtain⟨rfl,rfl⟩:=he;by_cases h0:min xs.length (l.length - a)=0
 ·
  have hsame:dC l a xs=l:=by
   unfold dC;by_cases h1:xs.length=0
   ·simp_all
   ·have h2:l.length=a:=by omega
    rw[<-h2];simp
  rw[hsame];have hcz:cc2.take (min xs.length (l.length - a)*aJ.n α)=[]:=by grind
  rw[hcz] at hfirst;refine⟨_,w,hexec _ ?_,rfl,?_⟩
  ·rw[h0] at hfirst ⊢;have hmn0:Nat.min xs.length (l.length - a)=0:=h0;cases ad with
   | none=>simp[Builtin.copy_,run_underlying hu,i4,Builtin.lenOf,hz,hmn0,hfirst,goInt]
   | some a0 =>
    by_cases hca:cap=a
    ·simp[Builtin.copy_,run_underlying hu,i4,hca,Builtin.lenOf,hz,hmn0,hfirst,goInt,storeCells]
    ·simp[Builtin.copy_,run_underlying hu,i4,hca,Builtin.lenOf,hz,hmn0,hfirst,goInt,storeCells]
  ·refine hS.aB1 m hm fun F hF=>⟨F,F0,eT.refl _ _,fun _ _ h=>h.elim,hF,fun _ _ h=>.inl h⟩
 ·have hca:cap≠a:=by omega
  rcases hrest with ⟨_,hc0,_⟩ | ⟨b,off,Fs,rfl,_⟩
  ·omega
  have hadd:(⟨b,off,none⟩:Addr).add (a*aJ.n α)=⟨b,off+a*aJ.n α,none⟩:=by grind[Addr.add]
  have hbl:=R8 P (S:=R1 w) (w0:=w) (a:=a) (k:=min xs.length (l.length - a)) (l':=dC l a xs) hF (eY ha) hk (by omega) hone (fun i x hx=>by
   rcases Y8 ha hx with ⟨g1,g2,g3⟩ | g
   ·refine .inl ⟨g1,g2,?_⟩;have hs:KH (cc2.take (min xs.length (l.length - a)*aJ.n α)) (aJ.n α) (i - a)=KH cc2 (aJ.n α) (i - a):=by
     apply aBY;intro p;by_cases hp:p<aJ.n α
     ·have:(i - a+1)*aJ.n α<=min xs.length (l.length - a)*aJ.n α:=uQ _ (by omega);rw[o9] at this;rw[tM hp,tM hp,aFZ,aL (by omega)]
     grind[KH]
    grind
   grind)
  obtain⟨w',G,F',hst,hkp,hGF,hown,hFF⟩:=hbl;refine⟨_,w',hexec w' ?_,rfl,?_⟩
  ·simp[Builtin.copy_,run_underlying hu,i4,hca,Builtin.lenOf,hz,hmn,hfirst,hadd,hst,goInt]
  ·refine hS.aB1 m hm fun F2 hF2=>?_;have hF2:aJ.own w [.slice (some ⟨b,off,none⟩) l.length cap] l F2:=hF2;have hbl2:=R8 P (S:=R1 w) (w0:=w) (a:=a) (k:=min xs.length (l.length - a)) (l':=dC l a xs) hF2 (eY ha) hk (by omega) hone (fun i x hx=>by
    rcases Y8 ha hx with ⟨g1,g2,g3⟩ | g
    ·refine .inl ⟨g1,g2,?_⟩;have hs:KH (cc2.take (min xs.length (l.length - a)*aJ.n α)) (aJ.n α) (i - a)=KH cc2 (aJ.n α) (i - a):=by
      apply aBY;intro p;by_cases hp:p<aJ.n α
      ·have:(i - a+1)*aJ.n α<=min xs.length (l.length - a)*aJ.n α:=uQ _ (by omega);rw[o9] at this;rw[tM hp,tM hp,aFZ,aL (by omega)]
      grind[KH]
     grind
    grind)
   obtain⟨w2,G2,F3,hst2,hkp2,hGF2,hown2,hFF2⟩:=hbl2;rw[hst] at hst2;cases hst2;rw[eY ha] at hown2;exact⟨F3,G2,hkp2,hGF2,hown2,fun b' o' p=>.inl (hFF2 b' o' p)⟩
theorem a2B{α:Type}[aJ α]{w:World}{s:Value}{l:List α}{F:cN}{n:Nat}(h:aJ.own w [s] l F):i4 n 0 l.length s=s:=by obtain⟨ad,c,rfl,_⟩:=MY h;simp[i4,Addr.add]
theorem a2C{α:Type}[aJ α][Flat α]{s s2:Value}{l xs:List α}{n:Nat}(m:Nat)(hS:St c w L R)(hm:L[m]?=some (bL [s] l))(hsrc:aJ.rd (R1 w) w [s2] xs)(hn:aJ.n α=n)(hu:P.underlying t=some (.slice el))(hz:∀w,(sizeOf el).run P w=.ok n w)
  (ho:o.op=.call {callee:=.builtin .copy,args:=#[x,y],argTypes:=#[t,t2]}) (hx:ev e x=some s) (hy:ev e y=some s2) :
  ∃v w',eR P o e w v w'/\(v=.int .i64 ((min xs.length (l.length - 0):Nat):Int)/\St c w' (L.set m (bL [s] (dC l 0 xs))) R):=by
 obtain⟨F,hF⟩:=hS.chunk m hm;exact aXN m hS hm hsrc hn (lL _) hu hz ho (by rw[a2B (show aJ.own w [s] l F from hF)];exact hx) hy
end
end Go.Gv
end
noncomputable section
namespace Go.Gv
theorem idx_eq{α:Type}{l:List α}{i:Int}(h0:0<=i)(h1:i<l.length):idx l i=some (l[i.toNat]'(by omega)):=by simp_all[idx]
theorem aV{α:Type}{l:List α}{k:Nat}(h1:k<l.length):idx l (k:Int)=some l[k]:=by simp[idx]
theorem aK{α:Type}{p:Prop}[Decidable p](h:p)(k:Option α):need p k=k:=by simp_all[need]
theorem NB{x:Int}(h:-9223372036854775808<=x/\x<=9223372036854775807):bB x=x:=by grind[IntKind.wrap,IntKind.bits,IntKind.signed]
theorem lC{x:Nat}(h:x<maxLen):bB ((x:Int)+1)=((x+1:Nat):Int):=by have h2:x<9223372036854775807:=h;grind[NB]
theorem aP6{ρ:Type}{f:Int->Option (Step Int ρ)}(n:Nat)(g:Nat->ρ)
  (h:∀k:Nat,k<=n->f k=some (.stop (g k))\/(k<n/\f k=some (.next ((k+1:Nat):Int))/\g k=g (k+1))):∀k:Nat,k<=n->loop f (k:Int)=some (g k):=by
 intro k hk;obtain⟨d,rfl⟩:∃d,n=k+d:=⟨n - k,by omega⟩;induction d generalizing k with
 | zero =>
  grind[bV]
 | succ d ih =>
  rcases h k hk with h1 | ⟨h1,h2,h3⟩
  ·exact bV h1
  grind[bW]
theorem H0{α:Type}{l:List α}{k:Nat}(h:k<l.length)(hm:l.length<=maxLen):k<maxLen:=by omega
end Go.Gv
end
noncomputable section
namespace Go.Gv
noncomputable section
variable {v:Value} {i j:Int} {P:Program} {o:Oper} {e:Env} {w w':World} {c:Ctx} {L:List Chunk} {R:List Fact} {x y z:Operand} {t t2 el:TypeId}
theorem R9{b off n:Nat}:(⟨b,off,none⟩:Addr).add n=⟨b,off+n,none⟩:=by grind[Addr.add]
theorem aEM{α:Type}[aJ α]{s:Value}{l:List α}{F:cN}(h:aJ.own w [s] l F):∃ad cap cc,s=.slice ad l.length cap/\l.length<=cap/\cc.length=l.length*aJ.n α/\((ad=none/\cap=0/\l=[])\/∃b off,ad=some ⟨b,off,none⟩/\bG w b off cc)/\∀i x,l[i]?=some x->aJ.rd (R1 w) w (KH cc (aJ.n α) i) x:=by
 have hr:aJ.rd (R1 w) w [s] l:=aJ.rd_mono (aJ.own_rd h) fun b o hf=>aJ.own_lt h hf;obtain⟨ad,cap,cc,rfl,h1,h2,h3⟩:=M9 hr;obtain⟨ad',cap',e,k1,k2,k3⟩:=nP.1 h;simp at e;obtain⟨rfl,rfl⟩:=e;refine⟨ad,cap,cc,rfl,k1,h1,?_,h3⟩;rcases k3 with ⟨rfl,rfl,_⟩ | ⟨b,off,cc2,Fe,rfl,_⟩
 ·grind
 ·right;rcases h2 with h2 | ⟨b2,off2,h2,h4⟩
  ·subst h2;have:cc=[]:=AD (by grind);subst this;exact⟨b,off,rfl,fun j v hj=>by simp at hj⟩
  grind
theorem aVF{α:Type}[aJ α][Flat α]{s:Value}{l:List α}{n a b:Nat}(m:Nat)(hS:St c w L R)(hm:L[m]?=some (bL [s] l))(hn:aJ.n α=n)(hab:a<=b)(hb:b<=l.length)(hu:P.underlying t=some (.slice el))(hz:∀w,(sizeOf el).run P w=.ok n w)
  (ho:o.op=.call {callee:=.builtin .append,args:=#[x,y],argTypes:=#[t,t]}) (hx:ev e x=some (i4 n 0 a s)) (hy:ev e y=some (i4 n b l.length s)) :
  ∃v w',eR P o e w v w'/\(v=i4 n 0 (a+(l.length - b)) s/\St c w' (L.set m (bL [s] (dC l a (l.drop b)))) R):=by
 subst hn;obtain⟨F,hF⟩:=hS.chunk m hm;have hF:aJ.own w [s] l F:=hF;obtain⟨ad,cap,cc,rfl,hlc,hcc,had,hrd⟩:=aEM hF;have hexec:∀(v:Value) (w':World),(Builtin.append_ #[t,t] o.type #[i4 (aJ.n α) 0 a (.slice ad l.length cap),i4 (aJ.n α) b l.length (.slice ad l.length cap)]).run P w=.ok v w'->eR P o e w v w':=by intro v w' h _ a' hA;simp[execOp,ho,resolve,invoke,builtin,hA.eval hx,hA.eval hy,h]
 rcases had with ⟨rfl,rfl,rfl⟩ | ⟨bl,off,rfl,hcells⟩
 ·have ha:a=0:=by omega
  have hb0:b=0:=by omega
  subst ha;subst hb0;refine⟨_,w,hexec (i4 (aJ.n α) 0 0 (.slice none 0 0)) w ?_,rfl,?_⟩
  ·simp[Builtin.append_,run_underlying hu,i4,Builtin.lenOf,hz,Builtin.firstCells]
  ·have:dC ([]:List α) 0 (([]:List α).drop 0)=[]:=rfl;rw[this];exact hS.aB1 m hm fun F hF=>⟨F,F0,eT.refl _ _,fun _ _ h=>h.elim,hF,fun _ _ h=>.inl h⟩
 ·
  have hk:(cc.drop (b*aJ.n α)).length=(l.length - b)*aJ.n α:=by grind[Nat.sub_mul]
  have hfirst:∀q,(Builtin.firstCells (aJ.n α) (l.length - b) (.slice (if cap=b then some ⟨bl,off,none⟩ else some ⟨bl,off+b*aJ.n α,none⟩) (l.length - b) q)).run P w=.ok (cc.drop (b*aJ.n α)).toArray w:=by
   intro q;by_cases h0:l.length - b=0
   ·have:cc.drop (b*aJ.n α)=[]:=AD (by grind);rw[this,h0];split<;>simp[Builtin.firstCells,loadCells,loadCellsFrom]
   ·have hcb:cap≠b:=by omega
    rw[aO hcb];refine HY (α:=α) hk (.inr ⟨bl,off+b*aJ.n α,rfl,fun p v hp=>?_⟩);rw[List.getElem?_drop] at hp;have:=hcells _ v hp;grind
  have hone:∀v∈cc.drop (b*aJ.n α),v.oneCell'=true:=fun v hv=>aIJ hcc hrd v (aB0 hv);have hdl:(l.drop b).length=l.length - b:=aBZ;have hget:∀i x,(dC l a (l.drop b))[i]?=some x->(a<=i/\i<a+(l.length - b)/\aJ.rd (R1 w) w (KH (cc.drop (b*aJ.n α)) (aJ.n α) (i - a)) x)\/((i<a\/a+(l.length - b)<=i)/\l[i]?=some x):=by
   intro i x hx;have hmin:min (l.drop b).length (l.length - a)=l.length - b:=by omega
   grind[Y8,KH,List.drop_drop,o9]
  have hroom:a+(l.length - b)<=cap:=by omega
  obtain⟨w',G,F',hst,hkp,hGF,hown,hFF⟩:=R8 P (S:=R1 w) (w0:=w) (a:=a) (k:=l.length - b) (l':=dC l a (l.drop b)) hF (eY (by omega)) hk hroom hone hget;have hv1:i4 (aJ.n α) 0 a (.slice (some ⟨bl,off,none⟩) l.length cap)=.slice (some ⟨bl,off,none⟩) a cap:=by simp[i4,R9]
  have hv2:i4 (aJ.n α) b l.length (.slice (some ⟨bl,off,none⟩) l.length cap)=.slice (if cap=b then some ⟨bl,off,none⟩ else some ⟨bl,off+b*aJ.n α,none⟩) (l.length - b) (cap - b):=by grind[i4,R9]
  have hv3:i4 (aJ.n α) 0 (a+(l.length - b)) (.slice (some ⟨bl,off,none⟩) l.length cap)=.slice (some ⟨bl,off,none⟩) (a+(l.length - b)) cap:=by simp[i4,R9]
  refine⟨_,w',hexec (.slice (some ⟨bl,off,none⟩) (a+(l.length - b)) cap) w' ?_,hv3.symm,?_⟩
  ·rw[hv1,hv2];simp[Builtin.append_,run_underlying hu,Builtin.lenOf,hz,hfirst,hroom,R9,hst]
  ·refine hS.aB1 m hm fun F2 hF2=>?_;have hF2:aJ.own w [.slice (some ⟨bl,off,none⟩) l.length cap] l F2:=hF2;obtain⟨w2,G2,F3,hst2,hkp2,hGF2,hown2,hFF2⟩:=R8 P (S:=R1 w) (w0:=w) (a:=a) (k:=l.length - b) (l':=dC l a (l.drop b)) hF2 (eY (by omega)) hk hroom hone hget;rw[hst] at hst2;cases hst2;rw[eY (by omega)] at hown2;exact⟨F3,G2,hkp2,hGF2,hown2,fun b' o' p=>.inl (hFF2 b' o' p)⟩
theorem a2D{n a b k:Nat}{s:Value}(h:(∃len cap,s=.slice none len cap/\cap=0/\a=0)\/∃bl off len cap,s=.slice (some ⟨bl,off,none⟩) len cap):i4 n a b (i4 n 0 k s)=i4 n a b s:=by
 rcases h with ⟨len,cap,rfl,rfl,rfl⟩ | ⟨bl,off,len,cap,rfl⟩
 ·simp[i4]
 ·simp only[i4,Option.map_some,Nat.zero_mul,R9,Z2,Nat.sub_zero,ite_self]
theorem a2E{α:Type}[aJ α]{s:Value}{l:List α}{F:cN}{n a b k:Nat}(h:aJ.own w [s] l F)(hab:a<=b)(hb:b<=l.length):i4 n a b (i4 n 0 k s)=i4 n a b s:=by grind[aEM,a2D]
theorem aVG{α:Type}[aJ α]{s:Value}{l:List α}{n k':Nat}{k k2:IntKind}(m:Nat)(hS:St c w L R)(hm:L[m]?=some (bL [s] l))(hn:aJ.n α=n)(hu:P.underlying t=some (.slice el))(hz:∀w,(sizeOf el).run P w=.ok n w)(hb:0<=i/\i<=j/\j<=l.length)(ho:o.op=.slice t x (some y) (some z) none)(hx:ev e x=some (i4 n 0 k' s))(hy:ev e y=some (.int k i))(hw:ev e z=some (.int k2 j)):eR P o e w (i4 n i.toNat j.toNat s) w:=fun _ a hA=>by
 obtain⟨F,hF⟩:=hS.chunk m hm;have hF:aJ.own w [s] l F:=hF;obtain⟨b0,b1,b2⟩:=hb;rw[<-a2E (k:=k') hF (show i.toNat<=j.toNat by omega) (by omega)];obtain⟨ad,cp,rfl,hc⟩:=MY hF;have h1:j<=(cp:Int):=by omega
 have h3:0<=j:=by omega
 have h2:max j 0=j:=by omega
 simp[execOp,ho,Instr.sliceAt,Instr.slice,run_underlying hu,Instr.sliceBounds,hA.eval hx,hA.eval hy,hA.eval hw,Instr.sliceBound,asIntOf,hz,b0,b1,h1,h2,h3,i4]
theorem aSN{zc:Array Value}{n k i:Nat}(hz:zc.size=n)(hi:i<k):KH (Builtin.zeroCells zc k).toList n i=zc.toList:=by have hmul:(i+1)*n<=k*n:=uQ n (by omega);rw[o9] at hmul;apply aBY;grind[Nat.mul_comm,Nat.mul_add_mod,Nat.mod_eq_of_lt,Builtin.zeroCells,KH]
theorem a2F{α:Type}[aJ α][Flat α]{s zv:Value}{l:List α}{n a b:Nat}(zd:α)(m:Nat)(hS:St c w L R)(hm:L[m]?=some (bL [s] l))(hn:aJ.n α=n)(hab:a<=b)(hb:b<=l.length)(hu:P.underlying t=some (.slice el))(hinf:T3 P el n zv)(hzs:zv.cells.size=n)(hzd:∀w,aJ.rd F0 w zv.cells.toList zd)(hone:∀v∈zv.cells.toList,v.oneCell'=true)
  (ho:o.op=.call {callee:=.builtin .clear,args:=#[x],argTypes:=#[t]}) (hx:ev e x=some (i4 n a b s)) :
  ∃v w',eR P o e w v w'/\(v=.tuple #[]/\St c w' (L.set m (bL [s] (dC l a (List.replicate (b - a) zd)))) R):=by
 subst hn;obtain⟨ti,hti,hz,hsz,hby⟩:=hinf;obtain⟨F,hF⟩:=hS.chunk m hm;have hF:aJ.own w [s] l F:=hF;obtain⟨ad,cap,cc,rfl,hlc,hcc,had,hrd⟩:=aEM hF;have hexec:∀(w':World),(Builtin.clear_ #[t] o.type #[i4 (aJ.n α) a b (.slice ad l.length cap)]).run P w=.ok (.tuple #[]) w'->eR P o e w (.tuple #[]) w':=by intro w' h _ a' hA;simp[execOp,ho,resolve,invoke,builtin,hA.eval hx,h]
 by_cases h0:b - a=0
 ·have hsame:dC l a (List.replicate (b - a) zd)=l:=by simp_all[dC]
  rw[hsame];refine⟨_,w,hexec w ?_,rfl,hS.aB1 m hm fun F hF=>⟨F,F0,eT.refl _ _,fun _ _ h=>h.elim,hF,fun _ _ h=>.inl h⟩⟩;rcases had with ⟨rfl,rfl,rfl⟩ | ⟨bl,off,rfl,_⟩
  ·simp_all[Builtin.clear_,run_underlying,i4]
  ·by_cases hca:cap=a<;>simp[Builtin.clear_,run_underlying hu,i4,hca,h0]
 ·rcases had with ⟨rfl,rfl,rfl⟩ | ⟨bl,off,rfl,hcells⟩
  ·omega
  have hca:cap≠a:=by omega
  have hk:(Builtin.zeroCells zv.cells (b - a)).toList.length=(b - a)*aJ.n α:=by grind[size_zeroCells]
  have hone2:∀v∈(Builtin.zeroCells zv.cells (b - a)).toList,v.oneCell'=true:=by
   intro v hv;obtain⟨p,hp,rfl⟩:=Z1.1 hv;have hn0:0<aJ.n α:=by rcases Nat.eq_zero_or_pos (aJ.n α) with h | h;rw[hk,h] at hp;omega;exact h
   have hp2:p<(b - a)*aJ.n α:=by rw[<-hk];exact hp
   have hi:p / aJ.n α<b - a:=Nat.div_lt_of_lt_mul (by rw[Nat.mul_comm];exact hp2);have hs:=aSN (k:=b - a) hzs hi;have hpe:p / aJ.n α*aJ.n α+p % aJ.n α=p:=by rw[Nat.mul_comm];exact Nat.div_add_mod p (aJ.n α)
   have hg:=tM (cc:=(Builtin.zeroCells zv.cells (b - a)).toList) (n:=aJ.n α) (i:=p / aJ.n α) (j:=p % aJ.n α) (Nat.mod_lt _ hn0);rw[hs,hpe,l9 hp] at hg;exact hone _ (A6 hg)
  have hget:∀i x,(dC l a (List.replicate (b - a) zd))[i]?=some x->(a<=i/\i<a+(b - a)/\aJ.rd F0 w (KH (Builtin.zeroCells zv.cells (b - a)).toList (aJ.n α) (i - a)) x)\/((i<a\/a+(b - a)<=i)/\l[i]?=some x):=by
   intro i x hx;have hmin:min (List.replicate (b - a) zd).length (l.length - a)=b - a:=by simp;omega
   rcases Y8 (by omega) hx with ⟨g1,g2,g3⟩ | ⟨g1,g2⟩
   ·rw[hmin] at g2;rw[List.getElem?_replicate,aL (by omega)] at g3;simp at g3;subst g3;refine .inl ⟨g1,g2,?_⟩;rw[aSN hzs (by omega)];exact hzd w
   ·rw[hmin] at g1;exact .inr ⟨g1,g2⟩
  obtain⟨w',G,F',hst,hkp,hGF,hown,hFF⟩:=R8 P (S:=F0) (w0:=w) (a:=a) (k:=b - a) (l':=dC l a (List.replicate (b - a) zd)) hF (eY (by omega)) hk (by omega) hone2 hget;refine⟨_,w',hexec w' ?_,rfl,?_⟩
  ·obtain⟨q,hq⟩:∃q,b - a=q+1:=⟨b - a - 1,by omega⟩;rw[hq] at hst;simp[Builtin.clear_,run_underlying hu,i4,hca,hq,R9,zeroValue,typeInfo,hti,hz,hst]
  ·refine hS.aB1 m hm fun F2 hF2=>?_;have hF2:aJ.own w [.slice (some ⟨bl,off,none⟩) l.length cap] l F2:=hF2;obtain⟨w2,G2,F3,hst2,hkp2,hGF2,hown2,hFF2⟩:=R8 P (S:=F0) (w0:=w) (a:=a) (k:=b - a) (l':=dC l a (List.replicate (b - a) zd)) hF2 (eY (by omega)) hk (by omega) hone2 hget;rw[hst] at hst2;cases hst2;rw[eY (by omega)] at hown2;exact⟨F3,G2,hkp2,hGF2,hown2,fun b' o' p=>.inl (hFF2 b' o' p)⟩
end
end Go.Gv
end
noncomputable section
namespace Go.Gv
structure AC where
 a:Option Addr
 c:Nat
abbrev AC.v(s:AC)(n:Nat):Value:=.slice s.a n s.c
inductive SV where
 | i (k:IntKind) (x:Int)
 | y (b:UInt8)
 | b (c:Bool)
 | l (c:Bool)
 | s (l:List UInt8)
 | p (n o:Nat)
 | h (s:AC) (n:Nat)
 | e (s:AC) (n i o:Nat)
 | k (x:Value)
 | g (cs:List SV)
 | t (cs:List SV)
 | f (f:FuncId) (cs:List Nat)
 | u
abbrev SE:=List (Nat×SV)
inductive Ch where
 | box (n:Nat) (cs:List SV)
 | ro (n:Nat) (cs:List SV)
 | o (c:Chunk)
 | f (f:Fact)
 | no
 | w (n b z:Nat)
inductive TK where
 | i (k:IntKind)
 | b
 | st (fs:List (Nat×Nat))
 | s
 | sl (el:Nat)
 | x
structure TI where
 d:TK
 a:Bool
 n:Nat
 z:List SV
abbrev TT:=List (Nat×TI)
def D3:TT->Nat->Option TI
 | [],_=>none
 | (k, v) :: r, n => match Nat.beq n k with
  | true=>some v
  | false=>D3 r n
def EK:SE->Nat->Option SV
 | [],_=>none
 | (k, v) :: r, n => match Nat.beq n k with
  | true=>some v
  | false=>EK r n
def aZ{α β:Type}(f:α->Option β):List α->Option (List β)
 | []=>some []
 | x :: r => match f x with
  | none=>none
  | some y => match aZ f r with
   | none=>none
   | some ys=>some (y :: ys)
def one?(v:Value):Option SV:=match v.oneCell' with
 | true=>some (.k v)
 | false=>none
def a2G(n:Nat):Option SV:=match Nat.blt n 256 with
 | true=>some (.y (UInt8.ofNat n))
 | false=>none
def ofC:Value->Option SV
 | .int .u8 (.ofNat n)=>a2G n
 | .int k n=>some (.i k n)
 | .bool c=>some (.l c)
 | .string s=>some (.s s.data.toList)
 | .slice a n c=>some (.h ⟨a,c⟩ n)
 | .agg _=>none
 | v=>one? v
def j4(e:SE):Operand->Option SV
 | .tmp t=>EK e t
 | .const v=>ofC v
 | .global _=>none
 | .func f=>some (.f f [])
def wB:SV->Option (IntKind×Int)
 | .i k x=>some (k,x)
 | .y b=>some (.u8,(b.toNat:Int))
 | _=>none
def a68(op:BinOp)(k:IntKind)(x y:Int)(yo:Operand):Option SV:=match op with
 | .add=>some (.i k (k.wrap (x+y)))
 | .sub=>some (.i k (k.wrap (x - y)))
 | .mul=>some (.i k (k.wrap (x*y)))
 | .lss=>some (.b (decide (x<y)))
 | .leq=>some (.b (decide (x<=y)))
 | .gtr=>some (.b (decide (y<x)))
 | .geq=>some (.b (decide (y<=x)))
 | .eql=>some (.b (x == y))
 | .neq=>some (.b (x != y))
 | .and=>some (.i k (iP .and k x y))
 | .or=>some (.i k (iP .or k x y))
 | .xor=>some (.i k (iP .xor k x y))
 | .andNot=>some (.i k (iP .andNot k x y))
 | .quo => match yo with
  | .const (.int _ (.ofNat (_+1)))=>some (.i k (k.wrap (x.tdiv y)))
  | .const (.int _ (.negSucc _))=>some (.i k (k.wrap (x.tdiv y)))
  | _=>none
 | .rem => match yo with
  | .const (.int _ (.ofNat (_+1)))=>some (.i k (x.tmod y))
  | .const (.int _ (.negSucc _))=>some (.i k (x.tmod y))
  | _=>none
 | _=>none
def shI(op:BinOp)(k:IntKind)(x y:Int)(yo:Operand):Option SV:=match op with
 | .shl => match yo with
  | .const (.int _ (.ofNat _))=>some (.i k (aJF k x y))
  | _=>none
 | .shr => match yo with
  | .const (.int _ (.ofNat _))=>some (.i k (pW k x y))
  | _=>none
 | _=>none
def aXO:SV->Option Bool
 | .b c=>some c
 | .l c=>some c
 | _=>none
def bin(T:TT)(op:BinOp)(t:TypeId)(x y:SV)(yo:Operand):Option SV:=
 match wB x,wB y with
 | some (k, a), some (k', c) => match op with
  | .shl=>shI op k a c yo
  | .shr=>shI op k a c yo
  | _ => match decEq k k' with
   | .isTrue _=>a68 op k a c yo
   | .isFalse _=>none
 | _, _ => match x, y with
  | .s a, .s c => match op with
   | .eql=>some (.b (a == c))
   | .neq=>some (.b (!(a == c)))
   | _=>none
  | _, _ => match aXO x, aXO y, D3 T t with
   | some a, some c, some ⟨.b, _, _, _⟩ => match op with
    | .eql=>some (.b (a == c))
    | .neq=>some (.b (!(a == c)))
    | _=>none
   | _,_,_=>none
def conv(T:TT)(s t:TypeId)(x:SV):Option SV:=match D3 T s,D3 T t with
 | some _, some ⟨.i k', _, _, _⟩ => match x with
  | .i _ a => match k' with
   | .u8=>some (.y (u8 a))
   | _=>some (.i k' (k'.wrap a))
  | .y b => match k' with
   | .i64=>some (.i .i64 (b.toNat:Int))
   | _=>none
  | _=>none
 | _,_=>none
def a69(T:TT)(t:TypeId)(ix:Nat):Option Nat:=match D3 T t with
 | some ⟨.st fs, _, _, _⟩ => match fs[ix]? with
  | some (o,_+1)=>some o
  | _=>none
 | _=>none
def a2H(T:TT)(t:TypeId)(x:SV)(ix:Nat):Option SV:=match x with
 | .p n o => match a69 T t ix with
  | some k=>some (.p n (o+k))
  | none=>none
 | .e s n i o => match a69 T t ix with
  | some k=>some (.e s n i (o+k))
  | none=>none
 | _=>none
def LA(n:Nat):List Ch->Option (List SV)
 | []=>none
 | .box k cs :: L => match Nat.beq n k with
  | true=>some cs
  | false=>LA n L
 | .ro k cs :: L => match Nat.beq n k with
  | true=>some cs
  | false=>LA n L
 | _ :: L=>LA n L
def frc{α:Type}:List α->Option (List α)
 | []=>some []
 | x :: r => match frc r with
  | some s=>some (x :: s)
  | none=>none
def qP:SV->List SV
 | .g cs=>cs
 | x=>[x]
def isCells:SV->Bool
 | .t _=>false
 | .f _ _=>false
 | .u=>false
 | _=>true
def aSO(T:TT)(t:TypeId)(p:SV)(L:List Ch):Option SV:=match p with
 | .p n o => match LA n L, D3 T t with
  | some cs, some ⟨_, true, m, _⟩ => match Nat.ble (o + m) cs.length with
   | true => match frc ((cs.drop o).take m) with
    | some ds=>some (.g ds)
    | none=>none
   | false=>none
  | some cs,some ⟨_,false,_,_⟩=>cs[o]?
  | _,_=>none
 | _=>none
def a7A(cs:List SV)(o:Nat):List SV->List SV
 | []=>cs
 | v :: vs=>a7A (cs.set o v) (o+1) vs
def ovw:List SV->Nat->List SV->List SV
 | [],_,_=>[]
 | c :: cs,n+1,vs=>c :: ovw cs n vs
 | c :: cs, 0, vs => match vs with
  | []=>c :: cs
  | v :: vs=>v :: ovw cs 0 vs
def aP7(e:SE)(fs:List (Nat×Nat)):List (Nat×Operand)->List SV->Option (List SV)
 | [],cs=>some cs
 | (ix, o) :: r, cs => match fs[ix]?, j4 e o with
  | some (f, m), some v => match isCells v, Nat.beq (qP v).length m, Nat.ble (f + m) cs.length with
   | true, true, true => match frc (ovw cs f (qP v)) with
    | some cs'=>aP7 e fs r cs'
    | none=>none
   | _,_,_=>none
  | _,_=>none
def aVH(T:TT)(e:SE)(t:TypeId)(ps:List (Nat×Operand)):Option SV:=match D3 T t with
 | some ⟨.st fs, true, _, z⟩ => match aP7 e fs ps z with
  | some cs=>some (.g cs)
  | none=>none
 | _=>none
def bCV(k:TK)(x:SV):Option SV:=match x with
 | .h _ n => match k with
  | .sl _=>some (.i .i64 (n:Int))
  | _=>none
 | .s l => match k with
  | .s=>some (.i .i64 (l.length:Int))
  | _=>none
 | _=>none
def ev1(T:TT)(e:SE)(L:List Ch):Op->Option SV
 | .move x=>j4 e x
 | .assign x=>j4 e x
 | .nilCheck x => match j4 e x with
  | some (.p n o)=>some (.p n o)
  | some (.e s n i o)=>some (.e s n i o)
  | some (.f f cs)=>some (.f f cs)
  | some (.k (.func (.func f) a b))=>some (.k (.func (.func f) a b))
  | _=>none
 | .pick c a b => match j4 e c with
  | some (.l true)=>j4 e a
  | some (.l false)=>j4 e b
  | _=>none
 | .unOp .not _ x => match j4 e x with
  | some (.b c)=>some (.b (!c))
  | some (.l c)=>some (.l (!c))
  | _=>none
 | .unOp .neg _ x => match j4 e x with
  | some (.i k a)=>some (.i k (k.wrap (0 - a)))
  | _=>none
 | .binOp op t x y _ => match j4 e x, j4 e y with
  | some a,some b=>bin T op t a b y
  | _,_=>none
 | .convert s t x => match j4 e x with
  | some a=>conv T s t a
  | none=>none
 | .extract x ix => match j4 e x with
  | some (.t xs)=>xs[ix]?
  | _=>none
 | .fieldAddr t x ix => match j4 e x with
  | some a=>a2H T t a ix
  | none=>none
 | .load t p => match j4 e p with
  | some a=>aSO T t a L
  | none=>none
 | .build t ps=>aVH T e t ps.toList
 | .call { callee := .builtin .len, args := ⟨[x]⟩, argTypes := ⟨[t]⟩ } => match j4 e x, D3 T t with
  | some a,some ⟨k,_,_,_⟩=>bCV k a
  | _,_=>none
 | _=>none
abbrev Bl:=List (Nat×Nat)
inductive Fr where
 | s (y:Code)
 | k (id:Nat)
inductive wG where
 | n
 | c (x:Code)
 | r (ops:Array Oper) (l:List Oper)
 | d (B1:Bl) (ops:Array Oper) (l:List Bool) (is:List Nat) (Lf Lv:List Ch)
 | o (B1:Bl) (ops:Array Oper) (l:List Bool) (is:List Nat) (Lf Lv:List Ch) (i:Nat)
def wG.ext(Ln:List Ch):wG->wG
 | .d B1 ops l is Lf Lv=>.d B1 ops l is Lf (Lv++Ln)
 | .o B1 ops l is Lf Lv i=>.o B1 ops l is Lf (Lv++Ln) i
 | x=>x
inductive Stop where
 | ret (m:Nat) (e:SE) (L:List Ch)
 | fin (m:Nat) (e:SE) (L:List Ch)
 | ex (id m:Nat) (e:SE) (L:List Ch)
 | cond (o:Operand) (b:Bool) (x y:Code) (K:List Fr) (m:Nat) (e:SE) (L:List Ch)
 | case (b:Bool) (cf:wG) (K:List Fr) (m:Nat) (e:SE) (L:List Ch)
 | loop (id:Nat) (x:Code) (K:List Fr) (m:Nat) (e:SE) (L:List Ch)
 | idx (o:Oper) (d t:Nat) (s:AC) (n:Nat) (i:Int) (Lv:List Ch) (cf cf':wG) (K:List Fr) (m:Nat) (e:SE) (L:List Ch)
 | call (o:Oper) (d:Option Nat) (f:FuncId) (xs:List SV) (cf cf':wG) (K:List Fr) (m:Nat) (e:SE) (L:List Ch)
 | callp (o:Oper) (d:Option Nat) (f:FuncId) (xs:List SV) (cf cf':wG) (K:List Fr) (m:Nat) (e:SE) (L:List Ch)
 | opp (o:Oper) (Lv:List Ch) (cf cf':wG) (K:List Fr) (m:Nat) (e:SE) (L:List Ch)
 | op (o:Oper) (Lv:List Ch) (cf cf':wG) (K:List Fr) (m:Nat) (e:SE) (L:List Ch)
 | rgn (id:Nat) (ops:Array Oper) (K:List Fr) (m:Nat) (e:SE) (L:List Ch)
 | alt (cf:wG) (K:List Fr) (m:Nat) (e:SE) (L:List Ch)
 | stuck
def pop:List Fr->Option (Code×List Fr)
 | []=>none
 | .s y :: K=>some (y,K)
 | .k _ :: K=>pop K
def xit(id:Nat):List Fr->Option (List Fr)
 | []=>none
 | .s _ :: K=>xit id K
 | .k j :: K => match Nat.beq id j with
  | true=>some K
  | false=>xit id K
inductive Gd where
 | yes | no | ask (b:Bool) | bad
def DC (ops : Array Oper) (e : SE) : Option (Nat × Bool) -> Gd
 | none=>.yes
 | some (j, w) => match ops.toList[j]? with
  | some q => match q.dst with
   | some s => match EK e s with
    | some (.l c) => match c, w with
     | true,true=>.yes
     | false,false=>.yes
     | _,_=>.no
    | some .u=>.no
    | some (.b c)=>.ask c
    | _=>.bad
   | none=>.bad
  | none=>.bad
def AN(n:Nat)(cs:List SV):List Ch->List Ch
 | []=>[]
 | .box k c :: L => match Nat.beq n k with
  | true=>.box k cs :: L
  | false=>.box k c :: AN n cs L
 | x :: L=>x :: AN n cs L
def VK(n:Nat):List Ch->Bool
 | []=>false
 | .box k _ :: L => match Nat.beq n k with
  | true=>true
  | false=>VK n L
 | .ro k _ :: L => match Nat.beq n k with
  | true=>false
  | false=>VK n L
 | _ :: L=>VK n L
def aA0(T:TT)(t:TypeId)(p v:SV)(L:List Ch):Option (List Ch):=match p with
 | .p n o => match VK n L with
  | true => match LA n L, D3 T t with
   | some cs, some ⟨_, _, m, _⟩ => match isCells v, Nat.beq (qP v).length m, Nat.ble (o + m) cs.length with
    | true, true, true => match frc (ovw cs o (qP v)) with
     | some cs' => match frc (AN n cs' L) with
      | some L'=>some L'
      | none=>none
     | none=>none
    | _,_,_=>none
   | _,_=>none
  | false=>none
 | _=>none
inductive Ef where
 | val (v:SV)
 | box (cs:List SV)
 | st (L:List Ch)
 | no
def eff(T:TT)(e:SE)(L:List Ch)(o:Op):Ef:=match ev1 T e L o with
 | some v=>.val v
 | none => match o with
  | .alloc t => match D3 T t with
   | some ⟨_,_,_,z⟩=>.box z
   | none=>.no
  | .box _ v => match j4 e v with
   | some a => match isCells a with
    | true=>.box (qP a)
    | false=>.no
   | none=>.no
  | .store t p v => match j4 e p, j4 e v with
   | some a, some b => match aA0 T t a b L with
    | some L'=>.st L'
    | none=>.no
   | _,_=>.no
  | _=>.no
def yY(m:Nat):SV->Bool
 | .p n _=>Nat.blt n m
 | .g cs=>okC m cs
 | .t cs=>okT m cs
 | .f _ cs=>okF m cs
 | _=>true
where
 okC (m:Nat):List SV->Bool
  | []=>true
  | x :: r => match x with
   | .p n _ => match Nat.blt n m with
    | true=>okC m r
    | false=>false
   | .g _=>false
   | _=>okC m r
 okT (m:Nat):List SV->Bool
  | []=>true
  | x :: r => match x with
   | .p n _ => match Nat.blt n m with
    | true=>okT m r
    | false=>false
   | .g cs => match okC m cs with
    | true=>okT m r
    | false=>false
   | _=>okT m r
 okF (m:Nat):List Nat->Bool
  | []=>true
  | n :: r => match Nat.blt n m with
   | true=>okF m r
   | false=>false
def nb1:SV->SV
 | .l c=>.b c
 | x=>x
def nbL:List SV->List SV
 | []=>[]
 | x :: r=>nb1 x :: nbL r
def nbG:SV->SV
 | .g cs=>.g (nbL cs)
 | x=>nb1 x
def nbT:List SV->List SV
 | []=>[]
 | x :: r=>nbG x :: nbT r
def nbS:SV->SV
 | .t xs=>.t (nbT xs)
 | x=>nbG x
def nbA:List SV->List SV
 | []=>[]
 | x :: r => match x with
  | .f g []=>.k (.func (.func g) #[] #[]) :: nbA r
  | y=>nbG y :: nbA r
def okA:List SV->Bool
 | []=>true
 | x :: r => match yY 0 x with
  | true=>okA r
  | false=>false
def a7B(e:SE)(o:Oper)(Lv:List Ch)(cf cf':wG)(K:List Fr)(m:Nat)(L:List Ch):Op->Stop
 | .pick c _ _ => match j4 e c with
  | some (.b b)=>.case b cf K m e L
  | _=>.stuck
 | .indexAddr t x y => match j4 e x, j4 e y, o.dst with
  | some (.h s n),some (.i .i64 i),some d=>.idx o d t s n i Lv cf cf' K m e L
  | _,_,_=>.op o Lv cf cf' K m e L
 | .call { callee := .value f, args, .. } => match j4 e f, aZ (j4 e) args.toList with
  | some (.f g []), some xs => match okA (nbA xs) with
   | true=>.call o o.dst g (nbA xs) cf cf' K m e L
   | false=>.callp o o.dst g (nbA xs) cf cf' K m e L
  | _,_=>.op o Lv cf cf' K m e L
 | _=>.op o Lv cf cf' K m e L
def bAS(e:SE)(o:Oper)(Lv:List Ch)(cf cf':wG)(K:List Fr)(m:Nat)(L:List Ch):Op->Stop
 | .pick c _ _ => match j4 e c with
  | some (.b b)=>.case b cf K m e L
  | _=>.stuck
 | .indexAddr t x y => match j4 e x, j4 e y, o.dst with
  | some (.h s n),some (.i .i64 i),some d=>.idx o d t s n i Lv cf cf' K m e L
  | _,_,_=>.opp o Lv cf cf' K m e L
 | _=>.opp o Lv cf cf' K m e L
def opS:Stop->Option (Oper×List Ch×wG×wG×List Fr×Nat×SE×List Ch)
 | .op o Lv cf cf' K m e L=>some (o,Lv,cf,cf',K,m,e,L)
 | .opp o Lv cf cf' K m e L=>some (o,Lv,cf,cf',K,m,e,L)
 | _=>none
def rS(n:Nat):Option Nat->Bool
 | none=>true
 | some d=>Nat.blt d n
def a2J:Ground->Bool
 | .textOnly _=>false
 | .gcOnly _=>false
 | _=>true
def QN(l:List Bool):List Edge->Bool
 | []=>true
 | ⟨on, g⟩ :: r => match a2J g with
  | true => match l[on]? with
   | some true=>QN l r
   | _=>false
  | false=>QN l r
def aF3(l:List Bool)(i:Nat):List Oper->Nat->Bool
 | [],_=>true
 | o :: r, j => match l[j]? with
  | some false => match Nat.beq j i with
   | true => match QN l o.after.toList with
    | true=>aF3 l i r (j+1)
    | false=>false
   | false => match QN l o.after.toList with
    | true=>false
    | false=>aF3 l i r (j+1)
  | some true=>aF3 l i r (j+1)
  | none=>false
def a9G:Op->Bool
 | .pick ..=>true
 | .indexAddr ..=>true
 | .index ..=>true
 | .binOp ..=>true
 | .slice ..=>true
 | .convert ..=>true
 | .call {callee:=.builtin .len,..}=>true
 | .call {callee:=.builtin .min,..}=>true
 | .call {callee:=.builtin .max,..}=>true
 | _=>false
inductive Ps where
 | fin (l:List Bool) (e:SE) (q:List (Nat×Oper))
 | ask (b:Bool) (l:List Bool) (e:SE)
 | pur (i:Nat) (o:Oper) (l:List Bool) (e:SE)
 | bad
def pass (T : TT) (n : Nat) (ops : Array Oper) (Lv : List Ch) : List Oper -> Nat -> List Bool -> SE -> List (Nat × Oper) -> Ps
 | [],_,l,e,q=>.fin l e q
 | o :: r, i, l, e, q => match l[i]? with
  | some true=>pass T n ops Lv r (i+1) l e q
  | some false => match QN l o.after.toList with
   | false=>pass T n ops Lv r (i+1) l e q
   | true => match DC ops e o.guard with
    | .bad=>.bad
    | .ask c=>.ask c l e
    | .no => match o.dst with
     | some d => match Nat.blt d n with
      | true=>pass T n ops Lv r (i+1) (l.set i true) ((d,.u) :: e) q
      | false=>.bad
     | none=>.bad
    | .yes => match ev1 T e Lv o.op with
     | some v => match o.dst with
      | some d => match Nat.blt d n with
       | true=>pass T n ops Lv r (i+1) (l.set i true) ((d,v) :: e) q
       | false=>.bad
      | none=>.bad
     | none => match a9G o.op with
      | true=>.pur i o l e
      | false=>pass T n ops Lv r (i+1) l e ((i,o) :: q)
  | none=>.bad
def xA(l:List Bool):List Oper->Nat->List Nat
 | [],_=>[]
 | o :: r, j => match l[j]? with
  | some false => match QN l o.after.toList with
   | true=>j :: xA l r (j+1)
   | false=>xA l r (j+1)
  | _=>xA l r (j+1)
def a7C:List Bool->Bool
 | []=>true
 | b :: l => match b with
  | true=>a7C l
  | false=>false
def aP8(n:Nat):List Ch->Nat->Nat
 | [],i=>i
 | .box k _ :: L, i => match Nat.beq n k with
  | true=>i
  | false=>aP8 n L (i+1)
 | _ :: L,i=>aP8 n L (i+1)
def gC(i:Nat):List Nat->Bool
 | []=>true
 | j :: r => match Nat.beq i j with
  | true=>false
  | false=>gC i r
def bAT(e:SE)(L:List Ch)(is:List Nat):Op->Bool
 | .store _ p _ => match j4 e p with
  | some (.p n _)=>gC (aP8 n L 0) is
  | _=>false
 | _=>true
def stp(T:TT)(n:Nat):Nat->List Fr->wG->Nat->SE->List Ch->Stop
 | 0,_,_,_,_,_=>.stuck
 | F + 1, K, .c x, m, e, L => match x with
  | .skip => match pop K with
   | some (y,K')=>stp T n F K' (.c y) m e L
   | none=>.fin m e L
  | .seq a b=>stp T n F (.s b :: K) (.c a) m e L
  | .block id b => match b with
   | .loop y=>.loop id y K m e L
   | b=>stp T n F (.k id :: K) (.c b) m e L
  | .exit id => match xit id K with
   | some K' => match pop K' with
    | some (y,K'')=>stp T n F K'' (.c y) m e L
    | none=>.fin m e L
   | none=>.ex id m e L
  | .ret=>.ret m e L
  | .cond o x y => match j4 e o with
   | some (.l c) => match c with
    | true=>stp T n F K (.c x) m e L
    | false=>stp T n F K (.c y) m e L
   | some (.b c)=>.cond o c x y K m e L
   | _=>.stuck
  | .region id ops d => match d with
   | false=>stp T n F K (.r ops ops.toList) m e L
   | true=>.rgn id ops K m e L
  | _=>.stuck
 | F + 1, K, .n, m, e, L => match pop K with
  | some (y,K')=>stp T n F K' (.c y) m e L
  | none=>.fin m e L
 | F + 1, K, .r _ [], m, e, L => match pop K with
  | some (y,K')=>stp T n F K' (.c y) m e L
  | none=>.fin m e L
 | F + 1, K, .r ops (⟨dst, op, ty, ps, af, gd⟩ :: l), m, e, L => match DC ops e gd with
  | .bad=>.stuck
  | .ask c=>.case c (.r ops (⟨dst,op,ty,ps,af,gd⟩ :: l)) K m e L
  | .no => match dst with
   | some d => match Nat.blt d n with
    | true=>stp T n F K (.r ops l) m ((d,.u) :: e) L
    | false=>.stuck
   | none=>.stuck
  | .yes => match eff T e L op, dst with
   | .val v, some d => match Nat.blt d n with
    | true=>stp T n F K (.r ops l) m ((d,v) :: e) L
    | false=>.stuck
   | .box cs, some d => match Nat.blt d n with
    | true=>stp T n F K (.r ops l) (m+1) ((d,.p m 0) :: e) (L ++ [.box m cs])
    | false=>.stuck
   | .st L',none=>stp T n F K (.r ops l) m e L'
   | .no, _ => match rS n dst with
    | true=>a7B e ⟨dst,op,ty,ps,af,gd⟩ L (.r ops (⟨dst,op,ty,ps,af,gd⟩ :: l)) (.r ops l) K m L op
    | false=>.stuck
   | _,_=>.stuck
 | F + 1, K, .d B1 ops l is Lf Lv, m, e, L => match pass T n ops Lv ops.toList 0 l e [] with
  | .bad=>.stuck
  | .ask c l' e'=>.case c (.d B1 ops l' is Lf Lv) K m e' L
  | .pur i o l' e' => match rS n o.dst with
   | true=>bAS e' o Lv (.d B1 ops l' is Lf Lv) (.d B1 ops (l'.set i true) is Lf Lv) K m L o.op
   | false=>.stuck
  | .fin l' e' [] => match a7C l' with
   | true=>stp T n F K .n m e' L
   | false=>.stuck
  | .fin l' e' [(i, _)] => match aF3 l' i ops.toList 0 with
   | true=>stp T n F K (.o B1 ops l' is Lf Lv i) m e' L
   | false=>.stuck
  | .fin l' e' _=>.alt (.d B1 ops l' is Lf Lv) K m e' L
 | F + 1, K, .o B1 ops l is Lf Lv i, m, e, L => match ops.toList[i]? with
  | some ⟨dst, op, ty, ps, af, gd⟩ => match QN l af.toList, l[i]?, DC ops e gd with
   | true, some false, .yes => match eff T e L op, dst with
    | .val v, some d => match Nat.blt d n with
     | true=>stp T n F K (.d B1 ops (l.set i true) is Lf Lv) m ((d,v) :: e) L
     | false=>.stuck
    | .box cs, some d => match Nat.blt d n with
     | true=>stp T n F K (.d B1 ops (l.set i true) is Lf Lv) (m+1) ((d,.p m 0) :: e) (L ++ [.box m cs])
     | false=>.stuck
    | .st L', none => match bAT e L is op with
     | true=>stp T n F K (.d B1 ops (l.set i true) is Lf Lv) m e L'
     | false=>.stuck
    | .no, _ => match rS n dst with
     | true=>a7B e ⟨dst,op,ty,ps,af,gd⟩ Lv (.o B1 ops l is Lf Lv i) (.d B1 ops (l.set i true) is Lf Lv) K m L op
     | false=>.stuck
    | _,_=>.stuck
   | _,_,_=>.stuck
  | none=>.stuck
def aZH:SE->Option SE
 | []=>some []
 | (k, v) :: r => match aZH r with
  | some s=>some ((k,v) :: s)
  | none=>none
def aZI:List Ch->Option (List Ch)
 | []=>some []
 | x :: r => match aZI r with
  | some s => match x with
   | .box n cs => match frc cs with
    | some ds=>some (.box n ds :: s)
    | none=>none
   | .ro n cs => match frc cs with
    | some ds=>some (.ro n ds :: s)
    | none=>none
   | y=>some (y :: s)
  | none=>none
def kI(T:TT)(n:Nat)(K:List Fr)(cf:wG)(m:Nat)(e:SE)(L:List Ch):Stop:=match aZH e,aZI L with
 | some e',some L'=>stp T n 9999 K cf m e' L'
 | _,_=>.stuck
def kp(e:SE):List Nat->SE
 | []=>[]
 | k :: ks => match EK e k with
  | some x=>(k,x) :: kp e ks
  | none=>kp e ks
def kl(L:List Ch):List Nat->List Ch
 | []=>[]
 | i :: is => match L[i]? with
  | some x=>x :: kl L is
  | none=>kl L is
def re1:SV->SV->SV
 | .b _,.l c=>.b c
 | _,x=>x
def reC:List SV->List SV->List SV
 | x :: xs,y :: ys=>re1 x y :: reC xs ys
 | _,ys=>ys
def reE(e:SE):SE->Option SE
 | []=>some []
 | (k, z) :: r => match EK e k with
  | some x => match reE e r with
   | some s=>some ((k,re1 z x) :: s)
   | none=>none
  | none=>none
def reL:List Ch->List Ch->List Ch
 | .box _ cs :: M,.box n ds :: L=>.box n (reC cs ds) :: reL M L
 | _ :: M,x :: L=>x :: reL M L
 | [],L=>L
 | _,[]=>[]
def okE(m:Nat):SE->Bool
 | []=>true
 | (_, x) :: e => match yY m x with
  | true=>okE m e
  | false=>false
def okL(m:Nat):List Ch->Bool
 | []=>true
 | .box n cs :: L => match Nat.blt n m, yY.okC m cs with
  | true,true=>okL m L
  | _,_=>false
 | .ro n cs :: L => match Nat.blt n m, yY.okC m cs with
  | true,true=>okL m L
  | _,_=>false
 | .w n _ _ :: L => match Nat.blt n m with
  | true=>okL m L
  | false=>false
 | _ :: L=>okL m L
def asS(e:SE)(L:List Ch)(is:List Nat)(m:Nat)(e':SE)(L':List Ch):Option (SE×List Ch):=match reE e e' with
 | some s => match okE m s, okL m (reL L' (kl L is)) with
  | true,true=>some (s,reL L' (kl L is))
  | _,_=>none
 | none=>none
def Y9(b m:Nat)(e:SE)(L:List Ch)(is:List Nat)(m':Nat)(e':SE)(L':List Ch):Option (SE×List Ch):=match Nat.ble b m',Nat.ble m' m,dQ is with
 | true,true,true=>asS e L is m' e' L'
 | _,_,_=>none
def ovr(c:Bool)(e:SE):List Nat->SE
 | []=>e
 | s :: ss=>(s,.l c) :: ovr c e ss
def XC:Stop->Option (List Fr×wG×Nat×SE×List Ch)
 | .cond o _ x y K m e L=>some (K,.c (.cond o x y),m,e,L)
 | .case _ cf K m e L=>some (K,cf,m,e,L)
 | .loop id y K m e L=>some (K,.c (.block id (.loop y)),m,e,L)
 | .idx _ _ _ _ _ _ _ cf _ K m e L=>some (K,cf,m,e,L)
 | .call _ _ _ _ cf _ K m e L=>some (K,cf,m,e,L)
 | .callp _ _ _ _ cf _ K m e L=>some (K,cf,m,e,L)
 | .op _ _ cf _ K m e L=>some (K,cf,m,e,L)
 | .opp _ _ cf _ K m e L=>some (K,cf,m,e,L)
 | .rgn id ops K m e L=>some (K,.c (.region id ops true),m,e,L)
 | .alt cf K m e L=>some (K,cf,m,e,L)
 | _=>none
def aA1(i:Nat):List Edge->Bool
 | []=>false
 | ⟨on, g⟩ :: r => match a2J g with
  | true => match Nat.beq on i with
   | true=>true
   | false=>aA1 i r
  | false=>aA1 i r
def aSP(ops:Array Oper):Bool:=Region.noSelect ops && ops.toList.zipIdx.all fun p=>ops.toList.zipIdx.all fun q=>Nat.beq p.2 q.2 || aA1 p.2 q.1.after.toList || aA1 q.2 p.1.after.toList || p.1.apart ops q.1
def a2K(T:TT)(e:SE)(L:List Ch):ResultVar->Option SV
 | .tmp t=>EK e t
 | .cell t ty => match EK e t with
  | some p=>aSO T ty p L
  | none=>none
def aVI(T:TT)(e:SE)(L:List Ch)(r:ResultVar):Option SV:=match a2K T e L r with
 | some x => match isCells x with
  | true=>some x
  | false=>none
 | none=>none
def aQA(T:TT)(e:SE)(L:List Ch):List ResultVar->Option SV
 | []=>some (.t [])
 | [r]=>a2K T e L r
 | [r, s] => match aVI T e L r, aVI T e L s with
  | some x,some y=>some (.t [x,y])
  | _,_=>none
 | [r, s, t] => match aVI T e L r, aVI T e L s, aVI T e L t with
  | some x,some y,some z=>some (.t [x,y,z])
  | _,_,_=>none
 | _=>none
end Go.Gv
end
noncomputable section
namespace Go.Gv
def bT(B:Bl):SV->Option Value
 | .i k x=>some (.int k x)
 | .y b=>some (.int .u8 (b.toNat:Int))
 | .b c=>some (.bool c)
 | .l c=>some (.bool c)
 | .s l=>some (sv l)
 | .p n o => match B[n]? with
  | some (b,z)=>some (.pointer (some ⟨b,z+o,none⟩))
  | none=>none
 | .h s n=>some (s.v n)
 | .e s n i o=>some (.pointer (some ⟨RW (s.v 0),QM n i (s.v 0)+o,none⟩))
 | .k x => match x.oneCell' with
  | true=>some x
  | false=>none
 | _=>none
def gV(B:Bl):SV->Option Value
 | .g cs => match aZ (bT B) cs with
  | some vs=>some (.agg vs.toArray)
  | none=>none
 | x=>bT B x
def WV(B:Bl)(n:Nat):Option Value:=match B[n]? with
 | some (b,z)=>some (.pointer (some ⟨b,z,none⟩))
 | none=>none
def fS(B:Bl):SV->Option Value
 | .t xs => match aZ (gV B) xs with
  | some vs=>some (.tuple vs.toArray)
  | none=>none
 | .f f cs => match aZ (WV B) cs with
  | some vs=>some (.func (.func f) #[] vs.toArray)
  | none=>none
 | .u=>some undef
 | x=>gV B x
theorem aJS{B:Bl}{x:SV}{v:Value}(h:bT B x=some v):v.oneCell'=true:=by
 cases x<;>simp only[bT] at h<;>try (simp at h;done)
 all_goals try (cases h;rfl)
 ·split at h<;>cases h;rfl
 grind
theorem mD{α β:Type}{f:α->Option β}:∀{l:List α} {r:List β},aZ f l=some r->r.length=l.length
 | [],r,h=>by cases h;rfl
 | x :: l, r, h => by
  simp only[aZ] at h;split at h
  ·cases h
  ·split at h
   ·cases h
   ·rename_i h2;cases h;simp[mD h2]
theorem SA{α β:Type}{f:α->Option β}:∀{l:List α} {r:List β} {i:Nat} {x:α},aZ f l=some r->l[i]?=some x->∃y,f x=some y/\r[i]?=some y
 | [],_,_,_,_,h=>by simp at h
 | x :: l, r, i, z, h, hi => by
  simp only[aZ] at h;split at h
  ·cases h
  ·rename_i h1;split at h
   ·cases h
   ·rename_i h2;cases h;cases i with
    | zero=>grind
    | succ i=>obtain⟨y,h3,h4⟩:=SA h2 (by simpa using hi);grind
theorem SB{α β:Type}{f:α->Option β}:∀{l:List α} {r:List β} (k:Nat),aZ f l=some r->aZ f (l.drop k)=some (r.drop k)
 | l,r,0,h=>h
 | [],r,k+1,h=>by cases h;rfl
 | x :: l, r, k + 1, h => by
  simp only[aZ] at h;split at h
  ·cases h
  ·split at h
   ·cases h
   ·rename_i h2;cases h;exact SB k h2
theorem SC{α β:Type}{f:α->Option β}:∀{l:List α} {r:List β} (k:Nat),aZ f l=some r->aZ f (l.take k)=some (r.take k)
 | l,r,0,h=>rfl
 | [],r,k+1,h=>by cases h;rfl
 | x :: l, r, k + 1, h => by
  simp only[aZ] at h;split at h
  ·cases h
  ·rename_i h1;split at h
   ·cases h
   ·rename_i h2;cases h;simp[aZ,h1,SC k h2]
theorem eZ{α β:Type}{f g:α->Option β}(hfg:∀x y,f x=some y->g x=some y):∀{l:List α} {r:List β},aZ f l=some r->aZ g l=some r
 | [],r,h=>h
 | x :: l, r, h => by
  simp only[aZ] at h;split at h
  ·cases h
  ·rename_i h1;split at h
   ·cases h
   ·rename_i h2;cases h;simp[aZ,hfg _ _ h1,eZ hfg h2]
theorem aSQ{α β:Type}{f:α->Option β}:∀{l:List α} {r:List β} {x:α} {y:β} (k:Nat),aZ f l=some r->f x=some y->aZ f (l.set k x)=some (r.set k y)
 | [],r,_,_,k,h,_=>by cases h;rfl
 | z :: l, r, x, y, k, h, hx => by
  simp only[aZ] at h;split at h
  ·cases h
  ·rename_i h1;split at h
   ·cases h
   ·rename_i h2;cases h;cases k with
    | zero=>grind[aZ]
    | succ k=>simp[aZ,h1,aSQ k h2 hx]
theorem aB4{f:SV->Option Value}:∀{ds:List SV} {vs:List Value} {cs:List SV} {r:List Value} (k:Nat),aZ f cs=some r->aZ f ds=some vs->aZ f (a7A cs k ds)=some (ZN r k vs)
 | [],vs,cs,r,k,h,h2=>by cases h2;exact h
 | d :: ds, vs, cs, r, k, h, h2 => by
  simp only[aZ] at h2;split at h2
  ·cases h2
  ·rename_i h3;split at h2
   ·cases h2
   ·rename_i h4;cases h2;exact aB4 (k+1) (aSQ k h h3) h4
theorem Bl.app{B:Bl}(B':Bl){n:Nat}{q:Nat×Nat}(h:B[n]?=some q):(B++B')[n]?=some q:=by grind
theorem gL{B:Bl}(B':Bl){x:SV}{v:Value}(h:bT B x=some v):bT (B++B') x=some v:=by
 cases x<;>simp only[bT] at h ⊢<;>try exact h
 grind
theorem a2L{B:Bl}(B':Bl){x:SV}{v:Value}(h:gV B x=some v):gV (B++B') x=some v:=by
 cases x<;>simp only[gV] at h ⊢<;>try exact gL B' h
 grind[eZ,gL]
theorem a2M{B:Bl}(B':Bl){x:Nat}{v:Value}(h:WV B x=some v):WV (B++B') x=some v:=by grind[WV]
theorem wH{B:Bl}(B':Bl){x:SV}{v:Value}(h:fS B x=some v):fS (B++B') x=some v:=by
 cases x<;>simp only[fS] at h ⊢<;>try exact a2L B' h
 ·split at h
  ·rename_i h1;rw[eZ (fun _ _=>a2L B') h1];exact h
  ·cases h
 ·split at h
  ·rename_i h1;rw[eZ (fun _ _=>a2M B') h1];exact h
  ·cases h
 ·exact h
theorem bCW{B:Bl}{x:SV}{v:Value}(h:gV B x=some v):fS B x=some v:=by cases x<;>first | exact h | grind[gV,bT]
theorem aXP{B:Bl}{x:SV}{v:Value}(h:bT B x=some v):fS B x=some v:=by cases x<;>first | exact h | grind[bT]
structure hY (n:Nat) (B:Bl) (e:SE) (a:Act):Prop where
 d:a.defers=[]
 size:a.tmps.size=n
 get:∀k x,EK e k=some x->∃v,fS B x=some v/\a.tmps[k]?=some v
def vE(B:Bl):SE->Env
 | []=>[]
 | (k,x) :: e=>(k,(fS B x).getD undef) :: vE B e
theorem a2N{B:Bl}{k:Nat}{v:Value}:∀{e:SE},lk (vE B e) k=some v->∃x,EK e k=some x/\v=(fS B x).getD undef
 | [],h=>by simp[vE,lk] at h
 | (j, x) :: e, h => by
  simp only[vE,lk] at h;simp only[EK];cases hb:Nat.beq k j with
  | true=>grind
  | false=>rw[hb] at h;exact a2N h
theorem aJT{B:Bl}{k:Nat}{x:SV}:∀{e:SE},EK e k=some x->lk (vE B e) k=some ((fS B x).getD undef)
 | [],h=>by simp[EK] at h
 | (j, y) :: e, h => by
  simp only[EK] at h;simp only[vE,lk];cases hb:Nat.beq k j with
  | true=>grind
  | false=>rw[hb] at h;exact aJT h
noncomputable section
variable {n:Nat} {B:Bl} {e:SE} {a:Act}
theorem hY.env(h:hY n B e a):mX n (vE B e) a:=⟨h.d,h.size,fun k v hk=>by
 obtain⟨x,h1,h2⟩:=a2N hk;obtain⟨u,h3,h4⟩:=h.get k x h1;grind⟩
theorem hY.of{a':Act}(h:hY n B e a){d:Nat}{x:SV}{v:Value}(hx:fS B x=some v)(h2:mX n ((d,v) :: vE B e) a'):hY n B ((d,x) :: e) a':=⟨h2.d,h2.size,fun k y hk=>by
 simp only[EK] at hk;cases hb:Nat.beq k d with
 | true =>
  rw[hb] at hk;cases hk;exact⟨v,hx,h2.get k v (by grind[lk])⟩
 | false =>
  rw[hb] at hk;obtain⟨u,h3,h4⟩:=h.get k y hk;refine⟨u,h3,h2.get k u ?_⟩;grind[lk,aJT]⟩
theorem hY.app(h:hY n B e a)(B':Bl):hY n (B++B') e a:=⟨h.d,h.size,fun k x hk=>by
 obtain⟨v,h1,h2⟩:=h.get k x hk;grind[wH]⟩
theorem aXQ{m:Nat}{x:SV}(h:a2G m=some x):fS B x=some (.int .u8 (m:Int))/\wB x=some (.u8,(m:Int)):=by grind[a2G,wY,UInt8.toNat_ofNat',fS,gV,bT,wB]
theorem bAU{v:Value}{x:SV}(h:one? v=some x):fS B x=some v:=by grind[one?,fS,gV,bT]
theorem bAV{v:Value}{x:SV}(h:ofC v=some x):fS B x=some v:=by
 unfold ofC at h;split at h
 ·exact(aXQ h).1
 ·cases h;rfl
 ·cases h;rfl
 ·cases h;rename_i s;cases s;simp[fS,gV,bT]
 ·cases h;rfl
 ·cases h
 ·exact bAU h
theorem fT(hA:hY n B e a){o:Operand}{x:SV}(h:j4 e o=some x):∃v,fS B x=some v/\ev (vE B e) o=some v:=by
 cases o with
 | tmp t =>
  obtain⟨v,h1,_⟩:=hA.get t x h;exact⟨v,h1,by simp only[ev];rw[aJT h,h1];rfl⟩
 | const v=>exact⟨v,bAV h,rfl⟩
 | global g=>cases h
 | func f=>cases h;exact⟨_,rfl,rfl⟩
theorem aVJ{x:SV}{k:IntKind}{i:Int}{v:Value}(h:wB x=some (k,i))(hv:fS B x=some v):v=.int k i:=by
 cases x<;>simp only[wB] at h<;>cases h
 ·cases hv;rfl
 ·cases hv;rfl
theorem aXR{x:SV}{c:Bool}{v:Value}(h:aXO x=some c)(hv:fS B x=some v):v=.bool c:=by
 cases x<;>simp only[aXO] at h<;>cases h
 ·cases hv;rfl
 ·cases hv;rfl
theorem bAW{k k':IntKind}{j i:Int}{x:SV}(h:j4 e (.const (.int k' j))=some x)(h2:wB x=some (k,i)):j=i:=by
 simp only[j4] at h;unfold ofC at h;split at h
 ·rename_i heq;cases heq;have:=(aXQ (B:=[]) h).2;rw[this] at h2;cases h2;rfl
 ·rename_i heq;cases heq;cases h;cases h2;rfl
 all_goals (rename_i heq;first | (cases heq;done) | skip)
 rename_i h1 h2 h3 h4 h5;exact absurd rfl (h2 _ _)
end
structure H3 (P:Program) (T:TT):Prop where
 und:∀t i,D3 T t=some i->∃d,P.underlying t=some d/\match i.d with
  | .i k=>d=.int k
  | .b=>d=.bool
  | .st fs=>∃Fs:Array Field,d=.struct Fs/\Fs.toList.map (·.offset)=fs.map (·.1)/\(∀(j:Nat) F,Fs[j]?=some F->∃m,fs[j]?=some (F.offset,m)/\∀w,(sizeOf F.type).run P w=.ok m w)/\∀w,(Fs.mapM fun f=>(do pure (f.offset,<-sizeOf f.type):Sem (Nat×Nat))).run P w=.ok fs.toArray w
  | .s=>d=.string
  | .sl el=>d=.slice el
  | .x=>True
 agg:∀t i,D3 T t=some i->∀w,(isAgg t).run P w=.ok i.a w
 size:∀t i,D3 T t=some i->∀w,(sizeOf t).run P w=.ok i.n w
 zero:∀t i,D3 T t=some i->∃z,(∀w,(zeroValue t).run P w=.ok z w)/\aZ (bT []) i.z=some z.cells.toList
noncomputable section
variable {P:Program} {T:TT} {n:Nat} {B:Bl} {e:SE} {E:Env} {o:Oper} {w:World} {x y:Operand}
theorem a7D{op:BinOp}{t z:TypeId}{k:IntKind}{i j:Int}{yv r:SV}(ho:o.op=.binOp op t x y z)(hx:ev E x=some (.int k i))(hy:ev E y=some (.int k j))(hyc:j4 e y=some yv)(hyn:wB yv=some (k,j))(h:a68 op k i j y=some r):∃v,fS B r=some v/\eR P o E w v w:=by
 have h0:∀k' m,y=.const (.int k' (.ofNat (m+1)))->j≠0:=fun k' m e1=>by grind[bAW]
 have h1:∀k' m,y=.const (.int k' (.negSucc m))->j≠0:=fun k' m e1=>by grind[bAW]
 cases op with
 | add=>cases h;exact⟨_,rfl,QL ho hx hy⟩
 | sub=>cases h;exact⟨_,rfl,aU5 ho hx hy⟩
 | mul=>cases h;exact⟨_,rfl,a98 ho hx hy⟩
 | lss=>cases h;exact⟨_,rfl,KG ho hx hy⟩
 | leq=>cases h;exact⟨_,rfl,aU7 ho hx hy⟩
 | gtr=>cases h;exact⟨_,rfl,aU8 ho hx hy⟩
 | geq=>cases h;exact⟨_,rfl,a1C ho hx hy⟩
 | eql=>cases h;exact⟨_,rfl,a99 ho hx hy⟩
 | neq=>cases h;exact⟨_,rfl,aP4 ho hx hy⟩
 | and=>cases h;exact⟨_,rfl,bAA ho hx hy⟩
 | or=>cases h;exact⟨_,rfl,bCP ho hx hy⟩
 | xor=>cases h;exact⟨_,rfl,bAB ho hx hy⟩
 | andNot=>cases h;exact⟨_,rfl,aZE ho hx hy⟩
 | quo =>
  simp only[a68] at h;split at h
  ·cases h;exact⟨_,rfl,aU6 ho hx hy (h0 _ _ rfl)⟩
  ·cases h;exact⟨_,rfl,aU6 ho hx hy (h1 _ _ rfl)⟩
  ·cases h
 | rem =>
  simp only[a68] at h;split at h
  ·cases h;exact⟨_,rfl,aEJ ho hx hy (h0 _ _ rfl)⟩
  ·cases h;exact⟨_,rfl,aEJ ho hx hy (h1 _ _ rfl)⟩
  ·cases h
 | _=>cases h
theorem a2O{op:BinOp}{t z:TypeId}{k k':IntKind}{i j:Int}{yv r:SV}(ho:o.op=.binOp op t x y z)(hx:ev E x=some (.int k i))(hy:ev E y=some (.int k' j))(hyc:j4 e y=some yv)(hyn:wB yv=some (k',j))(h:shI op k i j y=some r):∃v,fS B r=some v/\eR P o E w v w:=by
 have h0:∀k' m,y=.const (.int k' (.ofNat m))->¬j<0:=fun k' m e1=>by grind[bAW]
 cases op<;>simp only[shI] at h<;>try (cases h;done)
 ·split at h
  ·cases h;exact⟨_,rfl,a1D ho hx hy (h0 _ _ rfl)⟩
  ·cases h
 ·split at h
  ·cases h;exact⟨_,rfl,bAC ho hx hy (h0 _ _ rfl)⟩
  ·cases h
theorem bAX(hT:H3 P T){op:BinOp}{t z:TypeId}{a c r:SV}{va vc:Value}(ho:o.op=.binOp op t x y z)(hx:ev E x=some va)(hy:ev E y=some vc)(ha:fS B a=some va)(hc:fS B c=some vc)(hyc:j4 e y=some c)(h:bin T op t a c y=some r):∃v,fS B r=some v/\eR P o E w v w:=by
 unfold bin at h;split at h
 ·rename_i k i k' j h1 h2;have e1:=aVJ h1 ha;have e2:=aVJ h2 hc;subst e1;subst e2;split at h
  ·exact a2O ho hx hy hyc h2 h
  ·exact a2O ho hx hy hyc h2 h
  ·split at h
   ·rename_i hk _;subst hk;exact a7D ho hx hy hyc h2 h
   ·cases h
 ·split at h
  ·cases ha;cases hc;split at h
   ·cases h;exact⟨_,rfl,a6N ho hx hy⟩
   ·cases h;exact⟨_,rfl,a6O ho hx hy⟩
   ·cases h
  ·split at h
   ·rename_i h1 h2 h3;have e1:=aXR h1 ha;have e2:=aXR h2 hc;subst e1;subst e2;obtain⟨d,hd,hd2⟩:=hT.und _ _ h3;simp only at hd2;subst hd2;split at h
    ·cases h;exact⟨_,rfl,a6L hd ho hx hy⟩
    ·cases h;exact⟨_,rfl,a6M hd ho hx hy⟩
    ·cases h
   ·cases h
theorem a7E(hT:H3 P T){s t:TypeId}{a r:SV}{va:Value}(ho:o.op=.convert s t x)(hx:ev E x=some va)(ha:fS B a=some va)(h:conv T s t a=some r):∃v,fS B r=some v/\eR P o E w v w:=by
 unfold conv at h
 split at h
 ·rename_i i k' _ _ _ h1 h2;obtain⟨ds,hs,_⟩:=hT.und _ _ h1;obtain⟨d,hd,hd2⟩:=hT.und _ _ h2;simp only at hd2;subst hd2;split at h
  ·cases ha;split at h
   ·cases h;exact⟨_,rfl,a1H hs hd ho hx⟩
   ·cases h;exact⟨_,rfl,aP5 hs hd ho hx⟩
  ·cases ha;split at h
   ·cases h;exact⟨_,rfl,a1I hs hd ho hx⟩
   ·cases h
  ·cases h
 ·cases h
theorem aXS(hT:H3 P T){t ix k:Nat}(h:a69 T t ix=some k):∃(fs:Array Field) (f:Field) (m:Nat),P.underlying t=some (.struct fs)/\fs[ix]?=some f/\f.offset=k/\∀w,(sizeOf f.type).run P w=.ok (m+1) w:=by
 unfold a69 at h;split at h
 ·rename_i fs _ _ _ h1;obtain⟨d,hd,Fs,rfl,hoff,hall,_⟩:=hT.und _ _ h1;split at h
  ·rename_i k' m h2;cases h;have hlen:Fs.size=fs.length:=by have:=eA List.length hoff;grind
   have hlt:ix<Fs.size:=by grind
   obtain⟨m',h3,h4⟩:=hall ix Fs[ix] (by simp[hlt]);rw[h2] at h3;cases h3;exact⟨Fs,Fs[ix],m,hd,by simp[hlt],rfl,h4⟩
  ·cases h
 ·cases h
theorem a2P(hT:H3 P T){t ix:Nat}{a r:SV}{va:Value}(ho:o.op=.fieldAddr t x ix)(hx:ev E x=some va)(ha:fS B a=some va)(h:a2H T t a ix=some r):∃v,fS B r=some v/\eR P o E w v w:=by
 unfold a2H at h;split at h
 ·split at h
  ·rename_i n0 o0 k hk;cases h;obtain⟨fs,f,m,h1,h2,h3,h4⟩:=aXS hT hk;simp only[fS,gV,bT] at ha ⊢;split at ha
   ·rename_i b z hb;cases ha;exact⟨_,rfl,DB h1 ho h2 h4 hx (by omega)⟩
   ·cases ha
  ·cases h
 ·split at h
  ·rename_i s0 n0 i0 o0 k hk;cases h;obtain⟨fs,f,m,h1,h2,h3,h4⟩:=aXS hT hk;cases ha;exact⟨_,rfl,DB h1 ho h2 h4 hx (by omega)⟩
  ·cases h
 ·cases h
end
end Go.Gv
end
noncomputable section
namespace Go.Gv
def SD(B:Bl)(n:Nat)(cs:List SV):Chunk where
 P:=fun w F=>∃b z vs,B[n]?=some (b,z)/\aZ (bT B) cs=some vs/\(WU b z vs).P w F
 keep:=fun⟨b,z,vs,h1,h2,h3⟩ hk hd=>⟨b,z,vs,h1,h2,(WU b z vs).keep h3 hk hd⟩
 lt:=fun⟨b,z,vs,_,_,h3⟩ hf=>(WU b z vs).lt h3 hf
def lD(B:Bl):Ch->Chunk
 | .box n cs=>SD B n cs
 | .o c=>c
 | _=>K9
def roF(B:Bl)(R:List Fact):Ch->Prop
 | .ro n cs=>∃b z vs,B[n]?=some (b,z)/\aZ (bT B) cs=some vs/\fAt b z vs∈R
 | .f f=>f∈R
 | .w n b z=>B[n]?=some (b,z)
 | _=>True
structure nC (c:Ctx) (w:World) (B:Bl) (L:List Ch):Prop where
 ex:∃R,St c w (L.map (lD B)) R/\∀x∈L,roF B R x
 s0:∀b o,c.S0 b o->b<c.w0.heap.size
inductive kM (w:World):List Chunk->List Chunk->Prop where
 | nil:kM w [] []
 | cons {a b:Chunk} {A B:List Chunk} (h:∀F,a.P w F->b.P w F) (t:kM w A B):kM w (a :: A) (b :: B)
theorem Sep.imp{w:World}:∀{A B:List Chunk} {F:cN},kM w A B->Sep w A F->Sep w B F
 | _,_,_,.nil,h=>h
 | _,_,_,.cons h t,⟨F1,F2,h1,h2,hd,hF⟩=>⟨F1,F2,h F1 h1,Sep.imp t h2,hd,hF⟩
theorem St.imp{c:Ctx}{w:World}{A B:List Chunk}{R:List Fact}(h:St c w A R)(hi:kM w A B):St c w B R:=by obtain⟨F,S,hsep,rest⟩:=h.sep;exact⟨h.keep,⟨F,S,Sep.imp hi hsep,rest⟩,h.apart⟩
theorem kM.refl{w:World}:∀(A:List Chunk),kM w A A
 | []=>.nil
 | _ :: A=>.cons (fun _ h=>h) (kM.refl A)
theorem kM.append{w:World}:∀{A B A' B':List Chunk},kM w A B->kM w A' B'->kM w (A++A') (B++B')
 | _,_,_,_,.nil,h=>h
 | _,_,_,_,.cons h t,h2=>.cons h (kM.append t h2)
theorem kM.set{w:World}{a b:Chunk}:∀{A B:List Chunk} (i:Nat),kM w A B->(∀F,a.P w F->b.P w F)->kM w (A.set i a) (B.set i b)
 | _,_,_,.nil,_=>.nil
 | _,_,0,.cons _ t,h=>.cons h t
 | _,_,i+1,.cons g t,h=>.cons g (kM.set i t h)
theorem kM.put{w:World}{a b:Chunk}:∀{A:List Chunk} (i:Nat),A[i]?=some a->(∀F,a.P w F->b.P w F)->kM w A (A.set i b)
 | [],_,h,_=>by simp at h
 | x :: A,0,h,g=>by simp at h;subst h;exact .cons g (kM.refl A)
 | x :: A,i+1,h,g=>.cons (fun _ h=>h) (kM.put i (by grind) g)
theorem a2Q{B:Bl}(B':Bl){n:Nat}{cs:List SV}{w:World}{F:cN}(h:(SD B n cs).P w F):(SD (B++B') n cs).P w F:=by obtain⟨b,z,vs,h1,h2,h3⟩:=h;exact⟨b,z,vs,Bl.app B' h1,eZ (fun _ _=>gL B') h2,h3⟩
theorem a7F{B:Bl}(B':Bl){x:Ch}{w:World}{F:cN}(h:(lD B x).P w F):(lD (B++B') x).P w F:=by cases x<;>first | exact a2Q B' h | exact h
theorem ZA{B:Bl}(B':Bl){w:World}:∀(L:List Ch),kM w (L.map (lD B)) (L.map (lD (B++B')))
 | []=>.nil
 | _ :: L=>.cons (fun _ h=>a7F B' h) (ZA B' L)
theorem aQB{B:Bl}(B':Bl){R:List Fact}{x:Ch}(h:roF B R x):roF (B++B') R x:=by
 cases x<;>try exact h
 ·obtain⟨b,z,vs,h1,h2,h3⟩:=h;exact⟨b,z,vs,Bl.app B' h1,eZ (fun _ _=>gL B') h2,h3⟩
 ·exact Bl.app B' h
theorem aB5{B:Bl}{R R':List Fact}(hR:∀f∈R,f∈R'){x:Ch}(h:roF B R x):roF B R' x:=by
 cases x<;>try exact h
 ·obtain⟨b,z,vs,h1,h2,h3⟩:=h;exact⟨b,z,vs,h1,h2,hR _ h3⟩
 ·exact hR _ h
noncomputable section
variable {P:Program} {T:TT} {n:Nat} {B:Bl} {e:SE} {E:Env} {o:Oper} {w w':World} {x y:Operand} {c:Ctx} {L:List Ch}
theorem nC.app(h:nC c w B L)(B':Bl):nC c w (B++B') L:=by obtain⟨⟨R,h1,h2⟩,h3⟩:=h;exact⟨⟨R,h1.imp (ZA B' L),fun x hx=>aQB B' (h2 x hx)⟩,h3⟩
theorem aOU{n:Nat}{cs:List SV}:∀{L:List Ch},LA n L=some cs->Ch.box n cs∈L\/Ch.ro n cs∈L
 | [],h=>by cases h
 | x :: L, h => by
  have ih:LA n L=some cs->Ch.box n cs∈x :: L\/Ch.ro n cs∈x :: L:=fun h=>by
   rcases aOU h with h | h
   ·exact .inl (AE _ h)
   ·exact .inr (AE _ h)
  cases x<;>simp only[LA] at h<;>try exact ih h
  ·split at h
   ·rename_i hb;cases h;rw[qY hb];exact .inl (aSE ..)
   ·exact ih h
  ·split at h
   ·rename_i hb;cases h;rw[qY hb];exact .inr (aSE ..)
   ·exact ih h
theorem nC.cells(h:nC c w B L){n:Nat}{cs:List SV}(hb:LA n L=some cs):∃b z vs,B[n]?=some (b,z)/\aZ (bT B) cs=some vs/\bG w b z vs:=by
 obtain⟨⟨R,h1,h2⟩,_⟩:=h;rcases aOU hb with hm | hm
 ·obtain⟨i,hi⟩:=aI9 hm;obtain⟨F,b,z,vs,h3,h4,h5⟩:=h1.chunk (ch:=SD B n cs) i (by rw[JN,hi];rfl);exact⟨b,z,vs,h3,h4,h5.1⟩
 ·obtain⟨b,z,vs,h3,h4,h5⟩:=h2 _ hm;obtain⟨i,hi⟩:=aI9 h5;exact⟨b,z,vs,h3,h4,h1.fat i hi⟩
theorem aB6{b z o m:Nat}{vs:List Value}(h:bG w b z vs)(_hm:o+m<=vs.length):bG w b (z+o) ((vs.drop o).take m):=by
 intro q u hq;rw[aFZ] at hq;split at hq
 ·rw[List.getElem?_drop] at hq;have:=h (o+q) u hq;grind
 ·cases hq
theorem aXT:∀(cs:List SV) (o:Nat) (v:SV) (vs:List SV),o<cs.length->ovw cs o (v :: vs)=ovw (cs.set o v) (o+1) vs
 | [],o,v,vs,h=>by simp at h
 | c :: cs,0,v,vs,_=>by simp[ovw]
 | c :: cs, o + 1, v, vs, h => by simp only[ovw,List.set_cons_succ];rw[aXT cs o v vs (by grind)]
theorem aQC:∀(cs:List SV) (o:Nat),ovw cs o []=cs
 | [],o=>by simp[ovw]
 | c :: cs,0=>by simp[ovw]
 | c :: cs,o+1=>by simp[ovw,aQC cs o]
theorem aQD:∀(vs cs:List SV) (o:Nat),o+vs.length<=cs.length->ovw cs o vs=a7A cs o vs
 | [],cs,o,_=>by rw[aQC];rfl
 | v :: vs, cs, o, h => by simp at h;rw[aXT cs o v vs (by omega),aQD vs _ _ (by simp;omega)];rfl
theorem T6{α:Type}:∀{l r:List α},frc l=some r->r=l
 | [],r,h=>by cases h;rfl
 | x :: l, r, h => by
  simp only[frc] at h;split at h
  ·rename_i s hs;cases h;rw[T6 hs]
  ·cases h
theorem a2R(hT:H3 P T){t:TypeId}{a r:SV}{va:Value}(hS:nC c w B L)(ho:o.op=.load t x)(hx:ev E x=some va)(ha:fS B a=some va)(h:aSO T t a L=some r):∃v,fS B r=some v/\eR P o E w v w:=by
 unfold aSO at h;split at h
 ·rename_i n0 o0;split at h
  ·rename_i cs _ m _ hb hl;split at h
   ·rename_i hle;split at h
    case h_2=>cases h
    rename_i ds hds;cases h;have:=T6 hds;subst this;obtain⟨b,z,vs,h1,h2,h3⟩:=hS.cells hb;have hlen:=mD h2;have hle:=M7 hle;simp only[fS,gV,bT,h1] at ha;cases ha;have h4:=SC m (SB o0 h2);refine⟨_,by grind[fS,gV],W9 (cs:=(vs.drop o0).take m) ho hx (hT.agg _ _ hl) (hT.size _ _ hl) (by simp;omega) (aB6 h3 (by omega))⟩
   ·cases h
  ·rename_i cs _ _ _ hb hl;obtain⟨b,z,vs,h1,h2,h3⟩:=hS.cells hb;simp only[fS,gV,bT,h1] at ha;cases ha;obtain⟨v,h4,h5⟩:=SA h2 h;exact⟨v,aXP h4,kL ho hx (hT.agg _ _ hl) (h3 o0 v h5)⟩
  ·cases h
 ·cases h
theorem SF{a:SV}{v:Value}{vs:List Value}(ha:fS B a=some v)(h:aZ (bT B) (qP a)=some vs):v.cells.toList=vs:=by
 cases a
 case g cs=>
  simp only[qP] at h;simp only[fS,gV,h] at ha;cases ha;rfl
 all_goals
  simp only[qP,aZ] at h;split at h
  ·cases h
  ·rename_i u hu;cases h;have h2:=aXP hu;rw[ha] at h2;cases h2;have:=aJS hu;cases v<;>first | rfl | cases this
end
theorem bCX{B:Bl}{a:SV}{v:Value}(h:bT B a=some v)(hc:qP a=[a]):∃vs,aZ (bT B) (qP a)=some vs:=⟨[v],by grind[aZ]⟩
theorem aA2{B:Bl}{a:SV}{v:Value}(h:isCells a=true)(ha:fS B a=some v):∃vs,aZ (bT B) (qP a)=some vs:=by
 cases a
 case g cs=>
  simp only[fS,gV] at ha;split at ha
  ·rename_i vs hv;exact⟨vs,hv⟩
  ·cases ha
 case t=>cases h
 case f=>cases h
 case u=>cases h
 all_goals exact bCX ha rfl
theorem a9H(off:Nat):∀(vs:List Value) (k:Nat) (cells:Array Value),((vs.zipIdx k).foldl (fun cs (q:Value×Nat)=>cs.setIfInBounds (off+q.2) q.1) cells).toList=ZN cells.toList (off+k) vs
 | [],k,cells=>rfl
 | v :: vs, k, cells => by simp only[List.zipIdx_cons,List.foldl_cons,ZN];rw[a9H off vs (k+1)];grind
theorem aOV{n:Nat}{B:Bl}{e:SE}{a:Act}(hA:hY n B e a){fs:List (Nat×Nat)}:∀(ps:List (Nat×Operand)) {cs r:List SV} {cells:Array Value},aZ (bT B) cs=some cells.toList->aP7 e fs ps cs=some r ->
  ∃vs rs,evs (vE B e) (ps.map (·.2))=some vs/\aZ (bT B) r=some rs/\Instr.fill (fs.toArray[·]?) cells ((ps.map (·.1)).zip vs)=some rs.toArray
 | [], cs, r, cells, hc, h => by cases h;exact⟨[],cells.toList,rfl,hc,by simp[Instr.fill]⟩
 | (ix, o) :: ps, cs, r, cells, hc, h => by
  simp only[aP7] at h;split at h
  ·rename_i f m v h1 h2;split at h
   ·rename_i h3 h4 h5;split at h
    case h_2=>cases h
    rename_i ds hds;have h4:=qY h4;have h5:=M7 h5;have:=T6 hds;rw[aQD _ _ _ (by omega)] at this;subst this;obtain⟨u,h6,h7⟩:=fT hA h2;obtain⟨ws,h8⟩:=aA2 h3 h6;have h9:=SF h6 h8;have hl:=mD h8;have hl2:=mD hc;have hu:u.cells.size=m:=by grind
    have hcs:cells.size=cs.length:=by omega
    have h10:aZ (bT B) (a7A cs f (qP v))=some ((u.cells.zipIdx.foldl (fun cs (q:Value×Nat)=>cs.setIfInBounds (f+q.2) q.1) cells).toList):=by have:=a9H f u.cells.toList 0 cells;grind[Array.toList_zipIdx,aB4]
    obtain⟨vs,rs,g1,g2,g3⟩:=aOV hA ps h10 h;simp_all[evs,Instr.fill]
   ·cases h
  ·cases h
noncomputable section
variable {P:Program} {T:TT} {n:Nat} {B:Bl} {e:SE} {a:Act} {o:Oper} {w w':World} {x y:Operand} {c:Ctx} {L:List Ch}
theorem aZK(hT:H3 P T)(hA:hY n B e a){t:TypeId}{ps:Array (Nat×Operand)}{r:SV}(ho:o.op=.build t ps)(h:aVH T e t ps.toList=some r):∃v,fS B r=some v/\eR P o (vE B e) w v w:=by
 unfold aVH at h;split at h
 ·rename_i fs _ z h1;split at h
  ·rename_i cs h2;cases h;obtain⟨d,hd,Fs,rfl,_,_,hp⟩:=hT.und _ _ h1;obtain⟨zv,hz,hzc⟩:=hT.zero _ _ h1;have hzc':aZ (bT B) z=some zv.cells.toList:=by have:=eZ (g:=bT B) (fun x v h=>by simpa using gL (B:=[]) B h) hzc;exact this
   obtain⟨vs,rs,g1,g2,g3⟩:=aOV hA ps.toList hzc' h2;exact⟨_,by grind[fS,gV],a1M (ps:=ps.toList) (by omega) hz hd hp g1 g3⟩
  ·cases h
 ·cases h
theorem aQE(hT:H3 P T)(hA:hY n B e a)(hS:nC c w B L){r:SV}(h:ev1 T e L o.op=some r):∃v,fS B r=some v/\eR P o (vE B e) w v w:=by
 generalize ho:o.op=op at h;unfold ev1 at h;split at h
 ·grind[fT,pU]
 ·grind[fT,HW]
 ·grind[fT,fS,gV,bT,a96,a6T]
 ·split at h
  ·rename_i heq;obtain⟨v,h1,h2⟩:=fT hA heq;cases h1;grind[fT,yW]
  ·rename_i heq;obtain⟨v,h1,h2⟩:=fT hA heq;cases h1;grind[fT,D0]
  ·cases h
 ·split at h
  ·rename_i heq;cases h;obtain⟨v,h1,h2⟩:=fT hA heq;cases h1;exact⟨_,rfl,aJE ho h2⟩
  ·rename_i heq;cases h;obtain⟨v,h1,h2⟩:=fT hA heq;cases h1;exact⟨_,rfl,aJE ho h2⟩
  ·cases h
 ·split at h
  ·rename_i heq;cases h;obtain⟨v,h1,h2⟩:=fT hA heq;cases h1;exact⟨_,rfl,a97 ho h2⟩
  ·cases h
 ·split at h
  ·rename_i h1 h2;obtain⟨v,g1,g2⟩:=fT hA h1;obtain⟨u,g3,g4⟩:=fT hA h2;exact bAX hT ho g2 g4 g1 g3 h2 h
  ·cases h
 ·split at h
  ·rename_i h1;obtain⟨v,g1,g2⟩:=fT hA h1;exact a7E hT ho g2 g1 h
  ·cases h
 ·split at h
  ·rename_i h1;obtain⟨v,g1,g2⟩:=fT hA h1;simp only[fS] at g1;split at g1
   ·rename_i xs _ vs h3;cases g1;obtain⟨u,h4,h5⟩:=SA h3 h;grind[bCW,aU9]
   ·cases g1
  ·cases h
 ·split at h
  ·rename_i h1;obtain⟨v,g1,g2⟩:=fT hA h1;exact a2P hT ho g2 g1 h
  ·cases h
 ·grind[fT,a2R]
 ·exact aZK hT hA ho h
 ·split at h
  ·rename_i h1 h2;obtain⟨v,g1,g2⟩:=fT hA h1;obtain⟨d,hd,hd2⟩:=hT.und _ _ h2;unfold bCV at h;split at h
   ·split at h
    ·cases h;cases g1;simp only at hd2;subst hd2;exact⟨_,rfl,a1E hd ho g2⟩
    ·cases h
   ·split at h
    ·cases h;cases g1;simp only at hd2;subst hd2;exact⟨_,rfl,a6P hd ho g2⟩
    ·cases h
   ·cases h
  ·cases h
 ·cases h
end
def pX(n:Nat)(c:Ctx)(B0:Bl)(m:Nat)(e:SE)(L:List Ch)(a:Act)(w:World):Prop:=∃B,(B0++B).length=m/\hY n (B0++B) e a/\nC c w (B0++B) L
end Go.Gv
end
noncomputable section
namespace Go.Gv
noncomputable section
variable {m:Nat} {e:SE} {L:List Ch}
theorem aJU{B:Bl}{m:Nat}{x:SV}{v:Value}(hv:bT B x=some v)(h:∀n o,x=.p n o->n<m):bT (B.take m) x=some v:=by
 cases x<;>simp only[bT] at hv ⊢<;>try exact hv
 grind
theorem B9{B:Bl}{m:Nat}:∀{cs:List SV} {vs:List Value},yY.okC m cs=true->aZ (bT B) cs=some vs->aZ (bT (B.take m)) cs=some vs
 | [],vs,_,h=>h
 | x :: cs, vs, ho, h => by
  simp only[aZ] at h;split at h
  ·cases h
  ·rename_i h1;split at h
   ·cases h
   ·rename_i h2;cases h;have hx:(∀n o,x=.p n o->n<m)/\yY.okC m cs=true:=by simp only[yY.okC] at ho;grind[wY]
    simp[aZ,aJU h1 hx.1,B9 hx.2 h2]
theorem aXU{B:Bl}{m:Nat}:∀{cs:List SV} {vs:List Value},yY.okT m cs=true->aZ (gV B) cs=some vs->aZ (gV (B.take m)) cs=some vs
 | [],vs,_,h=>h
 | x :: cs, vs, ho, h => by
  simp only[aZ] at h;split at h
  ·cases h
  ·rename_i y0 h1;split at h
   ·cases h
   ·rename_i h2;cases h;have hx:gV (B.take m) x=some y0/\yY.okT m cs=true:=by simp only[yY.okT] at ho;grind[aJU,wY,gV,B9]
    simp[aZ,hx.1,aXU hx.2 h2]
theorem aXV{B:Bl}{m:Nat}:∀{cs:List Nat} {vs:List Value},yY.okF m cs=true->aZ (WV B) cs=some vs->aZ (WV (B.take m)) cs=some vs
 | [],vs,_,h=>h
 | x :: cs, vs, ho, h => by
  simp only[aZ] at h;split at h
  ·cases h
  ·rename_i y0 h1;split at h
   ·cases h
   ·rename_i h2;cases h;simp only[yY.okF] at ho;split at ho
    ·rename_i hb;have hx:WV (B.take m) x=some y0:=by simp_all[WV]
     simp[aZ,hx,aXV ho h2]
    ·cases ho
theorem T7{B:Bl}{m:Nat}{x:SV}{v:Value}(h:yY m x=true)(hv:fS B x=some v):fS (B.take m) x=some v:=by
 cases x
 case p n o=>exact aJU (x:=.p n o) hv (fun n' o' he=>by grind[yY,wY])
 case g cs=>
  simp only[fS,gV] at hv ⊢;split at hv
  ·rename_i h1;rw[B9 h h1];exact hv
  ·cases hv
 case t cs=>
  simp only[fS] at hv ⊢;split at hv
  ·rename_i h1;rw[aXU h h1];exact hv
  ·cases hv
 case f f cs=>
  simp only[fS] at hv ⊢;split at hv
  ·rename_i h1;rw[aXV h h1];exact hv
  ·cases hv
 all_goals exact hv
theorem a2S{B:Bl}{z x:SV}:bT B (re1 z x)=bT B x:=by cases z<;>cases x<;>rfl
theorem a7G{B:Bl}{z x:SV}:fS B (re1 z x)=fS B x:=by cases z<;>cases x<;>rfl
theorem aXW{B:Bl}:∀{cs ds:List SV},aZ (bT B) (reC cs ds)=aZ (bT B) ds
 | [],[]=>rfl
 | [],_ :: _=>rfl
 | _ :: _,[]=>rfl
 | c :: cs,d :: ds=>by simp only[reC,aZ,a2S,aXW]
theorem a2T{B:Bl}{x:SV}:bT B (nb1 x)=bT B x:=by cases x<;>rfl
theorem T8{B:Bl}:∀{cs:List SV},aZ (bT B) (nbL cs)=aZ (bT B) cs
 | []=>rfl
 | c :: cs=>by simp only[nbL,aZ,a2T,T8]
theorem bAY{B:Bl}{x:SV}:gV B (nbG x)=gV B x:=by
 cases x<;>try rfl
 grind[nbG,gV,T8]
theorem aXX{B:Bl}:∀{cs:List SV},aZ (gV B) (nbT cs)=aZ (gV B) cs
 | []=>rfl
 | c :: cs=>by simp only[nbT,aZ,bAY,aXX]
theorem aQF{B:Bl}{x:SV}:fS B (nbG x)=fS B x:=by
 cases x<;>try rfl
 grind[nbG,fS,gV,T8]
theorem aIL{B:Bl}{x:SV}:fS B (nbS x)=fS B x:=by
 cases x with
 | g cs=>exact aQF (x:=.g cs)
 | t xs=>grind[nbS,fS,aXX]
 | _=>rfl
theorem aXY{B:Bl}:∀{cs:List SV},aZ (fS B) (nbT cs)=aZ (fS B) cs
 | []=>rfl
 | c :: cs=>by simp only[nbT,aZ,aQF,aXY]
theorem O8{B:Bl}:∀{cs:List SV},aZ (fS B) (nbA cs)=aZ (fS B) cs
 | []=>rfl
 | c :: cs => by
  simp only[nbA];split
  ·simp only[aZ,O8];rfl
  ·simp only[aZ,aQF,O8]
theorem a2U{e:SE}:∀{e' s:SE} {k:Nat} {x:SV},reE e e'=some s->EK s k=some x->∃y,EK e k=some y/\∀B,fS B x=fS B y
 | [],s,k,x,h,hk=>by cases h;cases hk
 | (j, y) :: r, s, k, x, h, hk => by
  simp only[reE] at h;split at h
  ·rename_i z hz;split at h
   ·rename_i s' hs;cases h;simp only[EK] at hk;cases hb:Nat.beq k j with
    | true=>grind[qY,a7G]
    | false=>rw[hb] at hk;exact a2U hs hk
   ·cases h
  ·cases h
theorem aQG{B:Bl}{w:World}{R:List Fact}:∀(M L:List Ch),kM w (L.map (lD B)) ((reL M L).map (lD B))/\((∀x∈L,roF B R x)->∀x∈reL M L,roF B R x)
 | [],L=>by grind[reL,kM.refl]
 | x :: M,[]=>by cases x<;>exact⟨.nil,fun h=>h⟩
 | x :: M, y :: L => by
  obtain⟨h1,h2⟩:=aQG (B:=B) (w:=w) (R:=R) M L;have gen:reL (x :: M) (y :: L)=y :: reL M L->kM w ((y :: L).map (lD B)) ((reL (x :: M) (y :: L)).map (lD B))/\((∀x∈y :: L,roF B R x)->∀z∈reL (x :: M) (y :: L),roF B R z):=fun he=>by rw[he];refine⟨.cons (fun _ h=>h) h1,fun h z hz=>?_⟩;grind
  cases x with
  | box n cs =>
   cases y with
   | box k ds =>
    simp only[reL];refine⟨.cons (fun F ⟨b,z,vs,k1,k2,k3⟩=>⟨b,z,vs,k1,by grind[aXW],k3⟩) h1,fun h z hz=>?_⟩;rcases mA.1 hz with hz | hz
    ·subst hz;trivial
    grind
   | _=>exact gen rfl
  | _=>exact gen (by cases y<;>rfl)
theorem a2V{m:Nat}:∀{s:SE} {k:Nat} {x:SV},okE m s=true->EK s k=some x->yY m x=true
 | [],k,x,h,hk=>by cases hk
 | (j, y) :: r, k, x, h, hk => by
  simp only[okE] at h;split at h
  ·rename_i ho;simp only[EK] at hk;cases hb:Nat.beq k j with
   | true=>grind
   | false=>rw[hb] at hk;exact a2V h hk
  ·cases h
theorem aQH{m:Nat}:∀{L:List Ch} {x:Ch},okL m L=true->x∈L->(∀n cs,x=.box n cs\/x=.ro n cs->n<m/\yY.okC m cs=true)
 | y :: L, x, h, hx, n, cs, he => by
  have key:(∀n cs,y=.box n cs\/y=.ro n cs->n<m/\yY.okC m cs=true)/\okL m L=true:=by
   cases y with
   | box k c =>
    grind[okL,wY]
   | ro k c =>
    grind[okL,wY]
   | o c=>exact⟨fun n cs he=>(by grind),h⟩
   | f c=>exact⟨fun n cs he=>(by grind),h⟩
   | no=>exact⟨fun n cs he=>(by grind),h⟩
   | w k b z =>
    grind[okL]
  rcases mA.1 hx with hx | hx
  ·grind
  ·exact aQH key.2 hx n cs he
theorem a9I{m n b z:Nat}:∀{L:List Ch},okL m L=true->Ch.w n b z∈L->n<m
 | y :: L, h, hx => by
  have key:(y=.w n b z->n<m)/\okL m L=true:=by
   cases y with
   | box k c =>
    grind[okL]
   | ro k c =>
    grind[okL]
   | w k b z =>
    grind[okL,wY]
   | o c=>exact⟨fun he=>(by cases he),h⟩
   | f c=>exact⟨fun he=>(by cases he),h⟩
   | no=>exact⟨fun he=>(by cases he),h⟩
  rcases mA.1 hx with hx | hx
  ·grind
  ·exact a9I key.2 hx
theorem aJV{L:List Ch}:∀{is:List Nat} {x:Ch},x∈kl L is->x∈L
 | i :: is, x, h => by
  simp only[kl] at h;split at h
  ·rename_i y hy;rcases mA.1 h with h | h
   ·grind
   ·exact aJV h
  ·exact aJV h
theorem aXZ{B:Bl}{w:World}{L:List Ch}:∀(is:List Nat),∃is',(∀j∈is',j∈is)/\(dQ is=true->dQ is'=true)/\kM w (pick (L.map (lD B)) is') ((kl L is).map (lD B))
 | []=>⟨[],by simp,fun h=>h,.nil⟩
 | i :: is => by
  obtain⟨is',h1,h2,h3⟩:=aXZ (B:=B) (w:=w) (L:=L) is;cases hi:L[i]? with
  | none =>
   refine⟨is',fun j hj=>AE _ (h1 j hj),fun h=>h2 ?_,?_⟩
   ·simp only[dQ,C8] at h;exact h.2
   ·simp only[kl,hi];exact h3
  | some x =>
   refine⟨i :: is',fun j hj=>?_,fun h=>?_,?_⟩
   ·grind
   ·simp_all[dQ]
   ·simp only[kl,hi,pick,JN,Option.map_some,Option.getD_some,Z0];exact .cons (fun _ h=>h) h3
theorem a2W{c:Ctx}{w:World}{B:Bl}(h:nC c w B L)(is:List Nat)(ha:dQ is=true):nC c w B (kl L is):=by obtain⟨⟨R,s1,s2⟩,s0⟩:=h;obtain⟨is',_,h2,h3⟩:=aXZ (B:=B) (w:=w) (L:=L) is;exact⟨⟨R,(s1.R7 is' (h2 ha)).imp h3,fun x hx=>s2 x (aJV hx)⟩,s0⟩
theorem aB7{c:Ctx}{w:World}{B:Bl}{m:Nat}{L:List Ch}(h:nC c w B L)(ho:okL m L=true):nC c w (B.take m) L:=by
 obtain⟨⟨R,s1,s2⟩,s0⟩:=h;have key:∀x∈L,∀F,(lD B x).P w F->(lD (B.take m) x).P w F:=by
  intro x hx F hF;cases x with
  | box n cs =>
   obtain⟨h1,h2⟩:=aQH ho hx n cs (.inl rfl);obtain⟨b,z,vs,k1,k2,k3⟩:=hF;exact⟨b,z,vs,by grind,B9 h2 k2,k3⟩
  | _=>exact hF
 have imp:∀(M:List Ch),(∀x∈M,x∈L)->kM w (M.map (lD B)) (M.map (lD (B.take m))):=by
  intro M;induction M with
  | nil=>exact fun _=>.nil
  | cons x M ih=>exact fun hM=>.cons (key x (hM x (by simp))) (ih fun y hy=>hM y (AE _ hy))
 refine⟨⟨R,s1.imp (imp L fun _ h=>h),fun x hx=>?_⟩,s0⟩;have:=s2 x hx;cases x with
 | ro n cs =>
  obtain⟨h1,h2⟩:=aQH ho hx n cs (.inr rfl);obtain⟨b,z,vs,k1,k2,k3⟩:=this;exact⟨b,z,vs,by grind,B9 h2 k2,k3⟩
 | w n b z =>
  have h1:=a9I ho hx;exact(by rw[aFZ,aL h1];exact this:(List.take m B)[n]?=some (b,z))
 | _=>exact this
theorem bAZ{c:Ctx}{w:World}{B:Bl}{L:List Ch}(h:nC c w B L)(M:List Ch):nC c w B (reL M L):=by obtain⟨⟨R,s1,s2⟩,s0⟩:=h;exact⟨⟨R,s1.imp (aQG (R:=R) M L).1,(aQG (w:=w) M L).2 s2⟩,s0⟩
theorem Rel.as{n:Nat}{c:Ctx}{B0:Bl}{m':Nat}{e':SE}{L':List Ch}{a:Act}{w:World}(hr:pX n c B0 m e L a w)(is:List Nat)(ha:dQ is=true){f:SE}{M:List Ch}(h:asS e L is m' f M=some (e',L'))(hm:m'<=m)(h0:B0.length<=m'):pX n c B0 m' e' L' a w:=by
 unfold asS at h;split at h
 ·rename_i s hs;split at h
  ·rename_i h1 h2;cases h;obtain⟨B,hl,hA,hS⟩:=hr;have hB:(B0++B).take m'=B0++B.take (m' - B0.length):=by rw[List.take_append,aON h0]
   refine⟨B.take (m' - B0.length),by grind,?_,?_⟩
   ·rw[<-hB];exact⟨hA.d,hA.size,fun k x hk=>by
     obtain⟨y,q1,q2⟩:=a2U hs hk;obtain⟨v,k1,k2⟩:=hA.get k y q1;grind[T7,a2V]⟩
   grind[aB7,bAZ,a2W]
  ·cases h
 ·cases h
theorem pX.Y9{n:Nat}{c:Ctx}{B0:Bl}{m':Nat}{e':SE}{L':List Ch}{a:Act}{w:World}(hr:pX n c B0 m e L a w)(is:List Nat){f:SE}{M:List Ch}(h:Y9 B0.length m e L is m' f M=some (e',L')):pX n c B0 m' e' L' a w:=by grind[Go.Gv.Y9,Rel.as,M7]
end
end Go.Gv
end
