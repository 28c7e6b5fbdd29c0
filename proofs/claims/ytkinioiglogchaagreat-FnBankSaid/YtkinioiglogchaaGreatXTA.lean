import Derived.WalkKit
import Derived.OrdersHeld
import Derived.LoopN
import Derived.Laws.BytesString
import Derived.Deep.Slices
import Derived.ProofKit
import Derived.OpenShut
import Derived.ShutString
import Derived.ChangeOld
import Derived.Below
import Derived.Carry
set_option linter.unusedVariables false
set_option linter.unusedSimpArgs false
set_option linter.unusedSectionVars false
set_option linter.constructorNameAsVariable false
set_option linter.unnecessarySimpa false
noncomputable section
namespace Go.Gv
variable{fs:Array Field}{c:Bool}{l q:List UInt8}{c2 cc vs:List Value}{d i id j k m n:Nat}{x:Operand}{P:Program}{p:Prop}{O ρ σ:Type}{ds:TypeDesc}{t t':TypeId}{s z zv:Value}{w w':World}
theorem aa(h:p:=by omega):p:=h
theorem ae(h:p:=by simp):p:=h
theorem ah(h:p:=by simp;omega):p:=h
theorem ai(h:p:=by decide):p:=h
theorem aj(h:p:=by grind):p:=h
theorem ak(h:p:=by rfl):p:=h
theorem aM{β:Type}(a:O)(f:O->Option β):(some a).bind f=f a:=rfl
theorem bV:(false=true)=False:=ae
theorem dA[inst:Decidable p](h:p):decide p=true:=by simp[h]
theorem iD[inst:Decidable p](h:¬p):decide p=false:=by simp[h]
theorem kY:(!true)=false:=rfl
theorem SG:(!false)=true:=rfl
theorem aO:type_of% @if_pos:=@if_pos
theorem aP:type_of% @if_neg:=@if_neg
theorem bR:type_of% @if_false:=@if_false
theorem bT:type_of% @if_true:=@if_true
theorem bZ:type_of% @congrArg:=@congrArg
theorem aGL:type_of% @Array.getElem?_eq_some_iff:=@Array.getElem?_eq_some_iff
theorem uG:type_of% @Bool.and_eq_true:=@Bool.and_eq_true
theorem HM:type_of% @Bool.eq_iff_iff:=@Bool.eq_iff_iff
theorem aWL:type_of% @Bool.not_eq_true':=@Bool.not_eq_true'
theorem bA7:type_of% @Int.eq_ofNat_of_zero_le:=@Int.eq_ofNat_of_zero_le
theorem J2:type_of% @Int.le_refl:=@Int.le_refl
theorem aJJ:type_of% @Int.le_trans:=@Int.le_trans
theorem aQJ:type_of% @Int.tmod_eq_emod_of_nonneg:=@Int.tmod_eq_emod_of_nonneg
theorem K8:type_of% @Int.toNat_natCast:=@Int.toNat_natCast
theorem V2:type_of% @List.all_cons:=@List.all_cons
theorem V3:type_of% @List.all_eq_true:=@List.all_eq_true
theorem aSW:type_of% @List.any_eq_false:=@List.any_eq_false
theorem nL:type_of% @List.append_assoc:=@List.append_assoc
theorem uH:type_of% @List.append_nil:=@List.append_nil
theorem aJK:type_of% @List.concat_eq_append:=@List.concat_eq_append
theorem DM:type_of% @List.cons_append:=@List.cons_append
theorem uI:type_of% @List.drop_eq_getElem_cons:=@List.drop_eq_getElem_cons
theorem aBY:type_of% @List.drop_eq_nil_of_le:=@List.drop_eq_nil_of_le
theorem UG:type_of% @List.drop_zero:=@List.drop_zero
theorem uJ:type_of% @List.eq_nil_of_length_eq_zero:=@List.eq_nil_of_length_eq_zero
theorem ZP:type_of% @List.eq_nil_or_concat:=@List.eq_nil_or_concat
theorem ZQ:type_of% @List.ext_getElem?:=@List.ext_getElem?
theorem aSX:type_of% @List.findIdx_getElem:=@List.findIdx_getElem
theorem a43:type_of% @List.findIdx_lt_length_of_exists:=@List.findIdx_lt_length_of_exists
theorem G9:type_of% @List.getD_eq_getElem?_getD:=@List.getD_eq_getElem?_getD
theorem aFW:type_of% @List.getElem?_append:=@List.getElem?_append
theorem aOY:type_of% @List.getElem?_append_right:=@List.getElem?_append_right
theorem aFX:type_of% @List.getElem?_drop:=@List.getElem?_drop
theorem jC:type_of% @List.getElem?_eq_getElem:=@List.getElem?_eq_getElem
theorem AR:type_of% @List.getElem?_eq_some_iff:=@List.getElem?_eq_some_iff
theorem AS:type_of% @List.getElem?_map:=@List.getElem?_map
theorem aFY:type_of% @List.getElem?_of_mem:=@List.getElem?_of_mem
theorem aBZ:type_of% @List.getElem?_take:=@List.getElem?_take
theorem dF:type_of% @List.getElem_mem:=@List.getElem_mem
theorem V4:type_of% @List.getElem_of_mem:=@List.getElem_of_mem
theorem D8:type_of% @List.length_append:=@List.length_append
theorem HA:type_of% @List.length_cons:=@List.length_cons
theorem UH:type_of% @List.length_drop:=@List.length_drop
theorem aSY:type_of% @List.length_filter_le:=@List.length_filter_le
theorem cR:type_of% @List.length_set:=@List.length_set
theorem ZR:type_of% @List.length_take:=@List.length_take
theorem m7:type_of% @List.map_append:=@List.map_append
theorem AT:type_of% @List.map_cons:=@List.map_cons
theorem KT:type_of% @List.map_set:=@List.map_set
theorem cY:type_of% @List.mem_append:=@List.mem_append
theorem QT:type_of% @List.mem_append_left:=@List.mem_append_left
theorem aB0:type_of% @List.mem_append_right:=@List.mem_append_right
theorem iX:type_of% @List.mem_cons:=@List.mem_cons
theorem lH:type_of% @List.mem_cons_of_mem:=@List.mem_cons_of_mem
theorem ZS:type_of% @List.mem_cons_self:=@List.mem_cons_self
theorem ZT:type_of% @List.mem_filter:=@List.mem_filter
theorem aFZ:type_of% @List.mem_flatMap:=@List.mem_flatMap
theorem aF0:type_of% @List.mem_iff_getElem:=@List.mem_iff_getElem
theorem AU:type_of% @List.mem_map:=@List.mem_map
theorem D9:type_of% @List.mem_of_getElem?:=@List.mem_of_getElem?
theorem OH:type_of% @List.mem_of_mem_drop:=@List.mem_of_mem_drop
theorem a44:type_of% @List.mem_of_mem_take:=@List.mem_of_mem_take
theorem rG:type_of% @List.mem_or_eq_of_mem_set:=@List.mem_or_eq_of_mem_set
theorem iY:type_of% @List.mem_singleton:=@List.mem_singleton
theorem V5:type_of% @List.nil_append:=@List.nil_append
theorem aF1:type_of% @List.nodup_append:=@List.nodup_append
theorem ZU:type_of% @List.nodup_cons:=@List.nodup_cons
theorem UI:type_of% @List.not_mem_nil:=@List.not_mem_nil
theorem aJL:type_of% @List.pairwise_cons:=@List.pairwise_cons
theorem bFC:type_of% @List.pairwise_iff_getElem:=@List.pairwise_iff_getElem
theorem aOZ:type_of% @List.set_getElem_self:=@List.set_getElem_self
theorem aSZ:type_of% @List.set_set:=@List.set_set
theorem aJM:type_of% @List.size_toArray:=@List.size_toArray
theorem aS0:type_of% @List.takeWhile_append_dropWhile:=@List.takeWhile_append_dropWhile
theorem ZV:type_of% @List.take_append_drop:=@List.take_append_drop
theorem aF2:type_of% @List.take_of_length_le:=@List.take_of_length_le
theorem EA:type_of% @List.take_succ_eq_append_getElem:=@List.take_succ_eq_append_getElem
theorem EB:type_of% @Nat.add_assoc:=@Nat.add_assoc
theorem oE:type_of% @Nat.add_mul:=@Nat.add_mul
theorem UJ:type_of% @Nat.add_zero:=@Nat.add_zero
theorem wD:type_of% @Nat.blt_eq:=@Nat.blt_eq
theorem nM:type_of% @Nat.eq_of_beq_eq_true:=@Nat.eq_of_beq_eq_true
theorem QU:type_of% @Nat.le_of_ble_eq_true:=@Nat.le_of_ble_eq_true
theorem UK:type_of% @Nat.le_of_eq:=@Nat.le_of_eq
theorem iZ:type_of% @Nat.le_refl:=@Nat.le_refl
theorem lO:type_of% @Nat.le_trans:=@Nat.le_trans
theorem HB:type_of% @Nat.lt_of_lt_of_le:=@Nat.lt_of_lt_of_le
theorem aB1:type_of% @Nat.mul_le_mul:=@Nat.mul_le_mul
theorem uK:type_of% @Nat.mul_le_mul_right:=@Nat.mul_le_mul_right
theorem aB2:type_of% @Nat.zero_add:=@Nat.zero_add
theorem jD:type_of% @Nat.zero_le:=@Nat.zero_le
theorem aF3:type_of% @Option.getD_some:=@Option.getD_some
theorem aB3:type_of% @Option.isSome_iff_exists:=@Option.isSome_iff_exists
abbrev cC:=Nat->Nat->Prop
def cC.EC(F G:cC):Prop:=∀b o,F b o->G b o->False
variable{F:cC}
def F0:cC:=λ_ _=>False
theorem cC.a2A{G:cC}(h:F.EC G):G.EC F:=λb o hg hf=>h b o hf hg
structure eK (F:cC) (w w':World):Prop where
 os:w'.os=w.os
 tape:w'.tape=w.tape
 output:w'.output=w.output
 size:w.heap.size<=w'.heap.size
 block:∀b,b<w.heap.size->(∀o,¬F b o)->w'.heap[b]?=w.heap[b]?
 cell:∀b o,b<w.heap.size->¬F b o->w'.cell? ⟨b,o,none⟩=w.cell? ⟨b,o,none⟩
 wY:∀b o,b<w.heap.size->w'.frozen? ⟨b,o,none⟩=w.frozen? ⟨b,o,none⟩
 stay:∀b o,(w.cell? ⟨b,o,none⟩).isSome=true->(w'.cell? ⟨b,o,none⟩).isSome=true
theorem jM{b o:Nat}(h:(w.cell? ⟨b,o,none⟩).isSome=true):b<w.heap.size:=by obtain⟨v,hv⟩:=aB3.1 h;exact World.block_lt_of_cell? w ⟨b,o,none⟩ hv
theorem eK.refl(F:cC)(w:World):eK F w w:=⟨rfl,rfl,rfl,iZ _,λ_ _ _=>rfl,λ_ _ _ _=>rfl,λ_ _ _=>rfl,λ_ _ h=>h⟩
theorem eK.mono{G:cC}(h:eK F w w')(hs:∀b o,b<w.heap.size->F b o->G b o):eK G w w':=⟨h.os,h.tape,h.output,h.size,λb hb hg=>h.block b hb λo hf=>hg o (hs b o hb hf),λb o hb hg=>h.cell b o hb λhf=>hg (hs b o hb hf),h.wY,h.stay⟩
theorem eK.trans{G:cC}{w1 w2:World}(h:eK F w w1)(k:eK G w1 w2)(hs:∀b o,b<w.heap.size->G b o->F b o):eK F w w2:=
  ⟨k.os.trans h.os,k.tape.trans h.tape,k.output.trans h.output,lO h.size k.size,
   λb hb hf=>(k.block b (HB hb h.size) λo hg=>hf o (hs b o hb hg)).trans (h.block b hb hf),
   λb o hb hf=>(k.cell b o (HB hb h.size) λhg=>hf (hs b o hb hg)).trans (h.cell b o hb hf),
   λb o hb=>(k.wY b o (HB hb h.size)).trans (h.wY b o hb),λb o hc=>k.stay b o (h.stay b o hc)⟩
theorem eK.drew(F:cC)(w:World):eK F w w.drew:=⟨rfl,rfl,rfl,iZ _,λ_ _ _=>rfl,λ_ _ _ _=>rfl,λ_ _ _=>rfl,λ_ _ h=>h⟩
theorem eK.alloc(F:cC)(w:World)(ob:Obj):eK F w (w.alloc ob):=by
 have hb:∀b,b<w.heap.size->(w.alloc ob).heap[b]?=w.heap[b]?:=λb hb=>by grind[heap_alloc_old]
 have hc:∀b o,b<w.heap.size->(w.alloc ob).cell? ⟨b,o,none⟩=w.cell? ⟨b,o,none⟩:=λb o h=>World.cell?_of_block (hb b h);exact⟨rfl,rfl,rfl,ae,λb h _=>hb b h,λb o h _=>hc b o h,λb o h=>World.frozen?_of_block (hb b h),
  λb o h=>by grind[jM]⟩
theorem eK.setCell(F:cC)(w:World)(a:Addr)(v:Value)(hf:F a.block a.off)(ha:a.spot=none):eK F w (w.setCell a v):=by
 have hsz:(w.setCell a v).heap.size=w.heap.size:=ae
 refine⟨rfl,rfl,rfl,ae,λb _ hn=>?_,λb o _ hn=>?_,λb o _=>ae,λb o h=>?_⟩
 ·exact heap_setCell_other w a b v (λe=>hn a.off (e ▸ hf))
 ·refine World.cell?_setCell_other (h:=λe=>hn ?_) ..;rw[e] at hf;exact hf
 ·by_cases e:a=⟨b,o,none⟩
  ·subst e;obtain⟨u,hu⟩:=aB3.1 h;rw[World.cell?_setCell_same (h:=hu)];rfl
  ·rw[World.cell?_setCell_other (h:=e)];exact h
def bA(w:World)(b off:Nat)(cs:List Value):Prop:=∀j v,cs[j]?=some v->w.cell? ⟨b,off+j,none⟩=some v
class aN (O:Type) where
 n:Nat
 rd:cC->World->List Value->O->Prop
 own:World->List Value->O->cC->Prop
 lP:∀{S w cs d},rd S w cs d->cs.length=n
 rd_one:∀{S w cs d},rd S w cs d->∀v∈cs,v.oneCell'=true
 rd_agree:∀{S w w' cs d},rd S w cs d->(∀b o,S b o->w'.cell? ⟨b,o,none⟩=w.cell? ⟨b,o,none⟩)->rd S w' cs d
 rd_mono:∀{S S' w cs d},rd S w cs d->(∀b o,S b o->S' b o)->rd S' w cs d
 own_rd:∀{w cs d F},own w cs d F->rd F w cs d
 own_keep:∀{w w' cs d F G},own w cs d F->eK G w w'->F.EC G->own w' cs d F
 own_lt:∀{w cs d F b o},own w cs d F->F b o->b<w.heap.size
@[reducible] def aN.flat {O : Type} (f : O -> Value) (hf : ∀ x, (f x).oneCell' = true) : aN O where
 n:=1
 rd:=λ_ _ cs x=>cs=[f x]
 own:=λ_ cs x F=>cs=[f x]/\∀b o,¬F b o
 lP:=λh=>by simp[h]
 rd_one:=λh v hv=>aj
 rd_agree:=λh _=>h
 rd_mono:=λh _=>h
 own_rd:=λh=>h.1
 own_keep:=λh _ _=>h
 own_lt:=λh hf=>(h.2 _ _ hf).elim
instance:aN Int:=aN.flat (λx=>.int .i64 x) λ_=>rfl
instance:aN Bool:=aN.flat (λx=>.bool x) λ_=>rfl
instance:aN UInt8:=aN.flat (λx=>.int .u8 (x.toNat:Int)) λ_=>rfl
structure bF5 where
 b:List UInt8
 deriving DecidableEq,Inhabited
instance:aN bF5:=aN.flat (λx=>.string ⟨x.b.toArray⟩) λ_=>rfl
instance {O β:Type} [aN O] [aN β]:aN (O×β) where
 n:=aN.n O+aN.n β
 rd:=λS w cs d=>∃c1 c2,cs=c1++c2/\aN.rd S w c1 d.1/\aN.rd S w c2 d.2
 own:=λw cs d F=>∃c1 c2 F1 F2,cs=c1++c2/\aN.own w c1 d.1 F1/\aN.own w c2 d.2 F2/\cC.EC F1 F2/\∀b o,F b o↔F1 b o\/F2 b o
 lP:=by grind[aN.lP]
 rd_one:=by grind[aN.rd_one]
 rd_agree:=by grind[aN.rd_agree]
 rd_mono:=by grind[aN.rd_mono]
 own_rd:=by rintro w cs d F ⟨c1,c2,F1,F2,rfl,h1,h2,_,hF⟩;exact⟨c1,c2,rfl,aN.rd_mono (aN.own_rd h1) λb o h=>(hF b o).2 (.inl h),aN.rd_mono (aN.own_rd h2) λb o h=>(hF b o).2 (.inr h)⟩
 own_keep:=by rintro w w' cs d F G ⟨c1,c2,F1,F2,rfl,h1,h2,hd,hF⟩ hk hdj;exact⟨c1,c2,F1,F2,rfl,aN.own_keep h1 hk λb o h g=>hdj b o ((hF b o).2 (.inl h)) g,aN.own_keep h2 hk λb o h g=>hdj b o ((hF b o).2 (.inr h)) g,hd,hF⟩
 own_lt:=by
  rintro w cs d F b o ⟨c1,c2,F1,F2,rfl,h1,h2,hd,hF⟩ hf;rcases(hF b o).1 hf with h|h
  ·exact aN.own_lt h1 h
  ·exact aN.own_lt h2 h
@[reducible] def aN.via {σ τ : Type} [aN τ] (f : σ -> τ) : aN σ where
 n:=aN.n τ
 rd:=λS w cs d=>aN.rd S w cs (f d)
 own:=λw cs d F=>aN.own w cs (f d) F
 lP:=λh=>aN.lP h
 rd_one:=λh=>aN.rd_one h
 rd_agree:=λh ha=>aN.rd_agree h ha
 rd_mono:=λh ha=>aN.rd_mono h ha
 own_rd:=λh=>aN.own_rd h
 own_keep:=λh hk hd=>aN.own_keep h hk hd
 own_lt:=λh hf=>aN.own_lt h hf
theorem bA.agree{b off:Nat}{cs:List Value}(h:bA w b off cs)(ha:∀o,off<=o->o<off+cs.length->w'.cell? ⟨b,o,none⟩=w.cell? ⟨b,o,none⟩):bA w' b off cs:=by intro j v hj;have hlt:=(AR.1 hj).1;rw[ha _ aa aa];exact h j v hj
theorem bA.lt{b off:Nat}{cs:List Value}(h:bA w b off cs)(hc:cs≠[]):b<w.heap.size:=by
 cases cs with
 |nil=>grind
 |cons v r=>exact World.block_lt_of_cell? w ⟨b,off+0,none⟩ (h 0 v rfl)
def eS(b off n:Nat):cC:=λb' o=>b'=b/\off<=o/\o<off+n
def qV{O:Type}[aN O](S:cC)(w:World)(cs:List Value)(l:List O):Prop:=
 ∃a c,cs=[.slice a l.length c]/\l.length<=c/\c<=maxLen /\
  (l=[]\/∃b off,a=some ⟨b,off,none⟩/\∀i (h:i<l.length),∃ec,bA w b (off+i*aN.n O) ec/\(∀o,eS b (off+i*aN.n O) ec.length b o->S b o)/\aN.rd S w ec l[i])
def AV{O:Type}[aN O](w:World)(cs:List Value)(l:List O)(F:cC):Prop:=
  ∃a c,cs=[.slice a l.length c]/\l.length<=c/\c<=maxLen /\
    ((a = none /\ c = 0 /\ ∀ b o,¬ F b o) \/
     ∃b off,∃Fs:Nat->cC,a=some ⟨b,off,none⟩/\(∀o,eS b off (c*aN.n O) b o->(w.cell? ⟨b,o,none⟩).isSome=true/\w.frozen? ⟨b,o,none⟩=false) /\
       (∀i (h:i<l.length),∃ec,bA w b (off+i*aN.n O) ec/\aN.own w ec l[i] (Fs i)) /\
       (∀i j,i<l.length->j<l.length->i≠j->cC.EC (Fs i) (Fs j))/\(∀i,i<l.length->cC.EC (Fs i) (eS b off (c*aN.n O))) /\
       ∀b' o,F b' o↔eS b off (c*aN.n O) b' o\/∃i,i<l.length/\Fs i b' o)
theorem a45{len c:Nat}(hi:i<len)(hc:len<=c)(hj:j<n):i*n+j<c*n:=by have:(i+1)*n<=c*n:=uK n aa;grind
instance bFD {O:Type} [aN O]:aN (List O) where
 n:=1
 rd:=qV
 own:=AV
 lP:=by rintro S w cs d ⟨a,c,rfl,_⟩;rfl
 rd_one:=by rintro S w cs d ⟨a,c,rfl,_⟩ v hv;simp at hv;subst hv;rfl
 rd_agree:=by
  rintro S w w' cs l ⟨a,c,rfl,h1,h2,h3⟩ ha;refine⟨a,c,rfl,h1,h2,?_⟩;rcases h3 with h|⟨b,off,rfl,h⟩
  ·exact .inl h
  ·refine .inr ⟨b,off,rfl,λi hi=>?_⟩;obtain⟨ec,hc,hr,hd⟩:=h i hi;exact⟨ec,hc.agree λo a1 a2=>ha b o (hr o ⟨rfl,a1,a2⟩),hr,aN.rd_agree hd ha⟩
 rd_mono:=by rintro S S' w cs l ⟨a,c,rfl,h1,h2,h3⟩ ha;refine⟨a,c,rfl,h1,h2,?_⟩;grind[aN.rd_mono]
 own_rd:=by
  rintro w cs l F ⟨a,c,rfl,h1,h2,h3⟩;refine⟨a,c,rfl,h1,h2,?_⟩;rcases h3 with ⟨rfl,hc,_⟩|⟨b,off,Fs,rfl,hrow,hel,_,_,hF⟩
  ·simp_all
  ·refine .inr ⟨b,off,rfl,λi hi=>?_⟩;obtain⟨ec,hc,ho⟩:=hel i hi;refine⟨ec,hc,λo h4=>(hF b o).2 (.inl ⟨rfl,?_,?_⟩),aN.rd_mono (aN.own_rd ho) λb' o hf=>(hF b' o).2 (.inr ⟨i,hi,hf⟩)⟩
   ·have:=h4.2.1;omega
   ·have hl:=aN.lP (aN.own_rd ho);obtain⟨_,h5,h6⟩:=h4;rw[hl] at h6;have:=a45 (j:=o-(off+i*aN.n O)) (n:=aN.n O) hi h1 aa;omega
 own_keep:=by
  rintro w w' cs l F G ⟨a,c,rfl,h1,h2,h3⟩ hk hd;refine⟨a,c,rfl,h1,h2,?_⟩;rcases h3 with h|⟨b,off,Fs,rfl,hrow,hel,h4,h5,hF⟩
  ·exact .inl h
  ·refine .inr ⟨b,off,Fs,rfl,λo ho=>?_,λi hi=>?_,h4,h5,hF⟩
   ·have hs:=hrow o ho;exact⟨hk.stay b o hs.1,(hk.wY b o (jM hs.1)).trans hs.2⟩
   ·obtain⟨ec,hc,ho⟩:=hel i hi;refine⟨ec,hc.agree λo h6 h7=>?_,aN.own_keep ho hk λb' o hf hg=>hd b' o ((hF b' o).2 (.inr ⟨i,hi,hf⟩)) hg⟩;have hin:eS b off (c*aN.n O) b o:=by refine⟨rfl,aa,?_⟩;have hl:=aN.lP (aN.own_rd ho);rw[hl] at h7;have:=a45 (j:=o-(off+i*aN.n O)) (n:=aN.n O) hi h1 aa;omega
    exact hk.cell b o (jM (hrow o hin).1) λhg=>hd b o ((hF b o).2 (.inl hin)) hg
 own_lt:=by
  rintro w cs l F b' o ⟨a,c,rfl,h1,h2,h3⟩ hf;rcases h3 with ⟨_,_,h⟩|⟨b,off,Fs,rfl,hrow,hel,h4,h5,hF⟩
  ·grind
  ·rcases(hF b' o).1 hf with h|⟨i,hi,h⟩
   ·have e:b'=b:=h.1;subst e;exact jM (hrow o h).1
   ·obtain⟨ec,hc,ho⟩:=hel i hi;exact aN.own_lt ho h
structure Chunk where
 P:World->cC->Prop
 keep:∀{w w' F G},P w F->eK G w w'->F.EC G->P w' F
 lt:∀{w F b o},P w F->F b o->b<w.heap.size
variable{ch:Chunk}{A A' B:List Chunk}
def J1:Chunk:=⟨λ_ F=>∀b o,¬F b o,λh _ _=>h,λh hf=>(h _ _ hf).elim⟩
def VY(b off:Nat)(cs:List Value):Chunk where
 P:=λw F=>bA w b off cs/\(∀o,eS b off cs.length b o->w.frozen? ⟨b,o,none⟩=false)/\∀b' o,F b' o↔eS b off cs.length b' o
 keep:=by
  rintro w w' F G ⟨h1,h2,hF⟩ hk hd;have hlt:∀o,eS b off cs.length b o->b<w.heap.size:=λo ho=>by obtain⟨_,h3,h4⟩:=ho;exact World.block_lt_of_cell? w _ (h1 (o-off) cs[o-off] (jC aa))
  refine⟨h1.agree λo h3 h4=>?_,λo ho=>(hk.wY b o (hlt o ho)).trans (h2 o ho),hF⟩;have hin:eS b off cs.length b o:=⟨rfl,h3,h4⟩;exact hk.cell b o (hlt o hin) λhg=>hd b o ((hF b o).2 hin) hg
 lt:=by rintro w F b' o ⟨h1,h2,hF⟩ hf;obtain⟨rfl,h3,h4⟩:=(hF b' o).1 hf;exact World.block_lt_of_cell? w _ (h1 (o-off) cs[o-off] (jC aa))
def eU{O:Type}[aN O](cs:List Value)(d:O):Chunk:=⟨λw F=>aN.own w cs d F,λh hk hd=>aN.own_keep h hk hd,λh hf=>aN.own_lt h hf⟩
def Sep(w:World):List Chunk->cC->Prop
 |[],F=>∀b o,¬F b o
 |c::L,F=>∃F1 F2,c.P w F1/\Sep w L F2/\F1.EC F2/\∀b o,F b o↔F1 b o\/F2 b o
theorem Sep.keep{w w':World}{G:cC}(hk:eK G w w'):∀{L:List Chunk} {F:cC},Sep w L F->F.EC G->Sep w' L F
 |[],_,h,_=>h
 |c::_,_,⟨F1,F2,h1,h2,hd,hF⟩,hdj=>
  ⟨F1,F2,c.keep h1 hk λb o h g=>hdj b o ((hF b o).2 (.inl h)) g,Sep.keep hk h2 λb o h g=>hdj b o ((hF b o).2 (.inr h)) g,hd,hF⟩
theorem Sep.lt{w:World}:∀{L:List Chunk} {F:cC} {b o:Nat},Sep w L F->F b o->b<w.heap.size
 |[],_,_,_,h,hf=>(h _ _ hf).elim
 |c::L,F,b,o,⟨F1,F2,h1,h2,hd,hF⟩,hf=>by
  rcases(hF b o).1 hf with h|h
  ·exact c.lt h1 h
  ·exact Sep.lt h2 h
theorem Sep.congr{L:List Chunk}{G:cC}(h:Sep w L F)(hFG:∀b o,F b o↔G b o):Sep w L G:=by
 have:F=G:=aj
 grind
theorem Sep.append{w:World}:∀{A B:List Chunk} {F:cC},Sep w (A++B) F↔∃F1 F2,Sep w A F1/\Sep w B F2/\F1.EC F2/\∀b o,F b o↔F1 b o\/F2 b o
 |[],B,F=>by
  constructor
  ·intro h;exact⟨F0,F,λ_ _ h=>h,h,λ_ _ h _=>h,λb o=>by simp[F0]⟩
  ·rintro⟨F1,F2,h1,h2,_,hF⟩;exact Sep.congr h2 λb o=>by rw[hF];exact⟨.inr,λh=>h.elim (λh=>(h1 _ _ h).elim) id⟩
 |c::A,B,F=>by
  constructor
  ·rintro⟨F1,F2,h1,h2,hd,hF⟩;obtain⟨G1,G2,g1,g2,gd,hG⟩:=Sep.append.1 h2;exact⟨λb o=>F1 b o\/G1 b o,G2,⟨F1,G1,h1,g1,λb o h g=>hd b o h ((hG b o).2 (.inl g)),λ_ _=>Iff.rfl⟩,g2,
    λb o h g=>h.elim (λh=>hd b o h ((hG b o).2 (.inr g))) (λh=>gd b o h g),λb o=>aj⟩
  ·rintro⟨F1,F2,⟨G1,G2,g1,g2,gd,hG⟩,h2,hd,hF⟩;exact⟨G1,λb o=>G2 b o\/F2 b o,g1,Sep.append.2 ⟨G2,F2,g2,h2,λb o h g=>hd b o ((hG b o).2 (.inr h)) g,λ_ _=>Iff.rfl⟩,
    λb o h g=>g.elim (λg=>gd b o h g) (λg=>hd b o ((hG b o).2 (.inl h)) g),λb o=>aj⟩
theorem Sep.swap(h:Sep w (A++B) F):Sep w (B++A) F:=by obtain⟨F1,F2,h1,h2,hd,hF⟩:=Sep.append.1 h;exact Sep.append.2 ⟨F2,F1,h2,h1,cC.a2A hd,λb o=>aj⟩
theorem Sep.take{w:World}{c:Chunk}:∀{L:List Chunk} {i:Nat} {F:cC},L[i]?=some c->(Sep w L F↔Sep w (c::L.set i J1) F)
 |[],i,F,h=>by simp at h
 |d::L,0,F,h=>by
  simp at h;subst h;show(∃F1 F2,_)↔∃F1 F2,d.P w F1/\(∃G1 G2,J1.P w G1/\Sep w L G2/\G1.EC G2/\_)/\_;constructor
  ·rintro⟨F1,F2,h1,h2,hd,hF⟩;exact⟨F1,F2,h1,⟨F0,F2,λ_ _ h=>h,h2,λ_ _ h _=>h,λb o=>by simp[F0]⟩,hd,hF⟩
  ·rintro⟨F1,F2,h1,⟨G1,G2,g1,g2,_,hG⟩,hd,hF⟩;exact⟨F1,G2,h1,g2,λb o h g=>hd b o h ((hG b o).2 (.inr g)),λb o=>by
    rw[hF,hG];constructor
    ·rintro(h|h|h)
     ·exact .inl h
     ·exact(g1 _ _ h).elim
     grind
    grind⟩
 |d::L,i + 1,F,h=>by
  have h':L[i]?=some c:=aj
  show(∃F1 F2,d.P w F1/\Sep w L F2/\_)↔Sep w (c::d::L.set i J1) F;have step:∀G,Sep w L G↔Sep w (c::L.set i J1) G:=λG=>Sep.take h';constructor
  ·rintro⟨F1,F2,h1,h2,hd,hF⟩;obtain⟨G1,G2,g1,g2,gd,hG⟩:=(step F2).1 h2;exact⟨G1,λb o=>F1 b o\/G2 b o,g1,⟨F1,G2,h1,g2,λb o h g=>hd b o h ((hG b o).2 (.inr g)),λ_ _=>Iff.rfl⟩,
    λb o g h=>h.elim (λh=>hd b o h ((hG b o).2 (.inl g))) (λh=>gd b o g h),λb o=>aj⟩
  ·rintro⟨G1,H,g1,⟨F1,G2,h1,g2,hd,hH⟩,gd,hF⟩;exact⟨F1,λb o=>G1 b o\/G2 b o,h1,(step _).2 ⟨G1,G2,g1,g2,λb o g h=>gd b o g ((hH b o).2 (.inr h)),λ_ _=>Iff.rfl⟩,
    λb o h g=>g.elim (λg=>gd b o g ((hH b o).2 (.inl h))) (λg=>hd b o h g),λb o=>aj⟩
structure Ctx where
 w0:World
 W:cC
 S0:cC
structure Fact where
 P:cC->World->Prop
 agree:∀{S w w'},P S w->(∀b o,S b o->w'.cell? ⟨b,o,none⟩=w.cell? ⟨b,o,none⟩)->P S w'
 mono:∀{S S' w},P S w->(∀b o,S b o->S' b o)->P S' w
variable{RA:List Fact}
def fRd{O:Type}[aN O](cs:List Value)(d:O):Fact:=⟨λS w=>aN.rd S w cs d,λh ha=>aN.rd_agree h ha,λh ha=>aN.rd_mono h ha⟩
def YO(w:World):cC:=λb _=>b<w.heap.size
structure St (c:Ctx) (w:World) (L:List Chunk) (R:List Fact):Prop where
 keep:eK c.W c.w0 w
 sep:∃F S,Sep w L F/\F.EC S/\(∀b o,F b o->c.W b o\/c.w0.heap.size<=b)/\(∀b o,S b o->c.S0 b o\/c.W b o\/c.w0.heap.size<=b) /\
  (∀b o,S b o->b<w.heap.size)/\∀f∈R,f.P S w
 apart:c.W.EC c.S0
section
variable {c:Ctx} {w w':World} {L:List Chunk} {R:List Fact}
theorem St.fact(h:St c w L R){f:Fact}(i:Nat)(hi:R[i]?=some f):f.P (YO w) w:=by obtain⟨F,S,_,_,_,_,h5,hR⟩:=h.sep;exact f.mono (hR f (D9 hi)) h5
theorem St.rd[aN O]{cs:List Value}{d:O}(h:St c w L R)(i:Nat)(hi:R[i]?=some (fRd cs d)):aN.rd (YO w) w cs d:=h.fact i hi
theorem St.chunk(h:St c w L R)(i:Nat)(hi:L[i]?=some ch):∃F,ch.P w F:=by obtain⟨F,S,hs,_⟩:=h.sep;obtain⟨F1,F2,h1,_⟩:=(Sep.take hi).1 hs;grind
theorem St.aY8[aN O]{cs:List Value}{d:O}(h:St c w L R)(i:Nat)(hi:L[i]?=some (eU cs d)):aN.rd (YO w) w cs d:=by obtain⟨F,hF⟩:=h.chunk i hi;have hF:aN.own w cs d F:=hF;exact aN.rd_mono (aN.own_rd hF) λb o hf=>aN.own_lt hF hf
theorem St.step(h:St c w (A++B) R)(hs:∀F,Sep w A F->∃F' G,eK G w w'/\(∀b o,G b o->F b o)/\Sep w' A' F'/\∀b o,F' b o->F b o\/w.heap.size<=b) :
  St c w' (A'++B) R:=by
 obtain⟨F,S,hsep,hFS,hFW,hSS,hSlt,hR⟩:=h.sep;obtain⟨F1,F2,h1,h2,hd,hF⟩:=Sep.append.1 hsep;obtain⟨F',G,hk,hG,h1',hF'⟩:=hs F1 h1;have hGW:∀b o,b<c.w0.heap.size->G b o->c.W b o:=λb o hb g=>aj
 refine⟨h.keep.trans hk hGW,⟨λb o=>F' b o\/F2 b o,S,Sep.append.2 ⟨F',F2,h1',Sep.keep hk h2 λb o hf g=>hd b o (hG b o g) hf,?_,λ_ _=>Iff.rfl⟩,?_,?_,hSS,λb o hS=>HB (hSlt b o hS) hk.size,?_⟩,h.apart⟩
 ·intro b o hf hg;rcases hF' b o hf with h|h
  ·exact hd b o h hg
  ·have:=Sep.lt h2 hg;omega
 ·rintro b o (hf|hf) hS
  ·rcases hF' b o hf with h|h
   ·exact hFS b o ((hF b o).2 (.inl h)) hS
   grind
  ·exact hFS b o ((hF b o).2 (.inr hf)) hS
 ·rintro b o (hf|hf)
  ·rcases hF' b o hf with h'|h'
   ·grind
   ·exact .inr (lO h.keep.size h')
  grind
 ·intro f hf;exact f.agree (hR f hf) λb o hS=>hk.cell b o (hSlt b o hS) λg=>hFS b o ((hF b o).2 (.inl (hG b o g))) hS
theorem St.rot(h:St c w (A++B) R):St c w (B++A) R:=by obtain⟨F,S,hsep,rest⟩:=h.sep;exact⟨h.keep,⟨F,S,hsep.swap,rest⟩,h.apart⟩
theorem St.take(h:St c w L R)(i:Nat)(hi:L[i]?=some ch):St c w (ch::L.set i J1) R:=by obtain⟨F,S,hsep,rest⟩:=h.sep;exact⟨h.keep,⟨F,S,(Sep.take hi).1 hsep,rest⟩,h.apart⟩
theorem Sep.put{w:World}:∀{L:List Chunk} {i:Nat} {F:cC},i<L.length->Sep w (ch::L.set i J1) F->Sep w (L.set i ch) F
 |L,i,F,hi,h=>(Sep.take (c:=ch) (L:=L.set i ch) (i:=i) (by simp[hi])).2 (by simp_all)
theorem St.put(h:St c w (ch::L.set i J1) R)(hi:i<L.length):St c w (L.set i ch) R:=by obtain⟨F,S,hsep,rest⟩:=h.sep;exact⟨h.keep,⟨F,S,Sep.put hi hsep,rest⟩,h.apart⟩
theorem St.aEG(h:St c w L R){ch':Chunk}(i:Nat)(hi:L[i]?=some ch)(hs:∀F,ch.P w F->∃F' G,eK G w w'/\(∀b o,G b o->F b o)/\ch'.P w' F'/\∀b o,F' b o->F b o\/w.heap.size<=b) :
  St c w' (L.set i ch') R:=by
 have h1:St c w ([ch]++L.set i J1) R:=h.take i hi;have h2:St c w' ([ch']++L.set i J1) R:=h1.step λF hF=>by obtain⟨F1,F2,p1,p2,pd,pF⟩:=hF;obtain⟨F',G,hk,hG,hp,hF'⟩:=hs F1 p1;refine⟨F',G,hk,λb o g=>(pF b o).2 (.inl (hG b o g)),⟨F',F0,hp,λ_ _ h=>h,λ_ _ _ h=>h,λb o=>by simp[F0]⟩,λb o hf=>?_⟩;grind
 grind[St.put]
theorem St.more(h:St c w L R)(hk:eK F0 w w')(hp:∃F,ch.P w' F/\∀b o,F b o->w.heap.size<=b):St c w' (L++[ch]) R:=by obtain⟨F,hp,hF⟩:=hp;have h2:St c w' ([ch]++L) R:=St.step (A:=[]) aj λG _=>⟨F,F0,hk,λ_ _ h=>h.elim,⟨F,F0,hp,λ_ _ h=>h,λ_ _ _ h=>h,λb o=>by simp[F0]⟩,λb o hf=>.inr (hF b o hf)⟩;exact St.rot h2
theorem St.same(h:St c w L R)(hk:eK F0 w w'):St c w' L R:=St.step (A:=[]) (A':=[]) (B:=L) h λ_ _=>⟨F0,F0,hk,λ_ _ h=>h.elim,λ_ _ h=>h,λ_ _ h=>h.elim⟩
theorem St.weaken(h:St c w L R){R':List Fact}(hs:∀f∈R',f∈R):St c w L R':=by obtain⟨F,S,a1,a2,a3,a4,a5,a6⟩:=h.sep;exact⟨h.keep,⟨F,S,a1,a2,a3,a4,a5,λf hf=>a6 f (hs f hf)⟩,h.apart⟩
theorem St.drop(h:St c w (A++L) R):St c w L R:=St.step (A:=A) (A':=[]) h λ_ _=>⟨F0,F0,eK.refl _ _,λ_ _ h=>h.elim,λ_ _ h=>h,λ_ _ h=>h.elim⟩
theorem St.derive(h:St c w L R){f:Fact}{Gs:List Fact}(i:Nat)(hi:R[i]?=some f)(hfg:∀S,f.P S w->∀g∈Gs,g.P S w):St c w L (R++Gs):=by obtain⟨F,S,a1,a2,a3,a4,a5,a6⟩:=h.sep;refine⟨h.keep,⟨F,S,a1,a2,a3,a4,a5,λg hg=>?_⟩,h.apart⟩;grind
def dZ(w:World):Ctx:=⟨w,F0,YO w⟩
theorem St.enter(hR:∀f∈RA,f.P (YO w) w):St (dZ w) w [] RA:=⟨eK.refl _ _,⟨F0,YO w,λ_ _ h=>h,λ_ _ h=>h.elim,λ_ _ h=>h.elim,λ_ _ h=>.inl h,λ_ _ h=>h,hR⟩,λ_ _ h=>h.elim⟩
theorem St.after(h:St c w L R)(k:St (dZ w) w' A' RA):St c w' (L++A') R:=by obtain⟨F,S,a1,a2,a3,a4,a5,a6⟩:=k.sep;have h2:St c w' (A'++L) R:=St.step (w:=w) (A:=[]) aj λG _=>⟨F,F0,k.keep,λ_ _ h=>h.elim,a1,λb o hf=>(a3 b o hf).elim (λh=>h.elim) .inr⟩;exact St.rot h2
theorem St.call(h:St c w (A++L) R)(hRA:∀f∈RA,f∈R) :
  ∃c',c'.w0=w/\St c' w A RA/\∀w' A' R',St c' w' A' R'->St c w' (L++A') (R++R'):=by
 obtain⟨F,S,hsep,hFS,hFW,hSS,hSlt,hR⟩:=h.sep;obtain⟨F1,F2,h1,h2,hd,hF⟩:=Sep.append.1 hsep;refine⟨⟨w,F1,S⟩,rfl,⟨eK.refl _ _,⟨F1,S,h1,λb o hf=>hFS b o ((hF b o).2 (.inl hf)),λ_ _ h=>.inl h,λ_ _ h=>.inl h,hSlt,λf hf=>hR f (hRA f hf)⟩,λb o hf=>hFS b o ((hF b o).2 (.inl hf))⟩,?_⟩;intro w' A' R' k;obtain⟨F',S',b1,b2,b3,b4,b5,b6⟩:=k.sep;have hk:=k.keep;have hGW:∀b o,b<c.w0.heap.size->F1 b o->c.W b o:=λb o hb g=>aj
 refine⟨h.keep.trans hk hGW,⟨λb o=>F2 b o\/F' b o,λb o=>S b o/\True\/S' b o,Sep.append.2 ⟨F2,F',Sep.keep hk h2 λb o hf g=>hd b o g hf,b1,?_,λ_ _=>Iff.rfl⟩,?_,?_,?_,?_,?_⟩,h.apart⟩
 ·intro b o hf hg;rcases b3 b o hg with h|h
  ·exact hd b o h hf
  ·have h:w.heap.size<=b:=h;have:=Sep.lt h2 hf;omega
 ·rintro b o (hf|hf) (⟨hs,_⟩|hs)
  ·exact hFS b o ((hF b o).2 (.inr hf)) hs
  ·rcases b4 b o hs with h|h|h
   ·exact hFS b o ((hF b o).2 (.inr hf)) h
   ·exact hd b o h hf
   ·have h:w.heap.size<=b:=h;have:=Sep.lt h2 hf;omega
  ·rcases b3 b o hf with h|h
   ·exact hFS b o ((hF b o).2 (.inl h)) hs
   grind
  ·exact b2 b o hf hs
 ·rintro b o (hf|hf)
  ·grind
  ·rcases b3 b o hf with h'|h'
   ·grind
   ·exact .inr (lO h.keep.size h')
 ·rintro b o (⟨hs,_⟩|hs)
  ·grind
  ·rcases b4 b o hs with h'|h'|h'
   ·grind
   ·grind
   ·exact .inr (.inr (lO h.keep.size h'))
 ·rintro b o (⟨hs,_⟩|hs)
  ·exact HB (hSlt b o hs) hk.size
  grind
 ·intro f hf;rcases cY.1 hf with hf|hf
  ·exact f.mono (f.agree (hR f hf) λb o hs=>hk.cell b o (hSlt b o hs) λg=>hFS b o ((hF b o).2 (.inl g)) hs) λb o hs=>.inl ⟨hs,trivial⟩
  ·exact f.mono (b6 f hf) λb o hs=>.inr hs
end
abbrev Env:=List (Nat×Value)
variable{e:Env}
def lk:Env->Nat->Option Value
 |[],_=>none
 |(k,v)::e,n=>match Nat.beq n k with
  |true=>some v
  |false=>lk e n
structure J3 (n:Nat) (e:Env) (a:Act):Prop where
 d:a.defers=[]
 size:a.tmps.size=n
 get:∀k v,lk e k=some v->a.tmps[k]?=some v
def ev(e:Env):Operand->Option Value
 |.tmp t=>lk e t
 |.const v=>some v
 |.global g=>some (.pointer (some ⟨g,0,none⟩))
 |.func f=>some (.func (.func f) #[] #[])
theorem J3.eval{a:Act}{v:Value}(h:J3 n e a)(hx:ev e x=some v):a.eval x=v:=by
 cases x with
 |tmp t=>
  have:=h.get t v hx;show a.tmps.getD t undef=v;simp_all
 |const u=>grind[ev,Act.eval]
 |global g=>grind[ev,Act.eval]
 |func f=>grind[ev,Act.eval]
theorem J3.put{a:Act}(h:J3 n e a)(hd:d<n)(v:Value):J3 n ((d,v)::e) (a.put (some d) v):=by
 refine⟨h.d,by simp[Act.put,h.size],λk u hk=>?_⟩;simp only[lk] at hk;show(a.tmps.setIfInBounds d v)[k]?=some u;by_cases e1:k=d
 ·subst e1;have:Nat.beq k k=true:=ae
  rw[this] at hk;simp at hk;rw[Array.getElem?_setIfInBounds_self_of_lt (by rw[h.size];exact hd),hk]
 ·have:Nat.beq k d=false:=by grind[nM]
  rw[this] at hk;rw[Array.getElem?_setIfInBounds_ne (Ne.symm e1)];exact h.get k u hk
def Has(e:Env):Env->Prop
 |[]=>True
 |(k,v)::r=>lk e k=some v/\Has e r
theorem Has.get{e:Env}:∀{e':Env} {k:Nat} {v:Value},Has e e'->lk e' k=some v->lk e k=some v
 |[],_,_,_,h=>by simp[lk] at h
 |(k',v')::r,k,v,⟨h1,h2⟩,h=>by
  simp only[lk] at h;cases hb:Nat.beq k k' with
  |true=>simp_all
  |false=>rw[hb] at h;exact Has.get h2 h
theorem J3.part{e':Env}{a:Act}(h:J3 n e a)(hh:Has e e'):J3 n e' a:=⟨h.d,h.size,λk v hk=>h.get k v (hh.get hk)⟩
def aS1:Nat->List Value->Env
 |_,[]=>[]
 |k,v::r=>(k,v)::aS1 (k+1) r
theorem a46(l:List Value):∀(b k:Nat) (v:Value),lk (aS1 b l) k=some v->b<=k/\l[k-b]?=some v:=by
 induction l with
 |nil=>grind[aS1,lk]
 |cons x r ih=>
  intro b k v h;simp only[aS1,lk] at h;cases hb:Nat.beq k b with
  |true=>
   simp_all
  |false=>
   grind
theorem bJS(l:List Value)(n:Nat)(hn:l.length<=n):J3 n (aS1 0 l) {tmps:=l.toArray++Array.replicate (n-l.toArray.size) undef,defers:=[]}:=by refine⟨rfl,ah,λk v hk=>?_⟩;obtain⟨_,h2⟩:=a46 l 0 k v hk;grind
def mkQ(N:Act->World->Prop)(X:Nat->Act->World->Prop)(T:Act->World->Prop):Exit->Act->World->Prop
 |.normal,a,w=>N a w
 |.exit i,a,w=>X i a w
 |.ret,a,w=>T a w
 |_,_,_=>False
def CW(P:Program)(c:Code)(N:Act->World->Prop)(X:Nat->Act->World->Prop)(T:Act->World->Prop)(a:Act)(w:World):Prop:=c.wp P (mkQ N X T) a w
def aO0(id:Nat)(N:Act->World->Prop)(X:Nat->Act->World->Prop):Nat->Act->World->Prop:=λi a w=>if i=id then N a w else X i a w
section
variable {P:Program} {c x y:Code} {N:Act->World->Prop} {X:Nat->Act->World->Prop} {T:Act->World->Prop} {a:Act} {w:World}
theorem CW.mono{N':Act->World->Prop}{X':Nat->Act->World->Prop}{T':Act->World->Prop}(h:CW P c N X T a w)(hN:∀a w,N a w->N' a w)(hX:∀i a w,X i a w->X' i a w)(hT:∀a w,T a w->T' a w):CW P c N' X' T' a w:=
 wp_mono h λe a w q=>by cases e<;>first|exact hN _ _ q|exact hX _ _ _ q|exact hT _ _ q|exact q
theorem bF6(h:CW P x (λa w=>CW P y N X T a w) X T a w):CW P (.seq x y) N X T a w:=wp_seq (wp_mono h λe a w q=>by cases e<;>exact q)
theorem bA8(h:N a w):CW P .skip N X T a w:=wp_skip h
theorem bA9(h:X id a w):CW P (.exit id) N X T a w:=wp_exit h
theorem bF7(h:T a w):CW P .ret N X T a w:=wp_ret h
theorem aS2(h:CW P c N (aO0 id N X) T a w):CW P (.block id c) N X T a w:=wp_block (wp_mono h λe a w q=>by cases e<;>exact q)
theorem aIE{o:Operand}{t:Bool}(hA:J3 n e a)(ho:ev e o=some (.bool t))(ht:t=true->CW P x N X T a w)(hf:t=false->CW P y N X T a w):CW P (.cond o x y) N X T a w:=wp_cond_split (hA.eval ho) ht hf
theorem bF8{o:Operand}{t:Bool}(hA:J3 n e a)(ho:ev e o=some (.bool t))(ht:t=true)(h:CW P x N X T a w):CW P (.cond o x y) N X T a w:=aIE hA ho (λ_=>h) (λhf=>aj)
theorem bJT{o:Operand}{t:Bool}(hA:J3 n e a)(ho:ev e o=some (.bool t))(ht:t=false)(h:CW P y N X T a w):CW P (.cond o x y) N X T a w:=aIE hA ho (λhf=>aj) (λ_=>h)
theorem a2B{ops:Array Oper}(h:wpList P ops (mkQ N X T) ops.toList a w):CW P (.region id ops false) N X T a w:=wp_region_list h
end
inductive Step (σ ρ:Type) where
 |next (s:σ)
 |stop (r:ρ)
inductive Out (β ρ:Type) where
 |brk (s:β)
 |ret (r:ρ)
def iter{σ ρ:Type}(body:σ->Option (Step σ ρ)):Nat->σ->Option ρ
 |0,_=>none
 |n + 1,s=>match body s with
  |none=>none
  |some (.next s')=>iter body n s'
  |some (.stop r)=>some r
theorem aS3{σ ρ:Type}{body:σ->Option (Step σ ρ)}:∀{n m:Nat} {s:σ} {r r':ρ},iter body n s=some r->iter body m s=some r'->r=r'
 |0,_,_,_,_,h,_=>by grind[iter]
 |_+1,0,_,_,_,_,h=>by grind[iter]
 |n + 1,m + 1,s,r,r',h,h'=>by
  simp only[iter] at h h';cases hb:body s with
  |none=>grind
  |some o=>cases o with
   |next s'=>rw[hb] at h h';exact aS3 h h'
   |stop q=>grind
open Classical in
def loop{σ ρ:Type}(body:σ->Option (Step σ ρ))(s:σ):Option ρ:=if h:∃r,∃n,iter body n s=some r then some (Classical.choose h) else none
theorem QV{body:σ->Option (Step σ ρ)}{s:σ}{r:ρ}:loop body s=some r↔∃n,iter body n s=some r:=by
 unfold loop;by_cases h:∃r,∃n,iter body n s=some r
 ·rw[dif_pos h];grind[aS3]
 grind
theorem bB{body:σ->Option (Step σ ρ)}{s:σ}{r:ρ}(h:body s=some (.stop r)):loop body s=some r:=QV.2 ⟨1,by simp[iter,h]⟩
theorem bG{body:σ->Option (Step σ ρ)}{s s':σ}(h:body s=some (.next s')):loop body s=loop body s':=by
 cases h2:loop body s' with
 |some r=>
  obtain⟨n,hn⟩:=QV.1 h2;exact QV.2 ⟨n+1,by grind[iter]⟩
 |none=>
  cases h1:loop body s with
  |none=>rfl
  |some r=>
   obtain⟨n,hn⟩:=QV.1 h1;cases n with
   |zero=>grind[iter]
   |succ n=>grind[iter,QV]
theorem bBA{c:Code}{N:Act->World->Prop}{X:Nat->Act->World->Prop}{T:Act->World->Prop}{body:σ->Option (Step σ ρ)}{r:ρ}(Inv:σ->Act->World->Prop)
  (round:∀s a w o,Inv s a w->body s=some o->(∀q,o=.stop q->q=r)->CW P c (λa' w'=>∃s',o=.next s'/\Inv s' a' w') X T a w)
  {s:σ} (hl:loop body s=some r) {a:Act}  (h:Inv s a w):CW P (.loop c) N X T a w:=by
 obtain⟨n,hn⟩:=QV.1 hl;refine wp_loop_rounds n ?_;clear hl;induction n generalizing s a w with
 |zero=>grind[iter]
 |succ n ih=>
  simp only[iter] at hn;rw[rounds_succ];cases hb:body s with
  |none=>grind
  |some o=>
   have hr:∀q,o=.stop q->q=r:=λq e=>aj
   refine wp_mono (round s a w o h hb hr) λe a' w' q=>?_;cases e with
   |normal=>obtain⟨s',e,hI⟩:=q;subst e;rw[hb] at hn;exact ih hI hn
   |_=>exact q
abbrev aY(n:Int):Int:=IntKind.i64.wrap n
def eW(P:Program)(o:Oper)(e:Env)(w:World)(v:Value)(w':World):Prop:=∀n a,J3 n e a->(execOp a.eval o).run P w=.ok (.value v) w'
def bJU(P:Program)(o:Oper)(e:Env)(w:World)(w':World):Prop:=∀n a,J3 n e a->(execOp a.eval o).run P w=.ok .skip w'
def bF9(P:Program)(o:Oper)(e:Env)(w:World)(f:FuncId)(args:Array Value):Prop:=∀n a,J3 n e a->(execOp a.eval o).run P w=.ok (.enter f args) w
def Ops(P:Program)(ops:Array Oper)(Q:Exit->Act->World->Prop)(rest:List Oper)(n:Nat)(e:Env)(w:World):Prop:=∀a,J3 n e a->wpList P ops Q rest a w
section
variable {P:Program} {a':Act} {ops:Array Oper} {Q:Exit->Act->World->Prop} {o:Oper} {rest:List Oper} {n d:Nat} {e:Env} {w w':World}
def Want(ops:Array Oper)(o:Oper)(e:Env)(b:Bool):Prop:=∀n a,J3 n e a->Region.wanted o (yielded ops a.tmps)=b
theorem aS4(hg:o.guard=none):Want ops o e true:=λ_ _ _=>by grind[Region.wanted]
theorem aY9{t b:Bool}{s:Tmp}(hg:o.guard=some (j,t))(hj:(ops[j]?).bind (·.dst)=some s)(hv:lk e s=some (.bool c))(hb:Bool.xor c t=!b):Want ops o e b:=λ_ a hA=>by
 have:yielded ops a.tmps j=some c:=by have h1:=hA.get s _ hv;grind[yielded]
 grind[Region.wanted]
theorem bFE{v:Value}(hr:eW P o e w v w')(hw:Want ops o e true)(hd:o.dst=some d)(hn:Nat.blt d n=true)(k:Ops P ops Q rest n ((d,v)::e) w'):Ops P ops Q (o::rest) n e w:=λa hA=>by refine wpList_step λK hK=>?_;rw[hw n a hA,aO rfl];unfold Oper.wp;rw[hr n a hA,Oper.upon_value,hd];exact hK _ _ (k _ (hA.put (by simp_all) v))
theorem bBB(hw:Want ops o e false)(hd:o.dst=some d)(hn:Nat.blt d n=true)(k:Ops P ops Q rest n ((d,undef)::e) w):Ops P ops Q (o::rest) n e w:=λa hA=>by refine wpList_step λK hK=>?_;rw[hw n a hA,aP ae,hd];exact hK _ _ (k _ (hA.put (by simp_all) undef))
def Ret(K:Value->World->Prop):Ending->World->Prop:=λen w'=>∃v,en=.returned v/\K v w'
variable {x y z:Operand} {v u:Value} {k:IntKind} {i j:Int} {t z':TypeId}
theorem bBC(ho:o.op=.move x)(hx:ev e x=some v):eW P o e w v w:=λ_ a hA=>by simp[execOp,ho,hA.eval hx]
theorem a2C(ho:o.op=.assign x)(hx:ev e x=some v):eW P o e w v w:=λ_ a hA=>by simp[execOp,ho,hA.eval hx]
theorem bGA(ho:o.op=.nilCheck x){p:Addr}(hx:ev e x=some (.pointer (some p))):eW P o e w (.pointer (some p)) w:=λ_ a hA=>by simp[execOp,ho,hA.eval hx]
theorem a2D(ho:o.op=.pick x y z)(hx:ev e x=some (.bool c))(hc:c=true)(hy:ev e y=some v):eW P o e w v w:=λ_ a hA=>by simp[execOp,ho,hA.eval hx,hA.eval hy,hc,asBool]
theorem a2E(ho:o.op=.pick x y z)(hx:ev e x=some (.bool c))(hc:c=false)(hz:ev e z=some v):eW P o e w v w:=λ_ a hA=>by simp[execOp,ho,hA.eval hx,hA.eval hz,hc,asBool]
theorem a47{b:Bool}(ho:o.op=.unOp .not t x)(hx:ev e x=some (.bool b)):eW P o e w (.bool (!b)) w:=λ_ a hA=>by simp[execOp,ho,hA.eval hx,Op.unary]
theorem bGB(ho:o.op=.unOp .neg t x)(hx:ev e x=some (.int k i)):eW P o e w (.int k (k.wrap (0-i))) w:=λ_ a hA=>by simp[execOp,ho,hA.eval hx,Op.unary,Op.intArith]
theorem bGC(ho:o.op=.binOp .add t x y z')(hx:ev e x=some (.int k i))(hy:ev e y=some (.int k j)):eW P o e w (.int k (k.wrap (i+j))) w:=λ_ a hA=>by simp[execOp,ho,hA.eval hx,hA.eval hy,eqGuard,binOp,Op.intArith]
theorem bGD(ho:o.op=.binOp .sub t x y z')(hx:ev e x=some (.int k i))(hy:ev e y=some (.int k j)):eW P o e w (.int k (k.wrap (i-j))) w:=λ_ a hA=>by simp[execOp,ho,hA.eval hx,hA.eval hy,eqGuard,binOp,Op.intArith]
theorem bGE(ho:o.op=.binOp .mul t x y z')(hx:ev e x=some (.int k i))(hy:ev e y=some (.int k j)):eW P o e w (.int k (k.wrap (i*j))) w:=λ_ a hA=>by simp[execOp,ho,hA.eval hx,hA.eval hy,eqGuard,binOp,Op.intArith]
theorem aWM(ho:o.op=.binOp .quo t x y z')(hx:ev e x=some (.int k i))(hy:ev e y=some (.int k j))(h0:j≠0):eW P o e w (.int k (k.wrap (i.tdiv j))) w:=λ_ a hA=>by simp[execOp,ho,hA.eval hx,hA.eval hy,eqGuard,binOp,Op.intDiv,h0]
theorem aWN(ho:o.op=.binOp .rem t x y z')(hx:ev e x=some (.int k i))(hy:ev e y=some (.int k j))(h0:j≠0):eW P o e w (.int k (i.tmod j)) w:=λ_ a hA=>by simp[execOp,ho,hA.eval hx,hA.eval hy,eqGuard,binOp,Op.intDiv,h0]
theorem bGF(ho:o.op=.binOp .lss t x y z')(hx:ev e x=some (.int k i))(hy:ev e y=some (.int k j)):eW P o e w (.bool (decide (i<j))) w:=λ_ a hA=>by simp[execOp,ho,hA.eval hx,hA.eval hy,eqGuard,binOp,Op.intCmp]
theorem bGG(ho:o.op=.binOp .leq t x y z')(hx:ev e x=some (.int k i))(hy:ev e y=some (.int k j)):eW P o e w (.bool (decide (i<=j))) w:=λ_ a hA=>by simp[execOp,ho,hA.eval hx,hA.eval hy,eqGuard,binOp,Op.intCmp]
theorem bGH(ho:o.op=.binOp .gtr t x y z')(hx:ev e x=some (.int k i))(hy:ev e y=some (.int k j)):eW P o e w (.bool (decide (j<i))) w:=λ_ a hA=>by simp[execOp,ho,hA.eval hx,hA.eval hy,eqGuard,binOp,Op.intCmp]
theorem bGI(ho:o.op=.binOp .geq t x y z')(hx:ev e x=some (.int k i))(hy:ev e y=some (.int k j)):eW P o e w (.bool (decide (j<=i))) w:=λ_ a hA=>by simp[execOp,ho,hA.eval hx,hA.eval hy,eqGuard,binOp,Op.intCmp]
theorem bGJ(ho:o.op=.binOp .eql t x y z')(hx:ev e x=some (.int k i))(hy:ev e y=some (.int k j)):eW P o e w (.bool (i == j)) w:=λ_ a hA=>by simp[execOp,ho,hA.eval hx,hA.eval hy,eqGuard,binOp,Op.intCmp]
theorem bGK(ho:o.op=.binOp .neq t x y z')(hx:ev e x=some (.int k i))(hy:ev e y=some (.int k j)):eW P o e w (.bool (i != j)) w:=λ_ a hA=>by simp[execOp,ho,hA.eval hx,hA.eval hy,eqGuard,binOp,Op.intCmp]
def iI(op:BinOp)(k:IntKind)(i j:Int):Int:=
 match op with
 |.and=>k.wrap ((BitVec.ofInt k.bits i &&& BitVec.ofInt k.bits j).toNat:Int)
 |.or=>k.wrap ((BitVec.ofInt k.bits i ||| BitVec.ofInt k.bits j).toNat:Int)
 |.xor=>k.wrap ((BitVec.ofInt k.bits i ^^^ BitVec.ofInt k.bits j).toNat:Int)
 |_=>k.wrap ((BitVec.ofInt k.bits i &&& ~~~ (BitVec.ofInt k.bits j)).toNat:Int)
theorem bGL(ho:o.op=.binOp .and t x y z')(hx:ev e x=some (.int k i))(hy:ev e y=some (.int k j)):eW P o e w (.int k (iI .and k i j)) w:=λ_ a hA=>by simp[execOp,ho,hA.eval hx,hA.eval hy,eqGuard,binOp,Op.intBits,iI]
theorem bJV(ho:o.op=.binOp .or t x y z')(hx:ev e x=some (.int k i))(hy:ev e y=some (.int k j)):eW P o e w (.int k (iI .or k i j)) w:=λ_ a hA=>by simp[execOp,ho,hA.eval hx,hA.eval hy,eqGuard,binOp,Op.intBits,iI]
theorem bGM(ho:o.op=.binOp .xor t x y z')(hx:ev e x=some (.int k i))(hy:ev e y=some (.int k j)):eW P o e w (.int k (iI .xor k i j)) w:=λ_ a hA=>by simp[execOp,ho,hA.eval hx,hA.eval hy,eqGuard,binOp,Op.intBits,iI]
theorem a2F(ho:o.op=.binOp .andNot t x y z')(hx:ev e x=some (.int k i))(hy:ev e y=some (.int k j)):eW P o e w (.int k (iI .andNot k i j)) w:=λ_ a hA=>by simp[execOp,ho,hA.eval hx,hA.eval hy,eqGuard,binOp,Op.intBits,iI]
def aJN(k:IntKind)(i j:Int):Int:=k.wrap (i*2 ^ min j.toNat k.bits)
def o8(k:IntKind)(i j:Int):Int:=i.fdiv (2 ^ min j.toNat k.bits)
theorem a48{yk:IntKind}(ho:o.op=.binOp .shl t x y z')(hx:ev e x=some (.int k i))(hy:ev e y=some (.int yk j))(h0:¬j<0):eW P o e w (.int k (aJN k i j)) w:=λ_ a hA=>by simp[execOp,ho,hA.eval hx,hA.eval hy,eqGuard,binOp,Op.shift,h0,aJN]
theorem bGN{yk:IntKind}(ho:o.op=.binOp .shr t x y z')(hx:ev e x=some (.int k i))(hy:ev e y=some (.int yk j))(h0:¬j<0):eW P o e w (.int k (o8 k i j)) w:=λ_ a hA=>by simp[execOp,ho,hA.eval hx,hA.eval hy,eqGuard,binOp,Op.shift,h0,o8]
theorem bBD{p q:Bool}(hu:P.underlying t=some .bool)(ho:o.op=.binOp .eql t x y z')(hx:ev e x=some (.bool p))(hy:ev e y=some (.bool q)):eW P o e w (.bool (p == q)) w:=λ_ a hA=>by have h1:binOp .eql t (.bool p) (.bool q)=(do pure (.bool (<-Op.equal t (.bool p) (.bool q)))):=rfl;simp[execOp,ho,hA.eval hx,hA.eval hy,eqGuard,h1,Op.equal,Op.maxDepth,run_equalIn_bool' _ _ _ _ _ hu]
theorem bBE{p q:Bool}(hu:P.underlying t=some .bool)(ho:o.op=.binOp .neq t x y z')(hx:ev e x=some (.bool p))(hy:ev e y=some (.bool q)):eW P o e w (.bool (!(p == q))) w:=λ_ a hA=>by have h1:binOp .neq t (.bool p) (.bool q)=(do pure (.bool (!(<-Op.equal t (.bool p) (.bool q))))):=rfl;simp[execOp,ho,hA.eval hx,hA.eval hy,eqGuard,h1,Op.equal,Op.maxDepth,run_equalIn_bool' _ _ _ _ _ hu]
abbrev sv(l:List UInt8):Value:=.string ⟨l.toArray⟩
theorem bBF{p:List UInt8}(ho:o.op=.binOp .eql t x y z')(hx:ev e x=some (sv p))(hy:ev e y=some (sv q)):eW P o e w (.bool (p == q)) w:=λ_ a hA=>by simp[execOp,ho,hA.eval hx,hA.eval hy,eqGuard,binOp,Op.stringOp]
theorem bBG{p:List UInt8}(ho:o.op=.binOp .neq t x y z')(hx:ev e x=some (sv p))(hy:ev e y=some (sv q)):eW P o e w (.bool (!(p == q))) w:=λ_ a hA=>by simp[execOp,ho,hA.eval hx,hA.eval hy,eqGuard,binOp,Op.stringOp]
theorem bGO{p:List UInt8}(ho:o.op=.binOp .add t x y z')(hx:ev e x=some (sv p))(hy:ev e y=some (sv q))(hb:p.length+q.length<=9223372036854775807):eW P o e w (sv (p++q)) w:=λ_ a hA=>by
 have h2:(⟨p.toArray⟩:ByteArray)++⟨q.toArray⟩=⟨(p++q).toArray⟩:=by apply ByteArray.ext;simp
 have h3:(⟨p.toArray⟩:ByteArray).size=p.length:=by simp[ByteArray.size]
 have h4:(⟨q.toArray⟩:ByteArray).size=q.length:=by simp[ByteArray.size]
 simp[execOp,ho,hA.eval hx,hA.eval hy,eqGuard,binOp,Op.stringOp,h3,h4,h2];omega
theorem aQK{k':IntKind}{s t:TypeId}(hs:P.underlying s=some ds)(ht:P.underlying t=some (.int k'))(ho:o.op=.convert s t x)(hx:ev e x=some (.int k i)):eW P o e w (.int k' (k'.wrap i)) w:=λ_ a hA=>by simp[execOp,ho,hA.eval hx,convert,run_underlying hs,run_underlying ht,Conv.intToInt]
theorem aWO{vs:Array Value}{ix:Nat}(ho:o.op=.extract x ix)(hx:ev e x=some (.tuple vs))(hv:vs[ix]?=some v):eW P o e w v w:=λ_ a hA=>by simp[execOp,ho,hA.eval hx,Instr.extract,hv]
theorem bGP{ad:Option Addr}{c:Nat}{el:TypeId}(hu:P.underlying t=some (.slice el))(ho:o.op=.call {callee:=.builtin .len,args:=#[x],argTypes:=#[t]})(hx:ev e x=some (.slice ad m c)):eW P o e w (.int .i64 (m:Int)) w:=λ_ a hA=>by simp[execOp,ho,resolve,invoke,builtin,Builtin.len_,hA.eval hx,run_underlying hu,goInt]
theorem bBH(hu:P.underlying t=some .string)(ho:o.op=.call {callee:=.builtin .len,args:=#[x],argTypes:=#[t]})(hx:ev e x=some (sv l)):eW P o e w (.int .i64 (l.length:Int)) w:=λ_ a hA=>by
 have h3:(⟨l.toArray⟩:ByteArray).size=l.length:=by simp[ByteArray.size]
 simp[execOp,ho,resolve,invoke,builtin,Builtin.len_,hA.eval hx,run_underlying hu,goInt,h3]
theorem bBI{fn:Fn}{fs cs:Array Operand}{vf vc:List Value}(ho:o.op=.makeFunc fn fs cs)(hf:fs.toList.map (ev e)=vf.map some)(hc:cs.toList.map (ev e)=vc.map some):eW P o e w (.func fn vf.toArray vc.toArray) w:=λ_ a hA=>by
 have key:∀(xs:Array Operand) (vs:List Value),xs.toList.map (ev e)=vs.map some->xs.map a.eval=vs.toArray:=by
  intro xs vs h;apply Array.toList_inj.1;simp
  revert vs
  generalize xs.toList=l;induction l with
  |nil=>simp
  |cons y r ih=>
   intro vs h;cases vs with
   |nil=>simp at h
   |cons v vs=>simp at h ⊢;exact⟨hA.eval h.1,ih vs h.2⟩
 simp[execOp,ho,key _ _ hf,key _ _ hc,Instr.makeFunc]
variable {c:Ctx} {L:List Chunk} {R:List Fact}
abbrev bBJ(b:Nat)(cs:List Value):Chunk:=VY b 0 cs
theorem St.cell(h:St c w L R){b:Nat}{cs:List Value}(i:Nat){j:Nat}(hi:L[i]?=some (bBJ b cs))(hj:cs[j]?=some v):w.cell? ⟨b,j,none⟩=some v:=by obtain⟨F,h1,_⟩:=h.chunk i hi;have:=h1 j v hj;grind
theorem St.cells(h:St c w L R){b:Nat}{cs cs':List Value}(i j:Nat)(hi:L[i]?=some (bBJ b cs))(hj:(cs.drop j).take cs'.length=cs'):bA w b j cs':=by intro m u hm;have hlt:=(AR.1 hm).1;refine h.cell i hi ?_;grind
theorem rH{b j:Nat}{cs:List Value}(h:bA w b j cs)(P:Program):(loadCells ⟨b,j,none⟩ cs.length).run P w=.ok cs.toArray w:=by
 refine run_loadCells_list w ⟨b,j,none⟩ cs λm u hm=>?_;have:(⟨b,j,none⟩:Addr).add m=⟨b,j+m,none⟩:=by grind[Addr.add]
 rw[this];exact h m u hm
theorem a49{p:Addr}(ho:o.op=.load t x)(hx:ev e x=some (.pointer (some p)))(ha:∀w,(isAgg t).run P w=.ok false w)(hc:w.cell? p=some v):eW P o e w v w:=λ_ a hA=>by simp[execOp,ho,Instr.loadAt,Instr.sureAddr,hA.eval hx,loadVar,ha,load,Sem.run,hc]
theorem a5A{b j:Nat}{cs:List Value}(ho:o.op=.load t x)(hx:ev e x=some (.pointer (some ⟨b,j,none⟩)))(ha:∀w,(isAgg t).run P w=.ok true w)(hz:∀w,(sizeOf t).run P w=.ok m w)(hm:cs.length=m)(hc:bA w b j cs):eW P o e w (.agg cs.toArray) w:=λ_ a hA=>by subst hm;simp[execOp,ho,Instr.loadAt,Instr.sureAddr,hA.eval hx,loadVar,ha,hz,rH hc P]
theorem St.alloc(h:St c w L R)(cs:List Value)(t:TypeId):St c (w.alloc (.cells cs.toArray t)) (L++[bBJ w.heap.size cs]) R:=by
 refine h.more (eK.alloc _ _ _) ⟨eS w.heap.size 0 cs.length,⟨λj u hj=>?_,λo' ho=>?_,λ_ _=>?_⟩,λb o' hb=>?_⟩
 ·simp_all
 ·simp
 ·simp
 ·exact UK hb.1.symm
theorem a5B{f:Field}{ix b j j':Nat}(hu:P.underlying t=some (.struct fs))(ho:o.op=.fieldAddr t x ix)(hf:fs[ix]?=some f)(hz:∀w,(sizeOf f.type).run P w=.ok (m+1) w)(hx:ev e x=some (.pointer (some ⟨b,j,none⟩)))(hj:j+f.offset=j'):eW P o e w (.pointer (some ⟨b,j',none⟩)) w:=λ_ a hA=>by
 have h1:(⟨b,j,none⟩:Addr).add f.offset=⟨b,j',none⟩:=by grind[Addr.add]
 simp[execOp,ho,Instr.fieldAt,hA.eval hx,run_underlying hu,hf,Instr.sureAddr,fieldPlace,hz,h1]
def VJ:Value->Nat
 |.slice (some a) _ _=>a.block
 |_=>0
def UL(n k:Nat):Value->Nat
 |.slice (some a) _ _=>a.off+k*n
 |_=>0
theorem lP[aN O]{S:cC}{l:List O}(h:aN.rd S w [s] l):∃ad m,s=.slice ad l.length m:=by obtain⟨ad,m,h1,_⟩:=(show qV S w [s] l from h);grind
def idx{O:Type}(l:List O)(i:Int):Option O:=if 0<=i then l[i.toNat]? else none
theorem AW{l:List O}{i:Int}{x:O}(h:idx l i=some x):0<=i/\i<l.length/\l[i.toNat]?=some x:=by grind[idx]
theorem bGQ[aN O]{S:cC}{l:List O}{el:Nat}{q:O}(h:aN.rd S w [s] l)(_hn:aN.n O=m)(hq:idx l i=some q)(hu:P.underlying t=some (.slice el))(hz:∀w,(sizeOf el).run P w=.ok m w)(ho:o.op=.indexAddr t x y)(hx:ev e x=some s)(hy:ev e y=some (.int k i)):eW P o e w (.pointer (some ⟨VJ s,UL m i.toNat s,none⟩)) w:=by
 obtain⟨h0,h1,h2⟩:=AW hq;obtain⟨ad,c,rfl⟩:=lP h;obtain⟨ad',c',e1,_,_,h4⟩:=(show qV S w [_] l from h);simp at e1;obtain⟨rfl,rfl⟩:=e1;rcases h4 with h4|⟨b,off,rfl,_⟩
 ·grind
 ·intro _ a hA;have h5:(⟨b,off,none⟩:Addr).add (i.toNat*m)=⟨b,off+i.toNat*m,none⟩:=by grind[Addr.add]
  simp[execOp,ho,Instr.indexAt,hA.eval hx,hA.eval hy,asIntOf,run_underlying hu,h0,h1,hz,h5,VJ,UL]
theorem o9{b:Nat}(P:Program):∀(vs:List Value) (w:World) (j m:Nat),(∀v∈vs,v.oneCell'=true)->(∀q,m<=q->q<m+vs.length->(w.cell? ⟨b,j+q,none⟩).isSome=true/\w.frozen? ⟨b,j+q,none⟩=false) ->
  ∃w',(storeCells ⟨b,j,none⟩ vs m).run P w=.ok () w'/\eK (eS b (j+m) vs.length) w w'/\w'.heap.size=w.heap.size/\bA w' b (j+m) vs
 |[],w,j,m,_,_=>⟨w,rfl,eK.refl _ _,rfl,λq v h=>by simp at h⟩
 |v::vs,w,j,m,h1,h2=>by
  have hadd:(⟨b,j,none⟩:Addr).add m=⟨b,j+m,none⟩:=by grind[Addr.add]
  obtain⟨hs,hf⟩:=h2 m (iZ _) ae;obtain⟨u,hu⟩:=aB3.1 hs;have hk1:eK (eS b (j+m) (v::vs).length) w (w.setCell ⟨b,j+m,none⟩ v):=eK.setCell _ _ _ _ ⟨rfl,iZ _,ae⟩ rfl;obtain⟨w',hr,hk,hsz,hc⟩:=o9 P vs (w.setCell ⟨b,j+m,none⟩ v) j (m+1) (λv h=>h1 v (lH _ h)) (λq a1 a2=>by
   obtain⟨b1,b2⟩:=h2 q aa ah;exact⟨hk1.stay _ _ b1,by simp_all⟩)
  refine⟨w',?_,hk1.trans hk λb' o _ hh=>?_,by simp_all,?_⟩
  ·simp_all[run_store,storeCells]
  ·obtain⟨c1,c2,c3⟩:=hh;exact⟨c1,aa,ah⟩
  ·intro q u' hq;cases q with
   |zero=>
    simp at hq;subst hq;have hlt:b<w.heap.size:=jM hs;rw[UJ,hk.cell b (j+m) (by simp_all) (λhh=>by obtain⟨_,c2,_⟩:=hh;omega)];grind[World.cell?_setCell_same]
   |succ q=>
    have:=hc q u' aj;grind
def aB4(cs:List Value)(j:Nat):List Value->List Value
 |[]=>cs
 |v::vs=>aB4 (cs.set j v) (j+1) vs
theorem aF4:∀(vs cs:List Value) (j:Nat),(aB4 cs j vs).length=cs.length
 |[],_,_=>rfl
 |v::vs,cs,j=>by simp[aB4,aF4 vs]
theorem aS5:∀(vs cs:List Value) (j q:Nat),j+vs.length<=cs.length->(aB4 cs j vs)[q]?=if j<=q/\q<j+vs.length then vs[q-j]? else cs[q]?
 |[],cs,j,q,_=>by simp[aB4,aP]
 |v::vs,cs,j,q,h=>by simp only[aB4];rw[aS5 vs (cs.set j v) (j+1) q aj];grind
def evs(e:Env):List Operand->Option (List Value)
 |[]=>some []
 |x::r=>match ev e x,evs e r with
  |some v,some vs=>some (v::vs)
  |_,_=>none
theorem SH{e:Env}{a:Act}{n:Nat}(hA:J3 n e a):∀{xs:List Operand} {vs:List Value},evs e xs=some vs->xs.map a.eval=vs
 |[],vs,h=>by grind[evs]
 |x::r,vs,h=>by
  simp only[evs] at h;split at h
  ·rename_i v vs' h1 h2;simp at h;subst h;simp[hA.eval h1,SH hA h2]
  ·cases h
theorem aS6{f:FuncId}{xs:List Operand}{ts:Array TypeId}{cap:List Value}(hcall:∀args w,(callFunc f args).run P w=.ok (.enter f args) w)(ho:o.op=.call {callee:=.value x,args:=xs.toArray,argTypes:=ts})(hx:ev e x=some (.func (.func f) #[] cap.toArray))(hv:evs e xs=some vs):bF9 P o e w f (vs++cap).toArray:=λ_ a hA=>by simp[execOp,ho,resolve,hA.eval hx,Deferred.ofValue,invoke,hcall,SH hA hv]
def aEH(tmps:Array Value):ResultVar->Sem Value
 |.tmp t=>pure (tmps.getD t undef)
 |.cell p t=>do loadVar t (<-asAddr (tmps.getD p undef))
def Fin(P:Program)(fn:Func)(K:Value->World->Prop)(a:Act)(w:World):Prop:=a.defers=[]/\∃v,(results fn a.tmps).run P w=.ok v w/\K v w
theorem aWP{fn:Func}{rs:List ResultVar}(hf:fn.results=rs.toArray)(tmps:Array Value):results fn tmps=(do let vs <-rs.toArray.mapM (aEH tmps);pure (if h:vs.size=1 then vs[0] else .tuple vs)):=by unfold results;rw[hf];rfl
theorem a2G{f:FuncId}{fn:Func}{cd:Code}{args:List Value}{K:Value->World->Prop}(hf:P.funcs[f]?=some fn)(hb:fn.body=some cd)(hm:fn.ntmps=m)(hl:Nat.ble args.length m=true)
  (h:∀a,J3 m (aS1 0 args) a->CW P cd (Fin P fn K) (λ_ _ _=>False) (Fin P fn K) a w):Calls P f args.toArray w (Ret K):=by
 refine calls_of_wp hf hb ?_;subst hm;refine wp_mono (h _ (bJS args fn.ntmps (QU hl))) λex a w q=>?_;cases ex with
 |ret=>obtain⟨h1,v,h2,h3⟩:=q;exact⟨h1,v,h2,v,rfl,h3⟩
 |normal=>obtain⟨h1,v,h2,h3⟩:=q;exact⟨h1,v,h2,v,rfl,h3⟩
 |_=>exact q.elim
end
def need(p:Prop)[Decidable p]{O:Type}(k:Option O):Option O:=if p then k else none
theorem lZ[Decidable p]{k:Option O}{q:O}(h:need p k=some q):p/\k=some q:=by grind[need]
theorem bBK{ops:Array Oper}{o:Oper}{s:Nat}{t:Bool}(hg:o.guard=some (j,t))(hj:(ops[j]?).bind (·.dst)=some s)(hv:lk e s=some undef):Want ops o e false:=λ_ a hA=>by
 have:yielded ops a.tmps j=none:=by have h1:=hA.get s _ hv;grind[yielded,undef]
 grind[Region.wanted]
def u8(z:Int):UInt8:=UInt8.ofNat (z % 256).toNat
theorem bGR(z:Int):((u8 z).toNat:Int)=IntKind.u8.wrap z:=by unfold u8;simp[IntKind.wrap,IntKind.bits,IntKind.signed];omega
section
variable {P:Program} {o:Oper} {e:Env} {w w':World} {c:Ctx} {L:List Chunk} {R:List Fact} {x:Operand} {v:Value} {k:IntKind} {i:Int} {t:TypeId}
theorem a5C{s:TypeId}(hs:P.underlying s=some ds)(ht:P.underlying t=some (.int .u8))(ho:o.op=.convert s t x)(hx:ev e x=some (.int k i)):eW P o e w (.int .u8 ((u8 i).toNat:Int)) w:=by grind[bGR,aQK]
theorem a5D{s:TypeId}{b:UInt8}(hs:P.underlying s=some ds)(ht:P.underlying t=some (.int .i64))(ho:o.op=.convert s t x)(hx:ev e x=some (.int .u8 (b.toNat:Int))):eW P o e w (.int .i64 (b.toNat:Int)) w:=by have h:=aQK (w:=w) hs ht ho hx;have hb:=b.toNat_lt;grind[IntKind.wrap,IntKind.bits]
theorem bBL{fn:Fn}{fs cs:Array Value}(ho:o.op=.nilCheck x)(hm:∀n,fn≠.method n)(hx:ev e x=some (.func fn fs cs)):eW P o e w (.func fn fs cs) w:=λ_ a hA=>by cases fn<;>simp_all[execOp,hA.eval hx]
theorem bA.sub{b:Nat}{cs cs':List Value}(h:bA w b j cs)(k:Nat)(hj:(cs.drop k).take cs'.length=cs')(hm:j+k=m):bA w b m cs':=by subst hm;intro q u hq;have hlt:=(AR.1 hq).1;rw[<-hj] at hq;rw[aBZ,aO aa,aFX] at hq;have:=h (k+q) u hq;grind
theorem kK[aN O]{S:cC}{cs:List Value}{d:List O}(h:aN.rd S w cs d):∃v,cs=[v]:=by obtain⟨a,c,h,_⟩:=(show qV S w cs d from h);grind
theorem bGS[aN O]{S:cC}:aN.rd S w [.slice none 0 0] ([]:List O):=⟨none,0,rfl,iZ _,jD _,.inl rfl⟩
theorem bFF{f:Fact}(h:f.P (YO w) w)(hk:eK F0 w w'):f.P (YO w') w':=f.mono (f.agree h λb o hb=>hk.cell b o hb λh=>h) λ_ _ hb=>HB hb hk.size
def pick(L:List Chunk):List Nat->List Chunk
 |[]=>[]
 |i::r=>(L[i]?).getD J1::pick L r
def dE:List Nat->Bool
 |[]=>true
 |i::r=>(r.all λj=>!Nat.beq i j) && dE r
theorem aJP{L:List Chunk}{i:Nat}:∀{is:List Nat},(is.all λj=>!Nat.beq i j)=true->pick (L.set i J1) is=pick L is
 |[],_=>rfl
 |j::r,h=>by
  simp only[V2,uG,aWL] at h;have hne:i≠j:=λe=>by simp_all
  simp only[pick,aJP h.2,List.getElem?_set_ne hne]
theorem Sep.pick{w:World}:∀{is:List Nat} {L:List Chunk} {F:cC},dE is=true->Sep w L F->∃F1 F2,Sep w (pick L is) F1/\F1.EC F2/\∀b o,F b o↔F1 b o\/F2 b o
 |[],L,F,_,_=>⟨F0,F,λ_ _ h=>h,λ_ _ h _=>h,λb o=>by simp[F0]⟩
 |i::r,L,F,ha,h=>by
  simp only[dE,uG] at ha;have h':Sep w ((L[i]?).getD J1::L.set i J1) F:=by
   cases hi:L[i]? with
   |some ch=>grind[Sep.take]
   |none=>
    rw[List.set_eq_of_length_le (List.getElem?_eq_none_iff.1 hi)];exact⟨F0,F,λ_ _ h=>h,h,λ_ _ h _=>h,λb o=>by simp[F0]⟩
  obtain⟨F1,F2,h1,h2,hd,hF⟩:=h';obtain⟨G1,G2,g1,gd,hG⟩:=Sep.pick ha.2 h2;rw[aJP ha.1] at g1;exact⟨λb o=>F1 b o\/G1 b o,G2,⟨F1,G1,h1,g1,λb o h g=>hd b o h ((hG b o).2 (.inl g)),λ_ _=>Iff.rfl⟩,
   λb o h g=>h.elim (λh=>hd b o h ((hG b o).2 (.inr g))) (λh=>gd b o h g),λb o=>aj⟩
theorem St.sel(h:St c w L R)(is:List Nat)(ha:dE is=true):St c w (pick L is) R:=by obtain⟨F,S,a1,a2,a3,a4,a5,a6⟩:=h.sep;obtain⟨F1,F2,h1,hd,hF⟩:=Sep.pick ha a1;exact⟨h.keep,⟨F1,S,h1,λb o hf=>a2 b o ((hF b o).2 (.inl hf)),λb o hf=>a3 b o ((hF b o).2 (.inl hf)),a4,a5,a6⟩,h.apart⟩
theorem a5E{places:Array (Nat×Nat)}{ps:List (Nat×Operand)}{cells:Array Value}(ho:o.op=.build t ps.toArray)(hz:∀w,(zeroValue t).run P w=.ok z w)(hu:P.underlying t=some (.struct fs))
  (hp:∀w,(fs.mapM λf=>(do pure (f.offset,<-sizeOf f.type):Sem (Nat×Nat))).run P w=.ok places w) (hv:evs e (ps.map (·.2))=some vs) (hc:Instr.fill (places[·]?) z.cells ((ps.map (·.1)).zip vs)=some cells):eW P o e w (.agg cells) w:=λ_ a hA=>by
 have h1:ps.map (λp=>(p.1,a.eval p.2))=(ps.map (·.1)).zip vs:=by rw[<-SH hA hv];grind
 simp[execOp,ho,Instr.build,hz,run_underlying hu];simp_all
end
theorem SI(d:Nat)(xs ys:Array Value):(Op.eqFields d xs ys []).run P w=.ok true w:=by simp[Op.eqFields]
theorem gC(d:Nat)(xs ys:Array Value)(f:Field)(fs:List Field){p q:Value}{b b':Bool}(hn:(f.name == "_")=false)(hx:(part f.type xs f.offset).run P w=.ok p w)(hy:(part f.type ys f.offset).run P w=.ok q w)(he:(Op.equalIn d f.type p q).run P w=.ok b w)(hr:(Op.eqFields d xs ys fs).run P w=.ok b' w) :
  (Op.eqFields d xs ys (f::fs)).run P w=.ok (b && b') w:=by simp only[beq_eq_false_iff_ne,ne_eq] at hn;cases b<;>simp[Op.eqFields,hn,hx,hy,he,hr]
theorem gI{cs:Array Value}{v:Value}(ha:∀w,(isAgg t).run P w=.ok false w)(hv:cs[j]?=some v):(part t cs j).run P w=.ok v w:=by simp_all[part]
theorem bGT{o:Oper}{y:Operand}{z':TypeId}{xs ys:Array Value}{b:Bool}(hg:P.eqGuardType P.depth t=false)(hst:P.stoodInHeld t=false)(hu:P.underlying t=some (.struct fs))(hb:∀w,(Op.eqFields 9999 xs ys (match P.underlying t with|some (.struct fs)=>fs|_=>#[]).toList).run P w=.ok b w)(ho:o.op=.binOp .eql t x y z')(hx:ev e x=some (.agg xs))(hy:ev e y=some (.agg ys)):eW P o e w (.bool b) w:=λ_ a hA=>by
 have hf:P.fieldsOf t=fs:=by grind[Program.fieldsOf]
 rw[hu] at hb;have h1:binOp .eql t (.agg xs) (.agg ys)=(do pure (.bool (<-Op.equal t (.agg xs) (.agg ys)))):=rfl;simp[execOp,ho,hA.eval hx,hA.eval hy,run_eqGuard_agg _ _ _ _ _ _ _ hg,h1,Op.equal,Op.maxDepth,run_equalIn_struct _ _ _ _ _ aj hst,hf,hb]
theorem bBM{o:Oper}{y:Operand}{z':TypeId}{xs ys:Array Value}{b:Bool}(hg:P.eqGuardType P.depth t=false)(hst:P.stoodInHeld t=false)(hu:P.underlying t=some (.struct fs))(hb:∀w,(Op.eqFields 9999 xs ys (match P.underlying t with|some (.struct fs)=>fs|_=>#[]).toList).run P w=.ok b w)(ho:o.op=.binOp .neq t x y z')(hx:ev e x=some (.agg xs))(hy:ev e y=some (.agg ys)):eW P o e w (.bool (!b)) w:=λ_ a hA=>by
 have hf:P.fieldsOf t=fs:=by grind[Program.fieldsOf]
 rw[hu] at hb;have h1:binOp .neq t (.agg xs) (.agg ys)=(do pure (.bool (!(<-Op.equal t (.agg xs) (.agg ys))))):=rfl;simp[execOp,ho,hA.eval hx,hA.eval hy,run_eqGuard_agg _ _ _ _ _ _ _ hg,h1,Op.equal,Op.maxDepth,run_equalIn_struct _ _ _ _ _ aj hst,hf,hb]
theorem oH{k':IntKind}{k:IntKind}{a b:Int}(h:P.underlying t=some (.int k')):(Op.equalIn (d+1) t (.int k a) (.int k b)).run P w=.ok (a == b) w:=run_equalIn_int w d t k k' a b h
theorem aB5{a b:Bool}(h:P.underlying t=some .bool):(Op.equalIn (d+1) t (.bool a) (.bool b)).run P w=.ok (a == b) w:=run_equalIn_bool' w d t a b h
def bBN(P:Program)(ops:Array Oper)(Q:Exit->Act->World->Prop)(S:World->Prop)(fuel:Nat)(oR:Array Bool)(n:Nat)(e:Env)(w:World):Prop:=∀a,J3 n e a->wpAnyH P .any ops Q S fuel oR a w
abbrev a5F(c:Ctx)(L:List Chunk)(R:List Fact):World->Prop:=λw=>∃L',St c w (L++L') R
section
variable {P:Program} {ops:Array Oper} {N:Act->World->Prop} {X:Nat->Act->World->Prop} {T:Act->World->Prop} {S:World->Prop} {fuel n d i:Nat} {oR:Array Bool} {e:Env} {w w':World} {o:Oper} {v:Value}
theorem bJW(i:Nat)(hs:Region.noSelect ops=true)(hi:ops[i]?=some o)(hf:Region.free .any ops oR i=true)(hr:(Region.ready .any ops oR).contains i=true)(hS:S w)(hv:∀w',S w'->eW P o e w' v w')(hw:Want ops o e true)(hd:o.dst=some d)(hn:Nat.blt d n=true)
  (k:bBN P ops (mkQ N X T) S fuel (oR.setIfInBounds i true) n ((d,v)::e) w):bBN P ops (mkQ N X T) S (fuel+1) oR n e w:=λa hA=>by
 refine wpAnyH_take (v:=v) hi hs hf hr (λ_ _ _ h=>h.elim) (.inl ⟨hw n a hA,λw' hS'=>hv w' hS' n a hA⟩) hS ?_;rw[hd];exact k _ (hA.put (by simp_all) v)
end
class Flat (O:Type) [aN O]:Prop where
 own_of:∀{S:cC} {w w':World} {cs:List Value} {d:O},aN.rd S w cs d->aN.own w' cs d F0
 no:∀{w:World} {cs:List Value} {d:O} {F:cC},aN.own w cs d F->∀b o,¬F b o
instance:Flat Int:=⟨λh=>⟨h,λ_ _ h=>h⟩,λh=>h.2⟩
instance:Flat Bool:=⟨λh=>⟨h,λ_ _ h=>h⟩,λh=>h.2⟩
instance:Flat UInt8:=⟨λh=>⟨h,λ_ _ h=>h⟩,λh=>h.2⟩
instance:Flat bF5:=⟨λh=>⟨h,λ_ _ h=>h⟩,λh=>h.2⟩
instance {O β:Type} [aN O] [aN β] [Flat O] [Flat β]:Flat (O×β):=⟨by
 rintro S w w' cs d ⟨c1,c2,rfl,h1,h2⟩;exact⟨c1,c2,F0,F0,rfl,Flat.own_of h1,Flat.own_of h2,λ_ _ h _=>h,λ_ _=>by simp[F0]⟩,by
 rintro w cs d F ⟨c1,c2,F1,F2,_,h1,h2,_,hF⟩ b o h;exact((hF b o).1 h).elim (Flat.no h1 b o) (Flat.no h2 b o)⟩
theorem a5G[aN O][Flat O]{cs:List Value}{d:O}(h:aN.own w cs d F):aN.own w' cs d F0:=Flat.own_of (aN.own_rd h)
def J4(cc:List Value)(n i:Nat):List Value:=(cc.drop (i*n)).take n
theorem sS(hj:j<n):(J4 cc n i)[j]?=cc[i*n+j]?:=by simp_all[J4]
theorem aJQ{len:Nat}(hc:cc.length=len*n)(hi:i<len):(J4 cc n i).length=n:=by unfold J4;rw[ZR,UH,hc];have:(i+1)*n<=len*n:=uK n aa;grind
theorem aJR{w:World}{b off:Nat}:∀(k:Nat),(∀j,j<k->(w.cell? ⟨b,off+j,none⟩).isSome=true)->∃cc:List Value,cc.length=k/\bA w b off cc
 |0,_=>⟨[],rfl,λj v h=>by simp at h⟩
 |k + 1,h=>by
  obtain⟨cc,h1,h2⟩:=aJR k λj hj=>h j aa;obtain⟨v,hv⟩:=aB3.1 (h k aa);refine⟨cc++[v],by simp[h1],λj u hj=>?_⟩;rw[aFW] at hj;split at hj
  ·exact h2 j u hj
  grind
theorem a5H{b off:Nat}{ec:List Value}(h:bA w b off cc)(h2:bA w b (off+i*n) ec)(he:ec.length=n)(hc:(i+1)*n<=cc.length):J4 cc n i=ec:=by
 rw[oE] at hc;apply ZQ;intro j;by_cases hj:j<n
 ·rw[sS hj];have h3:=h (i*n+j) cc[i*n+j] (jC aa);have h4:=h2 j ec[j] (jC aa);grind
 grind[J4]
theorem MI[aN O]{S:cC}{l:List O}(h:aN.rd S w [s] l):∃ad c cc,s=.slice ad l.length c/\cc.length=l.length*aN.n O/\(l=[]\/∃b off,ad=some ⟨b,off,none⟩/\bA w b off cc)/\∀i x,l[i]?=some x->aN.rd S w (J4 cc (aN.n O) i) x:=by
 obtain⟨ad,c,h1,h2,h3,h4⟩:=(show qV S w [s] l from h);simp at h1;subst h1;rcases h4 with h4|⟨b,off,rfl,h4⟩
 ·simp_all
 ·have hs:∀j,j<l.length*aN.n O->(w.cell? ⟨b,off+j,none⟩).isSome=true:=λj hj=>by
   have hn:0<aN.n O:=aj
   have hi:j/aN.n O<l.length:=(Nat.div_lt_iff_lt_mul hn).2 hj;obtain⟨ec,e1,_,e2⟩:=h4 _ hi;have hm:=Nat.mod_lt j hn;have hl:=aN.lP e2;have:=e1 (j % aN.n O) ec[j % aN.n O] (jC aa);grind[Nat.div_add_mod]
  obtain⟨cc,c1,c2⟩:=aJR _ hs;grind[a5H,aN.lP,uK]
section
variable {P:Program} {o:Oper} {e:Env} {w w':World} {c:Ctx} {L:List Chunk} {R:List Fact} {x y:Operand} {t el:TypeId}
theorem aIF[aN O]{S:cC}{l:List O}(hc:cc.length=l.length*aN.n O)(h:∀i x,l[i]?=some x->aN.rd S w (J4 cc (aN.n O) i) x):∀v∈cc,v.oneCell'=true:=by
 intro v hv;obtain⟨j,hj,rfl⟩:=V4 hv;have hn:0<aN.n O:=aj
 have hi:j/aN.n O<l.length:=(Nat.div_lt_iff_lt_mul hn).2 aa;have hm:=Nat.mod_lt j hn;refine aN.rd_one (h _ _ (jC hi)) _ (D9 (i:=j % aN.n O) ?_);grind[sS,Nat.div_add_mod]
theorem aZA[aN O][Flat O]{S:cC}{w w0:World}{b off cap:Nat}{l:List O}(hc:bA w b off cc)(hcl:cc.length=l.length*aN.n O)(hr:∀i x,l[i]?=some x->aN.rd S w0 (J4 cc (aN.n O) i) x)(hlen:l.length<=cap)(hmax:cap<=maxLen)
  (hrow:∀o,eS b off (cap*aN.n O) b o->(w.cell? ⟨b,o,none⟩).isSome=true/\w.frozen? ⟨b,o,none⟩=false):aN.own w [.slice (some ⟨b,off,none⟩) l.length cap] l (eS b off (cap*aN.n O)):=by refine⟨_,cap,rfl,hlen,hmax,.inr ⟨b,off,λ_=>F0,rfl,hrow,λi hi=>⟨J4 cc (aN.n O) i,?_,Flat.own_of (hr i l[i] (jC hi))⟩,λ_ _ _ _ _ _ _ h _=>h,λ_ _ _ _ h _=>h,λb' o=>by simp[F0]⟩⟩;intro j v hj;have hlt:=(AR.1 hj).1;rw[aJQ hcl hi] at hlt;rw[sS hlt] at hj;have:=hc _ v hj;grind
theorem aZB[aN O][Flat O]{S:cC}(w0:World)(hS:St c w L R)(cells:List Value)(rest:List Value)(l:List O)(cap:Nat)(ty:TypeId)(hc:cells.length=l.length*aN.n O)(hr:∀i x,l[i]?=some x->aN.rd S w0 (J4 cells (aN.n O) i) x)(hcap:(cells++rest).length=cap*aN.n O)(hlen:l.length<=cap)(hmax:cap<=maxLen) :
  St c (w.alloc (.cells (cells++rest).toArray ty)) (L++[eU [.slice (some ⟨w.heap.size,0,none⟩) l.length cap] l]) R:=by
 have hcell:∀j,(w.alloc (.cells (cells++rest).toArray ty)).cell? ⟨w.heap.size,j,none⟩=(cells++rest)[j]?:=λj=>ae
 refine hS.more (eK.alloc _ _ _) ⟨_,aZA (w0:=w0) (cc:=cells) (λj v hj=>?_) hc hr hlen hmax (λo' ho=>?_),λb o' hb=>UK hb.1.symm⟩
 ·grind
 ·obtain⟨_,_,h3⟩:=ho;simp_all
def SJ(P:Program)(el:TypeId)(m:Nat)(z:Value):Prop:=∃ti,P.info? el=some ti/\ti.zero=some z/\ti.size=m/\ti.bytes<=65536
theorem wB{el b:Nat}(h:(P.info? el).map (λi=>(i.zero,i.size,i.bytes))=some (some z,m,b))(hb:Nat.ble b 65536=true):SJ P el m z:=by
 cases hi:P.info? el with
 |none=>grind
 |some ti=>
  rw[hi] at h;simp at h;exact⟨ti,hi,h.1,h.2.1,by simp_all⟩
theorem a5I(hz:z.cells.size=m)(hi:i<k):J4 (madeCells z.cells (k*m)).toList m i=z.cells.toList:=by
 apply ZQ;intro j;by_cases hj:j<m
 ·rw[sS hj];have h1:i*m+j<k*m:=by have:(i+1)*m<=k*m:=uK m aa;grind
  simp_all[Nat.mod_eq_of_lt,madeCells]
 grind[J4]
theorem HN[aN O]{ad:Option Addr}(hc:cc.length=n*m)(h:n=0\/∃b off,ad=some ⟨b,off,none⟩/\bA w b off cc):(Builtin.firstCells m n (.slice ad n k)).run P w=.ok cc.toArray w:=by
 rcases h with h|⟨b,off,rfl,h⟩
 ·subst h;have:cc=[]:=uJ aa;subst this;cases ad<;>simp[Builtin.firstCells,loadCells,loadCellsFrom]
 grind[rH,Builtin.firstCells]
theorem a2H[aN O][Flat O]{s2:Value}{l xs:List O}(i:Nat)(hS:St c w L R)(hi:L[i]?=some (eU [s] l))(hsrc:aN.rd (YO w) w [s2] xs)(hn:aN.n O=m)(hu:P.underlying t=some (.slice el))(hinf:SJ P el m z)(hzs:z.cells.size=m)
  (hb:l.length+xs.length<=1073741824) (ho:o.op=.call {callee:=.builtin .append,args:=#[x,y],argTypes:=#[t,t]}) (hx:ev e x=some s) (hy:ev e y=some s2) :
  ∃v w',eW P o e w v w'/\St c w' (L.set i (eU [v] (l++xs))) R:=by
 subst hn;obtain⟨ti,hti,hz,hsz,hby⟩:=hinf;obtain⟨ad2,c2,cc2,rfl,hl2,hc2,hr2⟩:=MI hsrc;obtain⟨F,hF⟩:=hS.chunk i hi;have hF:aN.own w [s] l F:=hF;obtain⟨ad,cap,cc,rfl,hl1,hc1,hr1⟩:=MI (aN.own_rd hF);obtain⟨ad',cap',he,hlc,hcm,hrest⟩:=(show AV w [_] l F from hF);simp at he;obtain⟨rfl,rfl⟩:=he;have hone2:=aIF hl2 hr2;have hsegs:∀j q,(l++xs)[j]?=some q->aN.rd (λb o=>True) w (J4 (cc++cc2) (aN.n O) j) q:=by
  intro j q hj;rw[aFW] at hj;split at hj
  ·rename_i hlt;have:J4 (cc++cc2) (aN.n O) j=J4 cc (aN.n O) j:=by
    have hle:(j+1)*aN.n O<=l.length*aN.n O:=uK _ aa;rw[oE] at hle;apply ZQ;intro p;by_cases hp:p<aN.n O
    ·rw[sS hp,sS hp,List.getElem?_append_left aa]
    ·rw[List.getElem?_eq_none (by unfold J4;simp;omega),List.getElem?_eq_none (by unfold J4;simp;omega)]
   rw[this];exact aN.rd_mono (hr1 j q hj) λ_ _ _=>trivial
  ·rename_i hge;have:J4 (cc++cc2) (aN.n O) j=J4 cc2 (aN.n O) (j-l.length):=by
    apply ZQ;intro p;by_cases hp:p<aN.n O
    ·have hj2:j*aN.n O=l.length*aN.n O+(j-l.length)*aN.n O:=by rw[<-oE];grind
     rw[sS hp,sS hp,aOY aa];congr 1;omega
    grind[J4]
   rw[this];exact aN.rd_mono (hr2 _ q hj) λ_ _ _=>trivial
 have hlen:(cc++cc2).length=(l++xs).length*aN.n O:=aj
 have hsrc':xs.length=0\/∃b off,ad2=some ⟨b,off,none⟩/\bA w b off cc2:=hc2.imp (λh=>by simp[h]) id;have hf2:=HN (P:=P) (O:=O) (k:=c2) hl2 hsrc';have hexec:∀(v:Value) (w':World),(Builtin.append_ #[t,t] o.type #[.slice ad l.length cap,.slice ad2 xs.length c2]).run P w=.ok v w'->eW P o e w v w':=by intro v w' h _ a hA;simp[execOp,ho,resolve,invoke,builtin,hA.eval hx,hA.eval hy,h]
 by_cases hroom:l.length+xs.length<=cap
 ·
  rcases hrest with ⟨rfl,rfl,_⟩|⟨b,off,Fs,rfl,hrow,hel,hd1,hd2,hFF⟩
  ·have hl0:l=[]:=uJ aa;have hx0:xs=[]:=uJ aa;subst hl0;subst hx0;refine⟨.slice none 0 0,w,hexec _ _ ?_,?_⟩
   ·have hf2:(Builtin.firstCells (aN.n O) 0 (.slice ad2 0 c2)).run P w=.ok cc2.toArray w:=hf2;simp[Builtin.append_,run_underlying hu,sizeOf,typeInfo,hti,Builtin.lenOf,hsz,hf2]
   ·rw[uH];refine hS.aEG i hi λF hF=>⟨F,F0,eK.refl _ _,λ_ _ h=>h.elim,hF,λ_ _ h=>.inl h⟩
  ·have hcc:bA w b off cc:=by
    rcases hc1 with h|⟨b',off',h,hc⟩
    ·subst h;have:cc=[]:=uJ aj;subst this;intro j v hj;simp at hj
    grind
   have hmul:(l.length+xs.length)*aN.n O<=cap*aN.n O:=uK _ hroom;rw[oE] at hmul;obtain⟨w',hst,hk,hws,hcell⟩:=o9 (b:=b) P cc2 w (off+l.length*aN.n O) 0 hone2 (λq _ hq=>hrow _ ⟨rfl,aa,aa⟩);refine⟨_,w',hexec _ _ (by
    have hadd:(⟨b,off,none⟩:Addr).add (l.length*aN.n O)=⟨b,off+l.length*aN.n O,none⟩:=by simp[Addr.add]
    simp[Builtin.append_,run_underlying hu,sizeOf,typeInfo,hti,Builtin.lenOf,hsz,hf2,hroom,hadd,hst];rfl),?_⟩
   refine hS.aEG i hi λF2 hF2=>?_;have hF2:AV w [_] l F2:=hF2;obtain⟨_,_,he2,_,_,hr⟩:=hF2;simp at he2;obtain⟨rfl,rfl⟩:=he2;rcases hr with ⟨h,_,_⟩|⟨b',off',Fs',h,_,_,_,_,hFF2⟩
   ·cases h
   simp at h;obtain⟨rfl,rfl⟩:=h;refine⟨eS b off (cap*aN.n O),_,hk,λb' o' h=>(hFF2 b' o').2 (.inl ?_),?_,λb' o' h=>.inl ((hFF2 b' o').2 (.inl h))⟩
   ·obtain⟨e1,e2,e3⟩:=h;exact⟨e1,aa,aa⟩
   ·have hcc':bA w' b off (cc++cc2):=by
     intro j v hj;rw[aFW] at hj;split at hj
     ·rename_i hlt;have hc:=hcc j v hj;rw[hk.cell b (off+j) (World.block_lt_of_cell? w _ hc) (λhh=>by obtain⟨_,e2,_⟩:=hh;omega)];exact hc
     ·rename_i hge;have:=hcell _ v hj;rw[show off+l.length*aN.n O+0+(j-cc.length)=off+j from by omega] at this;exact this
    have hll:l.length+xs.length=(l++xs).length:=ae
    rw[hll];exact aZA hcc' hlen hsegs ah hcm (λo' ho'=>⟨hk.stay b o' (hrow o' ho').1,(hk.wY b o' (jM (hrow o' ho').1)).trans (hrow o' ho').2⟩)
 ·
  have hbytes:(l.length+xs.length)*ti.bytes<=140737488355328:=by have:(l.length+xs.length)*ti.bytes<=1073741824*65536:=aB1 hb hby;omega
  have hfit:=growslice_fits (need:=l.length+xs.length) (old:=cap) (bytes:=ti.bytes) aa hbytes;obtain⟨hge,hle⟩:l.length+xs.length<=grownCap w (l.length+xs.length) cap el/\grownCap w (l.length+xs.length) cap el<=maxLen:=⟨grownCap_ge _ _ _ _,grownCap_le_maxLen _ _ _ _ (by grind[maxLen])⟩;have hrun:(Builtin.append_ #[t,t] o.type #[.slice ad l.length cap,.slice ad2 xs.length c2]).run P w=.ok (.slice (some ⟨w.heap.size,0,none⟩) (l.length+xs.length) (grownCap w (l.length+xs.length) cap el)) (w.drew.alloc (.cells (cc.toArray++cc2.toArray++Builtin.zeroCells z.cells (grownCap w (l.length+xs.length) cap el-(l.length+xs.length))) el)):=by
   have hn1:¬(l.length+xs.length<=cap):=hroom;have h63':¬(9223372036854775807<((l.length:Int)+(xs.length:Int))):=aa
   have h48':¬(281474976710656<Builtin.nextslicecap (l.length+xs.length) cap*ti.bytes):=aa
   have hf1:(Builtin.firstCells (aN.n O) l.length (.slice ad l.length cap)).run P w.drew=.ok cc.toArray w.drew:=HN (O:=O) hl1 (hc1.imp (λh=>by simp[h]) id);have hf2:(Builtin.firstCells (aN.n O) xs.length (.slice ad2 xs.length c2)).run P w.drew=.ok cc2.toArray w.drew:=HN (O:=O) hl2 hsrc';simp[Builtin.append_,run_underlying hu,sizeOf,typeInfo,zeroValue,hti,hz,hsz,Builtin.lenOf,hn1,h63',h48',Question.forced,hf1,hf2,newRow,grownCap];grind
  refine⟨_,_,hexec _ _ hrun,?_⟩;refine hS.aEG i hi λF2 hF2=>?_;have hz2:(Builtin.zeroCells z.cells (grownCap w (l.length+xs.length) cap el-(l.length+xs.length))).size=(grownCap w (l.length+xs.length) cap el-(l.length+xs.length))*aN.n O:=by grind[size_zeroCells]
  have htot:((cc++cc2)++(Builtin.zeroCells z.cells (grownCap w (l.length+xs.length) cap el-(l.length+xs.length))).toList).length=grownCap w (l.length+xs.length) cap el*aN.n O:=by
   have hz3:(Builtin.zeroCells z.cells (grownCap w (l.length+xs.length) cap el-(l.length+xs.length))).toList.length=(grownCap w (l.length+xs.length) cap el-(l.length+xs.length))*aN.n O:=aa
   rw[D8,hlen,hz3,D8,<-oE];grind
  have hst0:St (dZ w) w [] []:=St.enter ae;have hnew:=aZB (S:=λb o=>True) w (hst0.same (eK.drew F0 w)) (cc++cc2) (Builtin.zeroCells z.cells (grownCap w (l.length+xs.length) cap el-(l.length+xs.length))).toList (l++xs) (grownCap w (l.length+xs.length) cap el) el hlen hsegs htot ah hle;obtain⟨Fn,hFn⟩:=hnew.chunk 0 rfl;obtain⟨Ft,St',⟨Fa,Fb,ha,_,_,hFab⟩,_,hFt,_⟩:=hnew.sep;have heq:((cc++cc2)++(Builtin.zeroCells z.cells (grownCap w (l.length+xs.length) cap el-(l.length+xs.length))).toList).toArray=cc.toArray++cc2.toArray++Builtin.zeroCells z.cells (grownCap w (l.length+xs.length) cap el-(l.length+xs.length)):=ae
  rw[heq] at ha;have hll:l.length+xs.length=(l++xs).length:=ae
  refine⟨Fa,F0,(eK.drew F0 w).trans (eK.alloc F0 _ _) (λ_ _ _ h=>h),λ_ _ h=>h.elim,?_,λb' o' h=>.inr ?_⟩
  ·have ha:aN.own _ _ (l++xs) Fa:=ha;have hsz2:w.drew.heap.size=w.heap.size:=rfl;grind
  ·rcases hFt b' o' ((hFab b' o').2 (.inl h)) with h|h
   ·exact h.elim
   ·exact h
def aO1{O:Type}[aN O](m:Nat):List Value->List O->Prop
 |cs,[]=>cs=[]
 |cs,x::r=>aN.rd F0 default (cs.take m) x/\aO1 m (cs.drop m) r
theorem aO1.get{O:Type}[aN O]{m:Nat}(hn:aN.n O=m):∀{l:List O} {cs:List Value},aO1 m cs l->cs.length=l.length*m/\∀i x,l[i]?=some x->aN.rd F0 default (J4 cs m i) x
 |[],cs,h=>by have h:cs=[]:=h;grind
 |y::r,cs,⟨h1,h2⟩=>by
  obtain⟨h3,h4⟩:=aO1.get hn h2;have h5:=aN.lP h1;rw[ZR,hn] at h5;rw[UH] at h3;refine⟨by simp[oE];omega,λi x hx=>?_⟩;cases i with
  |zero=>grind[J4]
  |succ i=>
   grind[J4,List.drop_drop]
theorem a5J[aN O][Flat O]{len:Nat}{ps:List (Nat×Operand)}{cells:List Value}(l:List O)(hS:St c w L R)(hn:aN.n O=m)(hu:P.underlying t=some (.slice el))(hinf:SJ P el m z)(hl:l.length=len)(hm:Nat.ble 1 m=true)(hsmall:Nat.ble (len*m) 16777216=true)(hrd:aO1 m cells l)
  (ho:o.op=.buildSlice t len ps.toArray) (hv:evs e (ps.map (·.2))=some vs) (hc:Instr.fill (λi=>some (i*m,m)) ((Array.range (len*m)).map (λi=>(if len*m=0 then #[] else z.cells)[i % (if len*m=0 then #[] else z.cells).size]!)) ((ps.map (·.1)).zip vs)=some cells.toArray) :
  ∃v w',eW P o e w v w'/\St c w' (L++[eU [v] l]) R:=by
 subst hl;obtain⟨ti,hi,hz,hsz,hby⟩:=hinf;obtain⟨h1,h2⟩:=hrd.get hn;have hsm:¬l.length*m > 2 ^ 24:=by simp_all
 have hlm:l.length<=16777216:=by have:=Nat.le_mul_of_pos_right l.length (QU hm);omega
 have hlmax:l.length<=maxLen:=by grind[maxLen]
 have hnew:=aZB (S:=F0) default hS cells [] l l.length el aj aj aj (iZ _) hlmax;rw[uH] at hnew;refine⟨_,_,λ_ a hA=>?_,hnew⟩;have hps:ps.map (λp=>(p.1,a.eval p.2))=(ps.map (·.1)).zip vs:=by rw[<-SH hA hv];grind
 by_cases h0:l.length*m=0
 ·simp only[h0,bT] at hc;simp[execOp,ho,Instr.buildSlice,run_underlying hu,sizeOf,typeInfo,hi,hsz,h0,hps];simp_all[newRow]
 ·simp only[h0,bR] at hc;simp[execOp,ho,Instr.buildSlice,run_underlying hu,sizeOf,typeInfo,zeroValue,hi,hz,hsz,h0,hsm,hps];simp_all[newRow]
end
def cM{O:Type}[aN O](w:World):List Value->List O->cC->Prop
 |cs,[],F=>cs=[]/\∀b o,¬F b o
 |cs,x::r,F=>∃c1 c2 F1 F2,cs=c1++c2/\aN.own w c1 x F1/\cM w c2 r F2/\cC.EC F1 F2/\∀b o,F b o↔F1 b o\/F2 b o
theorem cM.congr[aN O]{cs:List Value}{l:List O}{G:cC}(h:cM w cs l F)(hFG:∀b o,F b o↔G b o):cM w cs l G:=by
 have:F=G:=aj
 grind
theorem cM.length{O:Type}[aN O]{w:World}:∀{l:List O} {cs:List Value} {F:cC},cM w cs l F->cs.length=l.length*aN.n O
 |[],cs,F,h=>by simp[h.1]
 |x::r,cs,F,⟨c1,c2,F1,F2,e,h1,h2,_,_⟩=>by have a:=aN.lP (aN.own_rd h1);have b:=cM.length h2;grind
theorem cM.keep{O:Type}[aN O]{w w':World}{G:cC}(hk:eK G w w'):∀{l:List O} {cs:List Value} {F:cC},cM w cs l F->F.EC G->cM w' cs l F
 |[],cs,F,h,_=>h
 |x::r,cs,F,⟨c1,c2,F1,F2,e,h1,h2,hd,hF⟩,hg=>
  ⟨c1,c2,F1,F2,e,aN.own_keep h1 hk λb o h g=>hg b o ((hF b o).2 (.inl h)) g,cM.keep hk h2 λb o h g=>hg b o ((hF b o).2 (.inr h)) g,hd,hF⟩
theorem cM.lt{O:Type}[aN O]{w:World}:∀{l:List O} {cs:List Value} {F:cC} {b o:Nat},cM w cs l F->F b o->b<w.heap.size
 |[],_,_,b,o,h,hf=>(h.2 b o hf).elim
 |x::r,cs,F,b,o,⟨c1,c2,F1,F2,e,h1,h2,hd,hF⟩,hf=>by
  rcases(hF b o).1 hf with h|h
  ·exact aN.own_lt h1 h
  ·exact cM.lt h2 h
theorem cM.app{O:Type}[aN O]{w:World}:∀{l m:List O} {cs ds:List Value} {F G H:cC},cM w cs l F->cM w ds m G->F.EC G->(∀b o,H b o↔F b o\/G b o)->cM w (cs++ds) (l++m) H
 |[],m,cs,ds,F,G,H,h,k,_,hH=>by rw[h.1];exact cM.congr k λb o=>by rw[hH];exact⟨.inr,λq=>q.elim (λq=>(h.2 b o q).elim) id⟩
 |x::r,m,cs,ds,F,G,H,⟨c1,c2,F1,F2,e,h1,h2,hd,hF⟩,k,hdj,hH=>by
  subst e;refine⟨c1,c2++ds,F1,λb o=>F2 b o\/G b o,ae,h1,cM.app h2 k (λb o p q=>hdj b o ((hF b o).2 (.inr p)) q) λ_ _=>Iff.rfl,?_,λb o=>aj⟩;rintro b o p (q|q)
  ·exact hd b o p q
  ·exact hdj b o ((hF b o).2 (.inl p)) q
theorem cM.split{O:Type}[aN O]{w:World}:∀{l m:List O} {cs:List Value} {H:cC},cM w cs (l++m) H->∃c1 c2 F G,cs=c1++c2/\cM w c1 l F/\cM w c2 m G/\F.EC G/\∀b o,H b o↔F b o\/G b o
 |[],m,cs,H,h=>⟨[],cs,F0,H,rfl,⟨rfl,λ_ _ h=>h⟩,h,λ_ _ h=>h.elim,λb o=>by simp[F0]⟩
 |x::r,m,cs,H,⟨c1,c2,F1,F2,e,h1,h2,hd,hF⟩=>by
  obtain⟨d1,d2,G1,G2,e2,k1,k2,kd,kF⟩:=cM.split h2;subst e;subst e2;refine⟨c1++d1,d2,λb o=>F1 b o\/G1 b o,G2,ae,⟨c1,d1,F1,G1,rfl,h1,k1,λb o p q=>hd b o p ((kF b o).2 (.inl q)),λ_ _=>Iff.rfl⟩,k2,?_,λb o=>aj⟩;rintro b o (p|p) q
  ·exact hd b o p ((kF b o).2 (.inr q))
  ·exact kd b o p q
theorem cM.one[aN O]{c:List Value}{x:O}:cM w c [x] F↔aN.own w c x F:=by
 constructor
 ·rintro⟨c1,c2,F1,F2,e,h1,⟨h2,h3⟩,hd,hF⟩;subst e;subst h2;have:F=F1:=aj
  grind
 ·intro h;exact⟨c,[],F,F0,ae,h,⟨rfl,λ_ _ h=>h⟩,λ_ _ _ h=>h,λb o=>by simp[F0]⟩
theorem cM.rd{O:Type}[aN O]{w:World}:∀{l:List O} {cs:List Value} {F:cC},cM w cs l F->∀i x,l[i]?=some x->aN.rd F w (J4 cs (aN.n O) i) x
 |[],cs,F,_,i,x,h=>by simp at h
 |y::r,cs,F,⟨c1,c2,F1,F2,e,h1,h2,hd,hF⟩,i,x,h=>by
  have a:=aN.lP (aN.own_rd h1);subst e;cases i with
  |zero=>
   simp at h;subst h;have:J4 (c1++c2) (aN.n O) 0=c1:=by grind[J4]
   rw[this];exact aN.rd_mono (aN.own_rd h1) λb o q=>(hF b o).2 (.inl q)
  |succ i=>
   have:J4 (c1++c2) (aN.n O) (i+1)=J4 c2 (aN.n O) i:=by grind[J4,oE,List.drop_drop,List.drop_left]
   rw[this];exact aN.rd_mono (cM.rd h2 i x aj) λb o q=>(hF b o).2 (.inr q)
def Row(w:World)(b off n:Nat):Prop:=∀o,eS b off n b o->(w.cell? ⟨b,o,none⟩).isSome=true/\w.frozen? ⟨b,o,none⟩=false
theorem aZC{O:Type}[aN O]{w:World}{b:Nat}:∀{l:List O} {off:Nat} {Fs:Nat->cC},(∀i (h:i<l.length),∃ec,bA w b (off+i*aN.n O) ec/\aN.own w ec l[i] (Fs i)) ->
  (∀i j,i<l.length->j<l.length->i≠j->cC.EC (Fs i) (Fs j))->∃cc,bA w b off cc/\cM w cc l (λb' o=>∃i,i<l.length/\Fs i b' o)
 |[],off,Fs,_,_=>⟨[],λj v h=>by simp at h,rfl,λb o ⟨i,h,_⟩=>by simp at h⟩
 |x::r,off,Fs,h,hd=>by
  obtain⟨ec,h1,h2⟩:=h 0 ae;obtain⟨cc,h3,h4⟩:=aZC (l:=r) (off:=off+aN.n O) (Fs:=λi=>Fs (i+1)) (λi hi=>by
   obtain⟨ec,k1,k2⟩:=h (i+1) ah;exact⟨ec,by rw[show off+aN.n O+i*aN.n O=off+(i+1)*aN.n O by grind];exact k1,aj⟩)
   λi j hi hj hij=>hd (i+1) (j+1) ah ah aa
  have hl:=aN.lP (aN.own_rd h2);refine⟨ec++cc,λj v hj=>?_,ec,cc,Fs 0,_,rfl,aj,h4,?_,λb' o=>?_⟩
  ·rw[aFW] at hj;split at hj
   ·have:=h1 j v hj;grind
   ·have:=h3 _ v hj;grind
  ·rintro b' o p ⟨i,hi,q⟩;exact hd 0 (i+1) ae ah aa b' o p q
  ·constructor
   ·rintro⟨i,hi,q⟩;cases i with
    |zero=>exact .inl q
    |succ i=>grind
   grind
theorem aZD{O:Type}[aN O]{w:World}{b:Nat}:∀{l:List O} {off:Nat} {cc:List Value} {F:cC},bA w b off cc->cM w cc l F ->
  ∃Fs:Nat->cC,(∀i (h:i<l.length),∃ec,bA w b (off+i*aN.n O) ec/\aN.own w ec l[i] (Fs i))/\(∀i j,i<l.length->j<l.length->i≠j->cC.EC (Fs i) (Fs j))/\∀b' o,F b' o↔∃i,i<l.length/\Fs i b' o
 |[],off,cc,F,_,h=>⟨λ_=>F0,λi h=>by simp at h,λi j h=>by simp at h,λb o=>⟨λq=>(h.2 b o q).elim,λ⟨i,h,_⟩=>by simp at h⟩⟩
 |x::r,off,cc,F,hc,⟨c1,c2,F1,F2,e,h1,h2,hd,hF⟩=>by
  have hl:=aN.lP (aN.own_rd h1);subst e;have k1:bA w b off c1:=λj v hj=>hc j v aj;have k2:bA w b (off+aN.n O) c2:=λj v hj=>by have:=hc (c1.length+j) v aj;grind
  obtain⟨Fs,a1,a2,a3⟩:=aZD k2 h2;refine⟨λi=>match i with|0=>F1|i+1=>Fs i,λi hi=>?_,λi j hi hj hij=>?_,λb' o=>?_⟩
  ·cases i with
   |zero=>grind
   |succ i=>
    obtain⟨ec,q1,q2⟩:=a1 i aj;grind
  ·cases i with
   |zero=>
    cases j with
    |zero=>omega
    |succ j=>exact λb o p q=>hd b o p ((a3 b o).2 ⟨j,aj,q⟩)
   |succ i=>
    cases j with
    |zero=>exact λb o p q=>hd b o q ((a3 b o).2 ⟨i,aj,p⟩)
    |succ j=>grind
  ·rw[hF,a3];constructor
   ·rintro(q|⟨i,hi,q⟩)
    ·exact⟨0,ae,q⟩
    ·exact⟨i+1,ah,q⟩
   ·rintro⟨i,hi,q⟩;cases i with
    |zero=>exact .inl q
    |succ i=>grind
theorem mX[aN O]{l:List O}:aN.own w [s] l F↔∃a c,s=.slice a l.length c/\l.length<=c/\c<=maxLen /\
  ((a=none/\c=0/\∀b o,¬F b o)\/∃b off cc Fe,a=some ⟨b,off,none⟩/\Row w b off (c*aN.n O)/\bA w b off cc/\cM w cc l Fe/\cC.EC Fe (eS b off (c*aN.n O))/\∀b' o,F b' o↔eS b off (c*aN.n O) b' o\/Fe b' o):=by
 show AV w [s] l F↔_;constructor
 ·rintro⟨a,c,e,h1,h2,h3⟩;simp at e;refine⟨a,c,e,h1,h2,h3.imp id ?_⟩;rintro⟨b,off,Fs,e2,hr,he,hd1,hd2,hF⟩;obtain⟨cc,k1,k2⟩:=aZC he hd1;exact⟨b,off,cc,_,e2,hr,k1,k2,λb o ⟨i,hi,q⟩ p=>hd2 i hi b o q p,hF⟩
 ·rintro⟨a,c,e,h1,h2,h3⟩;refine⟨a,c,by rw[e],h1,h2,h3.imp id ?_⟩;rintro⟨b,off,cc,Fe,e2,hr,k1,k2,hd,hF⟩;obtain⟨Fs,a1,a2,a3⟩:=aZD k1 k2;exact⟨b,off,Fs,e2,hr,a1,a2,λi hi b o q p=>hd b o ((a3 b o).2 ⟨i,hi,q⟩) p,λb' o=>by rw[hF,a3]⟩
def blank(L:List Chunk):List Nat->List Chunk
 |[]=>L
 |i::r=>blank (L.set i J1) r
theorem Sep.blank{w:World}:∀{is:List Nat} {L:List Chunk} {F:cC},dE is=true->Sep w L F->Sep w (Gv.pick L is++Gv.blank L is) F
 |[],L,F,_,h=>h
 |i::r,L,F,ha,h=>by
  simp only[dE,uG] at ha;have hp:=aJP (L:=L) ha.1;show Sep w ((L[i]?).getD J1::(Gv.pick L r++Gv.blank (L.set i J1) r)) F;cases hi:L[i]? with
  |none=>
   have:L.set i J1=L:=List.set_eq_of_length_le aj;rw[this];exact⟨F0,F,λ_ _ h=>h,Sep.blank ha.2 h,λ_ _ h=>h.elim,λb o=>by simp[F0]⟩
  |some ch=>
   obtain⟨F1,F2,h1,h2,hd,hF⟩:=(Sep.take hi).1 h;exact⟨F1,F2,h1,by rw[<-hp];exact Sep.blank ha.2 h2,hd,hF⟩
section
variable {c:Ctx} {w w':World} {L:List Chunk} {R:List Fact}
theorem St.front(h:St c w L R)(is:List Nat)(ha:dE is=true):St c w (pick L is++blank L is) R:=by obtain⟨F,S,hsep,rest⟩:=h.sep;exact⟨h.keep,⟨F,S,Sep.blank ha hsep,rest⟩,h.apart⟩
theorem St.a5K(h:St c w L R)(is:List Nat)(ha:dE is=true)(hs:∀F,Sep w (pick L is) F->∃F' G,eK G w w'/\(∀b o,G b o->F b o)/\Sep w' A' F'/\∀b o,F' b o->F b o\/w.heap.size<=b) :
  St c w' (blank L is++A') R:=St.rot (St.step (h.front is ha) hs)
theorem St.shift(h:St c w L R)(is:List Nat)(ha:dE is=true)(hs:∀F,Sep w (pick L is) F->Sep w A' F):St c w (blank L is++A') R:=h.a5K is ha λF hF=>⟨F,F0,eK.refl _ _,λ_ _ h=>h.elim,hs F hF,λ_ _ h=>.inl h⟩
end
theorem Sep.one:Sep w [ch] F↔ch.P w F:=by
 constructor
 ·rintro⟨F1,F2,h1,h2,_,hF⟩;have:F=F1:=by funext b o;exact propext ((hF b o).trans ⟨λq=>q.elim id λq=>(h2 b o q).elim,.inl⟩)
  grind
 ·intro h;exact⟨F,F0,h,λ_ _ h=>h,λ_ _ _ h=>h,λb o=>by simp[F0]⟩
def sM{O:Type}[aN O](s:Value)(l:List O)(k:Nat):Chunk where
 P:=λw F=>∃a c b off c1 c2 F1 F2,s=.slice a l.length c/\l.length<=c/\c<=maxLen/\k<l.length/\a=some ⟨b,off,none⟩ /\
  (∀o,eS b off (c*aN.n O) b o->¬eS b (off+k*aN.n O) (aN.n O) b o->(w.cell? ⟨b,o,none⟩).isSome=true/\w.frozen? ⟨b,o,none⟩=false) /\
  bA w b off c1/\bA w b (off+(k+1)*aN.n O) c2/\cM w c1 (l.take k) F1/\cM w c2 (l.drop (k+1)) F2/\F1.EC F2/\F1.EC (eS b off (c*aN.n O))/\F2.EC (eS b off (c*aN.n O)) /\
  ∀b' o,F b' o↔(eS b off (c*aN.n O) b' o/\¬eS b (off+k*aN.n O) (aN.n O) b' o)\/F1 b' o\/F2 b' o
 keep:=by
  rintro w w' F G ⟨a,c,b,off,c1,c2,F1,F2,e,h1,h2,h3,e2,hr,k1,k2,o1,o2,d1,d2,d3,hF⟩ hk hd;have hcell:∀o,eS b off (c*aN.n O) b o->¬eS b (off+k*aN.n O) (aN.n O) b o->b<w.heap.size->w'.cell? ⟨b,o,none⟩=w.cell? ⟨b,o,none⟩:=λo p q hb=>hk.cell b o hb λg=>hd b o ((hF b o).2 (.inl ⟨p,q⟩)) g;have hn:(k+1)*aN.n O<=c*aN.n O:=uK _ aa;rw[oE] at hn;have l1:=o1.length;have l2:=o2.length;rw[ZR,Nat.min_eq_left aa] at l1;rw[UH] at l2;have hn2:(l.length-(k+1))*aN.n O+(k+1)*aN.n O<=c*aN.n O:=by rw[<-oE];exact uK _ aa
  refine⟨a,c,b,off,c1,c2,F1,F2,e,h1,h2,h3,e2,λo p q=>?_,?_,?_,o1.keep hk λb o p g=>hd b o ((hF b o).2 (.inr (.inl p))) g,o2.keep hk λb o p g=>hd b o ((hF b o).2 (.inr (.inr p))) g,d1,d2,d3,hF⟩
  ·have:=hr o p q;exact⟨hk.stay b o this.1,(hk.wY b o (jM this.1)).trans this.2⟩
  ·by_cases hc:c1=[]
   ·subst hc;intro j v h;simp at h
   ·refine k1.agree λo p q=>hcell o ⟨rfl,p,aa⟩ (λ⟨_,p2,_⟩=>aa) (k1.lt hc)
  ·by_cases hc:c2=[]
   ·subst hc;intro j v h;simp at h
   ·rw[oE] at k2 hn2;refine bA.agree (by rw[oE];exact k2) λo p q=>?_;rw[oE] at p q;exact hcell o ⟨rfl,aa,aa⟩ (λ⟨_,_,p3⟩=>aa) (k2.lt hc)
 lt:=by
  rintro w F b' o ⟨a,c,b,off,c1,c2,F1,F2,e,h1,h2,h3,e2,hr,k1,k2,o1,o2,d1,d2,d3,hF⟩ hf;rcases(hF b' o).1 hf with ⟨p,q⟩|p|p
  ·have:b'=b:=p.1;subst this;exact jM (hr o p q).1
  ·exact o1.lt p
  ·exact o2.lt p
theorem DN{b off:Nat}{c1:List Value}(h:bA w b off (c1++c2)):bA w b off c1/\bA w b (off+c1.length) c2:=
 ⟨λj v hj=>h j v aj,λj v hj=>by
  have:=h (c1.length+j) v aj;grind⟩
theorem SK{b off:Nat}{c1:List Value}(h1:bA w b off c1)(h2:bA w b (off+c1.length) c2):bA w b off (c1++c2):=λj v hj=>by
 rw[aFW] at hj;split at hj
 ·exact h1 j v hj
 ·have:=h2 _ v hj;grind
theorem a5L{l:List O}{x:O}(h:l[k]?=some x):l=l.take k++([x]++l.drop (k+1)):=by obtain⟨hk,rfl⟩:=AR.1 h;simp
theorem a5M{l:List O}{x:O}(h:k<l.length):l.set k x=l.take k++([x]++l.drop (k+1)):=by rw[List.set_eq_take_append_cons_drop,aO h];simp
theorem a5N[aN O]{l:List O}{x:O}(h:aN.own w [s] l F)(hx:l[k]?=some x) :
  ∃ec:List Value,Sep w [sM s l k,VY (VJ s) (UL (aN.n O) k s) ec,eU ec x] F:=by
 obtain⟨a,c,e,h1,h2,h3⟩:=mX.1 h;obtain⟨hk,_⟩:=AR.1 hx;rcases h3 with ⟨_,h3,_⟩|⟨b,off,cc,Fe,rfl,hr,hc,ho,hd,hF⟩
 ·omega
 rw[a5L hx] at ho;obtain⟨c1,c23,F1,F23,rfl,o1,o23,d1,e1⟩:=ho.split;obtain⟨ec,c2,F2,F3,rfl,o2,o3,d2,e2⟩:=o23.split;have l1:=o1.length;have l2:=o2.length;have l3:=o3.length;rw[ZR,Nat.min_eq_left aa] at l1;rw[UH] at l3;simp only[HA,List.length_nil,aB2,Nat.one_mul] at l2;obtain⟨k1,k23⟩:=DN hc;obtain⟨k2,k3⟩:=DN k23;rw[l1] at k2 k3;rw[l2] at k3;have hn:(k+1)*aN.n O<=c*aN.n O:=uK _ aa;have hn':=hn;rw[oE] at hn';subst e;refine⟨ec,_,λb' o=>eS b (off+k*aN.n O) (aN.n O) b' o\/F2 b' o,⟨some ⟨b,off,none⟩,c,b,off,c1,c2,F1,F3,rfl,h1,h2,hk,rfl,λo p q=>hr o p,k1,?_,o1,o3,?_,?_,?_,λ_ _=>Iff.rfl⟩,?_⟩
 ·grind
 ·exact λb o p q=>d1 b o p ((e2 b o).2 (.inr q))
 ·exact λb o p q=>hd b o ((e1 b o).2 (.inl p)) q
 ·exact λb o p q=>hd b o ((e1 b o).2 (.inr ((e2 b o).2 (.inr p)))) q
 ·refine⟨⟨eS b (off+k*aN.n O) (aN.n O),F2,⟨k2,λo p=>(hr o ?_).2,λb' o=>by grind[VJ,UL]⟩,Sep.one.2 (cM.one.1 o2),?_,λ_ _=>Iff.rfl⟩,?_,λb' o=>?_⟩
  ·obtain⟨_,p1,p2⟩:=p;simp only[UL,l2] at p1 p2;exact⟨rfl,aa,aa⟩
  ·rintro b' o ⟨rfl,p1,p2⟩ q;exact hd b' o ((e1 b' o).2 (.inr ((e2 b' o).2 (.inl q)))) ⟨rfl,aa,aa⟩
  ·rintro b' o (⟨p,q⟩|p|p) (u|u)
   ·exact q u
   ·exact hd b' o ((e1 b' o).2 (.inr ((e2 b' o).2 (.inl u)))) p
   ·obtain⟨rfl,u1,u2⟩:=u;exact hd b' o ((e1 b' o).2 (.inl p)) ⟨rfl,aa,aa⟩
   ·exact d1 b' o p ((e2 b' o).2 (.inl u))
   ·obtain⟨rfl,u1,u2⟩:=u;exact hd b' o ((e1 b' o).2 (.inr ((e2 b' o).2 (.inr p)))) ⟨rfl,aa,aa⟩
   ·exact d2 b' o u p
  grind[eS]
theorem a2I[aN O]{l:List O}{x:O}{ec:List Value}(h:Sep w [sM s l k,VY (VJ s) (UL (aN.n O) k s) ec,eU ec x] F):aN.own w [s] (l.set k x) F:=by
 obtain⟨G1,G2,⟨a,c,b,off,c1,c2,F1,F3,e,h1,h2,hk,rfl,hr,k1,k3,o1,o3,d1,d2,d3,hG1⟩,⟨H1,H2,⟨k2,hz,hH1⟩,hs,dH,hG2⟩,dG,hF⟩:=h;have ho:aN.own w ec x H2:=Sep.one.1 hs;subst e;simp only[VJ,UL] at k2 hz hH1;have l1:=o1.length;have l2:=aN.lP (aN.own_rd ho);have l3:=o3.length;rw[ZR,Nat.min_eq_left aa] at l1;have hn:(k+1)*aN.n O<=c*aN.n O:=uK _ aa;have hn':=hn;rw[oE] at hn';rw[l2] at hH1;refine mX.2 ⟨some ⟨b,off,none⟩,c,ae,aj,h2,.inr ⟨b,off,c1++(ec++c2),λb' o=>F1 b' o\/(H2 b' o\/F3 b' o),rfl,λo p=>?_,?_,?_,?_,λb' o=>?_⟩⟩
 ·by_cases q:eS b (off+k*aN.n O) (aN.n O) b o
  ·refine⟨?_,hz o aj⟩;obtain⟨_,q1,q2⟩:=q;have:=k2 (o-(off+k*aN.n O)) _ (jC aa);grind
  grind
 ·grind[SK]
 ·rw[a5M hk];refine cM.app o1 (cM.app (cM.one.2 ho) o3 ?_ λ_ _=>Iff.rfl) ?_ λ_ _=>Iff.rfl
  ·exact λb' o p q=>dG b' o ((hG1 b' o).2 (.inr (.inr q))) ((hG2 b' o).2 (.inr p))
  ·rintro b' o p (q|q)
   ·exact dG b' o ((hG1 b' o).2 (.inr (.inl p))) ((hG2 b' o).2 (.inr q))
   ·exact d1 b' o p q
 ·rintro b' o (p|p|p) q
  ·exact d2 b' o p q
  ·by_cases u:eS b (off+k*aN.n O) (aN.n O) b' o
   ·exact dH b' o ((hH1 b' o).2 u) p
   ·exact dG b' o ((hG1 b' o).2 (.inl ⟨q,u⟩)) ((hG2 b' o).2 (.inr p))
  ·exact d3 b' o p q
 grind[eS]
def OP{O:Type}[aN O](cs:List Value)(d:O)(A:List Chunk):Prop:=∀w F,aN.own w cs d F↔Sep w A F
theorem eC[aN O][Flat O]{cs:List Value}{d:O}(h:aN.rd F0 default cs d):OP cs d []:=λw F=>by
 constructor
 ·intro k;exact Flat.no k
 ·intro k;have:F=F0:=by funext b o;exact propext ⟨λq=>(k b o q).elim,λq=>q.elim⟩
  grind[Flat.own_of]
theorem HO[aN O]{cs:List Value}{d:O}:OP cs d [eU cs d]:=λw F=>(Sep.one (ch:=eU cs d)).symm
theorem eT{β:Type}[aN O][aN β]{c1:List Value}{d:O×β}(h1:OP c1 d.1 A)(h2:OP c2 d.2 B)(hl:c1.length=aN.n O):OP (c1++c2) d (A++B):=λw F=>by
 constructor
 ·rintro⟨e1,e2,F1,F2,e,k1,k2,hd,hF⟩;have hl2:=aN.lP (aN.own_rd k1);obtain⟨rfl,rfl⟩:=List.append_inj e aa;exact Sep.append.2 ⟨F1,F2,(h1 w F1).1 k1,(h2 w F2).1 k2,hd,hF⟩
 ·intro k;obtain⟨F1,F2,k1,k2,hd,hF⟩:=Sep.append.1 k;exact⟨c1,c2,F1,F2,rfl,(h1 w F1).2 k1,(h2 w F2).2 k2,hd,hF⟩
section
variable {P:Program} {o:Oper} {e:Env} {w w':World} {c:Ctx} {L:List Chunk} {R:List Fact} {x y:Operand} {t el:TypeId}
theorem St.open(h:St c w L R)[aN O]{l:List O}{q:O}(i:Nat)(hi:L[i]?=some (eU [s] l))(hq:l[k]?=some q) :
  ∃ec,St c w (L.set i J1++[sM s l k,VY (VJ s) (UL (aN.n O) k s) ec,eU ec q]) R:=by have h1:St c w ([eU [s] l]++L.set i J1) R:=h.take i hi;obtain⟨F,S,hsep,rest⟩:=h1.sep;obtain⟨F1,F2,g1,g2,gd,gF⟩:=Sep.append.1 hsep;obtain⟨ec,hec⟩:=a5N (Sep.one.1 g1) hq;exact⟨ec,St.rot ⟨h1.keep,⟨F,S,Sep.append.2 ⟨F1,F2,hec,g2,gd,gF⟩,rest⟩,h1.apart⟩⟩
theorem St.unpack(h:St c w L R)[aN O]{cs:List Value}{d:O}(i:Nat)(hi:L[i]?=some (eU cs d))(ho:OP cs d A'):St c w (L.set i J1++A') R:=by have h1:St c w ([eU cs d]++L.set i J1) R:=h.take i hi;obtain⟨F,S,hsep,rest⟩:=h1.sep;obtain⟨F1,F2,g1,g2,gd,gF⟩:=Sep.append.1 hsep;exact St.rot ⟨h1.keep,⟨F,S,Sep.append.2 ⟨F1,F2,(ho w F1).1 (Sep.one.1 g1),g2,gd,gF⟩,rest⟩,h1.apart⟩
theorem aAK{b off:Nat}{c1:List Value}(h1:bA w b off c1)(h2:bA w b off c2)(hl:c1.length=c2.length):c1=c2:=by
 apply ZQ;intro j;by_cases hj:j<c1.length
 ·have a:=h1 j _ (jC hj);have b:=h2 j _ (jC aa);grind
 grind
theorem MJ[aN O]{b off cap:Nat}{l:List O}{Fe:cC}(hr:Row w b off (cap*aN.n O))(hc:bA w b off cc)(ho:cM w cc l Fe)(hd:Fe.EC (eS b off (cap*aN.n O)))(hlen:l.length<=cap)(hmax:cap<=maxLen) :
  aN.own w [.slice (some ⟨b,off,none⟩) l.length cap] l (λb' o=>eS b off (cap*aN.n O) b' o\/Fe b' o):=mX.2 ⟨_,cap,rfl,hlen,hmax,.inr ⟨b,off,cc,Fe,rfl,hr,hc,ho,hd,λ_ _=>Iff.rfl⟩⟩
theorem aB6[aN O](hS:St c w L R)(is:List Nat)(ha:dE is=true)(hp:pick L is=A)(cells rest:List Value)(l:List O)(cap:Nat)(ty:TypeId)
  (hA:∀F,Sep w A F->∃Fe,cM w cells l Fe/\∀b o,Fe b o->F b o) (hcap:(cells++rest).length=cap*aN.n O) (hlen:l.length<=cap) (hmax:cap<=maxLen) :
  St c (w.alloc (.cells (cells++rest).toArray ty)) (blank L is++[eU [.slice (some ⟨w.heap.size,0,none⟩) l.length cap] l]) R:=by
 have hcell:∀j,(w.alloc (.cells (cells++rest).toArray ty)).cell? ⟨w.heap.size,j,none⟩=(cells++rest)[j]?:=λj=>ae
 refine hS.a5K is ha λF hF=>?_;obtain⟨Fe,h1,h2⟩:=hA F (hp ▸ hF);have hk:=eK.alloc F0 w (.cells (cells++rest).toArray ty);refine⟨_,F0,hk,λ_ _ h=>h.elim,Sep.one.2 (MJ (λo' ho=>?_) (λj v hj=>?_) (h1.keep hk λ_ _ _ h=>h) (λb o' p q=>?_) hlen hmax),?_⟩
 ·obtain⟨_,_,h3⟩:=ho;simp_all
 ·grind
 ·have:=h1.lt p;obtain⟨rfl,_⟩:=q;omega
 ·rintro b o' (p|p)
  ·exact .inr (UK p.1.symm)
  grind
theorem a5O[aN O]{i:Int}(zd:O)(hS:St c w L R)(hn:aN.n O=m)(hu:P.underlying t=some (.slice el))(hinf:SJ P el m z)(hzs:z.cells.size=m)(hzd:∀w,aN.own w z.cells.toList zd F0)
  (h01:0<=i/\i<=4294967296) (ho:o.op=.makeSlice t x y) (hx:ev e x=some (.int .i64 i)) (hy:ev e y=some (.int .i64 i)) :
  ∃v w',eW P o e w v w'/\St c w' (L++[eU [v] (List.replicate i.toNat zd)]) R:=by
 obtain⟨h0,h1⟩:=h01;subst hn;obtain⟨ti,hi,hz,hsz,hby⟩:=hinf;have hb:(ti.bytes:Int)*i<=281474976710656:=by have:(ti.bytes:Int)*i<=65536*4294967296:=Int.mul_le_mul aa h1 h0 aa;omega
 have hr:=run_make (P:=P) w t el ti z hu hi hz .i64 .i64 i i h0 (J2 _) hb aa;rw[hsz] at hr;refine⟨.slice (some ⟨w.heap.size,0,none⟩) i.toNat i.toNat,w.alloc (.cells (madeCells z.cells (i.toNat*aN.n O)) el),λ_ a hA=>?_,?_⟩
 rotate_left 1
 ·have all:∀(k:Nat) (cc:List Value),cc.length=k*aN.n O->(∀j,j<k->J4 cc (aN.n O) j=z.cells.toList)->cM w cc (List.replicate k zd) F0:=by
   intro k;induction k with
   |zero=>intro cc h _;exact⟨uJ aa,λ_ _ h=>h⟩
   |succ k ih=>
    intro cc h hs;rw[oE] at h;refine⟨cc.take (aN.n O),cc.drop (aN.n O),F0,F0,ae,?_,ih _ aj λj hj=>?_,λ_ _ h _=>h,λb o=>by simp[F0]⟩
    ·have:=hs 0 aa;grind[J4]
    grind[J4,List.drop_drop]
  have h:=aB6 hS [] rfl rfl (madeCells z.cells (i.toNat*aN.n O)).toList [] (List.replicate i.toNat zd) i.toNat el (λF _=>⟨F0,all _ _ (by simp[size_madeCells]) λj hj=>a5I hzs hj,λ_ _ h=>h.elim⟩) (by simp[size_madeCells]) ae (by grind[maxLen]);simp only[uH,List.length_replicate] at h;exact h
 ·simp[execOp,ho,hA.eval hx,hA.eval hy,hr]
def OPs{O:Type}[aN O](m:Nat):List Value->List O->List Chunk->Prop
 |cs,[],A=>cs=[]/\A=[]
 |cs,x::r,A=>∃B,A=eU (cs.take m) x::B/\(cs.take m).length=m/\OPs m (cs.drop m) r B
theorem OPs.all{O:Type}[aN O]{m:Nat}(hn:aN.n O=m):∀{l:List O} {cs:List Value} {A:List Chunk} {F:cC},OPs m cs l A->Sep w A F->cM w cs l F
 |[],cs,A,F,⟨h1,h2⟩,h=>by subst h1;subst h2;exact⟨rfl,h⟩
 |x::r,cs,A,F,⟨B,h1,_,h2⟩,h=>by subst h1;obtain⟨F1,F2,k1,k2,kd,kF⟩:=h;exact⟨cs.take m,cs.drop m,F1,F2,ae,k1,OPs.all hn h2 k2,kd,kF⟩
theorem OPs.len{O:Type}[aN O]{m:Nat}:∀{l:List O} {cs:List Value} {A:List Chunk},OPs m cs l A->cs.length=l.length*m
 |[],cs,A,⟨h1,h2⟩=>by simp[h1]
 |x::r,cs,A,⟨B,h1,h3,h2⟩=>by have:=OPs.len h2;grind[oE]
theorem aZE[aN O]{len:Nat}{ps:List (Nat×Operand)}{cells:List Value}(l:List O)(hS:St c w L R)(is:List Nat)(ha:dE is=true)(hrd:OPs m cells l (pick L is))(hn:aN.n O=m)(hu:P.underlying t=some (.slice el))(hinf:SJ P el m z)(hl:l.length=len)(hm:Nat.ble 1 m=true)(hsmall:Nat.ble (len*m) 16777216=true)
  (ho:o.op=.buildSlice t len ps.toArray) (hv:evs e (ps.map (·.2))=some vs) (hc:Instr.fill (λi=>some (i*m,m)) ((Array.range (len*m)).map (λi=>(if len*m=0 then #[] else z.cells)[i % (if len*m=0 then #[] else z.cells).size]!)) ((ps.map (·.1)).zip vs)=some cells.toArray) :
  ∃v w',eW P o e w v w'/\St c w' (blank L is++[eU [v] l]) R:=by
 subst hl;obtain⟨ti,hi,hz,hsz,hby⟩:=hinf;have h1:=hrd.len;have hsm:¬l.length*m > 2 ^ 24:=by simp_all
 have hlm:l.length<=16777216:=by have:=Nat.le_mul_of_pos_right l.length (QU hm);omega
 have hlmax:l.length<=maxLen:=by grind[maxLen]
 have hnew:=aB6 hS is ha rfl cells [] l l.length el (λF hF=>⟨F,hrd.all hn hF,λ_ _ h=>h⟩) aj (iZ _) hlmax;rw[uH] at hnew;refine⟨_,_,λ_ a hA=>?_,hnew⟩;have hps:ps.map (λp=>(p.1,a.eval p.2))=(ps.map (·.1)).zip vs:=by rw[<-SH hA hv];grind
 by_cases h0:l.length*m=0
 ·simp only[h0,bT] at hc;simp[execOp,ho,Instr.buildSlice,run_underlying hu,sizeOf,typeInfo,hi,hsz,h0,hps];simp_all[newRow]
 ·simp only[h0,bR] at hc;simp[execOp,ho,Instr.buildSlice,run_underlying hu,sizeOf,typeInfo,zeroValue,hi,hz,hsz,h0,hsm,hps];simp_all[newRow]
theorem bBP[aN O]{s2:Value}{l xs:List O}(is:List Nat)(hS:St c w L R)(ha:dE is=true)(hp:pick L is=[eU [s] l,eU [s2] xs])(hn:aN.n O=m)(hu:P.underlying t=some (.slice el))(hinf:SJ P el m z)(hzs:z.cells.size=m)
  (hb:l.length+xs.length<=1073741824) (ho:o.op=.call {callee:=.builtin .append,args:=#[x,y],argTypes:=#[t,t]}) (hx:ev e x=some s) (hy:ev e y=some s2) :
  ∃v w',eW P o e w v w'/\St c w' (blank L is++[eU [v] (l++xs)]) R:=by
 subst hn;obtain⟨ti,hti,hz,hsz,hby⟩:=hinf;have h12:St c w ([eU [s] l,eU [s2] xs]++blank L is) R:=hp ▸ hS.front is ha;obtain⟨F,hF⟩:=h12.chunk 0 rfl;obtain⟨G,hG⟩:=h12.chunk 1 rfl;have hF:aN.own w [s] l F:=hF;have hG:aN.own w [s2] xs G:=hG;obtain⟨ad2,c2,cc2,rfl,hl2,hc2,hr2⟩:=MI (aN.own_rd hG);obtain⟨ad,cap,cc,rfl,hl1,hc1,hr1⟩:=MI (aN.own_rd hF);have hone2:=aIF hl2 hr2;have hlen:(cc++cc2).length=(l++xs).length*aN.n O:=aj
 have hsrc':xs.length=0\/∃b off,ad2=some ⟨b,off,none⟩/\bA w b off cc2:=hc2.imp (λh=>by simp[h]) id;have hf2:=HN (P:=P) (O:=O) (k:=c2) hl2 hsrc';have hexec:∀(v:Value) (w':World),(Builtin.append_ #[t,t] o.type #[.slice ad l.length cap,.slice ad2 xs.length c2]).run P w=.ok v w'->eW P o e w v w':=by intro v w' h _ a hA;simp[execOp,ho,resolve,invoke,builtin,hA.eval hx,hA.eval hy,h]
 have hall:∀{s:Value} {l:List O} {F:cC} {ad:Option Addr} {cap:Nat} {cc:List Value},s=.slice ad l.length cap->aN.own w [s] l F->cc.length=l.length*aN.n O->(l=[]\/∃b off,ad=some ⟨b,off,none⟩/\bA w b off cc)->∃Fe,cM w cc l Fe/\∀b o,Fe b o->F b o:=by
  intro s l F ad cap cc e h hl hc;obtain⟨a',c',e',_,_,h3⟩:=mX.1 h;rw[e] at e';simp at e';obtain⟨rfl,rfl⟩:=e';rcases hc with hc|⟨b,off,rfl,hc⟩
  ·subst hc;exact⟨F0,⟨uJ aj,λ_ _ h=>h⟩,λ_ _ h=>h.elim⟩
  ·rcases h3 with ⟨h,_⟩|⟨b',off',cc',Fe,h,_,k1,k2,_,hF⟩
   ·cases h
   simp at h;obtain⟨rfl,rfl⟩:=h;have:cc'=cc:=aAK k1 hc (by rw[k2.length,hl]);grind
 by_cases hroom:l.length+xs.length<=cap
 ·
  obtain⟨a',cap',e',hlc,hcm,h3⟩:=mX.1 hF;simp at e';obtain⟨rfl,rfl⟩:=e';rcases h3 with ⟨rfl,h0,_⟩|⟨b,off,cc',Fe0,rfl,hrow,hcc',hoA,hdj0,hFF0⟩
  ·have hl0:l=[]:=uJ aa;have hx0:xs=[]:=uJ aa;subst hl0;subst hx0;refine⟨.slice none 0 0,w,hexec _ _ ?_,?_⟩
   ·have hf2:(Builtin.firstCells (aN.n O) 0 (.slice ad2 0 c2)).run P w=.ok cc2.toArray w:=hf2;simp[h0,Builtin.append_,run_underlying hu,sizeOf,typeInfo,hti,Builtin.lenOf,hsz,hf2]
   ·rw[uH];refine hS.a5K is ha λF hF=>?_;rw[hp] at hF;obtain⟨F1,F2,k1,k2,kd,kF⟩:=hF;subst h0;exact⟨F1,F0,eK.refl _ _,λ_ _ h=>h.elim,Sep.one.2 k1,λb o h=>.inl ((kF b o).2 (.inl h))⟩
  ·have hcc:bA w b off cc:=by
    rcases hc1 with h|⟨b',off',h,hc⟩
    ·subst h;have:cc=[]:=uJ aj;subst this;intro j v hj;simp at hj
    grind
   have hmul:(l.length+xs.length)*aN.n O<=cap*aN.n O:=uK _ hroom;rw[oE] at hmul;obtain⟨w',hst,hk,hws,hcell⟩:=o9 (b:=b) P cc2 w (off+l.length*aN.n O) 0 hone2 (λq _ hq=>hrow _ ⟨rfl,aa,aa⟩);refine⟨_,w',hexec _ _ (by
    have hadd:(⟨b,off,none⟩:Addr).add (l.length*aN.n O)=⟨b,off+l.length*aN.n O,none⟩:=by simp[Addr.add]
    simp[Builtin.append_,run_underlying hu,sizeOf,typeInfo,hti,Builtin.lenOf,hsz,hf2,hroom,hadd,hst];rfl),?_⟩
   refine hS.a5K is ha λF2 hF2=>?_;rw[hp] at hF2;obtain⟨Fa,Fb,ka,kb,kd,kF⟩:=hF2;have ka:aN.own w [_] l Fa:=ka;have kb:aN.own w [_] xs Fb:=Sep.one.1 kb;obtain⟨_,_,he2,_,_,hr⟩:=mX.1 ka;simp at he2;obtain⟨rfl,rfl⟩:=he2;rcases hr with ⟨h,_,_⟩|⟨b',off',cc'',Fe,h,hrow2,k1,k2,hdj,hFF⟩
   ·cases h
   simp at h;obtain⟨rfl,rfl⟩:=h;have ecc:cc''=cc:=aAK k1 hcc (by rw[k2.length,hl1]);subst ecc;obtain⟨Fe2,o2,hFe2⟩:=hall rfl kb hl2 hc2;have hkd:∀{G:cC},(∀b' o',G b' o'->¬eS b off (cap*aN.n O) b' o')->G.EC (λb' o'=>b'=b/\off+l.length*aN.n O+0<=o'/\o'<off+l.length*aN.n O+0+cc2.length):=by rintro G hG b' o' g ⟨e1,e2,e3⟩;exact hG b' o' g ⟨e1,aa,aa⟩
   have hcc2:bA w' b off (cc''++cc2):=by
    intro j v hj;rw[aFW] at hj;split at hj
    ·rename_i hlt;have hc:=hcc j v hj;rw[hk.cell b (off+j) (World.block_lt_of_cell? w _ hc) (λhh=>by obtain⟨_,e2,_⟩:=hh;omega)];exact hc
    ·rename_i hge;have:=hcell _ v hj;grind
   refine⟨λb' o'=>eS b off (cap*aN.n O) b' o'\/(Fe b' o'\/Fe2 b' o'),_,hk,?_,Sep.one.2 ?_,?_⟩
   ·rintro b' o' ⟨e1,e2,e3⟩;exact(kF b' o').2 (.inl ((hFF b' o').2 (.inl ⟨e1,aa,aa⟩)))
   ·have hll:l.length+xs.length=(l++xs).length:=ae
    rw[hll];refine MJ (λo' ho'=>⟨hk.stay b o' (hrow o' ho').1,(hk.wY b o' (jM (hrow o' ho').1)).trans (hrow o' ho').2⟩) hcc2 (cM.app (k2.keep hk (hkd λb' o' g q=>hdj b' o' g q)) (o2.keep hk (hkd λb' o' g q=>?_)) (λb' o' p q=>?_) λ_ _=>Iff.rfl) ?_ ah hcm
    ·exact kd b' o' ((hFF b' o').2 (.inl q)) (hFe2 b' o' g)
    ·exact kd b' o' ((hFF b' o').2 (.inr p)) (hFe2 b' o' q)
    ·rintro b' o' (p|p) q
     ·exact hdj b' o' p q
     ·exact kd b' o' ((hFF b' o').2 (.inl q)) (hFe2 b' o' p)
   grind
 ·
  have hbytes:(l.length+xs.length)*ti.bytes<=140737488355328:=by have:(l.length+xs.length)*ti.bytes<=1073741824*65536:=aB1 hb hby;omega
  have hfit:=growslice_fits (need:=l.length+xs.length) (old:=cap) (bytes:=ti.bytes) aa hbytes;obtain⟨hge,hle⟩:l.length+xs.length<=grownCap w (l.length+xs.length) cap el/\grownCap w (l.length+xs.length) cap el<=maxLen:=⟨grownCap_ge _ _ _ _,grownCap_le_maxLen _ _ _ _ (by grind[maxLen])⟩;have hrun:(Builtin.append_ #[t,t] o.type #[.slice ad l.length cap,.slice ad2 xs.length c2]).run P w=.ok (.slice (some ⟨w.heap.size,0,none⟩) (l.length+xs.length) (grownCap w (l.length+xs.length) cap el)) (w.drew.alloc (.cells (cc.toArray++cc2.toArray++Builtin.zeroCells z.cells (grownCap w (l.length+xs.length) cap el-(l.length+xs.length))) el)):=by
   have hn1:¬(l.length+xs.length<=cap):=hroom;have h63':¬(9223372036854775807<((l.length:Int)+(xs.length:Int))):=aa
   have h48':¬(281474976710656<Builtin.nextslicecap (l.length+xs.length) cap*ti.bytes):=aa
   have hf1:(Builtin.firstCells (aN.n O) l.length (.slice ad l.length cap)).run P w.drew=.ok cc.toArray w.drew:=HN (O:=O) hl1 (hc1.imp (λh=>by simp[h]) id);have hf2:(Builtin.firstCells (aN.n O) xs.length (.slice ad2 xs.length c2)).run P w.drew=.ok cc2.toArray w.drew:=HN (O:=O) hl2 hsrc';simp[Builtin.append_,run_underlying hu,sizeOf,typeInfo,zeroValue,hti,hz,hsz,Builtin.lenOf,hn1,h63',h48',Question.forced,hf1,hf2,newRow,grownCap];grind
  refine⟨_,_,hexec _ _ hrun,?_⟩;have hz3:(Builtin.zeroCells z.cells (grownCap w (l.length+xs.length) cap el-(l.length+xs.length))).toList.length=(grownCap w (l.length+xs.length) cap el-(l.length+xs.length))*aN.n O:=by grind[size_zeroCells]
  have htot:((cc++cc2)++(Builtin.zeroCells z.cells (grownCap w (l.length+xs.length) cap el-(l.length+xs.length))).toList).length=grownCap w (l.length+xs.length) cap el*aN.n O:=by rw[D8,hlen,hz3,D8,<-oE];grind
  have hS':St c w.drew L R:=hS.same (eK.drew F0 w);have hnew:=aB6 hS' is ha hp (cc++cc2) (Builtin.zeroCells z.cells (grownCap w (l.length+xs.length) cap el-(l.length+xs.length))).toList (l++xs) (grownCap w (l.length+xs.length) cap el) el (λF2 hF2=>by
   obtain⟨Fa,Fb,ka,kb,kd,kF⟩:=hF2;have ka:aN.own w.drew [_] l Fa:=ka;have kb:aN.own w.drew [_] xs Fb:=Sep.one.1 kb;have drop:eK F0 w.drew w:=⟨rfl,rfl,rfl,iZ _,λ_ _ _=>rfl,λ_ _ _ _=>rfl,λ_ _ _=>rfl,λ_ _ h=>h⟩;obtain⟨Fe,o1,h1⟩:=hall rfl (aN.own_keep ka drop λ_ _ _ h=>h) hl1 hc1;obtain⟨Fe2,o2,h2⟩:=hall rfl (aN.own_keep kb drop λ_ _ _ h=>h) hl2 hc2;have hk:=eK.drew F0 w;exact⟨_,cM.app (o1.keep hk λ_ _ _ h=>h) (o2.keep hk λ_ _ _ h=>h) (λb o p q=>kd b o (h1 b o p) (h2 b o q)) λ_ _=>Iff.rfl,λb o p=>(kF b o).2 (p.imp (h1 b o) (h2 b o))⟩) htot ah hle
  have heq:((cc++cc2)++(Builtin.zeroCells z.cells (grownCap w (l.length+xs.length) cap el-(l.length+xs.length))).toList).toArray=cc.toArray++cc2.toArray++Builtin.zeroCells z.cells (grownCap w (l.length+xs.length) cap el-(l.length+xs.length)):=ae
  rw[heq] at hnew;simp_all
end
section
variable {v:Value} {k:IntKind} {i:Int} {P:Program} {o:Oper} {e:Env} {w w':World} {c:Ctx} {L:List Chunk} {R:List Fact} {x y:Operand} {t el:TypeId}
theorem bJX{b q i:Nat}{cs:List Value}(hS:St c w L R)(hi:L[i]?=some (VY b q cs))(ho:o.op=.store t x y)(hx:ev e x=some (.pointer (some ⟨b,q+j,none⟩)))(hy:ev e y=some v)(hvs:v.cells.toList=vs)(hz:∀w,(sizeOf t).run P w=.ok m w)(hm:vs.length=m)(hj:Nat.ble (j+m) cs.length=true)(h1:vs.all Value.oneCell'=true) :
  ∃w',bJU P o e w w'/\St c w' (L.set i (VY b q (aB4 cs j vs))) R:=by
 subst hm;have hj':j+vs.length<=cs.length:=QU hj;have h1':∀v∈vs,v.oneCell'=true:=λv hv=>aj
 obtain⟨F,hF⟩:=hS.chunk i hi;obtain⟨hc,hfz,_⟩:=hF;obtain⟨w',hr,hk,hsz,hcell⟩:=o9 (b:=b) P vs w (q+j) 0 h1' (λp _ hp=>by
  refine⟨?_,hfz (q+j+p) ⟨rfl,aa,aa⟩⟩;have:=hc (j+p) _ (jC aa);grind)
 refine⟨w',λ_ a hA=>?_,?_⟩
 ·have hsize:v.cells.size=vs.length:=aj
  have hr':(storeCells ⟨b,q+j,none⟩ v.cells.toList).run P w=.ok () w':=aj
  simp[execOp,ho,Instr.storeAt,Instr.sureAddr,hA.eval hx,hA.eval hy,storeVar,hz,hsize,hr']
 ·refine hS.aEG i hi λF2 hF2=>?_;obtain⟨k1,k2,kF⟩:=hF2;have hlen:(aB4 cs j vs).length=cs.length:=aF4 vs cs j;refine⟨F2,_,hk,?_,⟨?_,λo' ho'=>?_,λb' o'=>aj⟩,λ_ _ h=>.inl h⟩
  ·rintro b' o' ⟨e1,e2,e3⟩;exact(kF b' o').2 ⟨e1,aa,aa⟩
  ·intro p u hp;rw[aS5 vs cs j p aa] at hp;split at hp
   ·have:=hcell _ u hp;grind
   ·have h3:=k1 p u hp;rw[hk.cell b (q+p) (World.block_lt_of_cell? w _ h3) (λhh=>by obtain⟨_,e2,e3⟩:=hh;omega)];exact h3
  ·rw[hlen] at ho';obtain⟨_,e2,e3⟩:=ho';have h3:=k1 (o'-q) _ (jC aa);rw[show q+(o'-q)=o' by omega] at h3;exact(hk.wY b o' (World.block_lt_of_cell? w _ h3)).trans (k2 o' ⟨rfl,e2,e3⟩)
theorem bBQ(h:St c w L R)[aN O]{l:List O}{k:Nat}(i:Nat)(hi:L[i]?=some (sM s l k)):∃b off m,s=.slice (some ⟨b,off,none⟩) l.length m/\l.length<=maxLen:=by obtain⟨F,a,cp,b,off,c1,c2,F1,F2,e,h1,h2,h3,rfl,_⟩:=h.chunk i hi;grind
theorem bBR[aN O]{l:List O}{el:Nat}{q:O}(h:∃b off m,s=.slice (some ⟨b,off,none⟩) l.length m/\l.length<=maxLen)(_hn:aN.n O=m)(hq:idx l i=some q)(hu:P.underlying t=some (.slice el))(hz:∀w,(sizeOf el).run P w=.ok m w)(ho:o.op=.indexAddr t x y)(hx:ev e x=some s)(hy:ev e y=some (.int k i)):eW P o e w (.pointer (some ⟨VJ s,UL m i.toNat s,none⟩)) w:=by
 obtain⟨h0,h1,h2⟩:=AW hq;obtain⟨b,off,cp,rfl,_⟩:=h;intro _ a hA;have h5:(⟨b,off,none⟩:Addr).add (i.toNat*m)=⟨b,off+i.toNat*m,none⟩:=by grind[Addr.add]
 simp[execOp,ho,Instr.indexAt,hA.eval hx,hA.eval hy,asIntOf,run_underlying hu,h0,h1,hz,h5,VJ,UL]
theorem a5P[aN O]{w:World}:aN.own w [.slice none 0 0] ([]:List O) F0:=⟨none,0,rfl,iZ _,jD _,.inl ⟨rfl,rfl,λ_ _ h=>h⟩⟩
theorem aAL{w:World}:∀ch∈([]:List Chunk),ch.P w F0:=λ_ h=>nomatch h
theorem AX{w:World}[aN O](h:∀ch∈A,ch.P w F0):∀ch∈eU [.slice none 0 0] ([]:List O)::A,ch.P w F0:=λch hc=>by
 rcases iX.1 hc with rfl|hc
 ·exact a5P
 grind
theorem sU{w:World}[aN O]{cs:List Value}{d:O}(h:OP cs d A)(hz:∀ch∈A,ch.P w F0):aN.own w cs d F0:=by
 refine(h w F0).2 ?_;clear h;induction A with
 |nil=>exact λ_ _ h=>h
 |cons a A ih=>exact⟨F0,F0,hz a ae,ih λch hc=>hz ch (by simp[hc]),λ_ _ h=>h.elim,λb o=>by simp[F0]⟩
theorem aEI:∀{is:List Nat} {L:List Chunk} {j:Nat},(is.all λi=>!Nat.beq i j)=true->(blank L is)[j]?=L[j]?
 |[],L,j,_=>rfl
 |i::r,L,j,h=>by
  simp only[V2,uG,aWL] at h;have hne:i≠j:=λe=>by simp_all
  show(blank (L.set i J1) r)[j]?=_;rw[aEI h.2,List.getElem?_set_ne hne]
theorem all_cons{Q:Fact->Prop}{f:Fact}{l:List Fact}(h:Q f)(hl:∀f∈l,Q f):∀g∈f::l,Q g:=aj
theorem a2J{b q:Nat}{A B C:List Value}(h:(VY b q (A++(B++C))).P w F):Sep w [VY b q A,VY b (q+A.length) B,VY b (q+A.length+B.length) C] F:=by
 obtain⟨h1,h2,hF⟩:=h;obtain⟨k1,k23⟩:=DN h1;obtain⟨k2,k3⟩:=DN k23;simp only[D8] at h2 hF;refine⟨eS b q A.length,λb' o=>eS b (q+A.length) B.length b' o\/eS b (q+A.length+B.length) C.length b' o,⟨k1,λo p=>h2 o ⟨rfl,by have:=p.2;omega,by have:=p.2;omega⟩,λ_ _=>Iff.rfl⟩,
  ⟨eS b (q+A.length) B.length,eS b (q+A.length+B.length) C.length,⟨k2,λo p=>h2 o ⟨rfl,by have:=p.2;omega,by have:=p.2;omega⟩,λ_ _=>Iff.rfl⟩,Sep.one.2 ⟨k3,λo p=>h2 o ⟨rfl,by have:=p.2;omega,by have:=p.2;omega⟩,λ_ _=>Iff.rfl⟩,?_,λ_ _=>Iff.rfl⟩,?_,λb' o=>?_⟩
 ·rintro b' o ⟨_,p1,p2⟩ ⟨_,q1,q2⟩;omega
 ·rintro b' o ⟨_,p1,p2⟩ (⟨_,q1,q2⟩|⟨_,q1,q2⟩)<;>omega
 ·rw[hF];constructor
  ·rintro⟨e,p1,p2⟩;by_cases x1:o<q+A.length
   ·exact .inl ⟨e,p1,x1⟩
   ·by_cases x2:o<q+A.length+B.length
    ·exact .inr (.inl ⟨e,aa,x2⟩)
    ·exact .inr (.inr ⟨e,aa,aa⟩)
  ·rintro(⟨e,p1,p2⟩|⟨e,p1,p2⟩|⟨e,p1,p2⟩)<;>exact⟨e,aa,aa⟩
theorem a5Q{b q:Nat}{A B C:List Value}(h:Sep w [VY b q A,VY b (q+A.length) B,VY b (q+A.length+B.length) C] F):(VY b q (A++(B++C))).P w F:=by
 obtain⟨F1,F23,⟨a1,a2,aF⟩,⟨F2,F3,⟨b1,b2,bF⟩,h3,_,f23⟩,_,f⟩:=h;obtain⟨c1,c2,cF⟩:=Sep.one.1 h3;refine⟨SK a1 (SK b1 c1),λo p=>?_,λb' o=>?_⟩
 ·obtain⟨_,p1,p2⟩:=p;simp only[D8] at p2;by_cases x1:o<q+A.length
  ·exact a2 o ⟨rfl,p1,x1⟩
  ·by_cases x2:o<q+A.length+B.length
   ·exact b2 o ⟨rfl,aa,x2⟩
   ·exact c2 o ⟨rfl,aa,aa⟩
 ·rw[f,f23,aF,bF,cF];simp only[D8];constructor
  ·rintro(⟨e,p1,p2⟩|⟨e,p1,p2⟩|⟨e,p1,p2⟩)<;>exact⟨e,aa,aa⟩
  ·rintro⟨e,p1,p2⟩;by_cases x1:o<q+A.length
   ·exact .inl ⟨e,p1,x1⟩
   ·by_cases x2:o<q+A.length+B.length
    ·exact .inr (.inl ⟨e,aa,x2⟩)
    ·exact .inr (.inr ⟨e,aa,aa⟩)
end
def iV(n l h:Nat):Value->Value
 |.slice a _ cap=>.slice (if cap=l then a else a.map (·.add (l*n))) (h-l) (cap-l)
 |v=>v
theorem yT{l:List O}{a b:Nat}(h1:a<=b)(h2:b<=l.length):((l.take b).drop a).length=b-a:=ah
theorem bBS{l:List O}{a b:Nat}(h2:b<=l.length)(hi:i<b-a):((l.take b).drop a)[i]?=l[a+i]?:=aj
theorem aWQ[aN O]{S:cC}{l:List O}{a b:Nat}(hn:aN.n O=n)(h:aN.rd S w [s] l)(h1:a<=b)(h2:b<=l.length):aN.rd S w [iV n a b s] ((l.take b).drop a):=by
 subst hn;obtain⟨ad,c,e,k1,k2,k3⟩:=(show qV S w [s] l from h);simp at e;subst e;have hl:=yT h1 h2;refine⟨if c=a then ad else ad.map (·.add (a*aN.n O)),c-a,by grind[iV],aa,aa,?_⟩;by_cases h0:b=a
 ·grind
 ·right;rcases k3 with k3|⟨bl,off,rfl,k3⟩
  ·grind
  ·have hadd:(⟨bl,off,none⟩:Addr).add (a*aN.n O)=⟨bl,off+a*aN.n O,none⟩:=by grind[Addr.add]
   refine⟨bl,off+a*aN.n O,aj,λi hi=>?_⟩;rw[hl] at hi;have hg:=bBS h2 hi;grind
theorem aZF[aN O]{l:List O}{a b:Nat}(hn:aN.n O=n)(h:aN.own w [s] l F)(h1:a<=b)(h2:b<=l.length):∃F',aN.own w [iV n a b s] ((l.take b).drop a) F'/\∀b o,F' b o->F b o:=by
 subst hn;obtain⟨ad,c,e,k1,k2,k3⟩:=mX.1 h;subst e;have hl:=yT h1 h2;rcases k3 with ⟨rfl,rfl,hF⟩|⟨bl,off,cc,Fe,rfl,hr,hc,ho,hd,hF⟩
 ·have:l=[]:=uJ aa;subst this;have ha:a=0:=aa
  have hb:b=0:=aa
  subst ha;subst hb;exact⟨F0,⟨none,0,rfl,iZ _,jD _,.inl ⟨rfl,rfl,λ_ _ h=>h⟩⟩,λ_ _ h=>h.elim⟩
 ·have e3:l=l.take a++((l.take b).drop a++l.drop b):=by grind[ZV]
  rw[e3] at ho;obtain⟨c1,c23,F1,F23,rfl,o1,o23,d1,f1⟩:=ho.split;obtain⟨c2,c3,F2,F3,rfl,o2,o3,d2,f2⟩:=o23.split;have l1:=o1.length;rw[ZR,Nat.min_eq_left aa] at l1;obtain⟨q1,q23⟩:=DN hc;obtain⟨q2,q3⟩:=DN q23;rw[l1] at q2;by_cases hca:c=a
  ·have hab:b=a:=aa
   have hz:(l.take b).drop a=[]:=aj
   refine⟨F0,?_,λ_ _ h=>h.elim⟩;rw[hz];simp only[iV,hca,hab,Nat.sub_self,bT];exact mX.2 ⟨some ⟨bl,off,none⟩,0,rfl,iZ _,jD _,.inr ⟨bl,off,[],F0,rfl,λo p=>by obtain⟨_,p1,p2⟩:=p;omega,λj v h=>by simp at h,⟨rfl,λ_ _ h=>h⟩,λ_ _ h=>h.elim,λb' o=>by
    simp[F0,eS]⟩⟩
  ·have hmul:a*aN.n O+(c-a)*aN.n O=c*aN.n O:=by rw[<-oE];grind
   refine⟨λb' o=>eS bl (off+a*aN.n O) ((c-a)*aN.n O) b' o\/F2 b' o,?_,?_⟩
   ·have e4:iV (aN.n O) a b (.slice (some ⟨bl,off,none⟩) l.length c)=.slice (some ⟨bl,off+a*aN.n O,none⟩) ((l.take b).drop a).length (c-a):=by
     have hadd:(⟨bl,off,none⟩:Addr).add (a*aN.n O)=⟨bl,off+a*aN.n O,none⟩:=by simp[Addr.add]
     simp only[iV,hl,aP hca,Option.map_some,hadd]
    rw[e4];refine MJ (λo p=>hr o ?_) q2 o2 (λb' o p q=>hd b' o ((f1 b' o).2 (.inr ((f2 b' o).2 (.inl p)))) ?_) aa aa
    ·obtain⟨_,p1,p2⟩:=p;exact⟨rfl,aa,aa⟩
    ·obtain⟨p0,p1,p2⟩:=q;exact⟨p0,aa,aa⟩
   ·rintro b' o (p|p)
    ·obtain⟨p0,p1,p2⟩:=p;exact(hF b' o).2 (.inl ⟨p0,aa,aa⟩)
    grind
section
variable {v:Value} {k k2:IntKind} {i j:Int} {P:Program} {o:Oper} {e:Env} {w w':World} {c:Ctx} {L:List Chunk} {R:List Fact} {x y z:Operand} {t el:TypeId}
theorem St.iJ(h:St c w L R)[aN O]{l:List O}{a b:Nat}(m:Nat)(hm:R[m]?=some (fRd [s] l))(hn:aN.n O=n)(h1:a<=b)(h2:b<=l.length):St c w L (R++[fRd [iV n a b s] ((l.take b).drop a)]):=h.derive m hm λS hS g hg=>by simp at hg;subst hg;exact aWQ hn hS h1 h2
theorem aJS[aN O]{S:cC}{l:List O}(h:aN.rd S w [s] l):∃ad cp,s=.slice ad l.length cp/\l.length<=cp:=by obtain⟨ad,cp,e,k1,_⟩:=(show qV S w [s] l from h);grind
theorem a2K[aN O]{S:cC}{l:List O}(h:aN.rd S w [s] l)(hn:aN.n O=n)(hu:P.underlying t=some (.slice el))(hz:∀w,(sizeOf el).run P w=.ok n w)(hb:0<=i/\i<=j/\j<=l.length)(ho:o.op=.slice t x (some y) (some z) none)(hx:ev e x=some s)(hy:ev e y=some (.int k i))(hw:ev e z=some (.int k2 j)):eW P o e w (iV n i.toNat j.toNat s) w:=λ_ a hA=>by
 obtain⟨ad,cp,rfl,hc⟩:=aJS h;obtain⟨b0,b1,b2⟩:=hb;have h1:j<=(cp:Int):=aa
 have h3:0<=j:=aa
 have h2:max j 0=j:=aa
 simp[execOp,ho,Instr.sliceAt,Instr.slice,run_underlying hu,Instr.sliceBounds,hA.eval hx,hA.eval hy,hA.eval hw,Instr.sliceBound,asIntOf,hz,b0,b1,h1,h2,h3,iV]
theorem a5R[aN O]{S:cC}{l:List O}(h:aN.rd S w [s] l)(hn:aN.n O=n)(hu:P.underlying t=some (.slice el))(hz:∀w,(sizeOf el).run P w=.ok n w)(hb:0<=j/\j<=l.length)(ho:o.op=.slice t x none (some z) none)(hx:ev e x=some s)(hw:ev e z=some (.int k2 j)):eW P o e w (iV n 0 j.toNat s) w:=λ_ a hA=>by
 obtain⟨ad,cp,rfl,hc⟩:=aJS h;obtain⟨b0,b1⟩:=hb;have h1:j<=(cp:Int):=aa
 simp[execOp,ho,Instr.sliceAt,Instr.slice,run_underlying hu,Instr.sliceBounds,hA.eval hx,hA.eval hw,Instr.sliceBound,asIntOf,hz,b0,h1,iV]
theorem bBT{q:UInt8}(hu:P.underlying t=some .string)(hq:idx l i=some q)(ho:o.op=.index t x y)(hx:ev e x=some (sv l))(hy:ev e y=some (.int k i)):eW P o e w (.int .u8 (q.toNat:Int)) w:=λ_ a hA=>by
 obtain⟨h0,h1,h2⟩:=AW hq;have h3:(⟨l.toArray⟩:ByteArray)[i.toNat]?=some q:=by rw[getElem?_pos _ _ (by simp[ByteArray.size];omega)];rw[jC aa] at h2;simp only[Option.some.injEq] at h2;rw[<-h2];rfl
 simp[execOp,ho,Instr.index,run_underlying hu,hA.eval hx,hA.eval hy,asIntOf,h0,h3]
theorem bGU(ho:o.op=.call {callee:=.builtin .min,args:=#[x,y],argTypes:=#[t,el]})(hx:ev e x=some (.int .i64 i))(hy:ev e y=some (.int k j)):eW P o e w (.int .i64 (if j<i then j else i)) w:=λ_ a hA=>by simp[execOp,ho,resolve,invoke,builtin,Builtin.min_,Builtin.min2,hA.eval hx,hA.eval hy]
theorem bGV(ho:o.op=.call {callee:=.builtin .max,args:=#[x,y],argTypes:=#[t,el]})(hx:ev e x=some (.int .i64 i))(hy:ev e y=some (.int k j)):eW P o e w (.int .i64 (if i<j then j else i)) w:=λ_ a hA=>by simp[execOp,ho,resolve,invoke,builtin,Builtin.max_,Builtin.max2,hA.eval hx,hA.eval hy]
theorem aJT:∀(l:List UInt8) (s:ByteArray),(l.map λq=>(q.toNat:Int)).foldl (λr n=>r.push (UInt8.ofNat n.toNat)) s=⟨s.data++l.toArray⟩
 |[],s=>ae
 |q::l,s=>by rw[AT,List.foldl_cons,aJT l];simp
theorem bGW{S:cC}(h:aN.rd S w [s] l)(hu:P.underlying t=some (.slice el))(he:P.underlying el=some (.int .u8))(hu':P.underlying t'=some .string)(ho:o.op=.convert t t' x)(hx:ev e x=some s):eW P o e w (sv l) w:=λ_ a hA=>by
 obtain⟨ad,cp,cc,rfl,h1,h2,h3⟩:=MI h;have hcc:cc=(l.map λq=>(q.toNat:Int)).map (Value.int .u8):=by
  have h1:cc.length=l.length*1:=h1;apply ZQ;intro i;by_cases hi:i<l.length
  ·have:=h3 i l[i] (jC hi);have:J4 cc 1 i=[.int .u8 (l[i].toNat:Int)]:=this;have h5:(J4 cc 1 i)[0]?=cc[i*1+0]?:=sS aa;grind
  grind
 have key:(Conv.bytesToString (.slice ad l.length cp)).run P w=.ok (sv l) w:=by
  rcases h2 with h2|⟨b,off,rfl,h2⟩
  ·subst h2;cases ad with
   |none=>rfl
   |some a=>
    rw[show([]:List UInt8).length=0 from rfl,run_bytesToString w a 0 cp [] (by simp[loadCells,loadCellsFrom])];rfl
  ·rw[run_bytesToString w _ _ cp _ (by
    have:=rH h2 P;have h1:cc.length=l.length*1:=h1;rw[h1,Nat.mul_one] at this;rw[<-hcc];exact this),aJT]
   simp[sv]
 simp[execOp,ho,convert,run_underlying hu,run_underlying hu',run_underlying he,hA.eval hx,key]
theorem bGX(f:O->Value){l:List O}{q:O}{cs:Array Value}(hu:P.underlying t=some (.array n el))(hz:∀w,(sizeOf el).run P w=.ok 1 w)(hg:∀w,(isAgg el).run P w=.ok false w)(hq:idx l i=some q)(hn:l.length=n)(hcs:cs=(l.map f).toArray)(ho:o.op=.index t x y)(hx:ev e x=some (.agg cs))(hy:ev e y=some (.int k i)):eW P o e w (f q) w:=λ_ a hA=>by obtain⟨h0,h1,h2⟩:=AW hq;subst hn;subst hcs;have h3:=h2;rw[jC aa] at h3;simp only[Option.some.injEq] at h3;simp[execOp,ho,Instr.index,run_underlying hu,hA.eval hx,hA.eval hy,asIntOf,h0,h1,hz,part,hg,h3]
theorem a2L{ps:List (Nat×Operand)}{cells:Array Value}(ho:o.op=.build t ps.toArray)(hz:∀w,(zeroValue t).run P w=.ok zv w)(hu:P.underlying t=some (.array n el))
  (hp:∀w,(sizeOf el).run P w=.ok m w) (hv:evs e (ps.map (·.2))=some vs) (hc:Instr.fill (λi=>some (i*m,m)) zv.cells ((ps.map (·.1)).zip vs)=some cells):eW P o e w (.agg cells) w:=λ_ a hA=>by
 have h1:ps.map (λp=>(p.1,a.eval p.2))=(ps.map (·.1)).zip vs:=by rw[<-SH hA hv];grind
 simp_all[execOp,Instr.build,run_underlying]
theorem bBU[aN O](hS:St c w L R)(hn:aN.n O=m)(hu:P.underlying t=some (.slice el))(hinf:SJ P el m zv)(ho:o.op=.buildSlice t 0 #[]) :
  ∃v w',eW P o e w v w'/\St c w' (L++[eU [v] ([]:List O)]) R:=by obtain⟨ti,hi,hz,hsz,hby⟩:=hinf;have hnew:=aB6 (O:=O) hS [] rfl rfl [] [] [] 0 el (λF _=>⟨F0,⟨rfl,λ_ _ h=>h⟩,λ_ _ h=>h.elim⟩) ae (iZ _) (jD _);refine⟨_,_,λ_ a hA=>?_,hnew⟩;simp_all[Array.eq_empty_of_size_eq_zero,execOp,Instr.buildSlice,run_underlying,sizeOf,typeInfo,Instr.fill,newRow]
theorem a5S{v c0:Value}(hc:v.cells=#[c0]):Instr.fill (λi=>some (i*1,1)) ((Array.range (1*1)).map (λi=>(if 1*1=0 then #[] else zv.cells)[i % (if 1*1=0 then #[] else zv.cells).size]!)) [(0,v)]=some #[c0]:=by have h1:Array.range 1=#[0]:=rfl;simp_all[Instr.fill]
theorem bBV[aN O][Flat O](q:O){x:Operand}{v c0:Value}(hS:St c w L R)(hn:aN.n O=1)(hu:P.underlying t=some (.slice el))(hinf:SJ P el 1 zv)(hrd:aN.rd F0 default [c0] q)
  (ho:o.op=.buildSlice t 1 #[(0,x)]) (hv:ev e x=some v) (hc:v.cells=#[c0]) :
  ∃v w',eW P o e w v w'/\St c w' (L++[eU [v] [q]]) R:=by refine a5J (ps:=[(0,x)]) (vs:=[v]) (cells:=[c0]) [q] hS hn hu hinf rfl ak ak ⟨hrd,rfl⟩ ho (by simp[evs,hv]) ?_;exact a5S hc
theorem a5T{D:Nat}(hu:P.underlying t=some (.slice el)):(Op.equalIn (D+1) t (.slice none n m) (.slice none 0 0)).run P w=.ok true w:=by simp[Op.equalIn,run_underlying hu]
theorem a5U{D:Nat}{ad:Addr}(hu:P.underlying t=some (.slice el)):(Op.equalIn (D+1) t (.slice (some ad) n m) (.slice none 0 0)).run P w=.ok false w:=by simp[Op.equalIn,run_underlying hu]
theorem aWR(hu:P.underlying t=some (.slice el))(h:∃n m,s=.slice none n m)(ho:o.op=.binOp .eql t x y t')(hx:ev e x=some s)(hy:ev e y=some (.slice none 0 0)):eW P o e w (.bool true) w:=λ_ a hA=>by obtain⟨n,m,rfl⟩:=h;have h1:binOp .eql t (.slice none n m) (.slice none 0 0)=(do pure (.bool (<-Op.equal t (.slice none n m) (.slice none 0 0)))):=rfl;have h2:(Op.equal t (.slice none n m) (.slice none 0 0)).run P w=.ok true w:=a5T (D:=9999) hu;simp[execOp,ho,hA.eval hx,hA.eval hy,eqGuard,h1,h2]
theorem aWS(hu:P.underlying t=some (.slice el))(h:∃a n m,s=.slice (some a) n m)(ho:o.op=.binOp .eql t x y t')(hx:ev e x=some s)(hy:ev e y=some (.slice none 0 0)):eW P o e w (.bool false) w:=λ_ a hA=>by obtain⟨ad,n,m,rfl⟩:=h;have h1:binOp .eql t (.slice (some ad) n m) (.slice none 0 0)=(do pure (.bool (<-Op.equal t (.slice (some ad) n m) (.slice none 0 0)))):=rfl;have h2:(Op.equal t (.slice (some ad) n m) (.slice none 0 0)).run P w=.ok false w:=a5U (D:=9999) hu;simp[execOp,ho,hA.eval hx,hA.eval hy,eqGuard,h1,h2]
end
structure Raw where
 v:Value
instance:Inhabited Raw:=⟨⟨.slice none 0 0⟩⟩
instance:aN Raw where
 n:=1
 rd:=λ_ _ cs x=>cs=[x.v]/\x.v.oneCell'=true
 own:=λ_ cs x F=>(cs=[x.v]/\x.v.oneCell'=true)/\∀b o,¬F b o
 lP:=λh=>by simp[h.1]
 rd_one:=λh v hv=>aj
 rd_agree:=λh _=>h
 rd_mono:=λh _=>h
 own_rd:=λh=>h.1
 own_keep:=λh _ _=>h
 own_lt:=λh hf=>(h.2 _ _ hf).elim
instance:Flat Raw:=⟨λh=>⟨h,λ_ _ h=>h⟩,λh=>h.2⟩
def V6{O:Type}[aN O](S:cC)(w:World)(us:List Raw)(l:List O):Prop:=us.length=l.length/\∀(i:Nat) (u:Raw) (x:O),us[i]?=some u->l[i]?=some x->aN.rd S w [u.v] x
theorem V6.append[aN O]{S:cC}{us vs:List Raw}{l m:List O}(h:V6 S w us l)(k:V6 S w vs m):V6 S w (us++vs) (l++m):=by
 refine⟨by simp[h.1,k.1],λi u x hu hx=>?_⟩;rw[aFW] at hu hx;rw[h.1] at hu;split at hu
 ·rename_i hlt;rw[aO hlt] at hx;exact h.2 i u x hu hx
 ·rename_i hlt;rw[aP hlt] at hx;exact k.2 _ u x hu hx
theorem bGY[aN O](hn:aN.n O=1){S:cC}{l:List O}(h:aN.rd S w [s] l):∃us:List Raw,aN.rd S w [s] us/\V6 S w us l:=by
 obtain⟨ad,c,e,h1,h2,h3⟩:=(show qV S w [s] l from h);rcases h3 with h3|⟨b,off,rfl,h3⟩
 ·subst h3;exact⟨[],⟨ad,c,e,h1,h2,.inl rfl⟩,rfl,λi u x hu=>by simp at hu⟩
 ·have hv:∀i,i<l.length->∃v:Value,bA w b (off+i*1) [v]/\(∀o,eS b (off+i*1) 1 b o->S b o)/\v.oneCell'=true/\∀x,l[i]?=some x->aN.rd S w [v] x:=λi hi=>by obtain⟨ec,q1,q2,q3⟩:=h3 i hi;have hl:=aN.lP q3;rw[hn] at hl q1 q2;grind[List.length_eq_one_iff,aN.rd_one]
  obtain⟨f,hf⟩:=Go.Deep.choose_lt (α:=Value) hv;refine⟨(List.range l.length).map λi=>⟨f i⟩,⟨_,c,by rw[e];simp,aj,h2,.inr ⟨b,off,rfl,λi hi=>?_⟩⟩,ae,λi u x hu hx=>?_⟩
  ·have hi':i<l.length:=aj
   refine⟨[f i],(hf i hi').1,(hf i hi').2.1,?_⟩;simp only[List.getElem_map,List.getElem_range];exact⟨rfl,(hf i hi').2.2.1⟩
  grind
theorem a5V[aN O](hn:aN.n O=1){S:cC}{us:List Raw}{l:List O}(h:aN.rd S w [s] us)(hr:V6 S w us l):aN.rd S w [s] l:=by
 obtain⟨ad,c,e,h1,h2,h3⟩:=(show qV S w [s] us from h);have hl:us.length=l.length:=hr.1;refine⟨ad,c,by rw[e,hl],hl ▸ h1,h2,?_⟩;rcases h3 with h3|⟨b,off,rfl,h3⟩
 ·grind
 ·right;refine⟨b,off,rfl,λi hi=>?_⟩;obtain⟨ec,q1,q2,q3⟩:=h3 i aa;have q3:ec=[(us[i]' aa).v]/\_:=q3;refine⟨ec,by rw[hn];exact q1,by rw[hn];exact q2,?_⟩;rw[q3.1];exact hr.2 i _ _ (jC _) (jC hi)
def a5W(s:Value)(n:Nat):Chunk where
 P:=λw F=>∃b off len c,s=.slice (some ⟨b,off,none⟩) len c/\c<=maxLen/\Row w b off (c*n)/\∀b' o,F b' o↔eS b off (c*n) b' o
 keep:=by rintro w w' F G ⟨b,off,len,c,e,h1,h2,hF⟩ hk hd;exact⟨b,off,len,c,e,h1,λo p=>⟨hk.stay b o (h2 o p).1,(hk.wY b o (jM (h2 o p).1)).trans (h2 o p).2⟩,hF⟩
 lt:=by rintro w F b' o ⟨b,off,len,c,e,h1,h2,hF⟩ hf;have p:=(hF b' o).1 hf;obtain rfl:b'=b:=p.1;exact jM (h2 o p).1
section
variable {v:Value} {k k2:IntKind} {i j:Int} {P:Program} {o:Oper} {e:Env} {w w':World} {c:Ctx} {L:List Chunk} {R:List Fact} {x y z:Operand} {t t2 el:TypeId}
theorem St.bGZ(h:St c w L R)[aN O](m:Nat)(hm:L[m]?=some (a5W s n))(hn:aN.n O=n):St c w (L.set m (eU [iV n 0 0 s] ([]:List O))) R:=
 h.aEG m hm λF hF=>by
  obtain⟨b,off,len,cp,rfl,h1,h2,hF⟩:=hF;have e:iV n 0 0 (.slice (some ⟨b,off,none⟩) len cp)=.slice (some ⟨b,off,none⟩) 0 cp:=by simp[iV,Addr.add]
  subst hn;refine⟨λb' o'=>eS b off (cp*aN.n O) b' o'\/F0 b' o',F0,eK.refl _ _,λ_ _ h=>h.elim,?_,λb' o' q=>.inl ((hF b' o').2 (q.elim id λq=>q.elim))⟩;show aN.own w [_] ([]:List O) _;rw[e];exact MJ (l:=([]:List O)) (cc:=[]) (Fe:=F0) h2 (λj v h=>by simp at h) ⟨rfl,λ_ _ h=>h⟩ (λ_ _ h=>h.elim) (jD _) h1
theorem a2M(hu:P.underlying t=some (.slice el))(ho:o.op=.call {callee:=.builtin .cap,args:=#[x],argTypes:=#[t]})(hx:ev e x=some (.slice none 0 0)):eW P o e w (.int .i64 0) w:=λ_ a hA=>by simp[execOp,ho,resolve,invoke,builtin,Builtin.cap_,hA.eval hx,run_underlying hu,goInt]
theorem bBW{z:Value}(hS:St c w L R)(hu:P.underlying t=some (.slice el))(hut:P.underlying t2=some (.int k))(hinf:SJ P el m z)(hzs:z.cells.size=m)(hm:Nat.ble 1 m=true)
  (hb:1<=i/\i<=1073741824) (ho:o.op=.call {callee:=.builtin .append,args:=#[x,y],argTypes:=#[t,t2]}) (hx:ev e x=some (.slice none 0 0)) (hy:ev e y=some (.int .i64 i)) :
  ∃v w',eW P o e w v w'/\St c w' (L++[a5W v m]) R/\∃ad cp,v=.slice ad i.toNat cp:=by
 obtain⟨ti,hti,hz,hsz,hby⟩:=hinf;obtain⟨b0,b1⟩:=hb;have hw:IntKind.i64.wrap i=i:=by grind[IntKind.wrap,IntKind.bits]
 have hn0:¬(i.toNat<=0):=aa
 have hbytes:i.toNat*ti.bytes<=140737488355328:=by have:i.toNat*ti.bytes<=1073741824*65536:=aB1 aa hby;omega
 have hfit:=growslice_fits (need:=i.toNat) (old:=0) (bytes:=ti.bytes) aa hbytes;obtain⟨hge,hle⟩:i.toNat<=grownCap w i.toNat 0 el/\grownCap w i.toNat 0 el<=maxLen:=⟨grownCap_ge _ _ _ _,grownCap_le_maxLen _ _ _ _ (by grind[maxLen])⟩;have hrun:∃cs:Array Value,cs.size=grownCap w i.toNat 0 el*m/\(Builtin.append_ #[t,t2] o.type #[.slice none 0 0,.int .i64 i]).run P w=.ok (.slice (some ⟨w.heap.size,0,none⟩) i.toNat (grownCap w i.toNat 0 el)) (w.drew.alloc (.cells cs el)):=by
  have hn2:¬(i<=0):=aa
  have hi:(i.toNat:Int)=i:=aa
  have h63':¬(9223372036854775807<i):=aa
  have h48':¬(281474976710656<Builtin.nextslicecap i.toNat 0*ti.bytes):=aa
  have h48:¬(281474976710656<i*(ti.bytes:Int)):=aj
  have hneg:¬(i<0):=aa
  have hmax:max i 0=i:=aa
  have hm1:=QU hm;have hnm:¬(i.toNat*m=0):=by grind[Nat.mul_eq_zero]
  refine⟨Builtin.zeroCells z.cells i.toNat++Builtin.zeroCells z.cells (grownCap w i.toNat 0 el-i.toNat),?_,?_⟩
  rotate_left 1
  ·have hf1:(Builtin.firstCells m 0 (.slice none 0 0)).run P w.drew=.ok #[] w.drew:=rfl;simp[Builtin.append_,run_underlying hu,run_underlying hut,sizeOf,typeInfo,zeroValue,hti,hz,hsz,Builtin.lenOf,asInt,asIntOf,hw,hneg,h48,hn0,h63',h48',Question.forced,newRow,grownCap,hf1,hnm,hi,hn2,hmax]
  ·rw[Array.size_append,size_zeroCells,size_zeroCells,hzs,<-oE];grind
 obtain⟨cs,hcs,hrun⟩:=hrun;refine⟨.slice (some ⟨w.heap.size,0,none⟩) i.toNat (grownCap w i.toNat 0 el),w.drew.alloc (.cells cs el),λ_ a hA=>?_,?_,_,_,rfl⟩
 rotate_left 1
 ·refine(hS.same (eK.drew F0 w)).more (eK.alloc _ _ _) ⟨eS w.heap.size 0 (grownCap w i.toNat 0 el*m),⟨_,_,_,_,rfl,hle,λo' p=>?_,λ_ _=>Iff.rfl⟩,λb o' p=>UK p.1.symm⟩;obtain⟨_,_,h3⟩:=p;refine⟨?_,World.frozen?_alloc_at (hn:=rfl) ..⟩;have h4:(w.drew.alloc (.cells cs el)).cell? ⟨w.drew.heap.size,o',none⟩=cs[o']?:=by grind[World.cell?_alloc_at]
  simp_all
 ·simp[execOp,ho,resolve,invoke,builtin,hA.eval hx,hA.eval hy,hrun]
theorem aZG(h:∃ad len cp,s=.slice ad len cp)(hu:P.underlying t=some (.slice el))(hz:∀w,(sizeOf el).run P w=.ok n w)(ho:o.op=.slice t x none (some z) none)(hx:ev e x=some s)(hw:ev e z=some (.int k2 0)):eW P o e w (iV n 0 0 s) w:=λ_ a hA=>by obtain⟨ad,len,cp,rfl⟩:=h;simp[execOp,ho,Instr.sliceAt,Instr.slice,run_underlying hu,Instr.sliceBounds,hA.eval hx,hA.eval hw,Instr.sliceBound,asIntOf,hz,iV]
end
open Go.ChangeShapes Go.WideShapes Go.ChangeAt Go.RowKit
class Fits (O:Type) where
 fit:O->Prop
abbrev fit{O:Type}[Fits O](x:O):Prop:=Fits.fit x
instance:Fits Int:=⟨λx=>-9223372036854775808<=x/\x<=9223372036854775807⟩
instance:Fits Bool:=⟨λ_=>True⟩
instance:Fits UInt8:=⟨λ_=>True⟩
instance:Fits bF5:=⟨λs=>s.b.length<=maxLen⟩
instance {O β:Type} [Fits O] [Fits β]:Fits (O×β):=⟨λp=>fit p.1/\fit p.2⟩
instance {O:Type} [Fits O]:Fits (List O):=⟨λl=>l.length<=maxLen/\∀x∈l,fit x⟩
@[reducible] def Fits.via {O β : Type} [Fits β] (f : O -> β) : Fits O := ⟨λx => fit (f x)⟩
def OI(P:Program)(t:TypeId)(O:Type)[aN O][Fits O]:Prop:=
 ∀{H:Type} {enc:TypeId×Value->H} {w:World} {spare:Nat->Bool} {held:Bool} {fuel:Nat} {cs:List Value} {x:DataW H×List MemPlace},
  DataW.trod enc P w 0 spare held fuel t cs=some x->∃d:O,aN.rd (YO w) w cs d/\fit d
theorem aS7(hu:P.underlying t=some (.int .u8)):OI P t UInt8:=λh=>by
 obtain⟨n,rfl,_,hf⟩:=DataW.trod_int hu h;have hn:0<=n/\n<=255:=by simpa[Lit.wf,show IntKind.u8.min=0 by decide,show IntKind.u8.max=255 by decide] using hf
 refine⟨UInt8.ofNat n.toNat,?_,trivial⟩;show [Value.int .u8 n]=[Value.int .u8 ((UInt8.ofNat n.toNat).toNat:Int)]
 (simp_all;omega)
theorem aF5{e:TypeId}[aN O][Fits O](hu:P.underlying t=some (.slice e))(hc:P.cellsOf e=aN.n O)(hn:0<aN.n O)(he:OI P e O):OI P t (List O):=λ{H enc w spare held fuel cs x} h=>by
 rcases Go.Deep.open_slice hu h with ⟨rfl,_⟩|⟨a,len,cap,m,n,D,Pl,rfl,_,hl,hm,hmm,_,hx⟩
 ·exact⟨[],⟨none,0,rfl,iZ _,jD _,.inl rfl⟩,jD _,λ_ h=>nomatch h⟩
 ·have hlm:len<=m:=aj
  rw[hc] at hx;by_cases h0:len=0
  ·subst h0;exact⟨[],⟨some a,cap,rfl,jD _,hm,.inl rfl⟩,jD _,λ_ h=>nomatch h⟩
  have one:∀i,i<len->∃d:O,(∃ec,w.cells? 0 (a.add (i*aN.n O)) (aN.n O)=some ec/\aN.rd (YO w) w ec d)/\fit d:=λi hi=>by obtain⟨ec,h1,h2⟩:=hx i aa;obtain⟨d,h3,h4⟩:=he h2;grind
  obtain⟨d0,_⟩:=one 0 aa;haveI:Inhabited O:=⟨d0⟩;obtain⟨f,hf⟩:=Go.Deep.choose_lt one;obtain⟨b,off,sp⟩:=a;refine⟨(List.range len).map f,⟨some ⟨b,off,sp⟩,cap,ae,aj,hm,?_⟩,ah,λx hx=>by
   grind⟩
  right;have sp0:sp=none:=by obtain⟨ec,h1,_⟩:=hx 0 aa;obtain⟨_,h2,h3⟩:=World.cells?_some h1;have h4:=h3 0 hn;rw[jC aa] at h4;have h5:=World.cell?_spot h4;grind[Addr.add]
  subst sp0;refine⟨b,off,rfl,λi hi=>?_⟩;have hi':i<len:=aj
  obtain⟨ec,h1,h2⟩:=(hf i hi').1;obtain⟨_,h3,h4⟩:=World.cells?_some h1;have hcell:bA w b (off+i*aN.n O) ec:=λj v hj=>by
   obtain⟨hj',_⟩:=AR.1 hj;have h5:=h4 j aa;rw[hj] at h5;have e:((⟨b,off,none⟩:Addr).add (i*aN.n O)).add j=⟨b,off+i*aN.n O+j,none⟩:=by rw[Go.Deep.add_add];grind[Addr.add]
   grind
  refine⟨ec,hcell,λo _=>?_,aj⟩;exact hcell.lt (λe=>aj)
theorem Trod.opens{H:Type}{enc:TypeId×Value->H}{spare:Nat->Bool}{held:Bool}{v:Value}{x:DataW H}{ps:List MemPlace}[aN O][Fits O](ho:OI P t O)(h:DataW.Trod enc P w 0 spare held t v x ps) :
  ∃d:O,aN.rd (YO w) w v.cells.toList d/\fit d:=by obtain⟨fuel,hf⟩:=h;exact ho hf
theorem St.below{w0:World}{L:List Chunk}{R:List Fact}(h:St (dZ w0) w' L R):Below w0.heap.size w0 w':=⟨h.keep.os,h.keep.tape,h.keep.output,h.keep.size,λk hk=>h.keep.block k hk λ_ hf=>hf⟩
end Go.Gv
end
noncomputable section
namespace Go.Gv
variable{op:BinOp}{c:Ctx}{i j:Int}{k:IntKind}{R:List Fact}{vs:List Value}{m n:Nat}{O:Type}{t z:TypeId}{s va:Value}{w:World}{F:cC}
section
variable {P:Program} {op:Op} {ty:TypeId} {ps:String} {af:Array Edge} {ops:Array Oper} {rest:List Oper} {Q:Exit->Act->World->Prop} {n d:Nat} {e:Env} {v:Value} {w w':World} {c:Ctx} {L:List Chunk} {R:List Fact}
theorem ey{N:Act->World->Prop}{X:Nat->Act->World->Prop}{T:Act->World->Prop}{fuel:Nat}{oR:Array Bool}(i:Nat)(hi:ops[i]?=some ⟨some d,op,ty,ps,af,none⟩)
  (hc:(Region.noSelect ops && (Region.free .any ops oR i && (Region.ready .any ops oR).contains i))=true) (hK:a5F c L R w) (hv:∀(L':List Chunk) (w':World),St c w' (L++L') R->eW P ⟨some d,op,ty,ps,af,none⟩ e w' v w') (hn:Nat.blt d n=true)
  (k:bBN P ops (mkQ N X T) (a5F c L R) fuel (oR.setIfInBounds i true) n ((d,v)::e) w):bBN P ops (mkQ N X T) (a5F c L R) (fuel+1) oR n e w:=by rw[uG,uG] at hc;grind[bJW,aS4]
end
def fAt(b off:Nat)(cs:List Value):Fact where
 P:=λS w=>bA w b off cs/\∀o,eS b off cs.length b o->S b o
 agree:=λ⟨h1,h2⟩ ha=>⟨h1.agree λo h3 h4=>ha b o (h2 o ⟨rfl,h3,h4⟩),h2⟩
 mono:=λ⟨h1,h2⟩ ha=>⟨h1,λo h=>ha b o (h2 o h)⟩
theorem bG0[aN O]{S:cC}{l:List O}(h:aN.rd S w [s] l){k:Nat}{x:O}(hk:l[k]?=some x):∃ec,(fAt (VJ s) (UL (aN.n O) k s) ec).P S w/\aN.rd S w ec x:=by
 obtain⟨ad,m,h1,h2,h3,h4⟩:=(show qV S w [s] l from h);obtain⟨hlt,hx⟩:=AR.1 hk;simp at h1;subst h1;rcases h4 with h4|⟨b,off,rfl,h4⟩
 ·grind
 ·obtain⟨ec,a1,a0,a2⟩:=h4 k hlt;have hn:ec.length=aN.n O:=aN.lP a2;exact⟨ec,⟨a1,λo ho=>a0 o ho⟩,hx ▸ a2⟩
theorem St.fat{L:List Chunk}{b off:Nat}{cs:List Value}(h:St c w L R)(j:Nat)(hj:R[j]?=some (fAt b off cs)):bA w b off cs:=(h.fact j hj).1
theorem bJY(off:Nat):∀(l:List Value) (k:Nat) (cells:Array Value),off+k+l.length<=cells.size ->
  ((l.zipIdx k).foldl (λcs (q:Value×Nat)=>cs.setIfInBounds (off+q.2) q.1) cells).toList=cells.toList.take (off+k)++l++cells.toList.drop (off+k+l.length)
 |[],k,cells,h=>ae
 |c::r,k,cells,h=>by
  have h':off+k<cells.size:=aj
  rw[List.zipIdx_cons,List.foldl_cons,bJY off r (k+1) _ aj];simp only[Array.toList_setIfInBounds];have e1:(cells.toList.set (off+k) c).take (off+(k+1))=cells.toList.take (off+k)++[c]:=by rw[show off+(k+1)=(off+k)+1 by omega,EA aj,List.take_set_of_le (iZ _),List.getElem_set_self]
  have e2:(cells.toList.set (off+k) c).drop (off+(k+1)+r.length)=cells.toList.drop (off+k+(c::r).length):=by rw[List.drop_set_of_lt aa];grind
  grind
theorem aS8(n:Nat):∀(vs:List Value) (i:Nat) (cells:Array Value),(∀v∈vs,v.cells.size=n)->cells.size=(i+vs.length)*n ->
  Instr.fill (λi=>some (i*n,n)) cells ((List.range' i vs.length).zip vs)=some (cells.toList.take (i*n)++vs.flatMap λv=>v.cells.toList).toArray
 |[],i,cells,_,h=>by simp_all[aF2,Instr.fill]
 |v::r,i,cells,hv,h=>by
  have hn:=hv v ZS;have hlen:(i+(r.length+1))*n=i*n+n+r.length*n:=aj
  have hsz:i*n+n<=cells.size:=aj
  have hb:=bJY (i*n) v.cells.toList 0 cells ah;have hf:v.cells.zipIdx.foldl (λcs (q:Value×Nat)=>cs.setIfInBounds (i*n+q.2) q.1) cells=(v.cells.toList.zipIdx 0).foldl (λcs (q:Value×Nat)=>cs.setIfInBounds (i*n+q.2) q.1) cells:=by grind[Array.toList_zipIdx]
  rw[<-hf] at hb;simp only[HA,List.range'_succ,List.zip_cons_cons,Instr.fill,hn];rw[aP ah];have hsize:(v.cells.zipIdx.foldl (λcs (q:Value×Nat)=>cs.setIfInBounds (i*n+q.2) q.1) cells).size=cells.size:=by grind[Array.length_toList]
  rw[aS8 n r (i+1) _ (λx hx=>hv x (lH _ hx)) aj,hb];congr 2;have e:(i+1)*n=i*n+n:=aj
  rw[e,UJ,List.take_append_of_le_length ah];grind
theorem aB7{ps:List (Nat×Operand)}{cells:List Value}{len:Nat}{F:Nat->Value}(h1:ps.map (·.1)=List.range' 0 len)(h0:vs.length=len)(h2:vs.all (λv=>v.cells.size == m)=true)(h3:(vs.flatMap λv=>v.cells.toList)=cells) :
  Instr.fill (λi=>some (i*m,m)) ((Array.range (len*m)).map F) ((ps.map (·.1)).zip vs)=some cells.toArray:=by subst h0;simp_all[aS8]
def bBX(n a b m:Nat):Value->Value
 |.slice ad _ _=>.slice (if m=a then ad else ad.map (·.add (a*n))) (b-a) (m-a)
 |v=>v
theorem bBY[aN O]{ad:Option Addr}{l:List O}{c:Nat}(h:aN.own w [.slice ad l.length c] l F)(h1:l.length<=m)(h2:m<=c)(h0:0<m):∃F',aN.own w [.slice ad l.length m] l F'/\∀b o,F' b o->F b o:=by
 obtain⟨ad',c',e,k1,k2,k3⟩:=mX.1 h;simp at e;obtain⟨rfl,rfl⟩:=e;rcases k3 with ⟨_,hc,_⟩|⟨bl,off,cc,Fe,rfl,hr,hc,ho,hd,hF⟩
 ·omega
 ·have hmul:m*aN.n O<=c*aN.n O:=uK _ h2;refine⟨λb' o=>eS bl off (m*aN.n O) b' o\/Fe b' o,MJ (λo p=>hr o ?_) hc ho (λb' o p q=>hd b' o p ?_) h1 aa,?_⟩
  ·obtain⟨p0,p1,p2⟩:=p;exact⟨p0,p1,aa⟩
  ·obtain⟨p0,p1,p2⟩:=q;exact⟨p0,p1,aa⟩
  ·rintro b' o (p|p)
   ·obtain⟨p0,p1,p2⟩:=p;exact(hF b' o).2 (.inl ⟨p0,p1,aa⟩)
   grind
theorem MB[aN O]{l:List O}(h:aN.own w [s] l F):∃ad c,s=.slice ad l.length c/\l.length<=c:=by grind[mX]
theorem a5X[aN O]{l:List O}{a b:Nat}(hn:aN.n O=n)(h:aN.own w [s] l F)(h1:a<=b)(h2:b<=m)(h3:m<=l.length):∃F',aN.own w [bBX n a b m s] ((l.take b).drop a) F'/\∀b o,F' b o->F b o:=by
 have hl:=yT h1 (lO h2 h3);obtain⟨ad,c,rfl,hc⟩:=MB h;by_cases hm:m=a
 ·have hb:b=a:=aa
  have hz:(l.take b).drop a=[]:=aj
  rw[hz];simp only[bBX,hm,hb,Nat.sub_self,bT];refine⟨F0,?_,λ_ _ h=>h.elim⟩;obtain⟨ad',c',e,k1,k2,k3⟩:=mX.1 h;simp at e;obtain⟨rfl,rfl⟩:=e;rcases k3 with ⟨rfl,hc0,_⟩|⟨bl,off,cc,Fe,rfl,_⟩
  ·exact⟨none,0,rfl,iZ _,jD _,.inl ⟨rfl,rfl,λ_ _ h=>h⟩⟩
  ·exact mX.2 ⟨some ⟨bl,off,none⟩,0,rfl,iZ _,jD _,.inr ⟨bl,off,[],F0,rfl,λo p=>by obtain⟨_,p1,p2⟩:=p;omega,λj v h=>by simp at h,⟨rfl,λ_ _ h=>h⟩,λ_ _ h=>h.elim,λb' o=>by
    simp[F0,eS]⟩⟩
 ·obtain⟨F1,k1,k2⟩:=aZF hn h h1 (lO h2 h3);have hca:c≠a:=aa
  have e:iV n a b (.slice ad l.length c)=.slice (ad.map (·.add (a*n))) ((l.take b).drop a).length (c-a):=by simp_all[iV]
  rw[e] at k1;obtain⟨F2,k3,k4⟩:=bBY (m:=m-a) k1 aa aa aa;refine⟨F2,?_,λb' o p=>k2 _ _ (k4 _ _ p)⟩;simp_all[bBX]
def cS{O:Type}(l:List O)(a:Nat)(xs:List O):List O:=l.take a++(xs.take (l.length-a)++l.drop (a+xs.length))
theorem eZ{l:List O}{a:Nat}{xs:List O}(h:a<=l.length):(cS l a xs).length=l.length:=by grind[cS]
theorem YP{l:List O}{a:Nat}{xs:List O}(h:a<=l.length){i:Nat}{x:O}(hx:(cS l a xs)[i]?=some x) :
  (a<=i/\i<a+min xs.length (l.length-a)/\xs[i-a]?=some x)\/((i<a\/a+min xs.length (l.length-a)<=i)/\l[i]?=some x):=by unfold cS at hx;rw[aFW] at hx;grind
theorem QW[aN O][Flat O](P:Program){w0:World}{S:cC}{b off cap a k:Nat}{l l':List O}{ncc:List Value}(h:aN.own w [.slice (some ⟨b,off,none⟩) l.length cap] l F)(hl':l'.length=l.length)(hk:ncc.length=k*aN.n O)(hak:a+k<=cap)(hone:∀v∈ncc,v.oneCell'=true)
  (hr:∀i x,l'[i]?=some x->(a<=i/\i<a+k/\aN.rd S w0 (J4 ncc (aN.n O) (i-a)) x)\/((i<a\/a+k<=i)/\l[i]?=some x)) :
  ∃w' G F',(storeCells ⟨b,off+a*aN.n O,none⟩ ncc).run P w=.ok () w'/\eK G w w'/\(∀b o,G b o->F b o)/\aN.own w' [.slice (some ⟨b,off,none⟩) l'.length cap] l' F'/\∀b o,F' b o->F b o:=by
 obtain⟨ad,c,e,k1,k2,k3⟩:=(show AV w [_] l F from h);simp at e;obtain⟨rfl,rfl⟩:=e;rcases k3 with ⟨h0,_,_⟩|⟨b2,off2,Fs,h0,hrow,hel,hd1,hd2,hFF⟩
 ·cases h0
 simp at h0;obtain⟨rfl,rfl⟩:=h0;have hmul:a*aN.n O+k*aN.n O<=cap*aN.n O:=by rw[<-oE];exact uK _ hak
 obtain⟨w',hst,hkp,hws,hcell⟩:=o9 (b:=b) P ncc w (off+a*aN.n O) 0 hone (λq _ hq=>hrow _ ⟨rfl,aa,aa⟩);refine⟨w',_,eS b off (cap*aN.n O),hst,hkp,λb' o' p=>(hFF b' o').2 (.inl ?_),?_,λb' o' p=>(hFF b' o').2 (.inl p)⟩
 ·obtain⟨e1,e2,e3⟩:=p;exact⟨e1,aa,aa⟩
 ·refine⟨_,cap,rfl,aa,k2,.inr ⟨b,off,λ_=>F0,rfl,λo' ho'=>⟨hkp.stay b o' (hrow o' ho').1,(hkp.wY b o' (jM (hrow o' ho').1)).trans (hrow o' ho').2⟩,λi hi=>?_,λ_ _ _ _ _ _ _ h _=>h,λ_ _ _ _ h _=>h,λb' o=>by simp[F0]⟩⟩;rcases hr i l'[i] (jC hi) with ⟨g1,g2,g3⟩|⟨g1,g2⟩
  ·refine⟨J4 ncc (aN.n O) (i-a),?_,Flat.own_of g3⟩;intro j v hj;have hlt:=(AR.1 hj).1;rw[aJQ hk aa] at hlt;rw[sS hlt] at hj;have:=hcell _ v hj;have hi2:i*aN.n O=a*aN.n O+(i-a)*aN.n O:=by rw[<-oE];grind
   rw[show off+i*aN.n O+j=off+a*aN.n O+0+((i-a)*aN.n O+j) from by omega];exact this
  ·obtain⟨hi0,hx⟩:=AR.1 g2;obtain⟨ec,c1,c2⟩:=hel i hi0;have hrd:=aN.own_rd c2;have hn:=aN.lP hrd;refine⟨ec,?_,hx ▸ Flat.own_of hrd⟩;intro j v hj;have hlt:=(AR.1 hj).1;have hc:=c1 j v hj;have hi2:(i+1)*aN.n O=i*aN.n O+aN.n O:=aj
   rw[hkp.cell b (off+i*aN.n O+j) (World.block_lt_of_cell? w _ hc) (λhh=>by
    obtain⟨_,e2,e3⟩:=hh;rw[hk] at e3;rcases g1 with g1|g1
    ·have:(i+1)*aN.n O<=a*aN.n O:=uK _ aa;omega
    ·have:(a+k)*aN.n O<=i*aN.n O:=uK _ g1;grind)]
   exact hc
section
variable {v:Value} {i j:Int} {P:Program} {o:Oper} {e:Env} {w w':World} {c:Ctx} {L:List Chunk} {R:List Fact} {x y z:Operand} {t t2 el:TypeId}
theorem aZH[aN O][Flat O]{s2:Value}{l xs:List O}{a:Nat}(m:Nat)(hS:St c w L R)(hm:L[m]?=some (eU [s] l))(hsrc:aN.rd (YO w) w [s2] xs)(hn:aN.n O=n)(ha:a<=l.length)(hu:P.underlying t=some (.slice el))(hz:∀w,(sizeOf el).run P w=.ok n w)
  (ho:o.op=.call {callee:=.builtin .copy,args:=#[x,y],argTypes:=#[t,t2]}) (hx:ev e x=some (iV n a l.length s)) (hy:ev e y=some s2) :
  ∃v w',eW P o e w v w'/\(v=.int .i64 ((min xs.length (l.length-a):Nat):Int)/\St c w' (L.set m (eU [s] (cS l a xs))) R):=by
 subst hn;obtain⟨ad2,c2,cc2,rfl,hl2,hc2,hr2⟩:=MI hsrc;obtain⟨F,hF⟩:=hS.chunk m hm;have hF:aN.own w [s] l F:=hF;obtain⟨ad,cap,rfl,hlc⟩:=MB hF;have hk:(cc2.take (min xs.length (l.length-a)*aN.n O)).length=min xs.length (l.length-a)*aN.n O:=by simp_all
 have hfirst:(Builtin.firstCells (aN.n O) (min xs.length (l.length-a)) (.slice ad2 xs.length c2)).run P w=.ok (cc2.take (min xs.length (l.length-a)*aN.n O)).toArray w:=by
  rcases hc2 with h|⟨b,off,rfl,h⟩
  ·subst h;have h0:cc2=[]:=uJ aj;subst h0;cases ad2<;>simp[Builtin.firstCells,loadCells,loadCellsFrom]
  grind[bA,rH,Builtin.firstCells]
 have hone:∀v∈cc2.take (min xs.length (l.length-a)*aN.n O),v.oneCell'=true:=λv hv=>aIF hl2 hr2 v (a44 hv);have hexec:∀(w':World),(Builtin.copy_ #[t,t2] o.type #[iV (aN.n O) a l.length (.slice ad l.length cap),.slice ad2 xs.length c2]).run P w=.ok (.int .i64 ((min xs.length (l.length-a):Nat):Int)) w'->eW P o e w (.int .i64 ((min xs.length (l.length-a):Nat):Int)) w':=by intro w' h _ a' hA;simp[execOp,ho,resolve,invoke,builtin,hA.eval hx,hA.eval hy,h]
 have hmn:Nat.min xs.length (l.length-a)=min xs.length (l.length-a):=rfl;obtain⟨ad',cap',he,_,_,hrest⟩:=(show AV w [_] l F from hF);simp at he;obtain⟨rfl,rfl⟩:=he;by_cases h0:min xs.length (l.length-a)=0
 ·
  have hsame:cS l a xs=l:=by
   unfold cS;by_cases h1:xs.length=0
   ·simp_all
   ·have h2:l.length=a:=aa
    rw[<-h2];simp
  rw[hsame];have hcz:cc2.take (min xs.length (l.length-a)*aN.n O)=[]:=aj
  rw[hcz] at hfirst;refine⟨_,w,hexec _ ?_,rfl,?_⟩
  ·rw[h0] at hfirst ⊢;have hmn0:Nat.min xs.length (l.length-a)=0:=h0;cases ad with
   |none=>simp[Builtin.copy_,run_underlying hu,iV,Builtin.lenOf,hz,hmn0,hfirst,goInt]
   |some a0=>
    by_cases hca:cap=a
    ·simp[Builtin.copy_,run_underlying hu,iV,hca,Builtin.lenOf,hz,hmn0,hfirst,goInt,storeCells]
    ·simp[Builtin.copy_,run_underlying hu,iV,hca,Builtin.lenOf,hz,hmn0,hfirst,goInt,storeCells]
  ·refine hS.aEG m hm λF hF=>⟨F,F0,eK.refl _ _,λ_ _ h=>h.elim,hF,λ_ _ h=>.inl h⟩
 ·have hca:cap≠a:=aa
  rcases hrest with ⟨_,hc0,_⟩|⟨b,off,Fs,rfl,_⟩
  ·omega
  have hadd:(⟨b,off,none⟩:Addr).add (a*aN.n O)=⟨b,off+a*aN.n O,none⟩:=by grind[Addr.add]
  have hbl:=QW P (S:=YO w) (w0:=w) (a:=a) (k:=min xs.length (l.length-a)) (l':=cS l a xs) hF (eZ ha) hk aa hone (λi x hx=>by
   rcases YP ha hx with ⟨g1,g2,g3⟩|g
   ·refine .inl ⟨g1,g2,?_⟩;have hs:J4 (cc2.take (min xs.length (l.length-a)*aN.n O)) (aN.n O) (i-a)=J4 cc2 (aN.n O) (i-a):=by
     apply ZQ;intro p;by_cases hp:p<aN.n O
     ·have:(i-a+1)*aN.n O<=min xs.length (l.length-a)*aN.n O:=uK _ aa;rw[oE] at this;rw[sS hp,sS hp,aBZ,aO aa]
     grind[J4]
    grind
   grind)
  obtain⟨w',G,F',hst,hkp,hGF,hown,hFF⟩:=hbl;refine⟨_,w',hexec w' ?_,rfl,?_⟩
  ·simp[Builtin.copy_,run_underlying hu,iV,hca,Builtin.lenOf,hz,hmn,hfirst,hadd,hst,goInt]
  ·refine hS.aEG m hm λF2 hF2=>?_;have hF2:aN.own w [.slice (some ⟨b,off,none⟩) l.length cap] l F2:=hF2;have hbl2:=QW P (S:=YO w) (w0:=w) (a:=a) (k:=min xs.length (l.length-a)) (l':=cS l a xs) hF2 (eZ ha) hk aa hone (λi x hx=>by
    rcases YP ha hx with ⟨g1,g2,g3⟩|g
    ·refine .inl ⟨g1,g2,?_⟩;have hs:J4 (cc2.take (min xs.length (l.length-a)*aN.n O)) (aN.n O) (i-a)=J4 cc2 (aN.n O) (i-a):=by
      apply ZQ;intro p;by_cases hp:p<aN.n O
      ·have:(i-a+1)*aN.n O<=min xs.length (l.length-a)*aN.n O:=uK _ aa;rw[oE] at this;rw[sS hp,sS hp,aBZ,aO aa]
      grind[J4]
     grind
    grind)
   obtain⟨w2,G2,F3,hst2,hkp2,hGF2,hown2,hFF2⟩:=hbl2;rw[hst] at hst2;cases hst2;rw[eZ ha] at hown2;exact⟨F3,G2,hkp2,hGF2,hown2,λb' o' p=>.inl (hFF2 b' o' p)⟩
theorem a5Y[aN O]{w:World}{l:List O}(h:aN.own w [s] l F):iV n 0 l.length s=s:=by obtain⟨ad,c,rfl,_⟩:=MB h;simp[iV,Addr.add]
theorem a5Z[aN O][Flat O]{s2:Value}{l xs:List O}(m:Nat)(hS:St c w L R)(hm:L[m]?=some (eU [s] l))(hsrc:aN.rd (YO w) w [s2] xs)(hn:aN.n O=n)(hu:P.underlying t=some (.slice el))(hz:∀w,(sizeOf el).run P w=.ok n w)
  (ho:o.op=.call {callee:=.builtin .copy,args:=#[x,y],argTypes:=#[t,t2]}) (hx:ev e x=some s) (hy:ev e y=some s2) :
  ∃v w',eW P o e w v w'/\(v=.int .i64 ((min xs.length (l.length-0):Nat):Int)/\St c w' (L.set m (eU [s] (cS l 0 xs))) R):=by obtain⟨F,hF⟩:=hS.chunk m hm;exact aZH m hS hm hsrc hn (jD _) hu hz ho (by rw[a5Y (show aN.own w [s] l F from hF)];exact hx) hy
end
theorem idx_eq{l:List O}(h0:0<=i)(h1:i<l.length):idx l i=some (l[i.toNat]' aa):=by simp_all[idx]
theorem aZ{l:List O}{k:Nat}(h1:k<l.length):idx l (k:Int)=some l[k]:=by simp[idx]
theorem b7{p:Prop}[Decidable p](h:p)(k:Option O):need p k=k:=by simp_all[need]
theorem PL{x:Int}(h:-9223372036854775808<=x/\x<=9223372036854775807):aY x=x:=by grind[IntKind.wrap,IntKind.bits,IntKind.signed]
theorem sV{x:Nat}(h:x<maxLen):aY ((x:Int)+1)=((x+1:Nat):Int):=by have h2:x<9223372036854775807:=h;grind[PL]
theorem aQL{ρ:Type}{f:Int->Option (Step Int ρ)}(n:Nat)(g:Nat->ρ)
  (h:∀k:Nat,k<=n->f k=some (.stop (g k))\/(k<n/\f k=some (.next ((k+1:Nat):Int))/\g k=g (k+1))):∀k:Nat,k<=n->loop f (k:Int)=some (g k):=by
 intro k hk;obtain⟨d,rfl⟩:∃d,n=k+d:=⟨n-k,aa⟩;induction d generalizing k with
 |zero=>
  grind[bB]
 |succ d ih=>
  rcases h k hk with h1|⟨h1,h2,h3⟩
  ·exact bB h1
  grind[bG]
theorem V7{l:List O}{k:Nat}(h:k<l.length)(hm:l.length<=maxLen):k<maxLen:=aa
def aZI(O:Type)(n:Int):Option (List O):=need (0<=n/\n<=1073741824) (if decide (n<0)=true then none else if decide (0<aY (n-aY (0-0)))=true then some [] else some [])
section
variable {v:Value} {i j:Int} {P:Program} {o:Oper} {e:Env} {w w':World} {c:Ctx} {L:List Chunk} {R:List Fact} {x y z:Operand} {t t2 el:TypeId}
theorem QX{b off:Nat}:(⟨b,off,none⟩:Addr).add n=⟨b,off+n,none⟩:=by grind[Addr.add]
theorem aEJ[aN O]{l:List O}(h:aN.own w [s] l F):∃ad cap cc,s=.slice ad l.length cap/\l.length<=cap/\cc.length=l.length*aN.n O/\((ad=none/\cap=0/\l=[])\/∃b off,ad=some ⟨b,off,none⟩/\bA w b off cc)/\∀i x,l[i]?=some x->aN.rd (YO w) w (J4 cc (aN.n O) i) x:=by
 have hr:aN.rd (YO w) w [s] l:=aN.rd_mono (aN.own_rd h) λb o hf=>aN.own_lt h hf;obtain⟨ad,cap,cc,rfl,h1,h2,h3⟩:=MI hr;obtain⟨ad',cap',e,k1,k2,k3⟩:=mX.1 h;simp at e;obtain⟨rfl,rfl⟩:=e;refine⟨ad,cap,cc,rfl,k1,h1,?_,h3⟩;rcases k3 with ⟨rfl,rfl,_⟩|⟨b,off,cc2,Fe,rfl,_⟩
 ·grind
 ·right;rcases h2 with h2|⟨b2,off2,h2,h4⟩
  ·subst h2;have:cc=[]:=uJ aj;subst this;exact⟨b,off,rfl,λj v hj=>by simp at hj⟩
  grind
theorem aWT[aN O][Flat O]{l:List O}{a b:Nat}(m:Nat)(hS:St c w L R)(hm:L[m]?=some (eU [s] l))(hn:aN.n O=n)(hab:a<=b)(hb:b<=l.length)(hu:P.underlying t=some (.slice el))(hz:∀w,(sizeOf el).run P w=.ok n w)
  (ho:o.op=.call {callee:=.builtin .append,args:=#[x,y],argTypes:=#[t,t]}) (hx:ev e x=some (iV n 0 a s)) (hy:ev e y=some (iV n b l.length s)) :
  ∃v w',eW P o e w v w'/\(v=iV n 0 (a+(l.length-b)) s/\St c w' (L.set m (eU [s] (cS l a (l.drop b)))) R):=by
 subst hn;obtain⟨F,hF⟩:=hS.chunk m hm;have hF:aN.own w [s] l F:=hF;obtain⟨ad,cap,cc,rfl,hlc,hcc,had,hrd⟩:=aEJ hF;have hexec:∀(v:Value) (w':World),(Builtin.append_ #[t,t] o.type #[iV (aN.n O) 0 a (.slice ad l.length cap),iV (aN.n O) b l.length (.slice ad l.length cap)]).run P w=.ok v w'->eW P o e w v w':=by intro v w' h _ a' hA;simp[execOp,ho,resolve,invoke,builtin,hA.eval hx,hA.eval hy,h]
 rcases had with ⟨rfl,rfl,rfl⟩|⟨bl,off,rfl,hcells⟩
 ·have ha:a=0:=aa
  have hb0:b=0:=aa
  subst ha;subst hb0;refine⟨_,w,hexec (iV (aN.n O) 0 0 (.slice none 0 0)) w ?_,rfl,?_⟩
  ·simp[Builtin.append_,run_underlying hu,iV,Builtin.lenOf,hz,Builtin.firstCells]
  ·have:cS ([]:List O) 0 (([]:List O).drop 0)=[]:=rfl;rw[this];exact hS.aEG m hm λF hF=>⟨F,F0,eK.refl _ _,λ_ _ h=>h.elim,hF,λ_ _ h=>.inl h⟩
 ·
  have hk:(cc.drop (b*aN.n O)).length=(l.length-b)*aN.n O:=by grind[Nat.sub_mul]
  have hfirst:∀q,(Builtin.firstCells (aN.n O) (l.length-b) (.slice (if cap=b then some ⟨bl,off,none⟩ else some ⟨bl,off+b*aN.n O,none⟩) (l.length-b) q)).run P w=.ok (cc.drop (b*aN.n O)).toArray w:=by
   intro q;by_cases h0:l.length-b=0
   ·have:cc.drop (b*aN.n O)=[]:=uJ aj;rw[this,h0];split<;>simp[Builtin.firstCells,loadCells,loadCellsFrom]
   ·have hcb:cap≠b:=aa
    rw[aP hcb];refine HN (O:=O) hk (.inr ⟨bl,off+b*aN.n O,rfl,λp v hp=>?_⟩);rw[aFX] at hp;have:=hcells _ v hp;grind
  have hone:∀v∈cc.drop (b*aN.n O),v.oneCell'=true:=λv hv=>aIF hcc hrd v (OH hv);have hdl:(l.drop b).length=l.length-b:=UH;have hget:∀i x,(cS l a (l.drop b))[i]?=some x->(a<=i/\i<a+(l.length-b)/\aN.rd (YO w) w (J4 (cc.drop (b*aN.n O)) (aN.n O) (i-a)) x)\/((i<a\/a+(l.length-b)<=i)/\l[i]?=some x):=by
   intro i x hx;have hmin:min (l.drop b).length (l.length-a)=l.length-b:=aa
   grind[YP,J4,List.drop_drop,oE]
  have hroom:a+(l.length-b)<=cap:=aa
  obtain⟨w',G,F',hst,hkp,hGF,hown,hFF⟩:=QW P (S:=YO w) (w0:=w) (a:=a) (k:=l.length-b) (l':=cS l a (l.drop b)) hF (eZ aa) hk hroom hone hget;have hv1:iV (aN.n O) 0 a (.slice (some ⟨bl,off,none⟩) l.length cap)=.slice (some ⟨bl,off,none⟩) a cap:=by simp[iV,QX]
  have hv2:iV (aN.n O) b l.length (.slice (some ⟨bl,off,none⟩) l.length cap)=.slice (if cap=b then some ⟨bl,off,none⟩ else some ⟨bl,off+b*aN.n O,none⟩) (l.length-b) (cap-b):=by grind[iV,QX]
  have hv3:iV (aN.n O) 0 (a+(l.length-b)) (.slice (some ⟨bl,off,none⟩) l.length cap)=.slice (some ⟨bl,off,none⟩) (a+(l.length-b)) cap:=by simp[iV,QX]
  refine⟨_,w',hexec (.slice (some ⟨bl,off,none⟩) (a+(l.length-b)) cap) w' ?_,hv3.symm,?_⟩
  ·rw[hv1,hv2];simp[Builtin.append_,run_underlying hu,Builtin.lenOf,hz,hfirst,hroom,QX,hst]
  ·refine hS.aEG m hm λF2 hF2=>?_;have hF2:aN.own w [.slice (some ⟨bl,off,none⟩) l.length cap] l F2:=hF2;obtain⟨w2,G2,F3,hst2,hkp2,hGF2,hown2,hFF2⟩:=QW P (S:=YO w) (w0:=w) (a:=a) (k:=l.length-b) (l':=cS l a (l.drop b)) hF2 (eZ aa) hk hroom hone hget;rw[hst] at hst2;cases hst2;rw[eZ aa] at hown2;exact⟨F3,G2,hkp2,hGF2,hown2,λb' o' p=>.inl (hFF2 b' o' p)⟩
theorem a50{a b k:Nat}(h:(∃len cap,s=.slice none len cap/\cap=0/\a=0)\/∃bl off len cap,s=.slice (some ⟨bl,off,none⟩) len cap):iV n a b (iV n 0 k s)=iV n a b s:=by
 rcases h with ⟨len,cap,rfl,rfl,rfl⟩|⟨bl,off,len,cap,rfl⟩
 ·simp[iV]
 ·simp only[iV,Option.map_some,Nat.zero_mul,QX,UJ,Nat.sub_zero,ite_self]
theorem a51[aN O]{l:List O}{a b k:Nat}(h:aN.own w [s] l F)(hab:a<=b)(hb:b<=l.length):iV n a b (iV n 0 k s)=iV n a b s:=by grind[aEJ,a50]
theorem aWU[aN O]{l:List O}{k':Nat}{k2:IntKind}(m:Nat)(hS:St c w L R)(hm:L[m]?=some (eU [s] l))(hn:aN.n O=n)(hu:P.underlying t=some (.slice el))(hz:∀w,(sizeOf el).run P w=.ok n w)(hb:0<=i/\i<=j/\j<=l.length)(ho:o.op=.slice t x (some y) (some z) none)(hx:ev e x=some (iV n 0 k' s))(hy:ev e y=some (.int k i))(hw:ev e z=some (.int k2 j)):eW P o e w (iV n i.toNat j.toNat s) w:=λ_ a hA=>by
 obtain⟨F,hF⟩:=hS.chunk m hm;have hF:aN.own w [s] l F:=hF;obtain⟨b0,b1,b2⟩:=hb;rw[<-a51 (k:=k') hF (show i.toNat<=j.toNat by omega) aa];obtain⟨ad,cp,rfl,hc⟩:=MB hF;have h1:j<=(cp:Int):=aa
 have h3:0<=j:=aa
 have h2:max j 0=j:=aa
 simp[execOp,ho,Instr.sliceAt,Instr.slice,run_underlying hu,Instr.sliceBounds,hA.eval hx,hA.eval hy,hA.eval hw,Instr.sliceBound,asIntOf,hz,b0,b1,h1,h2,h3,iV]
theorem aS9{zc:Array Value}{k i:Nat}(hz:zc.size=n)(hi:i<k):J4 (Builtin.zeroCells zc k).toList n i=zc.toList:=by have hmul:(i+1)*n<=k*n:=uK n aa;rw[oE] at hmul;apply ZQ;grind[Nat.mul_comm,Nat.mul_add_mod,Nat.mod_eq_of_lt,Builtin.zeroCells,J4]
theorem a52[aN O][Flat O]{zv:Value}{l:List O}{a b:Nat}(zd:O)(m:Nat)(hS:St c w L R)(hm:L[m]?=some (eU [s] l))(hn:aN.n O=n)(hab:a<=b)(hb:b<=l.length)(hu:P.underlying t=some (.slice el))(hinf:SJ P el n zv)(hzs:zv.cells.size=n)(hzd:∀w,aN.rd F0 w zv.cells.toList zd)(hone:∀v∈zv.cells.toList,v.oneCell'=true)
  (ho:o.op=.call {callee:=.builtin .clear,args:=#[x],argTypes:=#[t]}) (hx:ev e x=some (iV n a b s)) :
  ∃v w',eW P o e w v w'/\(v=.tuple #[]/\St c w' (L.set m (eU [s] (cS l a (List.replicate (b-a) zd)))) R):=by
 subst hn;obtain⟨ti,hti,hz,hsz,hby⟩:=hinf;obtain⟨F,hF⟩:=hS.chunk m hm;have hF:aN.own w [s] l F:=hF;obtain⟨ad,cap,cc,rfl,hlc,hcc,had,hrd⟩:=aEJ hF;have hexec:∀(w':World),(Builtin.clear_ #[t] o.type #[iV (aN.n O) a b (.slice ad l.length cap)]).run P w=.ok (.tuple #[]) w'->eW P o e w (.tuple #[]) w':=by intro w' h _ a' hA;simp[execOp,ho,resolve,invoke,builtin,hA.eval hx,h]
 by_cases h0:b-a=0
 ·have hsame:cS l a (List.replicate (b-a) zd)=l:=by simp_all[cS]
  rw[hsame];refine⟨_,w,hexec w ?_,rfl,hS.aEG m hm λF hF=>⟨F,F0,eK.refl _ _,λ_ _ h=>h.elim,hF,λ_ _ h=>.inl h⟩⟩;rcases had with ⟨rfl,rfl,rfl⟩|⟨bl,off,rfl,_⟩
  ·simp_all[Builtin.clear_,run_underlying,iV]
  ·by_cases hca:cap=a<;>simp[Builtin.clear_,run_underlying hu,iV,hca,h0]
 ·rcases had with ⟨rfl,rfl,rfl⟩|⟨bl,off,rfl,hcells⟩
  ·omega
  have hca:cap≠a:=aa
  have hk:(Builtin.zeroCells zv.cells (b-a)).toList.length=(b-a)*aN.n O:=by grind[size_zeroCells]
  have hone2:∀v∈(Builtin.zeroCells zv.cells (b-a)).toList,v.oneCell'=true:=by
   intro v hv;obtain⟨p,hp,rfl⟩:=aF0.1 hv;have hn0:0<aN.n O:=by rcases Nat.eq_zero_or_pos (aN.n O) with h|h;rw[hk,h] at hp;omega;exact h
   have hp2:p<(b-a)*aN.n O:=by rw[<-hk];exact hp
   have hi:p/aN.n O<b-a:=Nat.div_lt_of_lt_mul (by rw[Nat.mul_comm];exact hp2);have hs:=aS9 (k:=b-a) hzs hi;have hpe:p/aN.n O*aN.n O+p % aN.n O=p:=by rw[Nat.mul_comm];exact Nat.div_add_mod p (aN.n O)
   have hg:=sS (cc:=(Builtin.zeroCells zv.cells (b-a)).toList) (n:=aN.n O) (i:=p/aN.n O) (j:=p % aN.n O) (Nat.mod_lt _ hn0);rw[hs,hpe,jC hp] at hg;exact hone _ (D9 hg)
  have hget:∀i x,(cS l a (List.replicate (b-a) zd))[i]?=some x->(a<=i/\i<a+(b-a)/\aN.rd F0 w (J4 (Builtin.zeroCells zv.cells (b-a)).toList (aN.n O) (i-a)) x)\/((i<a\/a+(b-a)<=i)/\l[i]?=some x):=by
   intro i x hx;have hmin:min (List.replicate (b-a) zd).length (l.length-a)=b-a:=ah
   rcases YP aa hx with ⟨g1,g2,g3⟩|⟨g1,g2⟩
   ·rw[hmin] at g2;rw[List.getElem?_replicate,aO aa] at g3;simp at g3;subst g3;refine .inl ⟨g1,g2,?_⟩;rw[aS9 hzs aa];exact hzd w
   ·rw[hmin] at g1;exact .inr ⟨g1,g2⟩
  obtain⟨w',G,F',hst,hkp,hGF,hown,hFF⟩:=QW P (S:=F0) (w0:=w) (a:=a) (k:=b-a) (l':=cS l a (List.replicate (b-a) zd)) hF (eZ aa) hk aa hone2 hget;refine⟨_,w',hexec w' ?_,rfl,?_⟩
  ·obtain⟨q,hq⟩:∃q,b-a=q+1:=⟨b-a-1,aa⟩;rw[hq] at hst;simp[Builtin.clear_,run_underlying hu,iV,hca,hq,QX,zeroValue,typeInfo,hti,hz,hst]
  ·refine hS.aEG m hm λF2 hF2=>?_;have hF2:aN.own w [.slice (some ⟨bl,off,none⟩) l.length cap] l F2:=hF2;obtain⟨w2,G2,F3,hst2,hkp2,hGF2,hown2,hFF2⟩:=QW P (S:=F0) (w0:=w) (a:=a) (k:=b-a) (l':=cS l a (List.replicate (b-a) zd)) hF2 (eZ aa) hk aa hone2 hget;rw[hst] at hst2;cases hst2;rw[eZ aa] at hown2;exact⟨F3,G2,hkp2,hGF2,hown2,λb' o' p=>.inl (hFF2 b' o' p)⟩
end
structure AC where
 a:Option Addr
 c:Nat
abbrev AC.v(s:AC)(n:Nat):Value:=.slice s.a n s.c
inductive SV where
 |i (k:IntKind) (x:Int)
 |y (b:UInt8)
 |b (c:Bool)
 |l (c:Bool)
 |s (l:List UInt8)
 |p (n o:Nat)
 |h (s:AC) (n:Nat)
 |e (s:AC) (n i o:Nat)
 |k (x:Value)
 |g (cs:List SV)
 |t (cs:List SV)
 |f (f:FuncId) (cs:List Nat)
 |u
variable{x:SV}
abbrev SE:=List (Nat×SV)
inductive Ch where
 |box (n:Nat) (cs:List SV)
 |ro (n:Nat) (cs:List SV)
 |o (c:Chunk)
 |f (f:Fact)
 |no
 |w (n b z:Nat)
variable{L':List Ch}
inductive TK where
 |i (k:IntKind)
 |b
 |st (fs:List (Nat×Nat))
 |s
 |sl (el:Nat)
 |x
structure TI where
 d:TK
 a:Bool
 n:Nat
 z:List SV
abbrev TT:=List (Nat×TI)
def wW:TT->Nat->Option TI
 |[],_=>none
 |(k,v)::r,n=>match Nat.beq n k with
  |true=>some v
  |false=>wW r n
def CV:SE->Nat->Option SV
 |[],_=>none
 |(k,v)::r,n=>match Nat.beq n k with
  |true=>some v
  |false=>CV r n
def aT{O β:Type}(f:O->Option β):List O->Option (List β)
 |[]=>some []
 |x::r=>match f x with
  |none=>none
  |some y=>match aT f r with
   |none=>none
   |some ys=>some (y::ys)
def one?(v:Value):Option SV:=match v.oneCell' with
 |true=>some (.k v)
 |false=>none
def a53(n:Nat):Option SV:=match Nat.blt n 256 with
 |true=>some (.y (UInt8.ofNat n))
 |false=>none
def ofC:Value->Option SV
 |.int .u8 (.ofNat n)=>a53 n
 |.int k n=>some (.i k n)
 |.bool c=>some (.l c)
 |.string s=>some (.s s.data.toList)
 |.slice a n c=>some (.h ⟨a,c⟩ n)
 |.agg _=>none
 |v=>one? v
def iG(e:SE):Operand->Option SV
 |.tmp t=>CV e t
 |.const v=>ofC v
 |.global _=>none
 |.func f=>some (.f f [])
def rI:SV->Option (IntKind×Int)
 |.i k x=>some (k,x)
 |.y b=>some (.u8,(b.toNat:Int))
 |_=>none
def bBZ(op:BinOp)(k:IntKind)(x y:Int)(yo:Operand):Option SV:=match op with
 |.add=>some (.i k (k.wrap (x+y)))
 |.sub=>some (.i k (k.wrap (x-y)))
 |.mul=>some (.i k (k.wrap (x*y)))
 |.lss=>some (.b (decide (x<y)))
 |.leq=>some (.b (decide (x<=y)))
 |.gtr=>some (.b (decide (y<x)))
 |.geq=>some (.b (decide (y<=x)))
 |.eql=>some (.b (x == y))
 |.neq=>some (.b (x != y))
 |.and=>some (.i k (iI .and k x y))
 |.or=>some (.i k (iI .or k x y))
 |.xor=>some (.i k (iI .xor k x y))
 |.andNot=>some (.i k (iI .andNot k x y))
 |.quo=>match yo with
  |.const (.int _ (.ofNat (_+1)))=>some (.i k (k.wrap (x.tdiv y)))
  |.const (.int _ (.negSucc _))=>some (.i k (k.wrap (x.tdiv y)))
  |_=>none
 |.rem=>match yo with
  |.const (.int _ (.ofNat (_+1)))=>some (.i k (x.tmod y))
  |.const (.int _ (.negSucc _))=>some (.i k (x.tmod y))
  |_=>none
 |_=>none
def shI(op:BinOp)(k:IntKind)(x y:Int)(yo:Operand):Option SV:=match op with
 |.shl=>match yo with
  |.const (.int _ (.ofNat _))=>some (.i k (aJN k x y))
  |_=>none
 |.shr=>match yo with
  |.const (.int _ (.ofNat _))=>some (.i k (o8 k x y))
  |_=>none
 |_=>none
def aZJ:SV->Option Bool
 |.b c=>some c
 |.l c=>some c
 |_=>none
def bin(T:TT)(op:BinOp)(t:TypeId)(x y:SV)(yo:Operand):Option SV:=
 match rI x,rI y with
 |some (k,a),some (k',c)=>match op with
  |.shl=>shI op k a c yo
  |.shr=>shI op k a c yo
  |_=>match decEq k k' with
   |.isTrue _=>bBZ op k a c yo
   |.isFalse _=>none
 |_,_=>match x,y with
  |.s a,.s c=>match op with
   |.eql=>some (.b (a == c))
   |.neq=>some (.b (!(a == c)))
   |_=>none
  |_,_=>match aZJ x,aZJ y,wW T t with
   |some a,some c,some ⟨.b,_,_,_⟩=>match op with
    |.eql=>some (.b (a == c))
    |.neq=>some (.b (!(a == c)))
    |_=>none
   |_,_,_=>none
def conv(T:TT)(s t:TypeId)(x:SV):Option SV:=match wW T s,wW T t with
 |some _,some ⟨.i k',_,_,_⟩=>match x with
  |.i _ a=>match k' with
   |.u8=>some (.y (u8 a))
   |_=>some (.i k' (k'.wrap a))
  |.y b=>match k' with
   |.i64=>some (.i .i64 (b.toNat:Int))
   |_=>none
  |_=>none
 |_,_=>none
def bB0(T:TT)(t:TypeId)(ix:Nat):Option Nat:=match wW T t with
 |some ⟨.st fs,_,_,_⟩=>match fs[ix]? with
  |some (o,_+1)=>some o
  |_=>none
 |_=>none
def a54(T:TT)(t:TypeId)(x:SV)(ix:Nat):Option SV:=match x with
 |.p n o=>match bB0 T t ix with
  |some k=>some (.p n (o+k))
  |none=>none
 |.e s n i o=>match bB0 T t ix with
  |some k=>some (.e s n i (o+k))
  |none=>none
 |_=>none
def HC(n:Nat):List Ch->Option (List SV)
 |[]=>none
 |.box k cs::L=>match Nat.beq n k with
  |true=>some cs
  |false=>HC n L
 |.ro k cs::L=>match Nat.beq n k with
  |true=>some cs
  |false=>HC n L
 |_::L=>HC n L
def frc{O:Type}:List O->Option (List O)
 |[]=>some []
 |x::r=>match frc r with
  |some s=>some (x::s)
  |none=>none
def mH:SV->List SV
 |.g cs=>cs
 |x=>[x]
def isCells:SV->Bool
 |.t _=>false
 |.f _ _=>false
 |.u=>false
 |_=>true
def aO3(T:TT)(t:TypeId)(p:SV)(L:List Ch):Option SV:=match p with
 |.p n o=>match HC n L,wW T t with
  |some cs,some ⟨_,true,m,_⟩=>match Nat.ble (o + m) cs.length with
   |true=>match frc ((cs.drop o).take m) with
    |some ds=>some (.g ds)
    |none=>none
   |false=>none
  |some cs,some ⟨_,false,_,_⟩=>cs[o]?
  |_,_=>none
 |_=>none
def a55(cs:List SV)(o:Nat):List SV->List SV
 |[]=>cs
 |v::vs=>a55 (cs.set o v) (o+1) vs
def ovw:List SV->Nat->List SV->List SV
 |[],_,_=>[]
 |c::cs,n+1,vs=>c::ovw cs n vs
 |c::cs,0,vs=>match vs with
  |[]=>c::cs
  |v::vs=>v::ovw cs 0 vs
def aQM(e:SE)(fs:List (Nat×Nat)):List (Nat×Operand)->List SV->Option (List SV)
 |[],cs=>some cs
 |(ix,o)::r,cs=>match fs[ix]?,iG e o with
  |some (f,m),some v=>match isCells v,Nat.beq (mH v).length m,Nat.ble (f + m) cs.length with
   |true,true,true=>match frc (ovw cs f (mH v)) with
    |some cs'=>aQM e fs r cs'
    |none=>none
   |_,_,_=>none
  |_,_=>none
def aWV(T:TT)(e:SE)(t:TypeId)(ps:List (Nat×Operand)):Option SV:=match wW T t with
 |some ⟨.st fs,true,_,z⟩=>match aQM e fs ps z with
  |some cs=>some (.g cs)
  |none=>none
 |_=>none
def bJZ(k:TK)(x:SV):Option SV:=match x with
 |.h _ n=>match k with
  |.sl _=>some (.i .i64 (n:Int))
  |_=>none
 |.s l=>match k with
  |.s=>some (.i .i64 (l.length:Int))
  |_=>none
 |_=>none
def ev1(T:TT)(e:SE)(L:List Ch):Op->Option SV
 |.move x=>iG e x
 |.assign x=>iG e x
 |.nilCheck x=>match iG e x with
  |some (.p n o)=>some (.p n o)
  |some (.e s n i o)=>some (.e s n i o)
  |some (.f f cs)=>some (.f f cs)
  |some (.k (.func (.func f) a b))=>some (.k (.func (.func f) a b))
  |_=>none
 |.pick c a b=>match iG e c with
  |some (.l true)=>iG e a
  |some (.l false)=>iG e b
  |_=>none
 |.unOp .not _ x=>match iG e x with
  |some (.b c)=>some (.b (!c))
  |some (.l c)=>some (.l (!c))
  |_=>none
 |.unOp .neg _ x=>match iG e x with
  |some (.i k a)=>some (.i k (k.wrap (0-a)))
  |_=>none
 |.binOp op t x y _=>match iG e x,iG e y with
  |some a,some b=>bin T op t a b y
  |_,_=>none
 |.convert s t x=>match iG e x with
  |some a=>conv T s t a
  |none=>none
 |.extract x ix=>match iG e x with
  |some (.t xs)=>xs[ix]?
  |_=>none
 |.fieldAddr t x ix=>match iG e x with
  |some a=>a54 T t a ix
  |none=>none
 |.load t p=>match iG e p with
  |some a=>aO3 T t a L
  |none=>none
 |.build t ps=>aWV T e t ps.toList
 |.call { callee:=.builtin .len,args:=⟨[x]⟩,argTypes:=⟨[t]⟩ } => match iG e x,wW T t with
  |some a,some ⟨k,_,_,_⟩=>bJZ k a
  |_,_=>none
 |_=>none
abbrev Bl:=List (Nat×Nat)
variable{B:Bl}
inductive Fr where
 |s (y:Code)
 |k (id:Nat)
inductive sW where
 |n
 |c (x:Code)
 |r (ops:Array Oper) (l:List Oper)
 |d (B1:Bl) (ops:Array Oper) (l:List Bool) (is:List Nat) (Lf Lv:List Ch)
 |o (B1:Bl) (ops:Array Oper) (l:List Bool) (is:List Nat) (Lf Lv:List Ch) (i:Nat)
def sW.ext(Ln:List Ch):sW->sW
 |.d B1 ops l is Lf Lv=>.d B1 ops l is Lf (Lv++Ln)
 |.o B1 ops l is Lf Lv i=>.o B1 ops l is Lf (Lv++Ln) i
 |x=>x
inductive Stop where
 |ret (m:Nat) (e:SE) (L:List Ch)
 |fin (m:Nat) (e:SE) (L:List Ch)
 |ex (id m:Nat) (e:SE) (L:List Ch)
 |cond (o:Operand) (b:Bool) (x y:Code) (K:List Fr) (m:Nat) (e:SE) (L:List Ch)
 |case (b:Bool) (cf:sW) (K:List Fr) (m:Nat) (e:SE) (L:List Ch)
 |loop (id:Nat) (x:Code) (K:List Fr) (m:Nat) (e:SE) (L:List Ch)
 |idx (o:Oper) (d t:Nat) (s:AC) (n:Nat) (i:Int) (Lv:List Ch) (cf cf':sW) (K:List Fr) (m:Nat) (e:SE) (L:List Ch)
 |call (o:Oper) (d:Option Nat) (f:FuncId) (xs:List SV) (cf cf':sW) (K:List Fr) (m:Nat) (e:SE) (L:List Ch)
 |callp (o:Oper) (d:Option Nat) (f:FuncId) (xs:List SV) (cf cf':sW) (K:List Fr) (m:Nat) (e:SE) (L:List Ch)
 |opp (o:Oper) (Lv:List Ch) (cf cf':sW) (K:List Fr) (m:Nat) (e:SE) (L:List Ch)
 |op (o:Oper) (Lv:List Ch) (cf cf':sW) (K:List Fr) (m:Nat) (e:SE) (L:List Ch)
 |rgn (id:Nat) (ops:Array Oper) (K:List Fr) (m:Nat) (e:SE) (L:List Ch)
 |alt (cf:sW) (K:List Fr) (m:Nat) (e:SE) (L:List Ch)
 |stuck
def pop:List Fr->Option (Code×List Fr)
 |[]=>none
 |.s y::K=>some (y,K)
 |.k _::K=>pop K
def xit(id:Nat):List Fr->Option (List Fr)
 |[]=>none
 |.s _::K=>xit id K
 |.k j::K=>match Nat.beq id j with
  |true=>some K
  |false=>xit id K
inductive Gd where
 |yes|no|ask (b:Bool)|bad
def CX (ops : Array Oper) (e : SE) : Option (Nat × Bool) -> Gd
 |none=>.yes
 |some (j,w)=>match ops.toList[j]? with
  |some q=>match q.dst with
   |some s=>match CV e s with
    |some (.l c)=>match c,w with
     |true,true=>.yes
     |false,false=>.yes
     |_,_=>.no
    |some .u=>.no
    |some (.b c)=>.ask c
    |_=>.bad
   |none=>.bad
  |none=>.bad
def sY(n:Nat)(cs:List SV):List Ch->List Ch
 |[]=>[]
 |.box k c::L=>match Nat.beq n k with
  |true=>.box k cs::L
  |false=>.box k c::sY n cs L
 |x::L=>x::sY n cs L
def QY(n:Nat):List Ch->Bool
 |[]=>false
 |.box k _::L=>match Nat.beq n k with
  |true=>true
  |false=>QY n L
 |.ro k _::L=>match Nat.beq n k with
  |true=>false
  |false=>QY n L
 |_::L=>QY n L
def SL (T : TT) (t : TypeId) (p v : SV) (L : List Ch) : Option (List Ch):=match p with
 |.p n o=>match QY n L with
  |true=>match HC n L,wW T t with
   |some cs,some ⟨_,_,m,_⟩=>match isCells v,Nat.beq (mH v).length m,Nat.ble (o + m) cs.length with
    |true,true,true=>match frc (ovw cs o (mH v)) with
     |some cs'=>match frc (sY n cs' L) with
      |some L'=>some L'
      |none=>none
     |none=>none
    |_,_,_=>none
   |_,_=>none
  |false=>none
 |_=>none
inductive Ef where
 |val (v:SV)
 |box (cs:List SV)
 |st (L:List Ch)
 |no
def eff(T:TT)(e:SE)(L:List Ch)(o:Op):Ef:=match ev1 T e L o with
 |some v=>.val v
 |none=>match o with
  |.alloc t=>match wW T t with
   |some ⟨_,_,_,z⟩=>.box z
   |none=>.no
  |.box _ v=>match iG e v with
   |some a=>match isCells a with
    |true=>.box (mH a)
    |false=>.no
   |none=>.no
  |.store t p v=>match iG e p,iG e v with
   |some a,some b=>match SL T t a b L with
    |some L'=>.st L'
    |none=>.no
   |_,_=>.no
  |_=>.no
def yU(m:Nat):SV->Bool
 |.p n _=>Nat.blt n m
 |.g cs=>okC m cs
 |.t cs=>okT m cs
 |.f _ cs=>okF m cs
 |_=>true
where
 okC (m:Nat):List SV->Bool
  |[]=>true
  |x::r=>match x with
   |.p n _=>match Nat.blt n m with
    |true=>okC m r
    |false=>false
   |.g _=>false
   |_=>okC m r
 okT (m:Nat):List SV->Bool
  |[]=>true
  |x::r=>match x with
   |.p n _=>match Nat.blt n m with
    |true=>okT m r
    |false=>false
   |.g cs=>match okC m cs with
    |true=>okT m r
    |false=>false
   |_=>okT m r
 okF (m:Nat):List Nat->Bool
  |[]=>true
  |n::r=>match Nat.blt n m with
   |true=>okF m r
   |false=>false
def nb1:SV->SV
 |.l c=>.b c
 |x=>x
def nbL:List SV->List SV
 |[]=>[]
 |x::r=>nb1 x::nbL r
def nbG:SV->SV
 |.g cs=>.g (nbL cs)
 |x=>nb1 x
def nbT:List SV->List SV
 |[]=>[]
 |x::r=>nbG x::nbT r
def nbS:SV->SV
 |.t xs=>.t (nbT xs)
 |x=>nbG x
def nbA:List SV->List SV
 |[]=>[]
 |x::r=>match x with
  |.f g []=>.k (.func (.func g) #[] #[])::nbA r
  |y=>nbG y::nbA r
def okA:List SV->Bool
 |[]=>true
 |x::r=>match yU 0 x with
  |true=>okA r
  |false=>false
def bB1(e:SE)(o:Oper)(Lv:List Ch)(cf cf':sW)(K:List Fr)(m:Nat)(L:List Ch):Op->Stop
 |.pick c _ _=>match iG e c with
  |some (.b b)=>.case b cf K m e L
  |_=>.stuck
 |.indexAddr t x y=>match iG e x,iG e y,o.dst with
  |some (.h s n),some (.i .i64 i),some d=>.idx o d t s n i Lv cf cf' K m e L
  |_,_,_=>.op o Lv cf cf' K m e L
 |.call { callee:=.value f,args,.. } => match iG e f,aT (iG e) args.toList with
  |some (.f g []),some xs=>match okA (nbA xs) with
   |true=>.call o o.dst g (nbA xs) cf cf' K m e L
   |false=>.callp o o.dst g (nbA xs) cf cf' K m e L
  |_,_=>.op o Lv cf cf' K m e L
 |_=>.op o Lv cf cf' K m e L
def bG3(e:SE)(o:Oper)(Lv:List Ch)(cf cf':sW)(K:List Fr)(m:Nat)(L:List Ch):Op->Stop
 |.pick c _ _=>match iG e c with
  |some (.b b)=>.case b cf K m e L
  |_=>.stuck
 |.indexAddr t x y=>match iG e x,iG e y,o.dst with
  |some (.h s n),some (.i .i64 i),some d=>.idx o d t s n i Lv cf cf' K m e L
  |_,_,_=>.opp o Lv cf cf' K m e L
 |_=>.opp o Lv cf cf' K m e L
def opS:Stop->Option (Oper×List Ch×sW×sW×List Fr×Nat×SE×List Ch)
 |.op o Lv cf cf' K m e L=>some (o,Lv,cf,cf',K,m,e,L)
 |.opp o Lv cf cf' K m e L=>some (o,Lv,cf,cf',K,m,e,L)
 |_=>none
def qS(n:Nat):Option Nat->Bool
 |none=>true
 |some d=>Nat.blt d n
def a56:Ground->Bool
 |.textOnly _=>false
 |.gcOnly _=>false
 |_=>true
def PM(l:List Bool):List Edge->Bool
 |[]=>true
 |⟨on,g⟩::r=>match a56 g with
  |true=>match l[on]? with
   |some true=>PM l r
   |_=>false
  |false=>PM l r
def aF6(l:List Bool)(i:Nat):List Oper->Nat->Bool
 |[],_=>true
 |o::r,j=>match l[j]? with
  |some false=>match Nat.beq j i with
   |true=>match PM l o.after.toList with
    |true=>aF6 l i r (j+1)
    |false=>false
   |false=>match PM l o.after.toList with
    |true=>false
    |false=>aF6 l i r (j+1)
  |some true=>aF6 l i r (j+1)
  |none=>false
def bFH:Op->Bool
 |.pick ..=>true
 |.indexAddr ..=>true
 |.index ..=>true
 |.binOp ..=>true
 |.slice ..=>true
 |.convert ..=>true
 |.call {callee:=.builtin .len,..}=>true
 |.call {callee:=.builtin .min,..}=>true
 |.call {callee:=.builtin .max,..}=>true
 |_=>false
inductive Ps where
 |fin (l:List Bool) (e:SE) (q:List (Nat×Oper))
 |ask (b:Bool) (l:List Bool) (e:SE)
 |pur (i:Nat) (o:Oper) (l:List Bool) (e:SE)
 |bad
def pass (T : TT) (n : Nat) (ops : Array Oper) (Lv : List Ch) : List Oper -> Nat -> List Bool -> SE -> List (Nat × Oper) -> Ps
 |[],_,l,e,q=>.fin l e q
 |o::r,i,l,e,q=>match l[i]? with
  |some true=>pass T n ops Lv r (i+1) l e q
  |some false=>match PM l o.after.toList with
   |false=>pass T n ops Lv r (i+1) l e q
   |true=>match CX ops e o.guard with
    |.bad=>.bad
    |.ask c=>.ask c l e
    |.no=>match o.dst with
     |some d=>match Nat.blt d n with
      |true=>pass T n ops Lv r (i+1) (l.set i true) ((d,.u)::e) q
      |false=>.bad
     |none=>.bad
    |.yes=>match ev1 T e Lv o.op with
     |some v=>match o.dst with
      |some d=>match Nat.blt d n with
       |true=>pass T n ops Lv r (i+1) (l.set i true) ((d,v)::e) q
       |false=>.bad
      |none=>.bad
     |none=>match bFH o.op with
      |true=>.pur i o l e
      |false=>pass T n ops Lv r (i+1) l e ((i,o)::q)
  |none=>.bad
def wX(l:List Bool):List Oper->Nat->List Nat
 |[],_=>[]
 |o::r,j=>match l[j]? with
  |some false=>match PM l o.after.toList with
   |true=>j::wX l r (j+1)
   |false=>wX l r (j+1)
  |_=>wX l r (j+1)
def bB2:List Bool->Bool
 |[]=>true
 |b::l=>match b with
  |true=>bB2 l
  |false=>false
def aQO(n:Nat):List Ch->Nat->Nat
 |[],i=>i
 |.box k _::L,i=>match Nat.beq n k with
  |true=>i
  |false=>aQO n L (i+1)
 |_::L,i=>aQO n L (i+1)
def fP(i:Nat):List Nat->Bool
 |[]=>true
 |j::r=>match Nat.beq i j with
  |true=>false
  |false=>fP i r
def bG4(e:SE)(L:List Ch)(is:List Nat):Op->Bool
 |.store _ p _=>match iG e p with
  |some (.p n _)=>fP (aQO n L 0) is
  |_=>false
 |_=>true
def stp(T:TT)(n:Nat):Nat->List Fr->sW->Nat->SE->List Ch->Stop
 |0,_,_,_,_,_=>.stuck
 |F + 1,K,.c x,m,e,L=>match x with
  |.skip=>match pop K with
   |some (y,K')=>stp T n F K' (.c y) m e L
   |none=>.fin m e L
  |.seq a b=>stp T n F (.s b::K) (.c a) m e L
  |.block id b=>match b with
   |.loop y=>.loop id y K m e L
   |b=>stp T n F (.k id::K) (.c b) m e L
  |.exit id=>match xit id K with
   |some K'=>match pop K' with
    |some (y,K'')=>stp T n F K'' (.c y) m e L
    |none=>.fin m e L
   |none=>.ex id m e L
  |.ret=>.ret m e L
  |.cond o x y=>match iG e o with
   |some (.l c)=>match c with
    |true=>stp T n F K (.c x) m e L
    |false=>stp T n F K (.c y) m e L
   |some (.b c)=>.cond o c x y K m e L
   |_=>.stuck
  |.region id ops d=>match d with
   |false=>stp T n F K (.r ops ops.toList) m e L
   |true=>.rgn id ops K m e L
  |_=>.stuck
 |F + 1,K,.n,m,e,L=>match pop K with
  |some (y,K')=>stp T n F K' (.c y) m e L
  |none=>.fin m e L
 |F + 1,K,.r _ [],m,e,L=>match pop K with
  |some (y,K')=>stp T n F K' (.c y) m e L
  |none=>.fin m e L
 |F + 1,K,.r ops (⟨dst,op,ty,ps,af,gd⟩::l),m,e,L=>match CX ops e gd with
  |.bad=>.stuck
  |.ask c=>.case c (.r ops (⟨dst,op,ty,ps,af,gd⟩::l)) K m e L
  |.no=>match dst with
   |some d=>match Nat.blt d n with
    |true=>stp T n F K (.r ops l) m ((d,.u)::e) L
    |false=>.stuck
   |none=>.stuck
  |.yes=>match eff T e L op,dst with
   |.val v,some d=>match Nat.blt d n with
    |true=>stp T n F K (.r ops l) m ((d,v)::e) L
    |false=>.stuck
   |.box cs,some d=>match Nat.blt d n with
    |true=>stp T n F K (.r ops l) (m+1) ((d,.p m 0)::e) (L++[.box m cs])
    |false=>.stuck
   |.st L',none=>stp T n F K (.r ops l) m e L'
   |.no,_=>match qS n dst with
    |true=>bB1 e ⟨dst,op,ty,ps,af,gd⟩ L (.r ops (⟨dst,op,ty,ps,af,gd⟩::l)) (.r ops l) K m L op
    |false=>.stuck
   |_,_=>.stuck
 |F + 1,K,.d B1 ops l is Lf Lv,m,e,L=>match pass T n ops Lv ops.toList 0 l e [] with
  |.bad=>.stuck
  |.ask c l' e'=>.case c (.d B1 ops l' is Lf Lv) K m e' L
  |.pur i o l' e'=>match qS n o.dst with
   |true=>bG3 e' o Lv (.d B1 ops l' is Lf Lv) (.d B1 ops (l'.set i true) is Lf Lv) K m L o.op
   |false=>.stuck
  |.fin l' e' []=>match bB2 l' with
   |true=>stp T n F K .n m e' L
   |false=>.stuck
  |.fin l' e' [(i,_)]=>match aF6 l' i ops.toList 0 with
   |true=>stp T n F K (.o B1 ops l' is Lf Lv i) m e' L
   |false=>.stuck
  |.fin l' e' _=>.alt (.d B1 ops l' is Lf Lv) K m e' L
 |F + 1,K,.o B1 ops l is Lf Lv i,m,e,L=>match ops.toList[i]? with
  |some ⟨dst,op,ty,ps,af,gd⟩=>match PM l af.toList,l[i]?,CX ops e gd with
   |true,some false,.yes=>match eff T e L op,dst with
    |.val v,some d=>match Nat.blt d n with
     |true=>stp T n F K (.d B1 ops (l.set i true) is Lf Lv) m ((d,v)::e) L
     |false=>.stuck
    |.box cs,some d=>match Nat.blt d n with
     |true=>stp T n F K (.d B1 ops (l.set i true) is Lf Lv) (m+1) ((d,.p m 0)::e) (L++[.box m cs])
     |false=>.stuck
    |.st L',none=>match bG4 e L is op with
     |true=>stp T n F K (.d B1 ops (l.set i true) is Lf Lv) m e L'
     |false=>.stuck
    |.no,_=>match qS n dst with
     |true=>bB1 e ⟨dst,op,ty,ps,af,gd⟩ Lv (.o B1 ops l is Lf Lv i) (.d B1 ops (l.set i true) is Lf Lv) K m L op
     |false=>.stuck
    |_,_=>.stuck
   |_,_,_=>.stuck
  |none=>.stuck
def a2O:SE->Option SE
 |[]=>some []
 |(k,v)::r=>match a2O r with
  |some s=>some ((k,v)::s)
  |none=>none
def a2P:List Ch->Option (List Ch)
 |[]=>some []
 |x::r=>match a2P r with
  |some s=>match x with
   |.box n cs=>match frc cs with
    |some ds=>some (.box n ds::s)
    |none=>none
   |.ro n cs=>match frc cs with
    |some ds=>some (.ro n ds::s)
    |none=>none
   |y=>some (y::s)
  |none=>none
def jK(T:TT)(n:Nat)(K:List Fr)(cf:sW)(m:Nat)(e:SE)(L:List Ch):Stop:=match a2O e,a2P L with
 |some e',some L'=>stp T n 9999 K cf m e' L'
 |_,_=>.stuck
def kp(e:SE):List Nat->SE
 |[]=>[]
 |k::ks=>match CV e k with
  |some x=>(k,x)::kp e ks
  |none=>kp e ks
def kl(L:List Ch):List Nat->List Ch
 |[]=>[]
 |i::is=>match L[i]? with
  |some x=>x::kl L is
  |none=>kl L is
def re1:SV->SV->SV
 |.b _,.l c=>.b c
 |_,x=>x
def reC:List SV->List SV->List SV
 |x::xs,y::ys=>re1 x y::reC xs ys
 |_,ys=>ys
def reE(e:SE):SE->Option SE
 |[]=>some []
 |(k,z)::r=>match CV e k with
  |some x=>match reE e r with
   |some s=>some ((k,re1 z x)::s)
   |none=>none
  |none=>none
def reL:List Ch->List Ch->List Ch
 |.box _ cs::M,.box n ds::L=>.box n (reC cs ds)::reL M L
 |_::M,x::L=>x::reL M L
 |[],L=>L
 |_,[]=>[]
def okE(m:Nat):SE->Bool
 |[]=>true
 |(_,x)::e=>match yU m x with
  |true=>okE m e
  |false=>false
def okL(m:Nat):List Ch->Bool
 |[]=>true
 |.box n cs::L=>match Nat.blt n m,yU.okC m cs with
  |true,true=>okL m L
  |_,_=>false
 |.ro n cs::L=>match Nat.blt n m,yU.okC m cs with
  |true,true=>okL m L
  |_,_=>false
 |.w n _ _::L=>match Nat.blt n m with
  |true=>okL m L
  |false=>false
 |_::L=>okL m L
def asS(e:SE)(L:List Ch)(is:List Nat)(m:Nat)(e':SE)(L':List Ch):Option (SE×List Ch):=match reE e e' with
 |some s=>match okE m s,okL m (reL L' (kl L is)) with
  |true,true=>some (s,reL L' (kl L is))
  |_,_=>none
 |none=>none
def YQ(b m:Nat)(e:SE)(L:List Ch)(is:List Nat)(m':Nat)(e':SE)(L':List Ch):Option (SE×List Ch):=match Nat.ble b m',Nat.ble m' m,dE is with
 |true,true,true=>asS e L is m' e' L'
 |_,_,_=>none
def ovr(c:Bool)(e:SE):List Nat->SE
 |[]=>e
 |s::ss=>(s,.l c)::ovr c e ss
def SM:Stop->Option (List Fr×sW×Nat×SE×List Ch)
 |.cond o _ x y K m e L=>some (K,.c (.cond o x y),m,e,L)
 |.case _ cf K m e L=>some (K,cf,m,e,L)
 |.loop id y K m e L=>some (K,.c (.block id (.loop y)),m,e,L)
 |.idx _ _ _ _ _ _ _ cf _ K m e L=>some (K,cf,m,e,L)
 |.call _ _ _ _ cf _ K m e L=>some (K,cf,m,e,L)
 |.callp _ _ _ _ cf _ K m e L=>some (K,cf,m,e,L)
 |.op _ _ cf _ K m e L=>some (K,cf,m,e,L)
 |.opp _ _ cf _ K m e L=>some (K,cf,m,e,L)
 |.rgn id ops K m e L=>some (K,.c (.region id ops true),m,e,L)
 |.alt cf K m e L=>some (K,cf,m,e,L)
 |_=>none
def aAM(i:Nat):List Edge->Bool
 |[]=>false
 |⟨on,g⟩::r=>match a56 g with
  |true=>match Nat.beq on i with
   |true=>true
   |false=>aAM i r
  |false=>aAM i r
def aTA(ops:Array Oper):Bool:=Region.noSelect ops && ops.toList.zipIdx.all λp=>ops.toList.zipIdx.all λq=>Nat.beq p.2 q.2 || aAM p.2 q.1.after.toList || aAM q.2 p.1.after.toList || p.1.apart ops q.1
def a57(T:TT)(e:SE)(L:List Ch):ResultVar->Option SV
 |.tmp t=>CV e t
 |.cell t ty=>match CV e t with
  |some p=>aO3 T ty p L
  |none=>none
def aWW(T:TT)(e:SE)(L:List Ch)(r:ResultVar):Option SV:=match a57 T e L r with
 |some x=>match isCells x with
  |true=>some x
  |false=>none
 |none=>none
def aQQ(T:TT)(e:SE)(L:List Ch):List ResultVar->Option SV
 |[]=>some (.t [])
 |[r]=>a57 T e L r
 |[r,s]=>match aWW T e L r,aWW T e L s with
  |some x,some y=>some (.t [x,y])
  |_,_=>none
 |[r,s,t]=>match aWW T e L r,aWW T e L s,aWW T e L t with
  |some x,some y,some z=>some (.t [x,y,z])
  |_,_,_=>none
 |_=>none
def bK(B:Bl):SV->Option Value
 |.i k x=>some (.int k x)
 |.y b=>some (.int .u8 (b.toNat:Int))
 |.b c=>some (.bool c)
 |.l c=>some (.bool c)
 |.s l=>some (sv l)
 |.p n o=>match B[n]? with
  |some (b,z)=>some (.pointer (some ⟨b,z+o,none⟩))
  |none=>none
 |.h s n=>some (s.v n)
 |.e s n i o=>some (.pointer (some ⟨VJ (s.v 0),UL n i (s.v 0)+o,none⟩))
 |.k x=>match x.oneCell' with
  |true=>some x
  |false=>none
 |_=>none
def gV(B:Bl):SV->Option Value
 |.g cs=>match aT (bK B) cs with
  |some vs=>some (.agg vs.toArray)
  |none=>none
 |x=>bK B x
def VK(B:Bl)(n:Nat):Option Value:=match B[n]? with
 |some (b,z)=>some (.pointer (some ⟨b,z,none⟩))
 |none=>none
def fH(B:Bl):SV->Option Value
 |.t xs=>match aT (gV B) xs with
  |some vs=>some (.tuple vs.toArray)
  |none=>none
 |.f f cs=>match aT (VK B) cs with
  |some vs=>some (.func (.func f) #[] vs.toArray)
  |none=>none
 |.u=>some undef
 |x=>gV B x
theorem aJV{v:Value}(h:bK B x=some v):v.oneCell'=true:=by
 cases x<;>simp only[bK] at h<;>try (simp at h;done)
 all_goals try (cases h;rfl)
 ·split at h<;>cases h;rfl
 grind
theorem kW{O β:Type}{f:O->Option β}:∀{l:List O} {r:List β},aT f l=some r->r.length=l.length
 |[],r,h=>by cases h;rfl
 |x::l,r,h=>by
  simp only[aT] at h;split at h
  ·cases h
  ·split at h
   ·cases h
   ·rename_i h2;cases h;simp[kW h2]
theorem QZ{O β:Type}{f:O->Option β}:∀{l:List O} {r:List β} {i:Nat} {x:O},aT f l=some r->l[i]?=some x->∃y,f x=some y/\r[i]?=some y
 |[],_,_,_,_,h=>by simp at h
 |x::l,r,i,z,h,hi=>by
  simp only[aT] at h;split at h
  ·cases h
  ·rename_i h1;split at h
   ·cases h
   ·rename_i h2;cases h;cases i with
    |zero=>grind
    |succ i=>obtain⟨y,h3,h4⟩:=QZ h2 (by simpa using hi);grind
theorem Q0{O β:Type}{f:O->Option β}:∀{l:List O} {r:List β} (k:Nat),aT f l=some r->aT f (l.drop k)=some (r.drop k)
 |l,r,0,h=>h
 |[],r,k+1,h=>by cases h;rfl
 |x::l,r,k + 1,h=>by
  simp only[aT] at h;split at h
  ·cases h
  ·split at h
   ·cases h
   ·rename_i h2;cases h;exact Q0 k h2
theorem Q1{O β:Type}{f:O->Option β}:∀{l:List O} {r:List β} (k:Nat),aT f l=some r->aT f (l.take k)=some (r.take k)
 |l,r,0,h=>rfl
 |[],r,k+1,h=>by cases h;rfl
 |x::l,r,k + 1,h=>by
  simp only[aT] at h;split at h
  ·cases h
  ·rename_i h1;split at h
   ·cases h
   ·rename_i h2;cases h;simp[aT,h1,Q1 k h2]
theorem eQ{O β:Type}{f g:O->Option β}(hfg:∀x y,f x=some y->g x=some y):∀{l:List O} {r:List β},aT f l=some r->aT g l=some r
 |[],r,h=>h
 |x::l,r,h=>by
  simp only[aT] at h;split at h
  ·cases h
  ·rename_i h1;split at h
   ·cases h
   ·rename_i h2;cases h;simp[aT,hfg _ _ h1,eQ hfg h2]
theorem aTB{O β:Type}{f:O->Option β}:∀{l:List O} {r:List β} {x:O} {y:β} (k:Nat),aT f l=some r->f x=some y->aT f (l.set k x)=some (r.set k y)
 |[],r,_,_,k,h,_=>by cases h;rfl
 |z::l,r,x,y,k,h,hx=>by
  simp only[aT] at h;split at h
  ·cases h
  ·rename_i h1;split at h
   ·cases h
   ·rename_i h2;cases h;cases k with
    |zero=>grind[aT]
    |succ k=>simp[aT,h1,aTB k h2 hx]
theorem aB9{f:SV->Option Value}:∀{ds:List SV} {vs:List Value} {cs:List SV} {r:List Value} (k:Nat),aT f cs=some r->aT f ds=some vs->aT f (a55 cs k ds)=some (aB4 r k vs)
 |[],vs,cs,r,k,h,h2=>by cases h2;exact h
 |d::ds,vs,cs,r,k,h,h2=>by
  simp only[aT] at h2;split at h2
  ·cases h2
  ·rename_i h3;split at h2
   ·cases h2
   ·rename_i h4;cases h2;exact aB9 (k+1) (aTB k h h3) h4
theorem Bl.app(B':Bl){q:Nat×Nat}(h:B[n]?=some q):(B++B')[n]?=some q:=aj
theorem fW(B':Bl){v:Value}(h:bK B x=some v):bK (B++B') x=some v:=by
 cases x<;>simp only[bK] at h ⊢<;>try exact h
 grind
theorem a58(B':Bl){v:Value}(h:gV B x=some v):gV (B++B') x=some v:=by
 cases x<;>simp only[gV] at h ⊢<;>try exact fW B' h
 grind[eQ,fW]
theorem a59(B':Bl){x:Nat}{v:Value}(h:VK B x=some v):VK (B++B') x=some v:=by grind[VK]
theorem wE(B':Bl){v:Value}(h:fH B x=some v):fH (B++B') x=some v:=by
 cases x<;>simp only[fH] at h ⊢<;>try exact a58 B' h
 ·split at h
  ·rename_i h1;rw[eQ (λ_ _=>a58 B') h1];exact h
  ·cases h
 ·split at h
  ·rename_i h1;rw[eQ (λ_ _=>a59 B') h1];exact h
  ·cases h
 ·exact h
theorem bJ0{v:Value}(h:gV B x=some v):fH B x=some v:=by cases x<;>first|exact h|grind[gV,bK]
theorem aZK{v:Value}(h:bK B x=some v):fH B x=some v:=by cases x<;>first|exact h|grind[bK]
structure gQ (n:Nat) (B:Bl) (e:SE) (a:Act):Prop where
 d:a.defers=[]
 size:a.tmps.size=n
 get:∀k x,CV e k=some x->∃v,fH B x=some v/\a.tmps[k]?=some v
def vE(B:Bl):SE->Env
 |[]=>[]
 |(k,x)::e=>(k,(fH B x).getD undef)::vE B e
theorem a6A{B:Bl}{k:Nat}{v:Value}:∀{e:SE},lk (vE B e) k=some v->∃x,CV e k=some x/\v=(fH B x).getD undef
 |[],h=>by simp[vE,lk] at h
 |(j,x)::e,h=>by
  simp only[vE,lk] at h;simp only[CV];cases hb:Nat.beq k j with
  |true=>grind
  |false=>rw[hb] at h;exact a6A h
theorem aJW{B:Bl}{k:Nat}{x:SV}:∀{e:SE},CV e k=some x->lk (vE B e) k=some ((fH B x).getD undef)
 |[],h=>by simp[CV] at h
 |(j,y)::e,h=>by
  simp only[CV] at h;simp only[vE,lk];cases hb:Nat.beq k j with
  |true=>grind
  |false=>rw[hb] at h;exact aJW h
section
variable {n:Nat} {B:Bl} {e:SE} {a:Act}
theorem gQ.env(h:gQ n B e a):J3 n (vE B e) a:=⟨h.d,h.size,λk v hk=>by
 obtain⟨x,h1,h2⟩:=a6A hk;obtain⟨u,h3,h4⟩:=h.get k x h1;grind⟩
theorem gQ.of{a':Act}(h:gQ n B e a){d:Nat}{v:Value}(hx:fH B x=some v)(h2:J3 n ((d,v)::vE B e) a'):gQ n B ((d,x)::e) a':=⟨h2.d,h2.size,λk y hk=>by
 simp only[CV] at hk;cases hb:Nat.beq k d with
 |true=>
  rw[hb] at hk;cases hk;exact⟨v,hx,h2.get k v (by grind[lk])⟩
 |false=>
  rw[hb] at hk;obtain⟨u,h3,h4⟩:=h.get k y hk;refine⟨u,h3,h2.get k u ?_⟩;grind[lk,aJW]⟩
theorem gQ.app(h:gQ n B e a)(B':Bl):gQ n (B++B') e a:=⟨h.d,h.size,λk x hk=>by
 obtain⟨v,h1,h2⟩:=h.get k x hk;grind[wE]⟩
theorem aZL(h:a53 m=some x):fH B x=some (.int .u8 (m:Int))/\rI x=some (.u8,(m:Int)):=by grind[a53,wD,UInt8.toNat_ofNat',fH,gV,bK,rI]
theorem bG5{v:Value}(h:one? v=some x):fH B x=some v:=by grind[one?,fH,gV,bK]
theorem bG6{v:Value}(h:ofC v=some x):fH B x=some v:=by
 unfold ofC at h;split at h
 ·exact(aZL h).1
 ·cases h;rfl
 ·cases h;rfl
 ·cases h;rename_i s;cases s;simp[fH,gV,bK]
 ·cases h;rfl
 ·cases h
 ·exact bG5 h
theorem eF(hA:gQ n B e a){o:Operand}(h:iG e o=some x):∃v,fH B x=some v/\ev (vE B e) o=some v:=by
 cases o with
 |tmp t=>
  obtain⟨v,h1,_⟩:=hA.get t x h;exact⟨v,h1,by simp only[ev];rw[aJW h,h1];rfl⟩
 |const v=>exact⟨v,bG6 h,rfl⟩
 |global g=>cases h
 |func f=>cases h;exact⟨_,rfl,rfl⟩
theorem aWX{v:Value}(h:rI x=some (k,i))(hv:fH B x=some v):v=.int k i:=by
 cases x<;>simp only[rI] at h<;>cases h
 ·cases hv;rfl
 ·cases hv;rfl
theorem aZM{c:Bool}{v:Value}(h:aZJ x=some c)(hv:fH B x=some v):v=.bool c:=by
 cases x<;>simp only[aZJ] at h<;>cases h
 ·cases hv;rfl
 ·cases hv;rfl
theorem bG7{k':IntKind}(h:iG e (.const (.int k' j))=some x)(h2:rI x=some (k,i)):j=i:=by
 simp only[iG] at h;unfold ofC at h;split at h
 ·rename_i heq;cases heq;have:=(aZL (B:=[]) h).2;rw[this] at h2;cases h2;rfl
 ·rename_i heq;cases heq;cases h;cases h2;rfl
 all_goals (rename_i heq;first|(cases heq;done)|skip)
 rename_i h1 h2 h3 h4 h5;exact absurd rfl (h2 _ _)
end
structure D6 (P:Program) (T:TT):Prop where
 und:∀t i,wW T t=some i->∃d,P.underlying t=some d/\match i.d with
  |.i k=>d=.int k
  |.b=>d=.bool
  |.st fs=>∃Fs:Array Field,d=.struct Fs/\Fs.toList.map (·.offset)=fs.map (·.1)/\(∀(j:Nat) F,Fs[j]?=some F->∃m,fs[j]?=some (F.offset,m)/\∀w,(sizeOf F.type).run P w=.ok m w)/\∀w,(Fs.mapM λf=>(do pure (f.offset,<-sizeOf f.type):Sem (Nat×Nat))).run P w=.ok fs.toArray w
  |.s=>d=.string
  |.sl el=>d=.slice el
  |.x=>True
 agg:∀t i,wW T t=some i->∀w,(isAgg t).run P w=.ok i.a w
 size:∀t i,wW T t=some i->∀w,(sizeOf t).run P w=.ok i.n w
 zero:∀t i,wW T t=some i->∃z,(∀w,(zeroValue t).run P w=.ok z w)/\aT (bK []) i.z=some z.cells.toList
section
variable {P:Program} {T:TT} {n:Nat} {B:Bl} {e:SE} {E:Env} {o:Oper} {w:World} {x y:Operand}
theorem bB3{yv r:SV}(ho:o.op=.binOp op t x y z)(hx:ev E x=some (.int k i))(hy:ev E y=some (.int k j))(hyc:iG e y=some yv)(hyn:rI yv=some (k,j))(h:bBZ op k i j y=some r):∃v,fH B r=some v/\eW P o E w v w:=by
 have h0:∀k' m,y=.const (.int k' (.ofNat (m+1)))->j≠0:=λk' m e1=>by grind[bG7]
 have h1:∀k' m,y=.const (.int k' (.negSucc m))->j≠0:=λk' m e1=>by grind[bG7]
 cases op with
 |add=>cases h;exact⟨_,rfl,bGC ho hx hy⟩
 |sub=>cases h;exact⟨_,rfl,bGD ho hx hy⟩
 |mul=>cases h;exact⟨_,rfl,bGE ho hx hy⟩
 |lss=>cases h;exact⟨_,rfl,bGF ho hx hy⟩
 |leq=>cases h;exact⟨_,rfl,bGG ho hx hy⟩
 |gtr=>cases h;exact⟨_,rfl,bGH ho hx hy⟩
 |geq=>cases h;exact⟨_,rfl,bGI ho hx hy⟩
 |eql=>cases h;exact⟨_,rfl,bGJ ho hx hy⟩
 |neq=>cases h;exact⟨_,rfl,bGK ho hx hy⟩
 |and=>cases h;exact⟨_,rfl,bGL ho hx hy⟩
 |or=>cases h;exact⟨_,rfl,bJV ho hx hy⟩
 |xor=>cases h;exact⟨_,rfl,bGM ho hx hy⟩
 |andNot=>cases h;exact⟨_,rfl,a2F ho hx hy⟩
 |quo=>
  simp only[bBZ] at h;split at h
  ·cases h;exact⟨_,rfl,aWM ho hx hy (h0 _ _ rfl)⟩
  ·cases h;exact⟨_,rfl,aWM ho hx hy (h1 _ _ rfl)⟩
  ·cases h
 |rem=>
  simp only[bBZ] at h;split at h
  ·cases h;exact⟨_,rfl,aWN ho hx hy (h0 _ _ rfl)⟩
  ·cases h;exact⟨_,rfl,aWN ho hx hy (h1 _ _ rfl)⟩
  ·cases h
 |_=>cases h
theorem a6B{k':IntKind}{yv r:SV}(ho:o.op=.binOp op t x y z)(hx:ev E x=some (.int k i))(hy:ev E y=some (.int k' j))(hyc:iG e y=some yv)(hyn:rI yv=some (k',j))(h:shI op k i j y=some r):∃v,fH B r=some v/\eW P o E w v w:=by
 have h0:∀k' m,y=.const (.int k' (.ofNat m))->¬j<0:=λk' m e1=>by grind[bG7]
 cases op<;>simp only[shI] at h<;>try (cases h;done)
 ·split at h
  ·cases h;exact⟨_,rfl,a48 ho hx hy (h0 _ _ rfl)⟩
  ·cases h
 ·split at h
  ·cases h;exact⟨_,rfl,bGN ho hx hy (h0 _ _ rfl)⟩
  ·cases h
theorem bG8(hT:D6 P T){a c r:SV}{vc:Value}(ho:o.op=.binOp op t x y z)(hx:ev E x=some va)(hy:ev E y=some vc)(ha:fH B a=some va)(hc:fH B c=some vc)(hyc:iG e y=some c)(h:bin T op t a c y=some r):∃v,fH B r=some v/\eW P o E w v w:=by
 unfold bin at h;split at h
 ·rename_i k i k' j h1 h2;have e1:=aWX h1 ha;have e2:=aWX h2 hc;subst e1;subst e2;split at h
  ·exact a6B ho hx hy hyc h2 h
  ·exact a6B ho hx hy hyc h2 h
  ·split at h
   ·rename_i hk _;subst hk;exact bB3 ho hx hy hyc h2 h
   ·cases h
 ·split at h
  ·cases ha;cases hc;split at h
   ·cases h;exact⟨_,rfl,bBF ho hx hy⟩
   ·cases h;exact⟨_,rfl,bBG ho hx hy⟩
   ·cases h
  ·split at h
   ·rename_i h1 h2 h3;have e1:=aZM h1 ha;have e2:=aZM h2 hc;subst e1;subst e2;obtain⟨d,hd,hd2⟩:=hT.und _ _ h3;simp only at hd2;subst hd2;split at h
    ·cases h;exact⟨_,rfl,bBD hd ho hx hy⟩
    ·cases h;exact⟨_,rfl,bBE hd ho hx hy⟩
    ·cases h
   ·cases h
theorem bB4(hT:D6 P T){s:TypeId}{a r:SV}(ho:o.op=.convert s t x)(hx:ev E x=some va)(ha:fH B a=some va)(h:conv T s t a=some r):∃v,fH B r=some v/\eW P o E w v w:=by
 unfold conv at h
 split at h
 ·rename_i i k' _ _ _ h1 h2;obtain⟨ds,hs,_⟩:=hT.und _ _ h1;obtain⟨d,hd,hd2⟩:=hT.und _ _ h2;simp only at hd2;subst hd2;split at h
  ·cases ha;split at h
   ·cases h;exact⟨_,rfl,a5C hs hd ho hx⟩
   ·cases h;exact⟨_,rfl,aQK hs hd ho hx⟩
  ·cases ha;split at h
   ·cases h;exact⟨_,rfl,a5D hs hd ho hx⟩
   ·cases h
  ·cases h
 ·cases h
theorem aZN(hT:D6 P T){t ix k:Nat}(h:bB0 T t ix=some k):∃(fs:Array Field) (f:Field) (m:Nat),P.underlying t=some (.struct fs)/\fs[ix]?=some f/\f.offset=k/\∀w,(sizeOf f.type).run P w=.ok (m+1) w:=by
 unfold bB0 at h;split at h
 ·rename_i fs _ _ _ h1;obtain⟨d,hd,Fs,rfl,hoff,hall,_⟩:=hT.und _ _ h1;split at h
  ·rename_i k' m h2;cases h;have hlen:Fs.size=fs.length:=by have:=bZ List.length hoff;grind
   have hlt:ix<Fs.size:=aj
   obtain⟨m',h3,h4⟩:=hall ix Fs[ix] (by simp[hlt]);rw[h2] at h3;cases h3;exact⟨Fs,Fs[ix],m,hd,by simp[hlt],rfl,h4⟩
  ·cases h
 ·cases h
theorem a6C(hT:D6 P T){t ix:Nat}{a r:SV}(ho:o.op=.fieldAddr t x ix)(hx:ev E x=some va)(ha:fH B a=some va)(h:a54 T t a ix=some r):∃v,fH B r=some v/\eW P o E w v w:=by
 unfold a54 at h;split at h
 ·split at h
  ·rename_i n0 o0 k hk;cases h;obtain⟨fs,f,m,h1,h2,h3,h4⟩:=aZN hT hk;simp only[fH,gV,bK] at ha ⊢;split at ha
   ·rename_i b z hb;cases ha;exact⟨_,rfl,a5B h1 ho h2 h4 hx aa⟩
   ·cases ha
  ·cases h
 ·split at h
  ·rename_i s0 n0 i0 o0 k hk;cases h;obtain⟨fs,f,m,h1,h2,h3,h4⟩:=aZN hT hk;cases ha;exact⟨_,rfl,a5B h1 ho h2 h4 hx aa⟩
  ·cases h
 ·cases h
end
def SN(B:Bl)(n:Nat)(cs:List SV):Chunk where
 P:=λw F=>∃b z vs,B[n]?=some (b,z)/\aT (bK B) cs=some vs/\(VY b z vs).P w F
 keep:=λ⟨b,z,vs,h1,h2,h3⟩ hk hd=>⟨b,z,vs,h1,h2,(VY b z vs).keep h3 hk hd⟩
 lt:=λ⟨b,z,vs,_,_,h3⟩ hf=>(VY b z vs).lt h3 hf
def kS(B:Bl):Ch->Chunk
 |.box n cs=>SN B n cs
 |.o c=>c
 |_=>J1
def roF(B:Bl)(R:List Fact):Ch->Prop
 |.ro n cs=>∃b z vs,B[n]?=some (b,z)/\aT (bK B) cs=some vs/\fAt b z vs∈R
 |.f f=>f∈R
 |.w n b z=>B[n]?=some (b,z)
 |_=>True
structure lJ (c:Ctx) (w:World) (B:Bl) (L:List Ch):Prop where
 ex:∃R,St c w (L.map (kS B)) R/\∀x∈L,roF B R x
 s0:∀b o,c.S0 b o->b<c.w0.heap.size
inductive jT (w:World):List Chunk->List Chunk->Prop where
 |nil:jT w [] []
 |cons {a b:Chunk} {A B:List Chunk} (h:∀F,a.P w F->b.P w F) (t:jT w A B):jT w (a::A) (b::B)
theorem Sep.imp{w:World}:∀{A B:List Chunk} {F:cC},jT w A B->Sep w A F->Sep w B F
 |_,_,_,.nil,h=>h
 |_,_,_,.cons h t,⟨F1,F2,h1,h2,hd,hF⟩=>⟨F1,F2,h F1 h1,Sep.imp t h2,hd,hF⟩
theorem St.imp{A B:List Chunk}(h:St c w A R)(hi:jT w A B):St c w B R:=by obtain⟨F,S,hsep,rest⟩:=h.sep;exact⟨h.keep,⟨F,S,Sep.imp hi hsep,rest⟩,h.apart⟩
theorem jT.refl{w:World}:∀(A:List Chunk),jT w A A
 |[]=>.nil
 |_::A=>.cons (λ_ h=>h) (jT.refl A)
theorem jT.append{w:World}:∀{A B A' B':List Chunk},jT w A B->jT w A' B'->jT w (A++A') (B++B')
 |_,_,_,_,.nil,h=>h
 |_,_,_,_,.cons h t,h2=>.cons h (jT.append t h2)
theorem jT.set{w:World}{a b:Chunk}:∀{A B:List Chunk} (i:Nat),jT w A B->(∀F,a.P w F->b.P w F)->jT w (A.set i a) (B.set i b)
 |_,_,_,.nil,_=>.nil
 |_,_,0,.cons _ t,h=>.cons h t
 |_,_,i+1,.cons g t,h=>.cons g (jT.set i t h)
theorem jT.put{w:World}{a b:Chunk}:∀{A:List Chunk} (i:Nat),A[i]?=some a->(∀F,a.P w F->b.P w F)->jT w A (A.set i b)
 |[],_,h,_=>by simp at h
 |x::A,0,h,g=>by simp at h;subst h;exact .cons g (jT.refl A)
 |x::A,i+1,h,g=>.cons (λ_ h=>h) (jT.put i aj g)
theorem a6D(B':Bl){cs:List SV}(h:(SN B n cs).P w F):(SN (B++B') n cs).P w F:=by obtain⟨b,z,vs,h1,h2,h3⟩:=h;exact⟨b,z,vs,Bl.app B' h1,eQ (λ_ _=>fW B') h2,h3⟩
theorem bB5(B':Bl){x:Ch}(h:(kS B x).P w F):(kS (B++B') x).P w F:=by cases x<;>first|exact a6D B' h|exact h
theorem YR{B:Bl}(B':Bl){w:World}:∀(L:List Ch),jT w (L.map (kS B)) (L.map (kS (B++B')))
 |[]=>.nil
 |_::L=>.cons (λ_ h=>bB5 B' h) (YR B' L)
theorem aQR(B':Bl){x:Ch}(h:roF B R x):roF (B++B') R x:=by
 cases x<;>try exact h
 ·obtain⟨b,z,vs,h1,h2,h3⟩:=h;exact⟨b,z,vs,Bl.app B' h1,eQ (λ_ _=>fW B') h2,h3⟩
 ·exact Bl.app B' h
theorem aCA{R':List Fact}(hR:∀f∈R,f∈R'){x:Ch}(h:roF B R x):roF B R' x:=by
 cases x<;>try exact h
 ·obtain⟨b,z,vs,h1,h2,h3⟩:=h;exact⟨b,z,vs,h1,h2,hR _ h3⟩
 ·exact hR _ h
section
variable {P:Program} {T:TT} {n:Nat} {B:Bl} {e:SE} {E:Env} {o:Oper} {w w':World} {x y:Operand} {c:Ctx} {L:List Ch}
theorem lJ.app(h:lJ c w B L)(B':Bl):lJ c w (B++B') L:=by obtain⟨⟨R,h1,h2⟩,h3⟩:=h;exact⟨⟨R,h1.imp (YR B' L),λx hx=>aQR B' (h2 x hx)⟩,h3⟩
theorem aO4{n:Nat}{cs:List SV}:∀{L:List Ch},HC n L=some cs->Ch.box n cs∈L\/Ch.ro n cs∈L
 |[],h=>by cases h
 |x::L,h=>by
  have ih:HC n L=some cs->Ch.box n cs∈x::L\/Ch.ro n cs∈x::L:=λh=>by
   rcases aO4 h with h|h
   ·exact .inl (lH _ h)
   ·exact .inr (lH _ h)
  cases x<;>simp only[HC] at h<;>try exact ih h
  ·split at h
   ·rename_i hb;cases h;rw[nM hb];exact .inl (ZS ..)
   ·exact ih h
  ·split at h
   ·rename_i hb;cases h;rw[nM hb];exact .inr (ZS ..)
   ·exact ih h
theorem lJ.cells(h:lJ c w B L){n:Nat}{cs:List SV}(hb:HC n L=some cs):∃b z vs,B[n]?=some (b,z)/\aT (bK B) cs=some vs/\bA w b z vs:=by
 obtain⟨⟨R,h1,h2⟩,_⟩:=h;rcases aO4 hb with hm|hm
 ·obtain⟨i,hi⟩:=aFY hm;obtain⟨F,b,z,vs,h3,h4,h5⟩:=h1.chunk (ch:=SN B n cs) i (by rw[AS,hi];rfl);exact⟨b,z,vs,h3,h4,h5.1⟩
 ·obtain⟨b,z,vs,h3,h4,h5⟩:=h2 _ hm;obtain⟨i,hi⟩:=aFY h5;exact⟨b,z,vs,h3,h4,h1.fat i hi⟩
theorem aCB{b z o:Nat}(h:bA w b z vs)(_hm:o+m<=vs.length):bA w b (z+o) ((vs.drop o).take m):=by
 intro q u hq;rw[aBZ] at hq;split at hq
 ·rw[aFX] at hq;have:=h (o+q) u hq;grind
 ·cases hq
theorem aZO:∀(cs:List SV) (o:Nat) (v:SV) (vs:List SV),o<cs.length->ovw cs o (v::vs)=ovw (cs.set o v) (o+1) vs
 |[],o,v,vs,h=>by simp at h
 |c::cs,0,v,vs,_=>by simp[ovw]
 |c::cs,o + 1,v,vs,h=>by simp only[ovw,List.set_cons_succ];rw[aZO cs o v vs aj]
theorem aQS:∀(cs:List SV) (o:Nat),ovw cs o []=cs
 |[],o=>by simp[ovw]
 |c::cs,0=>by simp[ovw]
 |c::cs,o+1=>by simp[ovw,aQS cs o]
theorem aJX:∀(vs cs:List SV) (o:Nat),o+vs.length<=cs.length->ovw cs o vs=a55 cs o vs
 |[],cs,o,_=>by rw[aQS];rfl
 |v::vs,cs,o,h=>by simp at h;rw[aZO cs o v vs aa,aJX vs _ _ ah];rfl
theorem SO{O:Type}:∀{l r:List O},frc l=some r->r=l
 |[],r,h=>by cases h;rfl
 |x::l,r,h=>by
  simp only[frc] at h;split at h
  ·rename_i s hs;cases h;rw[SO hs]
  ·cases h
theorem aTC(hT:D6 P T){a r:SV}(hS:lJ c w B L)(ho:o.op=.load t x)(hx:ev E x=some va)(ha:fH B a=some va)(h:aO3 T t a L=some r):∃v,fH B r=some v/\eW P o E w v w:=by
 unfold aO3 at h;split at h
 ·rename_i n0 o0;split at h
  ·rename_i cs _ m _ hb hl;split at h
   ·rename_i hle;split at h
    case h_2=>cases h
    rename_i ds hds;cases h;have:=SO hds;subst this;obtain⟨b,z,vs,h1,h2,h3⟩:=hS.cells hb;have hlen:=kW h2;have hle:=QU hle;simp only[fH,gV,bK,h1] at ha;cases ha;have h4:=Q1 m (Q0 o0 h2);refine⟨_,by grind[fH,gV],a5A (cs:=(vs.drop o0).take m) ho hx (hT.agg _ _ hl) (hT.size _ _ hl) ah (aCB h3 aa)⟩
   ·cases h
  ·rename_i cs _ _ _ hb hl;obtain⟨b,z,vs,h1,h2,h3⟩:=hS.cells hb;simp only[fH,gV,bK,h1] at ha;cases ha;obtain⟨v,h4,h5⟩:=QZ h2 h;exact⟨v,aZK h4,a49 ho hx (hT.agg _ _ hl) (h3 o0 v h5)⟩
  ·cases h
 ·cases h
theorem MC{a:SV}{v:Value}(ha:fH B a=some v)(h:aT (bK B) (mH a)=some vs):v.cells.toList=vs:=by
 cases a
 case g cs=>
  simp only[mH] at h;simp only[fH,gV,h] at ha;cases ha;rfl
 all_goals
  simp only[mH,aT] at h;split at h
  ·cases h
  ·rename_i u hu;cases h;have h2:=aZK hu;rw[ha] at h2;cases h2;have:=aJV hu;cases v<;>first|rfl|cases this
end
theorem bJ1{a:SV}{v:Value}(h:bK B a=some v)(hc:mH a=[a]):∃vs,aT (bK B) (mH a)=some vs:=⟨[v],by grind[aT]⟩
theorem aAN{a:SV}{v:Value}(h:isCells a=true)(ha:fH B a=some v):∃vs,aT (bK B) (mH a)=some vs:=by
 cases a
 case g cs=>
  simp only[fH,gV] at ha;split at ha
  ·rename_i vs hv;exact⟨vs,hv⟩
  ·cases ha
 case t=>cases h
 case f=>cases h
 case u=>cases h
 all_goals exact bJ1 ha rfl
theorem bFI(off:Nat):∀(vs:List Value) (k:Nat) (cells:Array Value),((vs.zipIdx k).foldl (λcs (q:Value×Nat)=>cs.setIfInBounds (off+q.2) q.1) cells).toList=aB4 cells.toList (off+k) vs
 |[],k,cells=>rfl
 |v::vs,k,cells=>by simp only[List.zipIdx_cons,List.foldl_cons,aB4];rw[bFI off vs (k+1)];grind
theorem aO5{n:Nat}{B:Bl}{e:SE}{a:Act}(hA:gQ n B e a){fs:List (Nat×Nat)}:∀(ps:List (Nat×Operand)) {cs r:List SV} {cells:Array Value},aT (bK B) cs=some cells.toList->aQM e fs ps cs=some r ->
  ∃vs rs,evs (vE B e) (ps.map (·.2))=some vs/\aT (bK B) r=some rs/\Instr.fill (fs.toArray[·]?) cells ((ps.map (·.1)).zip vs)=some rs.toArray
 |[],cs,r,cells,hc,h=>by cases h;exact⟨[],cells.toList,rfl,hc,by simp[Instr.fill]⟩
 |(ix,o)::ps,cs,r,cells,hc,h=>by
  simp only[aQM] at h;split at h
  ·rename_i f m v h1 h2;split at h
   ·rename_i h3 h4 h5;split at h
    case h_2=>cases h
    rename_i ds hds;have h4:=nM h4;have h5:=QU h5;have:=SO hds;rw[aJX _ _ _ aa] at this;subst this;obtain⟨u,h6,h7⟩:=eF hA h2;obtain⟨ws,h8⟩:=aAN h3 h6;have h9:=MC h6 h8;have hl:=kW h8;have hl2:=kW hc;have hu:u.cells.size=m:=aj
    have hcs:cells.size=cs.length:=aa
    have h10:aT (bK B) (a55 cs f (mH v))=some ((u.cells.zipIdx.foldl (λcs (q:Value×Nat)=>cs.setIfInBounds (f+q.2) q.1) cells).toList):=by have:=bFI f u.cells.toList 0 cells;grind[Array.toList_zipIdx,aB9]
    obtain⟨vs,rs,g1,g2,g3⟩:=aO5 hA ps h10 h;simp_all[evs,Instr.fill]
   ·cases h
  ·cases h
section
variable {P:Program} {T:TT} {n:Nat} {B:Bl} {e:SE} {a:Act} {o:Oper} {w w':World} {x y:Operand} {c:Ctx} {L:List Ch}
theorem a2R(hT:D6 P T)(hA:gQ n B e a){ps:Array (Nat×Operand)}{r:SV}(ho:o.op=.build t ps)(h:aWV T e t ps.toList=some r):∃v,fH B r=some v/\eW P o (vE B e) w v w:=by
 unfold aWV at h;split at h
 ·rename_i fs _ z h1;split at h
  ·rename_i cs h2;cases h;obtain⟨d,hd,Fs,rfl,_,_,hp⟩:=hT.und _ _ h1;obtain⟨zv,hz,hzc⟩:=hT.zero _ _ h1;have hzc':aT (bK B) z=some zv.cells.toList:=by have:=eQ (g:=bK B) (λx v h=>by simpa using fW (B:=[]) B h) hzc;exact this
   obtain⟨vs,rs,g1,g2,g3⟩:=aO5 hA ps.toList hzc' h2;exact⟨_,by grind[fH,gV],a5E (ps:=ps.toList) aa hz hd hp g1 g3⟩
  ·cases h
 ·cases h
theorem aQT(hT:D6 P T)(hA:gQ n B e a)(hS:lJ c w B L){r:SV}(h:ev1 T e L o.op=some r):∃v,fH B r=some v/\eW P o (vE B e) w v w:=by
 generalize ho:o.op=op at h;unfold ev1 at h;split at h
 ·grind[eF,bBC]
 ·grind[eF,a2C]
 ·grind[eF,fH,gV,bK,bGA,bBL]
 ·split at h
  ·rename_i heq;obtain⟨v,h1,h2⟩:=eF hA heq;cases h1;grind[eF,a2D]
  ·rename_i heq;obtain⟨v,h1,h2⟩:=eF hA heq;cases h1;grind[eF,a2E]
  ·cases h
 ·split at h
  ·rename_i heq;cases h;obtain⟨v,h1,h2⟩:=eF hA heq;cases h1;exact⟨_,rfl,a47 ho h2⟩
  ·rename_i heq;cases h;obtain⟨v,h1,h2⟩:=eF hA heq;cases h1;exact⟨_,rfl,a47 ho h2⟩
  ·cases h
 ·split at h
  ·rename_i heq;cases h;obtain⟨v,h1,h2⟩:=eF hA heq;cases h1;exact⟨_,rfl,bGB ho h2⟩
  ·cases h
 ·split at h
  ·rename_i h1 h2;obtain⟨v,g1,g2⟩:=eF hA h1;obtain⟨u,g3,g4⟩:=eF hA h2;exact bG8 hT ho g2 g4 g1 g3 h2 h
  ·cases h
 ·split at h
  ·rename_i h1;obtain⟨v,g1,g2⟩:=eF hA h1;exact bB4 hT ho g2 g1 h
  ·cases h
 ·split at h
  ·rename_i h1;obtain⟨v,g1,g2⟩:=eF hA h1;simp only[fH] at g1;split at g1
   ·rename_i xs _ vs h3;cases g1;obtain⟨u,h4,h5⟩:=QZ h3 h;grind[bJ0,aWO]
   ·cases g1
  ·cases h
 ·split at h
  ·rename_i h1;obtain⟨v,g1,g2⟩:=eF hA h1;exact a6C hT ho g2 g1 h
  ·cases h
 ·grind[eF,aTC]
 ·exact a2R hT hA ho h
 ·split at h
  ·rename_i h1 h2;obtain⟨v,g1,g2⟩:=eF hA h1;obtain⟨d,hd,hd2⟩:=hT.und _ _ h2;unfold bJZ at h;split at h
   ·split at h
    ·cases h;cases g1;simp only at hd2;subst hd2;exact⟨_,rfl,bGP hd ho g2⟩
    ·cases h
   ·split at h
    ·cases h;cases g1;simp only at hd2;subst hd2;exact⟨_,rfl,bBH hd ho g2⟩
    ·cases h
   ·cases h
  ·cases h
 ·cases h
end
def pA(n:Nat)(c:Ctx)(B0:Bl)(m:Nat)(e:SE)(L:List Ch)(a:Act)(w:World):Prop:=∃B,(B0++B).length=m/\gQ n (B0++B) e a/\lJ c w (B0++B) L
section
variable {m:Nat} {e:SE} {L:List Ch}
theorem aJY{m:Nat}{v:Value}(hv:bK B x=some v)(h:∀n o,x=.p n o->n<m):bK (B.take m) x=some v:=by
 cases x<;>simp only[bK] at hv ⊢<;>try exact hv
 grind
theorem BR{B:Bl}{m:Nat}:∀{cs:List SV} {vs:List Value},yU.okC m cs=true->aT (bK B) cs=some vs->aT (bK (B.take m)) cs=some vs
 |[],vs,_,h=>h
 |x::cs,vs,ho,h=>by
  simp only[aT] at h;split at h
  ·cases h
  ·rename_i h1;split at h
   ·cases h
   ·rename_i h2;cases h;have hx:(∀n o,x=.p n o->n<m)/\yU.okC m cs=true:=by simp only[yU.okC] at ho;grind[wD]
    simp[aT,aJY h1 hx.1,BR hx.2 h2]
theorem aZP{B:Bl}{m:Nat}:∀{cs:List SV} {vs:List Value},yU.okT m cs=true->aT (gV B) cs=some vs->aT (gV (B.take m)) cs=some vs
 |[],vs,_,h=>h
 |x::cs,vs,ho,h=>by
  simp only[aT] at h;split at h
  ·cases h
  ·rename_i y0 h1;split at h
   ·cases h
   ·rename_i h2;cases h;have hx:gV (B.take m) x=some y0/\yU.okT m cs=true:=by simp only[yU.okT] at ho;grind[aJY,wD,gV,BR]
    simp[aT,hx.1,aZP hx.2 h2]
theorem aZQ{B:Bl}{m:Nat}:∀{cs:List Nat} {vs:List Value},yU.okF m cs=true->aT (VK B) cs=some vs->aT (VK (B.take m)) cs=some vs
 |[],vs,_,h=>h
 |x::cs,vs,ho,h=>by
  simp only[aT] at h;split at h
  ·cases h
  ·rename_i y0 h1;split at h
   ·cases h
   ·rename_i h2;cases h;simp only[yU.okF] at ho;split at ho
    ·rename_i hb;have hx:VK (B.take m) x=some y0:=by simp_all[VK]
     simp[aT,hx,aZQ ho h2]
    ·cases ho
theorem SP{m:Nat}{v:Value}(h:yU m x=true)(hv:fH B x=some v):fH (B.take m) x=some v:=by
 cases x
 case p n o=>exact aJY (x:=.p n o) hv (λn' o' he=>by grind[yU,wD])
 case g cs=>
  simp only[fH,gV] at hv ⊢;split at hv
  ·rename_i h1;rw[BR h h1];exact hv
  ·cases hv
 case t cs=>
  simp only[fH] at hv ⊢;split at hv
  ·rename_i h1;rw[aZP h h1];exact hv
  ·cases hv
 case f f cs=>
  simp only[fH] at hv ⊢;split at hv
  ·rename_i h1;rw[aZQ h h1];exact hv
  ·cases hv
 all_goals exact hv
theorem a6E{z:SV}:bK B (re1 z x)=bK B x:=by cases z<;>cases x<;>rfl
theorem bB6{z:SV}:fH B (re1 z x)=fH B x:=by cases z<;>cases x<;>rfl
theorem aZR{B:Bl}:∀{cs ds:List SV},aT (bK B) (reC cs ds)=aT (bK B) ds
 |[],[]=>rfl
 |[],_::_=>rfl
 |_::_,[]=>rfl
 |c::cs,d::ds=>by simp only[reC,aT,a6E,aZR]
theorem a6F:bK B (nb1 x)=bK B x:=by cases x<;>rfl
theorem K9{B:Bl}:∀{cs:List SV},aT (bK B) (nbL cs)=aT (bK B) cs
 |[]=>rfl
 |c::cs=>by simp only[nbL,aT,a6F,K9]
theorem bG9:gV B (nbG x)=gV B x:=by
 cases x<;>try rfl
 grind[nbG,gV,K9]
theorem aZS{B:Bl}:∀{cs:List SV},aT (gV B) (nbT cs)=aT (gV B) cs
 |[]=>rfl
 |c::cs=>by simp only[nbT,aT,bG9,aZS]
theorem aQU:fH B (nbG x)=fH B x:=by
 cases x<;>try rfl
 grind[nbG,fH,gV,K9]
theorem aIG:fH B (nbS x)=fH B x:=by
 cases x with
 |g cs=>exact aQU (x:=.g cs)
 |t xs=>grind[nbS,fH,aZS]
 |_=>rfl
theorem aZT{B:Bl}:∀{cs:List SV},aT (fH B) (nbT cs)=aT (fH B) cs
 |[]=>rfl
 |c::cs=>by simp only[nbT,aT,aQU,aZT]
theorem OJ{B:Bl}:∀{cs:List SV},aT (fH B) (nbA cs)=aT (fH B) cs
 |[]=>rfl
 |c::cs=>by
  simp only[nbA];split
  ·simp only[aT,OJ];rfl
  ·simp only[aT,aQU,OJ]
theorem a6G{e:SE}:∀{e' s:SE} {k:Nat} {x:SV},reE e e'=some s->CV s k=some x->∃y,CV e k=some y/\∀B,fH B x=fH B y
 |[],s,k,x,h,hk=>by cases h;cases hk
 |(j,y)::r,s,k,x,h,hk=>by
  simp only[reE] at h;split at h
  ·rename_i z hz;split at h
   ·rename_i s' hs;cases h;simp only[CV] at hk;cases hb:Nat.beq k j with
    |true=>grind[nM,bB6]
    |false=>rw[hb] at hk;exact a6G hs hk
   ·cases h
  ·cases h
theorem aQV{B:Bl}{w:World}{R:List Fact}:∀(M L:List Ch),jT w (L.map (kS B)) ((reL M L).map (kS B))/\((∀x∈L,roF B R x)->∀x∈reL M L,roF B R x)
 |[],L=>by grind[reL,jT.refl]
 |x::M,[]=>by cases x<;>exact⟨.nil,λh=>h⟩
 |x::M,y::L=>by
  obtain⟨h1,h2⟩:=aQV (B:=B) (w:=w) (R:=R) M L;have gen:reL (x::M) (y::L)=y::reL M L->jT w ((y::L).map (kS B)) ((reL (x::M) (y::L)).map (kS B))/\((∀x∈y::L,roF B R x)->∀z∈reL (x::M) (y::L),roF B R z):=λhe=>by rw[he];refine⟨.cons (λ_ h=>h) h1,λh z hz=>?_⟩;grind
  cases x with
  |box n cs=>
   cases y with
   |box k ds=>
    simp only[reL];refine⟨.cons (λF ⟨b,z,vs,k1,k2,k3⟩=>⟨b,z,vs,k1,by grind[aZR],k3⟩) h1,λh z hz=>?_⟩;rcases iX.1 hz with hz|hz
    ·subst hz;trivial
    grind
   |_=>exact gen rfl
  |_=>exact gen (by cases y<;>rfl)
theorem a6H{m:Nat}:∀{s:SE} {k:Nat} {x:SV},okE m s=true->CV s k=some x->yU m x=true
 |[],k,x,h,hk=>by cases hk
 |(j,y)::r,k,x,h,hk=>by
  simp only[okE] at h;split at h
  ·rename_i ho;simp only[CV] at hk;cases hb:Nat.beq k j with
   |true=>grind
   |false=>rw[hb] at hk;exact a6H h hk
  ·cases h
theorem aQW{m:Nat}:∀{L:List Ch} {x:Ch},okL m L=true->x∈L->(∀n cs,x=.box n cs\/x=.ro n cs->n<m/\yU.okC m cs=true)
 |y::L,x,h,hx,n,cs,he=>by
  have key:(∀n cs,y=.box n cs\/y=.ro n cs->n<m/\yU.okC m cs=true)/\okL m L=true:=by
   cases y with
   |box k c=>
    grind[okL,wD]
   |ro k c=>
    grind[okL,wD]
   |o c=>exact⟨λn cs he=>aj,h⟩
   |f c=>exact⟨λn cs he=>aj,h⟩
   |no=>exact⟨λn cs he=>aj,h⟩
   |w k b z=>
    grind[okL]
  rcases iX.1 hx with hx|hx
  ·grind
  ·exact aQW key.2 hx n cs he
theorem bFJ{m n b z:Nat}:∀{L:List Ch},okL m L=true->Ch.w n b z∈L->n<m
 |y::L,h,hx=>by
  have key:(y=.w n b z->n<m)/\okL m L=true:=by
   cases y with
   |box k c=>
    grind[okL]
   |ro k c=>
    grind[okL]
   |w k b z=>
    grind[okL,wD]
   |o c=>exact⟨λhe=>(by cases he),h⟩
   |f c=>exact⟨λhe=>(by cases he),h⟩
   |no=>exact⟨λhe=>(by cases he),h⟩
  rcases iX.1 hx with hx|hx
  ·grind
  ·exact bFJ key.2 hx
theorem aJZ{L:List Ch}:∀{is:List Nat} {x:Ch},x∈kl L is->x∈L
 |i::is,x,h=>by
  simp only[kl] at h;split at h
  ·rename_i y hy;rcases iX.1 h with h|h
   ·grind
   ·exact aJZ h
  ·exact aJZ h
theorem aZU{B:Bl}{w:World}{L:List Ch}:∀(is:List Nat),∃is',(∀j∈is',j∈is)/\(dE is=true->dE is'=true)/\jT w (pick (L.map (kS B)) is') ((kl L is).map (kS B))
 |[]=>⟨[],ae,λh=>h,.nil⟩
 |i::is=>by
  obtain⟨is',h1,h2,h3⟩:=aZU (B:=B) (w:=w) (L:=L) is;cases hi:L[i]? with
  |none=>
   refine⟨is',λj hj=>lH _ (h1 j hj),λh=>h2 ?_,?_⟩
   ·simp only[dE,uG] at h;exact h.2
   ·simp only[kl,hi];exact h3
  |some x=>
   refine⟨i::is',λj hj=>?_,λh=>?_,?_⟩
   ·grind
   ·simp_all[dE]
   ·simp only[kl,hi,pick,AS,Option.map_some,aF3,AT];exact .cons (λ_ h=>h) h3
theorem a6I(h:lJ c w B L)(is:List Nat)(ha:dE is=true):lJ c w B (kl L is):=by obtain⟨⟨R,s1,s2⟩,s0⟩:=h;obtain⟨is',_,h2,h3⟩:=aZU (B:=B) (w:=w) (L:=L) is;exact⟨⟨R,(s1.sel is' (h2 ha)).imp h3,λx hx=>s2 x (aJZ hx)⟩,s0⟩
theorem aCC{m:Nat}{L:List Ch}(h:lJ c w B L)(ho:okL m L=true):lJ c w (B.take m) L:=by
 obtain⟨⟨R,s1,s2⟩,s0⟩:=h;have key:∀x∈L,∀F,(kS B x).P w F->(kS (B.take m) x).P w F:=by
  intro x hx F hF;cases x with
  |box n cs=>
   obtain⟨h1,h2⟩:=aQW ho hx n cs (.inl rfl);obtain⟨b,z,vs,k1,k2,k3⟩:=hF;exact⟨b,z,vs,aj,BR h2 k2,k3⟩
  |_=>exact hF
 have imp:∀(M:List Ch),(∀x∈M,x∈L)->jT w (M.map (kS B)) (M.map (kS (B.take m))):=by
  intro M;induction M with
  |nil=>exact λ_=>.nil
  |cons x M ih=>exact λhM=>.cons (key x (hM x ae)) (ih λy hy=>hM y (lH _ hy))
 refine⟨⟨R,s1.imp (imp L λ_ h=>h),λx hx=>?_⟩,s0⟩;have:=s2 x hx;cases x with
 |ro n cs=>
  obtain⟨h1,h2⟩:=aQW ho hx n cs (.inr rfl);obtain⟨b,z,vs,k1,k2,k3⟩:=this;exact⟨b,z,vs,aj,BR h2 k2,k3⟩
 |w n b z=>
  have h1:=bFJ ho hx;exact(by rw[aBZ,aO h1];exact this:(List.take m B)[n]?=some (b,z))
 |_=>exact this
theorem bHA{L:List Ch}(h:lJ c w B L)(M:List Ch):lJ c w B (reL M L):=by obtain⟨⟨R,s1,s2⟩,s0⟩:=h;exact⟨⟨R,s1.imp (aQV (R:=R) M L).1,(aQV (w:=w) M L).2 s2⟩,s0⟩
theorem Rel.as{B0:Bl}{m':Nat}{e':SE}{a:Act}(hr:pA n c B0 m e L a w)(is:List Nat)(ha:dE is=true){f:SE}{M:List Ch}(h:asS e L is m' f M=some (e',L'))(hm:m'<=m)(h0:B0.length<=m'):pA n c B0 m' e' L' a w:=by
 unfold asS at h;split at h
 ·rename_i s hs;split at h
  ·rename_i h1 h2;cases h;obtain⟨B,hl,hA,hS⟩:=hr;have hB:(B0++B).take m'=B0++B.take (m'-B0.length):=by rw[List.take_append,aF2 h0]
   refine⟨B.take (m'-B0.length),aj,?_,?_⟩
   ·rw[<-hB];exact⟨hA.d,hA.size,λk x hk=>by
     obtain⟨y,q1,q2⟩:=a6G hs hk;obtain⟨v,k1,k2⟩:=hA.get k y q1;grind[SP,a6H]⟩
   grind[aCC,bHA,a6I]
  ·cases h
 ·cases h
theorem pA.YQ{B0:Bl}{m':Nat}{e':SE}{a:Act}(hr:pA n c B0 m e L a w)(is:List Nat){f:SE}{M:List Ch}(h:YQ B0.length m e L is m' f M=some (e',L')):pA n c B0 m' e' L' a w:=by grind[Go.Gv.YQ,Rel.as,QU]
end
section
variable {P:Program} {T:TT} {n:Nat} {B:Bl} {e:SE} {a:Act} {o:Oper} {w w':World} {x y:Operand} {c:Ctx} {L:List Ch}
theorem aAO{ops:Array Oper}(h:CX ops e o.guard=.yes):Want ops o (vE B e) true:=by
 unfold CX at h;split at h
 ·exact aS4 (by assumption)
 ·rename_i j w hg;split at h
  ·rename_i q hq;split at h
   ·rename_i s hs;have hj:(ops[j]?).bind (·.dst)=some s:=by rw[<-Array.getElem?_toList,hq];exact hs
    split at h
    ·rename_i c hl;have hv:lk (vE B e) s=some (.bool c):=by rw[aJW hl];rfl
     refine aY9 hg hj hv ?_;split at h<;>first|rfl|cases h
    all_goals cases h
   ·cases h
  ·cases h
theorem bFK{ops:Array Oper}(h:CX ops e o.guard=.no):Want ops o (vE B e) false:=by
 unfold CX at h;split at h
 ·cases h
 ·rename_i j w hg;split at h
  ·rename_i q hq;split at h
   ·rename_i s hs;have hj:(ops[j]?).bind (·.dst)=some s:=by rw[<-Array.getElem?_toList,hq];exact hs
    split at h
    ·rename_i c hl;have hv:lk (vE B e) s=some (.bool c):=by rw[aJW hl];rfl
     refine aY9 hg hj hv ?_;cases c<;>cases w<;>first|rfl|cases h
    ·rename_i hl;exact bBK hg hj (by rw[aJW hl];rfl)
    all_goals cases h
   ·cases h
  ·cases h
theorem aJ0{m:Nat}:∀{L:List Ch},QY m L=true->∃i cs,L[i]?=some (.box m cs)/\HC m L=some cs/\∀cs',sY m cs' L=L.set i (.box m cs')
 |[],h=>by cases h
 |x::L,h=>by
  have ih:QY m L=true->HC m (x::L)=HC m L->(∀cs',sY m cs' (x::L)=x::sY m cs' L)->∃i cs,(x::L)[i]?=some (.box m cs)/\HC m (x::L)=some cs/\∀cs',sY m cs' (x::L)=(x::L).set i (.box m cs'):=λh h2 h3=>by obtain⟨i,cs,g1,g2,g3⟩:=aJ0 h;exact⟨i+1,cs,aj,by rw[h2,g2],λcs'=>aj⟩
  cases x with
  |box k cs=>
   simp only[QY] at h;split at h
   ·rename_i hb;have:=nM hb;subst this;exact⟨0,cs,rfl,by grind[HC],λcs'=>by grind[sY]⟩
   grind[HC,sY]
  |ro k cs=>
   grind[QY,HC,sY]
  |o ch=>exact ih h rfl (λ_=>rfl)
  |f g=>exact ih h rfl (λ_=>rfl)
  |no=>exact ih h rfl (λ_=>rfl)
  |w k b z=>exact ih h rfl (λ_=>rfl)
theorem aO6(hT:D6 P T)(hA:gQ n B e a)(hS:lJ c w B L){p v:SV}(ho:o.op=.store t x y)(hx:iG e x=some p)(hy:iG e y=some v)(h:SL T t p v L=some L'):∃w',bJU P o (vE B e) w w'/\lJ c w' B L':=by
 unfold SL at h;split at h
 ·rename_i m j;split at h
  ·rename_i hb;split at h
   ·rename_i cs _ _ sz _ h1 h2;split at h
    ·rename_i h3 h4 h5;split at h
     case h_2=>cases h
     rename_i ds hds;have h4:=nM h4;have h5:=QU h5;have:=SO hds;rw[aJX _ _ _ aa] at this;subst this;split at h
     case h_2=>cases h
     rename_i L2 hL2;cases h;have:=SO hL2;subst this;obtain⟨i,cs',g1,g2,g3⟩:=aJ0 hb;rw[h1] at g2;cases g2;obtain⟨pv,hp1,hp2⟩:=eF hA hx;obtain⟨u,hu1,hu2⟩:=eF hA hy;obtain⟨vs,hv⟩:=aAN h3 hu1;obtain⟨b,z,rs,k1,k2,_⟩:=hS.cells h1;simp only[fH,gV,bK,k1] at hp1;cases hp1;have hl:=kW hv;have hl2:=kW k2;obtain⟨⟨R,s1,s2⟩,s0⟩:=hS;have hlt:=(AR.1 g1).1;have gi:(L.map (kS B))[i]?=some (SN B m cs):=by rw[AS,g1];rfl
     have s3:St c w ((L.map (kS B)).set i (VY b z rs)) R:=s1.imp (jT.put i gi λF ⟨b',z',vs',q1,q2,q3⟩=>by
      grind)
     obtain⟨w2,r1,r2⟩:=bJX (P:=P) (o:=o) (e:=vE B e) (b:=b) (q:=z) (cs:=rs) (vs:=vs) (j:=j) (m:=sz) s3 (i:=i) aj ho hp2 hu2 (MC hu1 hv) (hT.size _ _ h2) aa (Nat.ble_eq_true_of_le aa) (V3.2 λq hq=>by
      obtain⟨k,hk⟩:=aFY hq;have hk2:k<(mH v).length:=aj
      obtain⟨q',hq1,hq2⟩:=QZ hv (jC hk2);grind[aJV])
     refine⟨w2,r1,⟨⟨R,?_,?_⟩,s0⟩⟩
     ·rw[aSZ] at r2;rw[g3,KT];exact r2.imp (jT.set i (jT.refl _) λF hF=>⟨b,z,_,k1,aB9 j k2 hv,hF⟩)
     ·rw[g3];intro q hq;rcases rG hq with hq|hq
      ·grind
      ·subst hq;trivial
    ·cases h
   ·cases h
  ·cases h
 ·cases h
theorem lJ.box(hS:lJ c w B L){w':World}{b:Nat}{cs:List SV}(hc:aT (bK B) cs=some vs)(h:∀M R,St c w M R->St c w' (M++[bBJ b vs]) R):lJ c w' (B++[(b,0)]) (L++[.box B.length cs]):=by
 obtain⟨⟨R,s1,s2⟩,s0⟩:=hS;refine⟨⟨R,?_,?_⟩,s0⟩
 ·rw[m7];refine(h _ _ s1).imp (jT.append (YR _ L) (.cons (λF hF=>⟨b,0,vs,ae,eQ (λ_ _=>fW _) hc,hF⟩) .nil))
 ·intro q hq;rcases cY.1 hq with hq|hq
  ·grind[aQR]
  ·simp at hq;subst hq;trivial
theorem a6J(hT:D6 P T)(hS:lJ c w B L){i:TI}{E:Env}(ho:o.op=.alloc t)(h:wW T t=some i):∃v w' b,eW P o E w v w'/\v=.pointer (some ⟨b,0,none⟩)/\lJ c w' (B++[(b,0)]) (L++[.box B.length i.z]):=by obtain⟨z,hz,hzc⟩:=hT.zero _ _ h;have hzc':aT (bK B) i.z=some z.cells.toList:=eQ (λx v h=>by simpa using fW (B:=[]) B h) hzc;refine⟨_,_,w.heap.size,λ_ a hA=>?_,rfl,hS.box hzc' λM R hM=>hM.alloc z.cells.toList t⟩;simp_all[execOp,Instr.alloc,newVar,newRow]
theorem bHB(hA:gQ n B e a)(hS:lJ c w B L){v:SV}(ho:o.op=.box t x)(h:iG e x=some v)(hc:isCells v=true):∃u w' b,eW P o (vE B e) w u w'/\u=.pointer (some ⟨b,0,none⟩)/\lJ c w' (B++[(b,0)]) (L++[.box B.length (mH v)]):=by obtain⟨u,h1,h2⟩:=eF hA h;obtain⟨vs,h3⟩:=aAN hc h1;have h4:=MC h1 h3;subst h4;refine⟨_,_,w.heap.size,λ_ a hA=>?_,rfl,hS.box h3 λM R hM=>hM.alloc u.cells.toList t⟩;simp[execOp,ho,Instr.box,hA.eval h2,newVar,newRow]
end
structure Gx where
 P:Program
 T:TT
 hT:D6 P T
 n:Nat
 c:Ctx
 B0:Bl
 N:Act->World->Prop
 X:Nat->Act->World->Prop
 Q:Act->World->Prop
abbrev Rel(g:Gx)(m:Nat)(e:SE)(L:List Ch)(a:Act)(w:World):Prop:=pA g.n g.c g.B0 m e L a w
mutual
def NK(g:Gx):List Fr->Act->World->Prop
 |[]=>g.N
 |.s y::K=>λa w=>CW g.P y (NK g K) (XK g K) g.Q a w
 |.k _::K=>NK g K
def XK(g:Gx):List Fr->Nat->Act->World->Prop
 |[]=>g.X
 |.s _::K=>XK g K
 |.k id::K=>aO0 id (NK g K) (XK g K)
end
structure aEL (g:Gx) (B1:Bl) (ops:Array Oper) (l:List Bool) (is:List Nat) (Lf L:List Ch):Prop where
 pre:∃B,B1=g.B0++B
 len:l.length=ops.size
 free:aTA ops=true
 wY:kl L is=Lf
 rng:∀j∈is,j<L.length
 okf:okL B1.length Lf=true
 ap:dE is=true
abbrev Sd(g:Gx)(B1:Bl)(Lf:List Ch):World->Prop:=λw=>lJ g.c w B1 Lf
def bJ2(g:Gx)(B1:Bl)(Lf Lv:List Ch)(m:Nat)(e:SE)(L:List Ch)(a:Act)(w:World):Prop:=∃B,(B1++B).length=m/\gQ g.n (B1++B) e a/\lJ g.c w (B1++B) L/\∀w',lJ g.c w' B1 Lf->lJ g.c w' (B1++B) Lv
def G(g:Gx)(K:List Fr)(m:Nat)(e:SE)(L:List Ch):sW->Prop
 |.n=>∀a w,Rel g m e L a w->NK g K a w
 |.c x=>∀a w,Rel g m e L a w->CW g.P x (NK g K) (XK g K) g.Q a w
 |.r ops l=>∀a w,Rel g m e L a w->wpList g.P ops (mkQ (NK g K) (XK g K) g.Q) l a w
 |.d B1 ops l is Lf Lv=>aEL g B1 ops l is Lf L->∀a w,bJ2 g B1 Lf Lv m e L a w->wpAnyH g.P .any ops (mkQ (NK g K) (XK g K) g.Q) (Sd g B1 Lf) (l.count false) l.toArray a w
 |.o B1 ops l is Lf Lv i=>aEL g B1 ops l is Lf L->∀a w,bJ2 g B1 Lf Lv m e L a w->wpOp g.P ops (mkQ (NK g K) (XK g K) g.Q) i (λa' w'=>Sd g B1 Lf w'/\wpAnyH g.P .any ops (mkQ (NK g K) (XK g K) g.Q) (Sd g B1 Lf) ((l.set i true).count false) (l.set i true).toArray a' w') a w
def V8(g:Gx):sW->Bl
 |.d B1 _ _ _ _ _=>B1
 |.o B1 _ _ _ _ _ _=>B1
 |_=>g.B0
def Frz(g:Gx)(cf:sW)(L L':List Ch):Prop:=match cf with
 |.d B1 ops l is Lf _=>aEL g B1 ops l is Lf L->kl L' is=Lf/\∀j∈is,j<L'.length
 |.o B1 ops l is Lf _ _=>aEL g B1 ops l is Lf L->kl L' is=Lf/\∀j∈is,j<L'.length
 |_=>True
def aCD(g:Gx)(K:List Fr)(m:Nat)(e:SE)(L:List Ch)(o:Oper)(Lv:List Ch)(cf cf':sW):Prop:=
 ∀(d:Nat) (x:SV) (Ln:List Ch) (nb:World->Bl) (k:Nat),o.dst=some d->(∀w,(nb w).length=k) ->
  (∀B a w,gQ g.n B e a->lJ g.c w B Lv->B.length=m->∃v,fH (B++nb g.c.w0) x=some v/\eW g.P o (vE B e) w v w) ->
  (∀B w L,B.length=m->lJ g.c w B L->lJ g.c w (B++nb g.c.w0) (L++Ln)) ->
  G g K (m+k) ((d,x)::e) (L++Ln) (cf'.ext Ln)->G g K m e L cf
def aF7(g:Gx)(K:List Fr)(m:Nat)(e:SE)(L:List Ch)(o:Oper)(cf cf':sW):Prop:=
 ∀(ι:Type) (m':ι->Nat) (e':ι->SE) (L':ι->List Ch),(∀i,Frz g cf L (L' i)) ->
  (∀B a w (next:Act->World->Prop) (Q:Exit->Act->World->Prop),(V8 g cf++B).length=m->gQ g.n (V8 g cf++B) e a->lJ g.c w (V8 g cf++B) L->(∀i a' w',pA g.n g.c (V8 g cf++B) (m' i) (e' i) (L' i) a' w'->next a' w')->o.wp g.P a w next Q) ->
  (∀i,G g K (m' i) (e' i) (L' i) cf')->G g K m e L cf
def Gs(g:Gx):Stop->Prop
 |.ret m e L=>∀a w,Rel g m e L a w->g.Q a w
 |.fin m e L=>∀a w,Rel g m e L a w->g.N a w
 |.ex id m e L=>∀a w,Rel g m e L a w->g.X id a w
 |.cond o b x y K m e L=>iG e o=some (.b b)->G g K m e L (.c (.cond o x y))
 |.case _ cf K m e L=>G g K m e L cf
 |.loop id y K m e L=>G g K m e L (.c (.block id (.loop y)))
 |.idx o d t s n i Lv cf cf' K m e L=>(∀x y,o.op=.indexAddr t x y->o.dst=some d->iG e x=some (.h s n)->iG e y=some (.i .i64 i)->aCD g K m e L o Lv cf cf'->G g K m e L cf)
 |.call o d f xs cf cf' K m e L=>(∀fo args ats,o.op=.call {callee:=.value fo,args:=args,argTypes:=ats}->o.dst=d->iG e fo=some (.f f [])->(∃ys,aT (iG e) args.toList=some ys/\nbA ys=xs)->okA xs=true->qS g.n d=true->aF7 g K m e L o cf cf'->G g K m e L cf)
 |.callp o d f xs cf cf' K m e L=>(∀fo args ats,o.op=.call {callee:=.value fo,args:=args,argTypes:=ats}->o.dst=d->iG e fo=some (.f f [])->(∃ys,aT (iG e) args.toList=some ys/\nbA ys=xs)->qS g.n d=true->aF7 g K m e L o cf cf'->G g K m e L cf)
 |.op o Lv cf cf' K m e L=>qS g.n o.dst=true->aCD g K m e L o Lv cf cf'->aF7 g K m e L o cf cf'->G g K m e L cf
 |.opp o Lv cf cf' K m e L=>qS g.n o.dst=true->aCD g K m e L o Lv cf cf'->G g K m e L cf
 |.rgn id ops K m e L=>G g K m e L (.c (.region id ops true))
 |.alt cf K m e L=>G g K m e L cf
 |.stuck=>False
section
variable {g:Gx} {K:List Fr} {m:Nat} {e:SE} {L:List Ch}
theorem bFL{a:Act}{w:World}:∀{K:List Fr},(match pop K with|some (y,K')=>CW g.P y (NK g K') (XK g K') g.Q a w|none=>g.N a w)->NK g K a w
 |[],h=>by simpa[pop,NK] using h
 |.s y::K,h=>by simpa[pop,NK] using h
 |.k _::K,h=>by have:NK g K a w:=bFL (by grind[pop]);simp_all[NK]
theorem a6K{a:Act}{w:World}{id:Nat}:∀{K:List Fr},(match xit id K with|some K'=>NK g K' a w|none=>g.X id a w)->XK g K id a w
 |[],h=>by simpa[xit,XK] using h
 |.s y::K,h=>by have:XK g K id a w:=a6K (by grind[xit]);simp_all[XK]
 |.k j::K,h=>by
  simp only[xit] at h;simp only[XK,aO0];cases hb:Nat.beq id j with
  |true=>
   simp_all
  |false=>
   rw[hb] at h;rw[aP (λe=>by simp_all)];exact a6K h
theorem aZV{F:Nat}(ih:∀K c m e L,Gs g (stp g.T g.n F K c m e L)->G g K m e L c)(h:Gs g (match pop K with|some (y,K')=>stp g.T g.n F K' (.c y) m e L|none=>.fin m e L)):∀a w,Rel g m e L a w->NK g K a w:=λa w hr=>by
 refine bFL ?_;split
 ·rename_i y K' hp;rw[hp] at h;exact ih _ _ _ _ _ h a w hr
 ·rename_i hp;rw[hp] at h;exact h a w hr
theorem gQ.ext{n:Nat}{B nb:Bl}{a a':Act}{d:Nat}{x:SV}{v:Value}(hA:gQ n B e a)(hx:fH (B++nb) x=some v)(hA':J3 n ((d,v)::vE B e) a'):gQ n (B++nb) ((d,x)::e) a':=by
 refine(hA.app nb).of hx ⟨hA'.d,hA'.size,λk u hk=>?_⟩;simp only[lk] at hk;cases hb:Nat.beq k d with
 |true=>rw[hb] at hk;exact hA'.get k u (by grind[lk])
 |false=>
  rw[hb] at hk;obtain⟨y,h2,h3⟩:=a6A hk;obtain⟨u2,h4,h5⟩:=hA.get k y h2;rw[wE nb h4] at h3;refine hA'.get k u ?_;grind[lk,aJW]
theorem bB7{ops:Array Oper}{l:List Oper}{o:Oper}(hg:CX ops e o.guard=.yes)(hd:qS g.n o.dst=true):aCD g K m e L o L (.r ops (o::l)) (.r ops l):=by
 intro d x Ln nb k hdst hk hv hs hG a w ⟨B,hm,hA,hS⟩;obtain⟨v,h1,h2⟩:=hv _ a w hA hS hm;rw[hdst] at hd;refine bFE h2 (aAO hg) hdst hd (λa' hA'=>hG a' w ⟨B++nb g.c.w0,?_,?_,?_⟩) a hA.env
 ·grind
 ·rw[<-nL];exact hA.ext h1 hA'
 grind
theorem aZW{ops:Array Oper}{l:List Oper}{o:Oper}(hg:CX ops e o.guard=.yes):aF7 g K m e L o (.r ops (o::l)) (.r ops l):=by intro ι m' e' L' _ hrun hG a w hr;have ⟨B,hm,hA,hS⟩:=hr;refine wpList_step λK' hK=>?_;rw[aAO hg _ a hA.env,aO rfl];exact hrun B a w K' _ hm hA hS (λi a' w' ⟨B',h1,h2,h3⟩=>hK a' w' (hG i a' w' ⟨B++B',by rw[<-nL];exact h1,by rw[<-nL];exact h2,by rw[<-nL];exact h3⟩))
theorem aEL.S{B1:Bl}{ops:Array Oper}{l:List Bool}{is:List Nat}{Lf:List Ch}(h:aEL g B1 ops l is Lf L){w:World}{B:Bl}(hS:lJ g.c w (B1++B) L):lJ g.c w B1 Lf:=by have h1:=a6I hS is h.ap;rw[h.wY] at h1;have h2:=aCC h1 h.okf;grind
theorem aEM{d:Edge}:Region.binds .any d=a56 d.ground:=by
 cases d with
 |mk on g=>cases g<;>rfl
theorem aIH{l:List Bool}:∀{es:List Edge},PM l es=true↔∀d∈es,Region.binds .any d=true->l[d.on]?=some true
 |[]=>by simp[PM]
 |⟨on,gr⟩::r=>by
  have ih:=aIH (l:=l) (es:=r);simp only[PM,iX,forall_eq_or_imp,aEM];cases hb:a56 gr with
  |true=>
   simp only;split
   ·rename_i h1;rw[ih];simp[h1,aEM]
   ·rename_i h1;constructor
    ·intro h;cases h
    ·intro h;exact absurd (h.1 trivial) (by simpa using h1)
  |false=>grind[aEM]
theorem YS{ops:Array Oper}{l:List Bool}(hl:l.length=ops.size){j:Nat}:j∈Region.ready .any ops l.toArray↔l[j]?=some false/\∃o,ops.toList[j]?=some o/\PM l o.after.toList=true:=by
 rw[mem_ready];have h1:(l.toArray.getD j true=false)↔l[j]?=some false:=by rw[Array.getD_eq_getD_getElem?,List.getElem?_toArray];grind
 rw[h1];refine and_congr_right λ_=>?_;constructor
 ·rintro⟨o,h2,h3⟩;refine⟨o,aj,aIH.2 λd hd hb=>?_⟩;have:=h3 d aj hb;rw[Array.getD_eq_getD_getElem?,List.getElem?_toArray] at this;grind
 simp_all[aIH]
theorem aEN{i:Nat}:∀{es:List Edge},aAM i es=true↔∃d∈es,Region.binds .any d=true/\d.on=i
 |[]=>by simp[aAM]
 |⟨on,gr⟩::r=>by
  have ih:=aEN (i:=i) (es:=r);simp only[aAM,iX,exists_eq_or_imp,aEM];cases hb:a56 gr with
  |true=>
   simp only;cases hi:Nat.beq on i with
   |true=>simp_all
   |false=>
    simp only;have hne:on≠i:=λh=>by simp_all
    grind[aEM]
  |false=>grind[aEM]
theorem bB8{ops:Array Oper}{l:List Bool}(hl:l.length=ops.size)(hf:aTA ops=true){i:Nat}{o:Oper}(ho:ops.toList[i]?=some o)(hr:PM l o.after.toList=true):Region.noSelect ops=true/\Region.free .any ops l.toArray i=true:=by
 unfold aTA at hf;rw[uG,V3] at hf;refine⟨hf.1,?_⟩;unfold Region.free;have hoi:ops[i]?=some o:=aj
 rw[hoi];simp only[V3,List.mem_range];intro j hj;have hoj:ops[j]?=some ops[j]:=by simp[hj]
 rw[hoj];simp only[Bool.or_eq_true,beq_iff_eq];by_cases hji:j=i
 ·omega
 ·have h1:=hf.2 (o,i) (List.mk_mem_zipIdx_iff_getElem?.2 ho);rw[V3] at h1;have h2:=h1 (ops[j],j) (List.mk_mem_zipIdx_iff_getElem?.2 (by simp[hj]));simp only[Bool.or_eq_true] at h2;rcases h2 with ((h2|h2)|h2)|h2
  ·simp_all
  ·obtain⟨d,hd,hb,he⟩:=aEN.1 h2;refine .inr (.inl ?_);rw[<-Array.any_toList,List.any_eq_true];grind
  ·obtain⟨d,hd,hb,he⟩:=aEN.1 h2;have:=aIH.1 hr d hd hb;simp_all
  grind
theorem count_set{l:List Bool}:∀{i:Nat},l[i]?=some false->l.count false=(l.set i true).count false+1:=aj
theorem aWY{B1:Bl}{ops:Array Oper}{l:List Bool}{is:List Nat}{Lf:List Ch}{i:Nat}{o:Oper}{d:Nat}{v:Value}{a:Act}{w:World}{B:Bl}(hD:aEL g B1 ops l is Lf L)(ho:ops.toList[i]?=some o)(hl:l[i]?=some false)(hr:PM l o.after.toList=true)(hdst:o.dst=some d)(hdn:Nat.blt d g.n=true)(hA:gQ g.n (B1++B) e a)(hS:lJ g.c w (B1++B) L)
  (hy:(Want ops o (vE (B1++B) e) true/\∀w',Sd g B1 Lf w'->eW g.P o (vE (B1++B) e) w' v w')\/(Want ops o (vE (B1++B) e) false/\v=undef))
  (k:∀a',J3 g.n ((d,v)::vE (B1++B) e) a'->wpAnyH g.P .any ops (mkQ (NK g K) (XK g K) g.Q) (Sd g B1 Lf) ((l.set i true).count false) (l.set i true).toArray a' w):wpAnyH g.P .any ops (mkQ (NK g K) (XK g K) g.Q) (Sd g B1 Lf) (l.count false) l.toArray a w:=by
 obtain⟨f1,f2⟩:=bB8 hD.len hD.free ho hr;rw[count_set hl];refine wpAnyH_take (v:=v) (by simpa using ho) f1 f2 (by simpa using (YS hD.len).2 ⟨hl,o,ho,hr⟩) (λ_ _ _ h=>h.elim) ?_ (hD.S hS) ?_
 ·rcases hy with ⟨h1,h2⟩|⟨h1,h2⟩
  ·exact .inl ⟨h1 _ a hA.env,λw' hS'=>h2 w' hS' _ a hA.env⟩
  ·exact .inr ⟨h1 _ a hA.env,h2⟩
 ·rw[hdst];have:=k _ (hA.env.put (by simp_all) v);grind
theorem aEL.set{B1:Bl}{ops:Array Oper}{l:List Bool}{is:List Nat}{Lf L':List Ch}(h:aEL g B1 ops l is Lf L)(i:Nat)(hz:kl L' is=Lf/\∀j∈is,j<L'.length):aEL g B1 ops (l.set i true) is Lf L':=⟨h.pre,by simpa using h.len,h.free,hz.1,hz.2,h.okf,h.ap⟩
theorem a6L{L Ln:List Ch}:∀{is:List Nat},(∀j∈is,j<L.length)->kl (L++Ln) is=kl L is
 |[],_=>rfl
 |i::is,h=>by simp only[kl,List.getElem?_append_left (h i ae),a6L (λj hj=>h j (lH _ hj))]
theorem aEL.aJ1{B1:Bl}{ops:Array Oper}{l:List Bool}{is:List Nat}{Lf:List Ch}(h:aEL g B1 ops l is Lf L)(Ln:List Ch):kl (L++Ln) is=Lf/\∀j∈is,j<(L++Ln).length:=⟨by rw[a6L h.rng];exact h.wY,λj hj=>by have:=h.rng j hj;simp;omega⟩
theorem bB9{B1:Bl}{ops:Array Oper}{l:List Bool}{is:List Nat}{Lf Lv:List Ch}{i:Nat}{o:Oper}(ho:ops.toList[i]?=some o)(hl:l[i]?=some false)(hr:PM l o.after.toList=true)(hg:CX ops e o.guard=.yes)(hd:qS g.n o.dst=true):aCD g K m e L o Lv (.d B1 ops l is Lf Lv) (.d B1 ops (l.set i true) is Lf Lv):=by
 intro d x Ln nb k hdst hk hv hs hG hD a w ⟨B,hm,hA,hS,hV⟩;rw[hdst] at hd;obtain⟨v,h1,h2⟩:=hv _ a w hA (hV w (hD.S hS)) hm;refine aWY (v:=v) hD ho hl hr hdst hd hA hS (.inl ⟨aAO hg,λw' hS'=>?_⟩) λa' hA'=>?_
 ·obtain⟨v',h3,h4⟩:=hv _ a w' hA (hV w' hS') hm;rw[h1] at h3;cases h3;exact h4
 ·refine hG (hD.set i (hD.aJ1 Ln)) a' w ⟨B++nb g.c.w0,?_,?_,?_,λw' hS'=>?_⟩
  ·rw[<-nL,D8,hm,hk]
  ·rw[<-nL];exact hA.ext h1 hA'
  ·rw[<-nL];exact hs _ w _ hm hS
  ·rw[<-nL];exact hs _ w' _ hm (hV w' hS')
theorem aTD{l:List Bool}{i:Nat}:∀{os:List Oper} {j0:Nat},aF6 l i os j0=true->∀j o,os[j]?=some o->l[j0+j]?=some false->(PM l o.after.toList=true↔j0+j=i)
 |[],_,_,j,o,h,_=>by simp at h
 |p::os,j0,h,j,o,hj,hl=>by
  simp only[aF6] at h;cases j with
  |zero=>
   simp at hj;subst hj;simp only[UJ] at hl ⊢;rw[hl] at h;simp only at h;cases hb:Nat.beq j0 i with
   |true=>
    grind[nM]
   |false=>
    rw[hb] at h;simp only at h;have hne:j0≠i:=λh=>by simp_all
    grind
  |succ j=>
   have h':aF6 l i os (j0+1)=true:=aj
   have:=aTD h' j o aj aj;grind
theorem bCA{B1:Bl}{ops:Array Oper}{l:List Bool}{is:List Nat}{Lf Lv:List Ch}{i:Nat}{o:Oper}(ho:ops.toList[i]?=some o)(hg:CX ops e o.guard=.yes):aF7 g K m e L o (.o B1 ops l is Lf Lv i) (.d B1 ops (l.set i true) is Lf Lv):=by
 intro ι m' e' L' hz hrun hG hD a w hr;have ⟨B,hm,hA,hS,hV⟩:=hr;unfold wpOp;have hoi:ops[i]?=some o:=aj
 simp only[hoi,aAO hg _ a hA.env,bT];refine .inl (hrun B a w _ _ hm hA hS λj a' w' h=>?_);have hD':=hD.set i (hz j hD);obtain⟨B',q1,q2,q3⟩:=h;refine⟨?_,?_⟩
 ·refine hD'.S (B:=B++B') ?_;rw[<-nL];exact q3
 ·have:=hG j hD' a' w' ⟨B++B',by rw[<-nL];exact q1,by rw[<-nL];exact q2,by rw[<-nL];exact q3,λw2 h2=>by rw[<-nL];exact(hV w2 h2).app B'⟩;omega
theorem bCB{B1:Bl}{ops:Array Oper}{l:List Bool}{is:List Nat}{Lf Lv:List Ch}{i:Nat}{o:Oper}(ho:ops.toList[i]?=some o)(hg:CX ops e o.guard=.yes)(hd:qS g.n o.dst=true):aCD g K m e L o Lv (.o B1 ops l is Lf Lv i) (.d B1 ops (l.set i true) is Lf Lv):=by
 intro d x Ln nb k hdst hk hv hs hG hD a w ⟨B,hm,hA,hS,hV⟩;rw[hdst] at hd;obtain⟨v,h1,h2⟩:=hv _ a w hA (hV w (hD.S hS)) hm;unfold wpOp;have hoi:ops[i]?=some o:=by simpa using ho
 simp only[hoi,aAO hg _ a hA.env,bT];refine .inl ?_;unfold Oper.wp;rw[h2 _ a hA.env,Oper.upon_value,hdst];have hA':=hA.env.put (show d<g.n by simpa[qS,wD] using hd) v;refine⟨hD.S hS,hG (hD.set i (hD.aJ1 Ln)) _ w ⟨B++nb g.c.w0,?_,?_,?_,λw' hS'=>?_⟩⟩
 ·rw[<-nL,D8,hm,hk]
 ·rw[<-nL];exact hA.ext h1 hA'
 ·rw[<-nL];exact hs _ w _ hm hS
 ·rw[<-nL];exact hs _ w' _ hm (hV w' hS')
theorem aO7{l:List Bool}{j:Nat}:∀{os:List Oper} {j0:Nat} {o:Oper},os[j]?=some o->l[j0+j]?=some false->PM l o.after.toList=true->j0+j∈wX l os j0:=by
 intro os;induction os generalizing j with
 |nil=>simp
 |cons p os ih=>
  intro j0 o h hl hr;cases j with
  |zero=>
   simp_all[wX]
  |succ j=>
   have h2:=ih (j:=j) (j0:=j0+1) (o:=o) aj aj hr;grind[wX]
theorem bJ3{B1:Bl}{ops:Array Oper}{l:List Bool}{is:List Nat}{Lf Lv:List Ch}(hex:∃i,i∈wX l ops.toList 0)(h:∀i∈wX l ops.toList 0,G g K m e L (.o B1 ops l is Lf Lv i))(hok:∀i∈wX l ops.toList 0,l[i]?=some false/\∃o,ops.toList[i]?=some o/\PM l o.after.toList=true):G g K m e L (.d B1 ops l is Lf Lv):=by intro hD a w hr;obtain⟨i0,hi0⟩:=hex;obtain⟨q1,q2⟩:=hok i0 hi0;have hm:i0∈Region.ready .any ops l.toArray:=(YS hD.len).2 ⟨q1,q2⟩;rw[count_set q1];refine⟨λh=>aj,λj hj=>?_⟩;obtain⟨h1,p,h2,h3⟩:=(YS hD.len).1 hj;have h4:=aO7 (j0:=0) h2 aj h3;rw[aB2] at h4;have h5:=h j h4 hD a w hr;grind
theorem aJ2{l:List Bool}{i:Nat}:∀{os:List Oper} {j0:Nat},i∈wX l os j0->l[i]?=some false/\∃j o,os[j]?=some o/\j0+j=i/\PM l o.after.toList=true:=by
 intro os;induction os with
 |nil=>intro j0 h;cases h
 |cons p os ih=>
  intro j0 h;have tail:i∈wX l os (j0+1)->l[i]?=some false/\∃j o,(p::os)[j]?=some o/\j0+j=i/\PM l o.after.toList=true:=λh=>by obtain⟨h1,j,o,h2,h3,h4⟩:=ih h;exact⟨h1,j+1,o,aj,aa,h4⟩
  simp only[wX] at h;split at h
  ·rename_i hl;split at h
   ·rename_i hr;rcases iX.1 h with h|h
    ·subst h;grind
    grind
   grind
  grind
theorem a6M{B1:Bl}{ops:Array Oper}{l:List Bool}{is:List Nat}{Lf Lv:List Ch}{i0:Nat}{r:List Nat}(hr:wX l ops.toList 0=i0::r)(h:∀i∈i0::r,G g K m e L (.o B1 ops l is Lf Lv i)):G g K m e L (.d B1 ops l is Lf Lv):=bJ3 ⟨i0,aj⟩ (λi hi=>h i aj) λi hi=>by obtain⟨h1,j,o,h2,h3,h4⟩:=aJ2 hi;grind
theorem bCC{l:List Bool}{i:Nat}{ops:Array Oper}(h:aF6 l i ops.toList 0=true):∀j∈wX l ops.toList 0,j=i:=λj hj=>by obtain⟨h1,k,o,h2,h3,h4⟩:=aJ2 hj;rw[aB2] at h3;grind[aTD]
def PsG(g:Gx)(K:List Fr)(m:Nat)(L:List Ch)(B1:Bl)(ops:Array Oper)(is:List Nat)(Lf Lv:List Ch):Ps->Prop
 |.bad=>False
 |.ask _ l e=>G g K m e L (.d B1 ops l is Lf Lv)
 |.pur j o l e=>ops.toList[j]?=some o->l[j]?=some false->PM l o.after.toList=true->CX ops e o.guard=.yes->G g K m e L (.d B1 ops l is Lf Lv)
 |.fin l e _=>G g K m e L (.d B1 ops l is Lf Lv)
theorem YT{B1:Bl}{ops:Array Oper}{is:List Nat}{Lf Lv:List Ch}:∀(r:List Oper) (i:Nat) (l:List Bool) (e:SE) (q:List (Nat×Oper)),(∀j,r[j]?=ops.toList[i+j]?) ->
  PsG g K m L B1 ops is Lf Lv (pass g.T g.n ops Lv r i l e q)->G g K m e L (.d B1 ops l is Lf Lv)
 |[],i,l,e,q,hr,h=>by unfold pass at h;exact h
 |o::r,i,l,e,q,hr,h=>by
  have ho:ops.toList[i]?=some o:=by have:=hr 0;grind
  have hr':∀j,r[j]?=ops.toList[i+1+j]?:=λj=>by have:=hr (j+1);grind
  unfold pass at h;cases hl:l[i]? with
  |none=>simp only[hl] at h;exact h.elim
  |some b=>
   cases b with
   |true=>simp only[hl] at h;exact YT r (i+1) l e q hr' h
   |false=>
    cases hre:PM l o.after.toList with
    |false=>simp only[hl,hre] at h;exact YT r (i+1) l e q hr' h
    |true=>
     cases hgd:CX ops e o.guard with
     |bad=>simp only[hl,hre,hgd] at h;exact h.elim
     |ask c=>simp only[hl,hre,hgd] at h;exact h
     |no=>
      cases hd:o.dst with
      |none=>simp only[hl,hre,hgd,hd] at h;exact h.elim
      |some d=>
       cases hb:Nat.blt d g.n with
       |false=>simp only[hl,hre,hgd,hd,hb] at h;exact h.elim
       |true=>
        simp only[hl,hre,hgd,hd,hb] at h;have ih:=YT r (i+1) _ _ q hr' h;intro hD a w ⟨B,hm,hA,hS,hV⟩;refine aWY (v:=undef) hD ho hl hre hd hb hA hS (.inr ⟨bFK hgd,rfl⟩) λa' hA'=>?_;exact ih (hD.set i ⟨hD.wY,hD.rng⟩) a' w ⟨B,hm,hA.of (x:=.u) rfl hA',hS,hV⟩
     |yes=>
      cases hv:ev1 g.T e Lv o.op with
      |some v=>
       cases hd:o.dst with
       |none=>simp only[hl,hre,hgd,hv,hd] at h;exact h.elim
       |some d=>
        cases hb:Nat.blt d g.n with
        |false=>simp only[hl,hre,hgd,hv,hd,hb] at h;exact h.elim
        |true=>
         simp only[hl,hre,hgd,hv,hd,hb] at h;have ih:=YT r (i+1) _ _ q hr' h;intro hD a w ⟨B,hm,hA,hS,hV⟩;obtain⟨u,h1,h2⟩:=aQT g.hT hA (hV w (hD.S hS)) hv;refine aWY (v:=u) hD ho hl hre hd hb hA hS (.inl ⟨aAO hgd,λw' hS'=>?_⟩) λa' hA'=>?_
         ·obtain⟨u',h3,h4⟩:=aQT (w:=w') g.hT hA (hV w' hS') hv;grind
         ·exact ih (hD.set i ⟨hD.wY,hD.rng⟩) a' w ⟨B,hm,hA.of h1 hA',hS,hV⟩
      |none=>
       cases hp:bFH o.op with
       |true=>simp only[hl,hre,hgd,hv,hp] at h;exact h ho hl hre hgd
       |false=>
        simp only[hl,hre,hgd,hv,hp] at h;exact YT r (i+1) l e ((i,o)::q) hr' h
theorem aZX:∀{l:List Bool} {i:Nat},bB2 l=true->l[i]?≠some false
 |[],i,_=>ae
 |b::l,i,h=>by
  unfold bB2 at h;cases b with
  |false=>cases h
  |true=>
   cases i with
   |zero=>simp
   |succ i=>simpa using aZX (l:=l) (i:=i) h
theorem aO8{k:Nat}:∀{L:List Ch},QY k L=true->∃i,(∀cs',sY k cs' L=L.set i (.box k cs'))/\∀k0,aQO k L k0=k0+i
 |[],h=>by cases h
 |x::L,h=>by
  have ih:QY k L=true->(∀cs',sY k cs' (x::L)=x::sY k cs' L)->(∀k0,aQO k (x::L) k0=aQO k L (k0+1))->∃i,(∀cs',sY k cs' (x::L)=(x::L).set i (.box k cs'))/\∀k0,aQO k (x::L) k0=k0+i:=λh h2 h3=>by obtain⟨i,g1,g2⟩:=aO8 h;exact⟨i+1,λcs'=>aj,λk0=>aj⟩
  cases x with
  |box j cs=>
   simp only[QY] at h;split at h
   ·rename_i hb;exact⟨0,λcs'=>by grind[sY,nM],λk0=>by grind[aQO]⟩
   simp_all[sY,aQO]
  |ro j cs=>
   simp only[QY] at h;split at h
   ·cases h
   ·exact ih h (λ_=>rfl) (λ_=>rfl)
  |o ch=>exact ih h (λ_=>rfl) (λ_=>rfl)
  |f g=>exact ih h (λ_=>rfl) (λ_=>rfl)
  |no=>exact ih h (λ_=>rfl) (λ_=>rfl)
  |w k b z=>exact ih h (λ_=>rfl) (λ_=>rfl)
theorem aJ3{i:Nat}:∀{is:List Nat},fP i is=true->i∉is
 |[],_=>ae
 |j::r,h=>by
  unfold fP at h;cases hb:Nat.beq i j with
  |true=>grind
  |false=>
   rw[hb] at h;have hne:i≠j:=λe=>by simp_all
   simpa[hne] using aJ3 h
theorem a6N{L:List Ch}{i:Nat}{x:Ch}:∀{is:List Nat},i∉is->kl (L.set i x) is=kl L is
 |[],_=>rfl
 |j::is,h=>by have hne:i≠j:=λe=>h (by simp[e]);simp only[kl,List.getElem?_set_ne hne,a6N (λhj=>h (lH _ hj))]
theorem aWZ{T:TT}{t:TypeId}{p v:SV}{L':List Ch}{x y:Operand}{is:List Nat}(h:SL T t p v L=some L')(hp:iG e x=some p)(hf:bG4 e L is (.store t x y)=true)(hr:∀j∈is,j<L.length):kl L' is=kl L is/\∀j∈is,j<L'.length:=by
 unfold SL at h;split at h
 ·rename_i k o;split at h
  ·rename_i hb;split at h
   ·split at h
    ·split at h
     case h_2=>cases h
     split at h
     case h_2=>cases h
     rename_i L2 hL2;cases h;have:=SO hL2;subst this;obtain⟨i,h1,h2⟩:=aO8 hb;simp_all[bG4,aJ3,a6N]
    ·cases h
   ·cases h
  ·cases h
 ·cases h
theorem bCD{a a':Act}{w':World}{B0 B:Bl}{d b:Nat}{cs:List SV}(hm:(B0++B).length=m)(hA:gQ g.n (B0++B) e a)(hA':J3 g.n ((d,.pointer (some ⟨b,0,none⟩))::vE (B0++B) e) a')(hS':lJ g.c w' ((B0++B)++[(b,0)]) (L++[.box (B0++B).length cs])):pA g.n g.c (B0++B) (m+1) ((d,.p m 0)::e) (L++[.box m cs]) a' w':=by
 refine⟨[(b,0)],aj,?_,?_⟩
 ·exact hA.ext (nb:=[(b,0)]) (x:=.p m 0) (by grind[fH,gV,bK]) hA'
 grind
theorem sZ{cf:sW}(Ln:List Ch):Frz g cf L (L++Ln):=by
 cases cf with
 |d B1 ops l is Lf Lv=>exact λhD=>hD.aJ1 Ln
 |o B1 ops l is Lf Lv i=>exact λhD=>hD.aJ1 Ln
 |_=>trivial
theorem aZY{T:TT}{op:Op}{v:SV}(h:eff T e L op=.val v):ev1 T e L op=some v:=by unfold eff at h;grind
theorem bCE{T:TT}{op:Op}{cs:List SV}(h:eff T e L op=.box cs):(∃t i,op=.alloc t/\wW T t=some i/\cs=i.z)\/(∃t x v,op=.box t x/\iG e x=some v/\isCells v=true/\cs=mH v):=by unfold eff at h;grind
theorem bHC{T:TT}{op:Op}{L':List Ch}(h:eff T e L op=.st L'):∃t x y p v,op=.store t x y/\iG e x=some p/\SL T t p v L=some L':=by unfold eff at h;grind
theorem bCF{T:TT}{op:Op}{L':List Ch}(h:eff T e L op=.st L'):∃t x y p v,op=.store t x y/\iG e x=some p/\iG e y=some v/\SL T t p v L=some L':=by unfold eff at h;grind
theorem a6O{o:Oper}{cf cf':sW}(hE:aF7 g K m e L o cf cf') :
  (∀d cs,eff g.T e L o.op=.box cs->o.dst=some d->Nat.blt d g.n=true->Frz g cf L (L++[.box m cs])->G g K (m+1) ((d,.p m 0)::e) (L++[.box m cs]) cf'->G g K m e L cf) /\
  (∀L',eff g.T e L o.op=.st L'->o.dst=none->Frz g cf L L'->G g K m e L' cf'->G g K m e L cf):=by
 refine⟨λd cs hf hd hdn hz hG=>hE Unit (λ_=>m+1) (λ_=>(d,.p m 0)::e) (λ_=>L++[.box m cs]) (λ_=>hz) (λB a w next Q hm hA hS hnext=>?_) (λ_=>hG),λL' hf hd hz hG=>hE Unit (λ_=>m) (λ_=>e) (λ_=>L') (λ_=>hz) (λB a w next Q hm hA hS hnext=>?_) (λ_=>hG)⟩
 ·have fin:∀{u:Value} {w':World} {b:Nat},eW g.P o (vE (V8 g cf++B) e) w u w'->u=.pointer (some ⟨b,0,none⟩)->lJ g.c w' ((V8 g cf++B)++[(b,0)]) (L++[.box (V8 g cf++B).length cs])->o.wp g.P a w next Q:=by intro u w' b hR hu hS';subst hu;unfold Oper.wp;rw[hR _ a hA.env,Oper.upon_value,hd];exact hnext () _ _ (bCD hm hA (hA.env.put (by simp_all) _) hS')
  rcases bCE hf with ⟨t,i,ho,hl,rfl⟩|⟨t,x,v,ho,hv,hc,rfl⟩
  ·obtain⟨u,w',b,k1,k2,k3⟩:=a6J (E:=vE (V8 g cf++B) e) g.hT hS ho hl;grind
  ·obtain⟨u,w',b,k1,k2,k3⟩:=bHB (P:=g.P) hA hS ho hv hc;grind
 ·obtain⟨t,x,y,p,v,ho,hx,hy,hs⟩:=bCF hf;obtain⟨w',k1,k2⟩:=aO6 g.hT hA hS ho hx hy hs;unfold Oper.wp;rw[k1 _ a hA.env,Oper.upon_skip,hd];exact hnext () _ _ ⟨[],aj,by rw[uH];exact⟨hA.d,hA.size,hA.get⟩,aj⟩
theorem a6P{o:Oper}{Lv:List Ch}{cf cf':sW}(h:Gs g (bB1 e o Lv cf cf' K m L o.op))(hd:qS g.n o.dst=true)(hP:aCD g K m e L o Lv cf cf')(hE:aF7 g K m e L o cf cf'):G g K m e L cf:=by
 generalize hop:o.op=op at h;unfold bB1 at h;split at h
 ·split at h
  ·exact h
  ·exact h.elim
 ·split at h
  ·rename_i h1 h2 h3;exact h _ _ hop h3 h1 h2 hP
  ·exact h hd hP hE
 ·split at h
  ·rename_i h1 h2;split at h
   ·rename_i hx;exact h _ _ _ hop rfl h1 ⟨_,h2,rfl⟩ hx hd hE
   ·exact h _ _ _ hop rfl h1 ⟨_,h2,rfl⟩ hd hE
  ·exact h hd hP hE
 ·exact h hd hP hE
theorem bCG{o:Oper}{Lv:List Ch}{cf cf':sW}(h:Gs g (bG3 e o Lv cf cf' K m L o.op))(hd:qS g.n o.dst=true)(hP:aCD g K m e L o Lv cf cf'):G g K m e L cf:=by
 generalize hop:o.op=op at h;unfold bG3 at h;split at h
 ·split at h
  ·exact h
  ·exact h.elim
 ·split at h
  ·rename_i h1 h2 h3;exact h _ _ hop h3 h1 h2 hP
  ·exact h hd hP
 ·exact h hd hP
theorem aAP:∀(F:Nat) (K:List Fr) (c:sW) (m:Nat) (e:SE) (L:List Ch),Gs g (stp g.T g.n F K c m e L)->G g K m e L c
 |0,_,_,_,_,_,h=>h.elim
 |F + 1,K,.c x,m,e,L,h=>by
  have ih:=aAP F;unfold stp at h;cases x with
  |skip=>exact λa w hr=>bA8 (aZV ih h a w hr)
  |seq x y=>exact λa w hr=>bF6 (ih _ _ _ _ _ h a w hr)
  |block id b=>
   simp only at h;split at h
   ·exact h
   ·exact λa w hr=>aS2 (ih _ _ _ _ _ h a w hr)
  |exit id=>
   simp only at h;refine λa w hr=>bA9 (a6K ?_);cases hx:xit id K with
   |some K'=>rw[hx] at h;exact aZV ih h a w hr
   |none=>rw[hx] at h;exact h a w hr
  |ret=>exact λa w hr=>bF7 (h a w hr)
  |cond o x y=>
   simp only at h;split at h
   ·rename_i c ho;intro a w hr;obtain⟨B,hm,hA,hS⟩:=hr;obtain⟨v,h1,h2⟩:=eF hA ho;cases h1;cases c with
    |true=>exact bF8 hA.env h2 rfl (ih _ _ _ _ _ h a w ⟨B,hm,hA,hS⟩)
    |false=>exact bJT hA.env h2 rfl (ih _ _ _ _ _ h a w ⟨B,hm,hA,hS⟩)
   ·rename_i c ho;exact h ho
   ·exact h.elim
  |region id ops d=>
   cases d with
   |false=>exact λa w hr=>a2B (ih _ _ _ _ _ h a w hr)
   |true=>exact h
  |_=>exact h.elim
 |F + 1,K,.n,m,e,L,h=>by have ih:=aAP F;unfold stp at h;exact λa w hr=>aZV ih h a w hr
 |F + 1,K,.r ops [],m,e,L,h=>by have ih:=aAP F;unfold stp at h;exact λa w hr=>aZV ih h a w hr
 |F + 1,K,.r ops (⟨dst,op,ty,ps,af,gd⟩::l),m,e,L,h=>by
  have ih:=aAP F;unfold stp at h;generalize hg:CX ops e gd=gv at h;cases gv with
  |bad=>exact h.elim
  |ask c=>exact h
  |no=>
   simp only at h;split at h
   ·rename_i d;split at h
    ·rename_i hd;intro a w ⟨B,hm,hA,hS⟩;exact bBB (bFK hg) rfl hd (λa' hA'=>ih _ _ _ _ _ h a' w ⟨B,hm,hA.of (x:=.u) (v:=undef) rfl hA',hS⟩) a hA.env
    ·exact h.elim
   ·exact h.elim
  |yes=>
   simp only at h;have hE:=a6O (g:=g) (K:=K) (m:=m) (e:=e) (L:=L) (o:=⟨dst,op,ty,ps,af,gd⟩) (cf:=.r ops (⟨dst,op,ty,ps,af,gd⟩::l)) (cf':=.r ops l) (aZW hg);split at h
   ·rename_i d v hf;split at h
    ·rename_i hd;intro a w ⟨B,hm,hA,hS⟩;obtain⟨u,h1,h2⟩:=aQT (o:=⟨_,op,ty,ps,af,gd⟩) g.hT hA hS (aZY hf);exact bFE h2 (aAO hg) rfl hd (λa' hA'=>ih _ _ _ _ _ h a' w ⟨B,hm,hA.of h1 hA',hS⟩) a hA.env
    ·exact h.elim
   ·rename_i d cs hf;split at h
    ·rename_i hd;exact hE.1 _ _ hf rfl hd trivial (ih _ _ _ _ _ h)
    ·exact h.elim
   ·rename_i L' hf;exact hE.2 _ hf rfl trivial (ih _ _ _ _ _ h)
   ·split at h
    ·rename_i hd;exact a6P h hd (bB7 hg hd) (aZW hg)
    ·exact h.elim
   ·exact h.elim
 |F + 1,K,.d B1 ops l is Lf Lv,m,e,L,h=>by
  have ih:=aAP F;unfold stp at h;refine YT ops.toList 0 l e [] (λj=>ae) ?_;generalize pass g.T g.n ops Lv ops.toList 0 l e []=ps at h;cases ps with
  |bad=>exact h.elim
  |ask c l' e'=>exact h
  |pur i o l' e'=>
   intro h1 h2 h3 h4;simp only at h;split at h
   ·grind[bCG,bB9]
   ·exact h.elim
  |fin l' e' q=>
   cases q with
   |nil=>
    simp only at h;split at h
    ·rename_i hall;intro hD a w hr;have hn:=ih _ _ _ _ _ h;obtain⟨B2,hB2⟩:=hD.pre;have hr':Rel g m e' L a w:=by obtain⟨B,hm,hA,hS,_⟩:=hr;subst hB2;exact⟨B2++B,aj,aj,aj⟩
     have hempty:Region.ready .any ops l'.toArray=[]:=by refine List.eq_nil_iff_forall_not_mem.2 λj hj=>?_;exact aZX hall ((YS hD.len).1 hj).1
     exact wpAnyH_done hempty (hn a w hr') _
    ·exact h.elim
   |cons p q=>
    cases q with
    |cons p' q=>exact h
    |nil=>
     obtain⟨i,o⟩:=p;simp only at h;split at h
     ·rename_i hon;have ho:=ih _ _ _ _ _ h;cases hra:wX l' ops.toList 0 with
      |cons j r=>
       refine a6M hra λk hk=>?_;grind[bCC]
      |nil=>
       refine absurd h ?_;intro h;unfold stp at h;cases F with
       |zero=>exact h
       |succ F=>
        simp only at h;split at h
        ·rename_i hi;split at h
         ·rename_i h1 h2 h3;have:=aO7 (j0:=0) hi aj h1;grind
         ·exact h
        ·exact h
     ·exact h.elim
 |F + 1,K,.o B1 ops l is Lf Lv i,m,e,L,h=>by
  have ih:=aAP F;unfold stp at h;split at h
  ·rename_i dst op ty ps af gd ho;split at h
   ·rename_i hre hli hg;have hes:=bCA (g:=g) (K:=K) (m:=m) (e:=e) (L:=L) (B1:=B1) (ops:=ops) (l:=l) (is:=is) (Lf:=Lf) (Lv:=Lv) ho hg;have hE:=a6O (g:=g) (K:=K) (m:=m) (e:=e) (L:=L) (o:=⟨dst,op,ty,ps,af,gd⟩) (cf:=.o B1 ops l is Lf Lv i) (cf':=.d B1 ops (l.set i true) is Lf Lv) hes;split at h
    ·rename_i v d hf;split at h
     ·rename_i hd;have hG:=ih _ _ _ _ _ h;have hv:=aZY hf;refine hes Unit (λ_=>m) (λ_=>(d,v)::e) (λ_=>L) (λ_ hD=>⟨hD.wY,hD.rng⟩) (λB a w next Q hm hA hS hnext=>?_) (λ_=>hG);obtain⟨u,h1,h2⟩:=aQT (o:=⟨some d,op,ty,ps,af,gd⟩) g.hT hA hS hv;unfold Oper.wp;rw[h2 _ a hA.env,Oper.upon_value];exact hnext () _ _ ⟨[],aj,by simpa using hA.of h1 (hA.env.put (by simp_all) u),aj⟩
     ·exact h.elim
    ·rename_i d cs hf;split at h
     ·rename_i hd;exact hE.1 _ _ hf rfl hd (λhD=>hD.aJ1 _) (ih _ _ _ _ _ h)
     ·exact h.elim
    ·rename_i L' hf;split at h
     ·rename_i hfz;refine hE.2 _ hf rfl (λhD=>?_) (ih _ _ _ _ _ h);obtain⟨t,x,y,p,v,hop,hx,hs⟩:=bHC hf;subst hop;have:=aWZ hs hx hfz hD.rng;exact⟨by rw[this.1];exact hD.wY,this.2⟩
     ·exact h.elim
    ·split at h
     ·rename_i hd;exact a6P h hd (bCB ho hg hd) hes
     ·exact h.elim
    ·exact h.elim
   ·exact h.elim
  ·exact h.elim
theorem aII:∀{e r:SE},a2O e=some r->r=e
 |[],r,h=>by cases h;rfl
 |(k,v)::l,r,h=>by
  simp only[a2O] at h;split at h
  ·rename_i s hs;cases h;rw[aII hs]
  ·cases h
theorem aIJ:∀{e r:List Ch},a2P e=some r->r=e
 |[],r,h=>by cases h;rfl
 |x::l,r,h=>by
  simp only[a2P] at h;split at h
  ·rename_i s hs;have:=aIJ hs;grind[SO]
  ·cases h
theorem gO{K:List Fr}{c:sW}{m:Nat}{e:SE}{L:List Ch}(h:Gs g (jK g.T g.n K c m e L)):G g K m e L c:=by
 unfold jK at h;split at h
 ·grind[aII,aIJ,aAP]
 ·exact h.elim
end
section
variable {P:Program} {N N':Act->World->Prop} {X X':Nat->Act->World->Prop} {T T':Act->World->Prop}
theorem V9(h:LetsOut (mkQ N X T)):LetsOut (mkQ N' X' T'):=let ⟨_,_,h⟩:=h;h.elim
theorem aTE{o:Oper}{a:Act}{next next':Act->World->Prop}{r:Result Next}(hn:∀a w,next a w->next' a w)(h:o.upon P a next (mkQ N X T) r):o.upon P a next' (mkQ N' X' T') r:=by
 unfold Oper.upon at h ⊢;split at h
 ·grind
 ·grind
 ·grind
 ·refine Calls.mono h λe w' he=>?_;cases e with
  |returned v=>grind
  |panicked c=>exact he.elim
  |outgrown=>exact V9 he
 ·grind[Rows.mono]
 ·exact h.elim
 omega
theorem aAQ{ops:Array Oper}(hN:∀a w,N a w->N' a w):∀(l:List Oper) {a:Act} {w:World},wpList P ops (mkQ N X T) l a w->wpList P ops (mkQ N' X' T') l a w
 |[],a,w,h=>hN a w h
 |o::l,a,w,h=>by
  unfold wpList at h ⊢;split
  ·rename_i hw;rw[aO hw] at h;rcases h with h|⟨h1,h2⟩
   ·exact .inl (aTE (λ_ _ h=>aAQ hN l h) h)
   grind[V9]
  ·rename_i hw;rw[aP hw] at h;exact aAQ hN l h
theorem aTF{ops:Array Oper}{i:Nat}{k k':Act->World->Prop}{a:Act}{w:World}(hk:∀a w,k a w->k' a w)(h:wpOp P ops (mkQ N X T) i k a w):wpOp P ops (mkQ N' X' T') i k' a w:=by
 unfold wpOp at h ⊢;split
 ·grind
 ·rename_i o h0;rw[h0] at h;simp only at h;split
  ·rename_i hw;rw[aO hw] at h;rcases h with h|⟨h1,h2⟩
   ·exact .inl (aTE hk h)
   grind[V9]
  grind
theorem aAR{ops:Array Oper}{S:World->Prop}(hN:∀a w,N a w->N' a w):∀(fuel:Nat) {oR:Array Bool} {a:Act} {w:World},wpAnyH P .any ops (mkQ N X T) S fuel oR a w->wpAnyH P .any ops (mkQ N' X' T') S fuel oR a w
 |0,_,a,w,h=>⟨h.1,hN a w h.2⟩
 |f+1,_,a,w,h=>⟨λh0=>hN a w (h.1 h0),λi hi=>aTF (λ_ _ h=>⟨h.1,aAR hN f h.2⟩) (h.2 i hi)⟩
end
section
variable {P:Program} {T:TT} {hT:D6 P T} {n:Nat} {c:Ctx} {B0:Bl} {N N1:Act->World->Prop} {X X1:Nat->Act->World->Prop} {Q:Act->World->Prop} {K K':List Fr} {m m':Nat} {e e':SE} {L L':List Ch} {cf cf':sW}
theorem aW0(Kb:List Fr)(hN:∀a w,N1 a w->NK (.mk P T hT n c B0 N X Q) Kb a w)(hX:∀i a w,X1 i a w->XK (.mk P T hT n c B0 N X Q) Kb i a w):∀(Ka:List Fr),(∀a w,NK (.mk P T hT n c B0 N1 X1 Q) Ka a w->NK (.mk P T hT n c B0 N X Q) (Ka++Kb) a w)/\(∀i a w,XK (.mk P T hT n c B0 N1 X1 Q) Ka i a w->XK (.mk P T hT n c B0 N X Q) (Ka++Kb) i a w)
 |[]=>⟨hN,hX⟩
 |.s y::Ka=>by obtain⟨h1,h2⟩:=aW0 Kb hN hX Ka;exact⟨λa w h=>CW.mono (show CW P y (NK _ Ka) (XK _ Ka) Q a w from h) h1 h2 (λ_ _ h=>h),h2⟩
 |.k id::Ka=>by obtain⟨h1,h2⟩:=aW0 Kb hN hX Ka;refine⟨h1,λi a w h=>?_⟩;simp only[XK,aO0,DM] at h ⊢;grind
theorem bJ4{Ka Kb:List Fr}(hN:∀a w,N1 a w->NK (.mk P T hT n c B0 N X Q) Kb a w)(hX:∀i a w,X1 i a w->XK (.mk P T hT n c B0 N X Q) Kb i a w)(h:G (.mk P T hT n c B0 N1 X1 Q) Ka m e L cf):G (.mk P T hT n c B0 N X Q) (Ka++Kb) m e L cf:=by
 obtain⟨h1,h2⟩:=aW0 Kb hN hX Ka;cases cf with
 |n=>exact λa w hr=>h1 a w (h a w hr)
 |c x=>exact λa w hr=>CW.mono (h a w hr) h1 h2 (λ_ _ h=>h)
 |r ops l=>exact λa w hr=>aAQ h1 l (h a w hr)
 |d B1 ops l is Lf Lv=>exact λhD a w hr=>aAR h1 _ (h ⟨hD.pre,hD.len,hD.free,hD.wY,hD.rng,hD.okf,hD.ap⟩ a w hr)
 |o B1 ops l is Lf Lv i=>exact λhD a w hr=>aTF (λ_ _ h=>⟨h.1,aAR h1 _ h.2⟩) (h ⟨hD.pre,hD.len,hD.free,hD.wY,hD.rng,hD.okf,hD.ap⟩ a w hr)
theorem aIK{g:Gx}{s:Stop}(hs:SM s=some (K,cf,m,e,L))(h:G g K m e L cf):Gs g s:=by
 cases s<;>simp only[SM] at hs<;>cases hs
 ·exact λ_=>h
 ·exact h
 ·exact h
 ·exact λ_ _ _ _ _ _ _=>h
 ·exact λ_ _ _ _ _ _ _ _ _ _=>h
 ·exact λ_ _ _ _ _ _ _ _ _=>h
 ·exact λ_ _=>h
 ·exact λ_ _ _=>h
 ·exact h
 ·exact h
def JP(n:Nat)(c:Ctx)(B0:Bl){π υ:Type}(eq:π->Prop)(m:Nat)(ej:π->υ->SE)(Lj:π->υ->List Ch):Act->World->Prop:=λa w=>∃p u,eq p/\pA n c B0 m (ej p u) (Lj p u) a w
theorem eI{B1:Bl}{ops:Array Oper}{l:List Bool}{is:List Nat}{Lf Lv:List Ch}{i j:Nat}(q0_:SM (jK T n K cf m e L)=some (K',.d B1 ops l is Lf Lv,m',e',L')/\wX l ops.toList 0=[i,j])
  (k1:G (.mk P T hT n c B0 N X Q) K' m' e' L' (.o B1 ops l is Lf Lv i)) (k2:G (.mk P T hT n c B0 N X Q) K' m' e' L' (.o B1 ops l is Lf Lv j)):G (.mk P T hT n c B0 N X Q) K m e L cf:=
 let ⟨hs,hr⟩:=q0_;gO (g:=.mk P T hT n c B0 N X Q) (aIK hs (a6M (g:=.mk P T hT n c B0 N X Q) hr λk hk=>by
  grind))
theorem aJ4{B1:Bl}{ops:Array Oper}{l:List Bool}{is:List Nat}{Lf Lv:List Ch}{i j p:Nat}(hs:SM (jK T n K cf m e L)=some (K',.d B1 ops l is Lf Lv,m',e',L'))(hr:wX l ops.toList 0=[i,j,p])
  (k1:G (.mk P T hT n c B0 N X Q) K' m' e' L' (.o B1 ops l is Lf Lv i)) (k2:G (.mk P T hT n c B0 N X Q) K' m' e' L' (.o B1 ops l is Lf Lv j)) (k3:G (.mk P T hT n c B0 N X Q) K' m' e' L' (.o B1 ops l is Lf Lv p)):G (.mk P T hT n c B0 N X Q) K m e L cf:=
 gO (g:=.mk P T hT n c B0 N X Q) (aIK hs (a6M (g:=.mk P T hT n c B0 N X Q) hr λk hk=>by
  grind))
theorem bd{O β:Type}{A:Option O}{f:O->Option β}{q:β}{C:Prop}(hF:A.bind f=some q)(k:∀x,A=some x->f x=some q->C):C:=by
 cases h:A with
 |none=>grind
 |some x=>grind
theorem nd{β:Type}{p:Prop}[Decidable p]{A:Option β}{q:β}{C:Prop}(hF:need p A=some q)(k:p->A=some q->C):C:=k (lZ hF).1 (lZ hF).2
theorem rb{O:Type}{A:Option O}{x:O}(h:A=some x):A.bind some=some x:=by rw[h];rfl
theorem rn{p:Prop}[Decidable p](h:p):need p (some ())=some ():=by simp[need,h]
theorem sb{O:Type}{C:O->Prop}(x:O){y:O}(h:some x=some y)(k:C y):C x:=aj
theorem go(hs:SM (jK T n K cf m e L)=some (K',cf',m',e',L'))(k:G (.mk P T hT n c B0 N X Q) K' m' e' L' cf'):G (.mk P T hT n c B0 N X Q) K m e L cf:=gO (g:=.mk P T hT n c B0 N X Q) (aIK hs k)
theorem cut{π υ:Type}(j mj:Nat)(eq:π->Prop)(ks:List Nat)(ej:π->υ->SE)(is:List Nat)(Lj:π->υ->List Ch)(hs:SM (jK T n K cf m e L)=some (K',cf',m',e',L'))
  (k1:G (.mk P T hT n c B0 (JP n c B0 eq mj (λp u=>ej p u++kp e' ks) (λp u=>Lj p u++kl L' is)) (XK (.mk P T hT n c B0 N X Q) (K'.drop j)) Q) (K'.take j) m' e' L' cf')
  (k2:∀p u,eq p->G (.mk P T hT n c B0 N X Q) (K'.drop j) mj (ej p u++kp e' ks) (Lj p u++kl L' is) .n):G (.mk P T hT n c B0 N X Q) K m e L cf:=by refine go hs ?_;rw[<-ZV j K'];refine bJ4 (λa w ⟨p,u,h1,h2⟩=>?_) (λ_ _ _ h=>h) k1;exact k2 p u h1 a w h2
theorem jn{π υ:Type}{eq:π->Prop}{mj:Nat}{ej:π->υ->SE}{Lj:π->υ->List Ch}{p:π}(u:υ)(is:List Nat)(hF:eq p)(hs:jK T n K cf m e L=.fin m' e' L')(h:YQ B0.length m' e' L' is mj (ej p u) (Lj p u)=some (ej p u,Lj p u)):G (.mk P T hT n c B0 (JP n c B0 eq mj ej Lj) X Q) K m e L cf:=
 gO (g:=.mk P T hT n c B0 _ X Q) (by
  rw[hs];exact λa w hr=>⟨p,u,hF,pA.YQ hr is h⟩)
theorem YU{b cb:Bool}{a:Act}{B:Bl}(hb:b=cb):∀(ss:List Nat),aT (CV e) ss=some (ss.map λ_=>SV.b b)->gQ n B e a->gQ n B (ovr cb e ss) a:=by
 intro ss hs hA;refine⟨hA.d,hA.size,?_⟩;subst hb;have key:∀k∈ss,CV e k=some (.b b):=by
  induction ss with
  |nil=>simp
  |cons s ss ih=>
   grind[aT]
 clear hs;induction ss with
 |nil=>exact hA.get
 |cons s ss ih=>
  intro k x hk;simp only[ovr,CV] at hk;cases hb:Nat.beq k s with
  |true=>
   rw[hb] at hk;cases hk;rw[nM hb];exact hA.get s (.b b) (key s ae)
  |false=>
   grind
theorem aIL{b cb:Bool}{a:Act}{w:World}(hb:b=cb)(ss:List Nat)(hs:aT (CV e) ss=some (ss.map λ_=>SV.b b))(h:pA n c B0 m e L a w):pA n c B0 m (ovr cb e ss) L a w:=by obtain⟨B,h1,hA,hS⟩:=h;exact⟨B,h1,YU hb ss hs hA,hS⟩
theorem aJ5{e1:SE}(h:∀a B,gQ n B e a->gQ n B e1 a)(k:G (.mk P T hT n c B0 N X Q) K m e1 L cf):G (.mk P T hT n c B0 N X Q) K m e L cf:=by
 cases cf with
 |d B1 ops l is Lf Lv=>exact λhD a w ⟨B,h1,h2,h3,h4⟩=>k hD a w ⟨B,h1,h a _ h2,h3,h4⟩
 |o B1 ops l is Lf Lv i=>exact λhD a w ⟨B,h1,h2,h3,h4⟩=>k hD a w ⟨B,h1,h a _ h2,h3,h4⟩
 |_=>exact λa w ⟨B,h1,h2,h3⟩=>k a w ⟨B,h1,h a _ h2,h3⟩
section
variable {b:Bool} {O:Type} {A B':Option O} {q:Option O}
theorem cs{o:Operand}{x y:Code}(ss:List Nat)(hs:jK T n K cf m e L=.cond o b x y K' m' e' L')(ho:aT (CV e') ss=some (ss.map λ_=>SV.b b))(hF:(if b=true then A else B')=q)
  (k1:A=q->G (.mk P T hT n c B0 N X Q) K' m' (ovr true e' ss) L' (.c x)) (k2:B'=q->G (.mk P T hT n c B0 N X Q) K' m' (ovr false e' ss) L' (.c y)):G (.mk P T hT n c B0 N X Q) K m e L cf:=
 gO (g:=.mk P T hT n c B0 N X Q) (by
  rw[hs];intro he a w hr;have ⟨B,hm,hA,hS⟩:=hr;obtain⟨v,h1,h2⟩:=eF hA he;cases h1;refine aIE hA.env h2 (λhc=>?_) (λhc=>?_)
  ·rw[aO hc] at hF;exact k1 hF a w (aIL hc ss ho hr)
  ·rw[aP aj] at hF;exact k2 hF a w (aIL hc ss ho hr))
theorem ca{cf':sW}(ss:List Nat)(hs:jK T n K cf m e L=.case b cf' K' m' e' L')(ho:aT (CV e') ss=some (ss.map λ_=>SV.b b))(hF:(if b=true then A else B')=q)
  (k1:A=q->G (.mk P T hT n c B0 N X Q) K' m' (ovr true e' ss) L' cf') (k2:B'=q->G (.mk P T hT n c B0 N X Q) K' m' (ovr false e' ss) L' cf'):G (.mk P T hT n c B0 N X Q) K m e L cf:=
 gO (g:=.mk P T hT n c B0 N X Q) (by
  rw[hs];cases b with
  |true=>exact aJ5 (λa B hA=>YU rfl ss ho hA) (k1 aj)
  |false=>exact aJ5 (λa B hA=>YU rfl ss ho hA) (k2 aj))
end
def QS(P:Program)(fn:Func)(c:Ctx)(B0:Bl){ρ ex:Type}(sv:ρ->ex->SV)(Lf:ρ->ex->List Ch)(r:ρ):Act->World->Prop:=Fin P fn λv w'=>∃y,fH B0 (sv r y)=some v/\lJ c w' B0 (Lf r y)
theorem aZZ{r:ResultVar}{x:SV}{B:Bl}{a:Act}{w:World}(hT:D6 P T)(hA:gQ n B e a)(hS:lJ c w B L)(h:a57 T e L r=some x):∃v,fH B x=some v/\(aEH a.tmps r).run P w=.ok v w:=by
 cases r with
 |tmp t=>
  obtain⟨v,h1,h2⟩:=hA.get t x h;simp_all[aEH]
 |cell t ty=>
  simp only[a57] at h;split at h
  ·rename_i p hp;obtain⟨v,h1,h2⟩:=hA.get t p hp;unfold aO3 at h;split at h
   ·rename_i n0 o0;split at h
    ·rename_i cs _ mm _ hb hl;split at h
     ·rename_i hle;split at h
      case h_2=>cases h
      rename_i ds hds;cases h;have:=SO hds;subst this;obtain⟨b,z,vs,g1,g2,g3⟩:=hS.cells hb;have hlen:=kW g2;have hle:=QU hle;simp only[fH,gV,bK,g1] at h1;cases h1;have h4:=Q1 mm (Q0 o0 g2);have h5:=aCB g3 (o:=o0) (m:=mm) aa;have h6:=rH h5 P;have h7:((vs.drop o0).take mm).length=mm:=ah
      rw[h7] at h6;refine⟨.agg ((vs.drop o0).take mm).toArray,by grind[fH,gV],?_⟩;simp[aEH,h2,asAddr,loadVar,hT.agg _ _ hl,hT.size _ _ hl,h6]
     ·cases h
    ·rename_i cs _ _ _ hb hl;obtain⟨b,z,vs,g1,g2,g3⟩:=hS.cells hb;simp only[fH,gV,bK,g1] at h1;cases h1;obtain⟨u,h4,h5⟩:=QZ g2 h;refine⟨u,aZK h4,?_⟩;have h6:=g3 o0 u h5;simp[aEH,h2,asAddr,loadVar,hT.agg _ _ hl,load,Sem.run,h6]
    ·cases h
   ·cases h
  ·cases h
end
section
variable {P:Program} {T:TT} {hT:D6 P T} {n:Nat} {c:Ctx} {B0:Bl} {N:Act->World->Prop} {X:Nat->Act->World->Prop} {Q:Act->World->Prop} {K K':List Fr} {m m':Nat} {e e':SE} {L L':List Ch} {cf:sW}
theorem bCH{B:Bl}{x:SV}{v:Value}(h:fH B x=some v)(hc:isCells x=true):gV B x=some v:=by cases x<;>first|exact h|cases hc
theorem aCE{r:ResultVar}{x:SV}{B:Bl}{a:Act}{w:World}(hT:D6 P T)(hA:gQ n B e a)(hS:lJ c w B L)(h:aWW T e L r=some x):∃v,gV B x=some v/\(aEH a.tmps r).run P w=.ok v w:=by grind[aWW,aZZ,bCH]
theorem aIM{rs:List ResultVar}{x:SV}{B:Bl}{a:Act}{w:World}{fn:Func}(hf:fn.results=rs.toArray)(hT:D6 P T)(hA:gQ n B e a)(hS:lJ c w B L)(h:aQQ T e L rs=some x):∃v,fH B x=some v/\(results fn a.tmps).run P w=.ok v w:=by
 rw[aWP hf];unfold aQQ at h;split at h
 ·cases h;exact⟨.tuple #[],rfl,ae⟩
 ·obtain⟨v,h1,h2⟩:=aZZ hT hA hS h;simp_all
 ·split at h
  ·rename_i g1 g2;cases h;obtain⟨v1,h1,k1⟩:=aCE hT hA hS g1;obtain⟨v2,h2,k2⟩:=aCE hT hA hS g2;simp_all[fH,aT]
  ·cases h
 ·split at h
  ·rename_i g1 g2 g3;cases h;obtain⟨v1,h1,k1⟩:=aCE hT hA hS g1;obtain⟨v2,h2,k2⟩:=aCE hT hA hS g2;obtain⟨v3,h3,k3⟩:=aCE hT hA hS g3;simp_all[fH,aT]
  ·cases h
 ·cases h
structure FnS (P:Program) (f:FuncId) (c:Ctx) (xs:List SV) (B0:Bl) (L0:List Ch) {ρ ex:Type} (sv:ρ->ex->SV) (Lf:ρ->ex->List Ch) (r:ρ):Prop where
 call:∀args w,(callFunc f args).run P w=.ok (.enter f args) w
 run:∀vs,aT (fH B0) xs=some vs->lJ c c.w0 B0 L0->Calls P f vs.toArray c.w0 (Ret λv w'=>∃y,fH B0 (sv r y)=some v/\lJ c w' B0 (Lf r y))
abbrev Fn0(P:Program)(f:FuncId)(c:Ctx)(xs:List SV){ρ:Type}(sv:ρ->SV)(r:ρ):Prop:=FnS P f c xs [] [] (λr (_:Unit)=>sv r) (λ_ _=>[]) r
def aO9:Nat->List SV->SE
 |_,[]=>[]
 |k,v::r=>(k,v)::aO9 (k+1) r
theorem aPA{B:Bl}:∀{xs:List SV} {vs:List Value} (k:Nat) {j:Nat} {x:SV},aT (fH B) xs=some vs->CV (aO9 k xs) j=some x->∃v,fH B x=some v/\lk (aS1 k vs) j=some v
 |[],vs,k,j,x,h,hj=>by grind[aO9,CV]
 |y::xs,vs,k,j,x,h,hj=>by
  simp only[aT] at h;split at h
  ·cases h
  ·rename_i h1;split at h
   ·cases h
   ·rename_i h2;cases h;simp only[aO9,CV] at hj;simp only[aS1,lk];cases hb:Nat.beq j k with
    |true=>grind
    |false=>rw[hb] at hj;exact aPA (k+1) h2 hj
theorem en{f:FuncId}{fn:Func}{cd:Code}{xs:List SV}{L0:List Ch}{ρ ex:Type}{sv:ρ->ex->SV}{Lf:ρ->ex->List Ch}{r:ρ}(n:Nat)(hc:∀args w,(callFunc f args).run P w=.ok (.enter f args) w)(hf:P.funcs[f]?=some fn)(hT:D6 P T)(hb:fn.body=some cd)(hm:fn.ntmps=n)(hl:Nat.ble xs.length n=true)
  (k:G (.mk P T hT n c B0 (QS P fn c B0 sv Lf r) (λ_ _ _=>False) (QS P fn c B0 sv Lf r)) [] B0.length (aO9 0 xs) L0 (.c cd)):FnS P f c xs B0 L0 sv Lf r:=by
 refine⟨hc,λvs hv hS=>a2G hf hb hm ?_ λa hA=>?_⟩
 ·grind[kW]
 ·refine CW.mono (k a c.w0 ⟨[],ae,⟨hA.d,hA.size,λj x hj=>?_⟩,aj⟩) (λ_ _ h=>h) (λ_ _ _ h=>h) (λ_ _ h=>h);obtain⟨v,h1,h2⟩:=aPA 0 hv hj;exact⟨v,aj,hA.get j v h2⟩
theorem aNO(w:World):lJ (dZ w) w [] []:=⟨⟨[],St.enter ae,ae⟩,λ_ _ h=>h⟩
theorem rt{fn:Func}{ρ ex:Type}{sv:ρ->ex->SV}{Lf:ρ->ex->List Ch}{r r':ρ}{rs:List ResultVar}{zz:Option ρ}(y:ex)(is:List Nat)(hF:zz=some r)(hz:zz=some r')(hs:jK T n K cf m e L=.ret m' e' L')(hr:fn.results=rs.toArray){x:SV}(hv:aQQ T e' L' rs=some x)(hx:nbS x=sv r' y)(hk:yU B0.length (sv r' y)=true)(hL:YQ B0.length m' e' L' is B0.length [] (Lf r' y)=some ([],Lf r' y)):G (.mk P T hT n c B0 N X (QS P fn c B0 sv Lf r)) K m e L cf:=by subst hz;cases hF;refine gO (g:=.mk P T hT n c B0 N X _) ?_;rw[hs];intro a w hr';obtain⟨B,hm,hA,hS⟩:=id hr';obtain⟨v,h1,h2⟩:=aIM hr hT hA hS hv;obtain⟨B',hm',_,hS'⟩:=hr'.YQ is hL;have hB':B'=[]:=(by simp_all);subst hB';refine⟨hA.d,v,h2,y,?_,aj⟩;rw[<-hx] at hk ⊢;have:=SP hk (by rw[aIG];exact h1);grind
theorem rf{fn:Func}{ρ ex:Type}{sv:ρ->ex->SV}{Lf:ρ->ex->List Ch}{r r':ρ}{rs:List ResultVar}{zz:Option ρ}(y:ex)(is:List Nat)(hF:zz=some r)(hz:zz=some r')(hs:jK T n K cf m e L=.fin m' e' L')(hr:fn.results=rs.toArray){x:SV}(hv:aQQ T e' L' rs=some x)(hx:nbS x=sv r' y)(hk:yU B0.length (sv r' y)=true)(hL:YQ B0.length m' e' L' is B0.length [] (Lf r' y)=some ([],Lf r' y)):G (.mk P T hT n c B0 (QS P fn c B0 sv Lf r) X Q) K m e L cf:=by subst hz;cases hF;refine gO (g:=.mk P T hT n c B0 _ X Q) ?_;rw[hs];intro a w hr';obtain⟨B,hm,hA,hS⟩:=id hr';obtain⟨v,h1,h2⟩:=aIM hr hT hA hS hv;obtain⟨B',hm',_,hS'⟩:=hr'.YQ is hL;have hB':B'=[]:=(by simp_all);subst hB';refine⟨hA.d,v,h2,y,?_,aj⟩;rw[<-hx] at hk ⊢;have:=SP hk (by rw[aIG];exact h1);grind
def bL(c:Ctx){O:Type}[aN O](s:AC)(d:List O):Prop:=aN.rd c.S0 c.w0 [s.v d.length] d
structure HS (c:Ctx) (w:World) (L:List Ch):Prop where
 ex:∃B,lJ c w B L
abbrev ow{O:Type}[aN O](s:AC)(d:List O):Ch:=.o (eU [s.v d.length] d)
abbrev fr{O:Type}[aN O](s:AC)(d:List O):Ch:=.f (fRd [s.v d.length] d)
theorem aQX{w:World}{B:Bl}(hS:lJ c w B L){f:Fact}(h:f.P c.S0 c.w0):f.P c.S0 w:=by obtain⟨⟨R,s1,_⟩,s0⟩:=hS;exact f.agree h λb o hb=>s1.keep.cell b o (s0 b o hb) λhw=>s1.apart b o hw hb
theorem aW1{w:World}{B:Bl}(hS:lJ c w B L):∀b o,c.S0 b o->YO w b o:=λb o hb=>by obtain⟨⟨R,s1,_⟩,s0⟩:=hS;exact HB (s0 b o hb) s1.keep.size
theorem HS.a{w:World}{O:Type}[aN O]{s:AC}{d:List O}(h:HS c w L)(hr:bL c s d):bL (dZ w) s d:=by obtain⟨B,hS⟩:=h.ex;have h1:(fRd [s.v d.length] d).P c.S0 w:=aQX hS (f:=fRd [s.v d.length] d) hr;exact aN.rd_mono h1 (aW1 hS)
theorem HS.o{w:World}{O:Type}[aN O]{s:AC}{d:List O}(h:HS c w L)(i:Nat)(hi:L[i]?=some (ow s d)):bL (dZ w) s d:=by obtain⟨B,⟨⟨R,s1,_⟩,_⟩⟩:=h.ex;exact s1.aY8 i (by rw[AS,hi];rfl)
theorem HS.f{w:World}{O:Type}[aN O]{s:AC}{d:List O}(h:HS c w L)(i:Nat)(hi:L[i]?=some (fr s d)):bL (dZ w) s d:=by obtain⟨B,⟨⟨R,s1,s2⟩,_⟩⟩:=h.ex;obtain⟨j,hj⟩:=aFY (s2 _ (D9 hi));exact s1.rd j hj
theorem aCF{B:Bl}:∀{xs:List SV} {vs:List Value},okA xs=true->aT (fH B) xs=some vs->aT (fH []) xs=some vs
 |[],vs,_,h=>h
 |x::xs,vs,ho,h=>by
  simp only[okA] at ho;split at ho
  ·rename_i h0;simp only[aT] at h;split at h
   ·cases h
   ·rename_i h1;split at h
    ·cases h
    ·rename_i h2;cases h;have h3:=SP h0 h1;rw[List.take_zero] at h3;simp[aT,h3,aCF ho h2]
  ·cases ho
theorem ZW{B:Bl}{a:Act}(hA:gQ n B e a):∀{os:List Operand} {xs:List SV},aT (iG e) os=some xs->∃vs,aT (fH B) xs=some vs/\evs (vE B e) os=some vs
 |[],xs,h=>by cases h;exact⟨[],rfl,rfl⟩
 |o::os,xs,h=>by
  simp only[aT] at h;split at h
  ·cases h
  ·rename_i h1;split at h
   ·cases h
   ·rename_i h2;cases h;obtain⟨v,k1,k2⟩:=eF hA h1;obtain⟨vs,k3,k4⟩:=ZW hA h2;grind[aT,evs]
def noF:List Ch->Bool
 |[]=>true
 |.ro _ _::_=>false
 |.f _::_=>false
 |.w _ _ _::_=>false
 |_::L=>noF L
theorem aJ6{B:Bl}{R:List Fact}:∀{L:List Ch},noF L=true->∀x∈L,roF B R x
 |[],_,x,hx=>by cases hx
 |y::L,h,x,hx=>by
  rcases iX.1 hx with hx'|hx'
  ·subst hx';cases x<;>first|trivial|cases h
  ·cases y with
   |ro=>cases h
   |f=>cases h
   |w=>cases h
   |_=>exact aJ6 (L:=L) h x hx'
theorem lJ.after{w w':World}{B:Bl}{L2:List Ch}(h:lJ c w B L)(hn:noF L2=true)(k:lJ (dZ w) w' [] L2):lJ c w' B (L++L2):=by
 obtain⟨⟨R,s1,s2⟩,s0⟩:=h;obtain⟨⟨R',t1,t2⟩,t0⟩:=k;refine⟨⟨R,?_,λx hx=>?_⟩,s0⟩
 ·rw[m7];have h1:=s1.after t1;refine h1.imp (jT.append (jT.refl _) ?_);have:=YR (B:=[]) B (w:=w') L2;grind
 grind[aJ6]
theorem lJ.bHD{w w':World}{B:Bl}(h:lJ c w B L)(k:eK F0 w w'):lJ c w' B L:=by obtain⟨⟨R,s1,s2⟩,s0⟩:=h;exact⟨⟨R,s1.same k,s2⟩,s0⟩
theorem RB{o:Oper}{f:FuncId}{x:Operand}{args:Array Operand}{ts:Array TypeId}{vs:List Value}{E:Env}{w:World}(hcall:∀args w,(callFunc f args).run P w=.ok (.enter f args) w)(ho:o.op=.call {callee:=.value x,args:=args,argTypes:=ts})(hx:ev E x=some (.func (.func f) #[] #[]))(hv:evs E args.toList=some vs):bF9 P o E w f vs.toArray:=by have:=aS6 (w:=w) (cap:=[]) (xs:=args.toList) (vs:=vs) hcall aa hx hv;grind
theorem cl{O β ex:Type}{fo:Option O}{kf:O->Option β}{q:β}{o:Oper}{d:Nat}{f:FuncId}{xs:List SV}{cf1 cf2:sW}{sv:O->ex->SV}{Lf:O->ex->List Ch}(hs:jK T n K cf m e L=.call o (some d) f xs cf1 cf2 K' m' e' L')(hn:∀x y,noF (Lf x y)=true)
  (hc:∀{w},HS c w L'->∀{x},fo=some x->FnS P f (dZ w) xs [] [] sv Lf x) (hF:fo.bind kf=some q)
  (k:∀x,fo=some x->kf x=some q->∀y:ex,G (.mk P T hT n c B0 N X Q) K' m' ((d,sv x y)::e') (L'++Lf x y) cf2):G (.mk P T hT n c B0 N X Q) K m e L cf:=by
 refine gO (g:=.mk P T hT n c B0 N X Q) ?_;rw[hs];intro fo' args ats ho hd hf ⟨ys,hys,hxs⟩ hA0 hdn hE;subst hxs;cases hfo:fo with
 |none=>grind
 |some x=>
  rw[hfo] at hF;refine hE ex (λ_=>m') (λy=>(d,sv x y)::e') (λy=>L'++Lf x y) (λy=>sZ _) (λB a w next Q' hm hA hS hnext=>?_) (k x hfo hF);obtain⟨hcall,hrun⟩:=hc ⟨_,hS⟩ hfo;obtain⟨vs,h1,h2⟩:=ZW hA hys;obtain⟨v,h3,h4⟩:=eF hA hf;simp[fH,aT] at h3;subst h3;have h5:=hrun vs (aCF hA0 (by rw[OJ];exact h1)) (aNO w);have h6:=RB (w:=w) hcall ho h4 h2;unfold Oper.wp;rw[h6 _ a hA.env,Oper.upon_enter];refine Calls.mono h5 λen w' ⟨v,hv,y,g1,g2⟩=>?_;subst hv;rw[hd];have g3:=wE (V8 (.mk P T hT n c B0 N X Q) cf1++B) g1;exact hnext y _ _ ⟨[],aj,by simpa using hA.of aj (hA.env.put (by grind[qS,wD]) v),by simpa using hS.after (hn x y) g2⟩
end
section
variable {P:Program} {T:TT} {hT:D6 P T} {n:Nat} {c:Ctx} {B0:Bl} {N:Act->World->Prop} {X:Nat->Act->World->Prop} {Q:Act->World->Prop} {K K':List Fr} {m m':Nat} {e e':SE} {L L':List Ch} {cf:sW}
def NxP(n:Nat)(c:Ctx)(B0:Bl){σ ρ υ:Type}(o:Step σ ρ)(m:Nat)(el:σ->υ->SE)(Ll:σ->υ->List Ch):Act->World->Prop:=λa w=>∃s u,o=.next s/\pA n c B0 m (el s u) (Ll s u) a w
def BkP(n:Nat)(c:Ctx)(B0:Bl){β ρ υ:Type}(ro:ρ)(enc:β->ρ)(m:Nat)(ej:β->υ->SE)(Lj:β->υ->List Ch)(id:Nat)(X:Nat->Act->World->Prop):Nat->Act->World->Prop:=λi a w=>if i=id then ∃b u,ro=enc b/\pA n c B0 m (ej b u) (Lj b u) a w else X i a w
theorem lp{σ ρ υ β ω O:Type}{id:Nat}{y:Code}{fb:σ->Option (Step σ ρ)}{s0:σ}{gk:ρ->Option O}{q:O}(u0:υ)(ks:List Nat)(el:σ->υ->SE)(is0 is:List Nat)(Ll:σ->υ->List Ch)(enc:β->ρ)(kb:List Nat)(ej:β->ω->SE)(ib:List Nat)(Lj:β->ω->List Ch)
  (hs:jK T n K cf m e L=.loop id y K' m' e' L') (hF:(loop fb s0).bind gk=some q)
  (h0:YQ B0.length m' e' L' is0 m' (el s0 u0++kp e' ks) (Ll s0 u0++kl L' is)=some (el s0 u0++kp e' ks,Ll s0 u0++kl L' is))
  (k1:∀ro,gk ro=some q->∀s u o,fb s=some o->(∀p,o=.stop p->p=ro)->G (.mk P T hT n c B0 (NxP n c B0 o m' (λs u=>el s u++kp e' ks) (λs u=>Ll s u++kl L' is)) (BkP n c B0 ro enc m' (λb u=>ej b u++kp e' kb) (λb u=>Lj b u++kl L' ib) id (XK (.mk P T hT n c B0 N X Q) K')) Q) [] m' (el s u++kp e' ks) (Ll s u++kl L' is) (.c y))
  (k2:∀b u,gk (enc b)=some q->G (.mk P T hT n c B0 N X Q) K' m' (ej b u++kp e' kb) (Lj b u++kl L' ib) .n):G (.mk P T hT n c B0 N X Q) K m e L cf:=by
 refine gO (g:=.mk P T hT n c B0 N X Q) ?_;rw[hs];intro a w hr;cases hl:loop fb s0 with
 |none=>grind
 |some ro=>
  rw[hl] at hF;have hF:gk ro=some q:=hF;refine aS2 (bBA (body:=fb) (r:=ro) (λs a w=>∃u,pA n c B0 m' (el s u++kp e' ks) (Ll s u++kl L' is) a w) ?_ hl ⟨u0,hr.YQ is0 h0⟩);intro s a w o ⟨u,hI⟩ hb ho;refine CW.mono (k1 ro hF s u o hb ho a w hI) ?_ ?_ (λ_ _ h=>h)
  ·rintro a w ⟨s',u',h1,h2⟩;grind
  ·intro i a w h;simp only[XK,BkP,aO0] at h ⊢;split
   ·rename_i hi;rw[aO hi] at h;obtain⟨b,u,h1,h2⟩:=h;exact k2 b u (h1 ▸ hF) a w h2
   grind
theorem nx{σ ρ υ:Type}{o:Step σ ρ}{mj:Nat}{el:σ->υ->SE}{Ll:σ->υ->List Ch}{s:σ}(u:υ)(is:List Nat)(hG:some (Step.next s)=some o)(hs:jK T n K cf m e L=.fin m' e' L')(h:YQ B0.length m' e' L' is mj (el s u) (Ll s u)=some (el s u,Ll s u)):G (.mk P T hT n c B0 (NxP n c B0 o mj el Ll) X Q) K m e L cf:=
 gO (g:=.mk P T hT n c B0 _ X Q) (by
  rw[hs];cases hG;exact λa w hr=>⟨s,u,rfl,hr.YQ is h⟩)
theorem bk{σ ρ β υ:Type}{o:Step σ ρ}{ro:ρ}{enc:β->ρ}{mj id:Nat}{ej:β->υ->SE}{Lj:β->υ->List Ch}{b:β}(u:υ)(is:List Nat)(hG:some (Step.stop (enc b))=some o)(hr:∀p,o=.stop p->p=ro)(hs:jK T n K cf m e L=.ex id m' e' L')(h:YQ B0.length m' e' L' is mj (ej b u) (Lj b u)=some (ej b u,Lj b u)):G (.mk P T hT n c B0 N (BkP n c B0 ro enc mj ej Lj id X) Q) K m e L cf:=
 gO (g:=.mk P T hT n c B0 N _ Q) (by
  rw[hs];cases hG;have:=hr _ rfl;subst this;intro a w hr;show BkP n c B0 (enc b) enc mj ej Lj id X id a w;unfold BkP;rw[aO rfl];exact⟨b,u,rfl,hr.YQ is h⟩)
theorem re{σ ρ O:Type}{o:Step σ ρ}{p ro:ρ}{F:ρ->Option O}{q:Option O}{zz:Option (Step σ ρ)}(hG:zz=some o)(hz:zz=some (Step.stop p))(hr:∀p,o=.stop p->p=ro)(hF:F ro=q):F p=q:=aj
structure DO (O:Type) [aN O] where
 ex:Type
 cs:O->ex->List SV
 sub:cC->World->O->ex->Prop
 ok:∀{S w ec x},aN.rd S w ec x->∃y,aT (bK []) (cs x y)=some ec/\sub S w x y
 sv:O->ex->SV
 bM4:∀{S S' w w' x y},sub S w x y->(∀b o,S b o->w'.cell? ⟨b,o,none⟩=w.cell? ⟨b,o,none⟩)->(∀b o,S b o->S' b o)->sub S' w' x y
def cI:DO Int:=⟨Unit,λx _=>[.i .i64 x],λ_ _ _ _=>True,λh=>⟨(),by cases h;rfl,trivial⟩,λx _=>.i .i64 x,λ_ _ _=>trivial⟩
def cU:DO UInt8:=⟨Unit,λx _=>[.y x],λ_ _ _ _=>True,λh=>⟨(),by cases h;rfl,trivial⟩,λx _=>.y x,λ_ _ _=>trivial⟩
theorem KU{O:Type}[aN O]{S:cC}{w:World}{ec:List Value}{l:List O}(h:aN.rd S w ec l):∃s:AC,ec=[s.v l.length]:=by obtain⟨ad,m,h1,_⟩:=(show qV S w ec l from h);exact⟨⟨ad,m⟩,h1⟩
def cL{O:Type}[aN O]:DO (List O):=⟨AC,λx y=>[.h y x.length],λS w x y=>aN.rd S w [y.v x.length] x,λh=>by
 obtain⟨s,h1⟩:=KU h;subst h1;exact⟨s,rfl,h⟩,λx y=>.h y x.length,λh h1 h2=>aN.rd_mono (aN.rd_agree h h1) h2⟩
theorem St.bJ6{w:World}{M:List Chunk}{R:List Fact}{f:Fact}(h:St c w M R)(s0:∀b o,c.S0 b o->b<c.w0.heap.size)(hf:f.P c.S0 c.w0):St c w M (R++[f]):=by
 obtain⟨F,S,a1,a2,a3,a4,a5,a6⟩:=h.sep;refine⟨h.keep,⟨F,λb o=>S b o\/c.S0 b o,a1,?_,a3,?_,?_,?_⟩,h.apart⟩
 ·rintro b o hF (hs|hs)
  ·exact a2 b o hF hs
  ·rcases a3 b o hF with hw|hw
   ·exact h.apart b o hw hs
   grind
 ·grind
 ·rintro b o (hs|hs)
  ·grind
  ·exact HB (s0 b o hs) h.keep.size
 ·intro g hg;rcases cY.1 hg with hg|hg
  ·exact g.mono (a6 g hg) λb o hs=>.inl hs
  ·simp at hg;subst hg;exact g.mono (g.agree hf λb o hb=>h.keep.cell b o (s0 b o hb) λhw=>h.apart b o hw hb) λb o hs=>.inr hs
theorem lJ.bJ7{w:World}{B:Bl}{k b z:Nat}{cs:List SV}{vs:List Value}(h:lJ c w B L)(hk:B[k]?=some (b,z))(hc:aT (bK B) cs=some vs)(hf:(fAt b z vs).P c.S0 c.w0):lJ c w B (L++[.ro k cs]):=by
 obtain⟨⟨R,s1,s2⟩,s0⟩:=h;refine⟨⟨R++[fAt b z vs],?_,λx hx=>?_⟩,s0⟩
 ·rw[m7];exact St.more (ch:=J1) (St.bJ6 s1 s0 hf) (eK.refl _ _) ⟨F0,λ_ _ h=>h,λ_ _ h=>h.elim⟩
 ·rcases cY.1 hx with hx|hx
  ·grind[aCA]
  ·simp at hx;subst hx;exact⟨b,z,vs,hk,hc,ae⟩
theorem ix{O β:Type}{iR:aN O}(C:DO O){o:Oper}{d t:Nat}{s:AC}{i:Int}{Lv:List Ch}{cf1 cf2:sW}{ls:List O}{kf:O->Option β}{q:β}{el sz:Nat}{b1 b2:Bool}{z1 z2:List SV}{k2:TK}{n1:Nat}(hs:jK T n K cf m e L=.idx o d t s ls.length i Lv cf1 cf2 K' m' e' L')(h1:bL c s ls)(hF:(idx ls i).bind kf=some q)(ht:wW T t=some ⟨.sl el,b1,n1,z1⟩)(he:wW T el=some ⟨k2,b2,sz,z2⟩)(hn:aN.n O=sz)
  (k:∀x,idx ls i=some x->kf x=some q->∀y:C.ex,C.sub c.S0 c.w0 x y->G (.mk P T hT n c B0 N X Q) K' (m'+1) ((d,.p m' 0)::e') (L'++[.ro m' (C.cs x y)]) (cf2.ext [.ro m' (C.cs x y)])):G (.mk P T hT n c B0 N X Q) K m e L cf:=by
 refine gO (g:=.mk P T hT n c B0 N X Q) ?_;rw[hs];intro x' y' ho hd hx hy hP;cases hi:idx ls i with
 |none=>grind
 |some x=>
  rw[hi] at hF;obtain⟨dd,hd1,hd2⟩:=hT.und _ _ ht;simp only at hd2;subst hd2;obtain⟨ec,p1,p2⟩:=bG0 (S:=c.S0) (w:=c.w0) h1 (AW hi).2.2;obtain⟨y,p3,p4⟩:=C.ok p2;subst hn;refine hP d (.p m' 0) [.ro m' (C.cs x y)] (λ_=>[(VJ (s.v ls.length),UL (aN.n O) i.toNat (s.v ls.length))]) 1 hd (λ_=>rfl) (λB a w hA hS hm=>?_) (λB w L hm hS=>?_) (k x hi hF y p4)
  ·obtain⟨v,g1,g2⟩:=eF hA hx;obtain⟨u,g3,g4⟩:=eF hA hy;cases g1;cases g3;have hrd:aN.rd c.S0 w [s.v ls.length] ls:=aQX hS (f:=fRd [s.v ls.length] ls) h1;exact⟨_,by grind[fH,gV,bK],bGQ (P:=P) (o:=o) (w:=w) hrd rfl hi hd1 (hT.size _ _ he) ho g2 g4⟩
  ·exact(hS.app _).bJ7 (b:=VJ (s.v ls.length)) (z:=UL (aN.n O) i.toNat (s.v ls.length)) aj (eQ (λx v h=>by simpa using fW (B:=[]) _ h) p3) p1
theorem dr{id:Nat}{ops:Array Oper}(is:List Nat)(hs:jK T n K cf m e L=.rgn id ops K' m' e' L')(hm:P.follows .mixedOrders=true)(hf:(aTA ops && (okL m' (kl L' is) && (dE is && is.all λj=>Nat.blt j L'.length)))=true)
  (k:∀B1,G (.mk P T hT n c B0 N X Q) K' m' e' L' (.d B1 ops (List.replicate ops.size false) is (kl L' is) (kl L' is))):G (.mk P T hT n c B0 N X Q) K m e L cf:=by refine gO (g:=.mk P T hT n c B0 N X Q) ?_;rw[hs];intro a w ⟨B,hmm,hA,hS⟩;simp only[uG,V3,wD] at hf;obtain⟨f1,f2,f3,f4⟩:=hf;refine wp_region_held (S:=Sd (.mk P T hT n c B0 N X Q) (B0++B) (kl L' is)) hm ?_;have:=k (B0++B) ⟨⟨B,rfl⟩,ae,f1,rfl,f4,aj,f3⟩ a w.drew ⟨[],aj,aj,by simpa using hS.bHD (eK.drew F0 w),λw' h=>aj⟩;simp_all
end
inductive StF (P:Program):List Field->List (Nat×Nat)->Prop where
 |n:StF P [] []
 |c {F:Field} {Fs:List Field} {fs:List (Nat×Nat)} {m:Nat} (h:∀w,(sizeOf F.type).run P w=.ok m w) (t:StF P Fs fs):StF P (F::Fs) ((F.offset,m)::fs)
section
variable {P:Program} {T:TT} {t n:Nat} {a:Bool} {zs:List SV} {z:Value}
theorem StF.off{Fs:List Field}{fs:List (Nat×Nat)}(h:StF P Fs fs):Fs.map (·.offset)=fs.map (·.1):=by
 induction h with
 |n=>rfl
 |c h t ih=>simp[ih]
theorem StF.get{Fs:List Field}{fs:List (Nat×Nat)}(h:StF P Fs fs):∀(j:Nat) F,Fs[j]?=some F->∃m,fs[j]?=some (F.offset,m)/\∀w,(sizeOf F.type).run P w=.ok m w:=by
 induction h with
 |n=>simp
 |c h t ih=>
  intro j F hj;cases j with
  |zero=>simp_all
  |succ j=>grind
theorem StF.run{Fs:List Field}{fs:List (Nat×Nat)}(h:StF P Fs fs)(w:World):(Fs.mapM λf=>(do pure (f.offset,<-sizeOf f.type):Sem (Nat×Nat))).run P w=.ok fs w:=by
 induction h with
 |n=>simp
 |c h t ih=>simp_all
theorem D6.nil:D6 P []:=⟨λ_ _ h=>(by cases h),λ_ _ h=>(by cases h),λ_ _ h=>(by cases h),λ_ _ h=>(by cases h)⟩
theorem D6.add{k:TK}{d:TypeDesc}(hu:P.underlying t=some d)(hk:match k with
  |.i k=>d=.int k
  |.b=>d=.bool
  |.st fs=>∃Fs:Array Field,d=.struct Fs/\Fs.toList.map (·.offset)=fs.map (·.1)/\(∀(j:Nat) F,Fs[j]?=some F->∃m,fs[j]?=some (F.offset,m)/\∀w,(sizeOf F.type).run P w=.ok m w)/\∀w,(Fs.mapM λf=>(do pure (f.offset,<-sizeOf f.type):Sem (Nat×Nat))).run P w=.ok fs.toArray w
  |.s=>d=.string
  |.sl el=>d=.slice el
  |.x=>True) (ha:∀w,(isAgg t).run P w=.ok a w) (hs:∀w,(sizeOf t).run P w=.ok n w) (hz:∀w,(zeroValue t).run P w=.ok z w) (hc:aT (bK []) zs=some z.cells.toList) (h:D6 P T):D6 P ((t,⟨k,a,n,zs⟩)::T):=by
 refine⟨λt' i hi=>?_,λt' i hi=>?_,λt' i hi=>?_,λt' i hi=>?_⟩<;>simp only[wW] at hi<;>split at hi
 ·grind[nM]
 ·exact h.und t' i hi
 ·grind[nM]
 ·exact h.agg t' i hi
 ·grind[nM]
 ·exact h.size t' i hi
 ·grind[nM]
 ·exact h.zero t' i hi
theorem D6.st{fs:List (Nat×Nat)}{Fs:List Field}(hu:P.underlying t=some (.struct Fs.toArray))(hk:StF P Fs fs)(ha:∀w,(isAgg t).run P w=.ok a w)(hs:∀w,(sizeOf t).run P w=.ok n w)(hz:∀w,(zeroValue t).run P w=.ok z w)(hc:aT (bK []) zs=some z.cells.toList)(h:D6 P T):D6 P ((t,⟨.st fs,a,n,zs⟩)::T):=
 D6.add (k:=.st fs) hu ⟨Fs.toArray,rfl,by simpa using hk.off,λj F hj=>hk.get j F aj,λw=>by
  have:=hk.run w;simp_all⟩ ha hs hz hc h
end
abbrev I(x:Int):SV:=.i .i64 x
end Go.Gv
end
