import Derived.WalkKit
import Derived.OrdersHeld
import Derived.LoopN
import Derived.Laws.BytesString
import Derived.Deep.Slices
import Derived.ProofKit
import Derived.OpenShut
import Derived.ShutString
import Derived.ChangeOld
import Derived.Below
import Derived.Carry
set_option linter.unusedVariables false
set_option linter.unusedSimpArgs false
set_option linter.unusedSectionVars false
set_option linter.constructorNameAsVariable false
set_option linter.unnecessarySimpa false
set_option linter.defProp false
noncomputable section
namespace Go.Gv
abbrev an:=List Int
abbrev ar:=List Value
abbrev av:=List Nat
abbrev aw:=Option Bool
abbrev aF:=List Bool
abbrev bh:=List UInt8
abbrev br:=Array Oper
abbrev bu:=Option Int
abbrev bw:=Array Value
abbrev b4:=List (List Int)
abbrev b6:=List (Nat×Nat)
abbrev cn:=List Oper
abbrev cq:=Option Nat
abbrev cr:=Option (List Int)
abbrev cw:=List (Nat×Operand)
abbrev db:=List (Int×Option Int)
variable{fs:Array Field}{l q:bh}{cc vs:ar}{d i id j k m n:Nat}{x:Operand}{P:Program}{p:Prop}{O ρ σ:Type}{ds:TypeDesc}{t:TypeId}{s z:Value}{w w':World}
def aa(h:p:=by omega):p:=h
def ae(h:p:=by simp):p:=h
def ah(h:p:=by simp;omega):p:=h
def ai(h:p:=by decide):p:=h
def aj(h:p:=by grind):p:=h
def ak(h:p:=by rfl):p:=h
def aI{β:Type}(a:O)(f:O->Option β):(some a).bind f=f a:=rfl
def bQ:(false=true)=False:=ae
def bY[a:Decidable p](h:p):decide p=true:=by simp[h]
def eQ[a:Decidable p](h:¬p):decide p=false:=by simp[h]
def jI:(!true)=false:=rfl
def QC:(!false)=true:=rfl
def aM:type_of% @if_pos:=@if_pos
def aO:type_of% @if_neg:=@if_neg
def bN:type_of% @if_false:=@if_false
def bS:type_of% @if_true:=@if_true
def cS:type_of% @congrArg:=@congrArg
def aNM:type_of% @Array.getElem?_eq_some_iff:=@Array.getElem?_eq_some_iff
def yV:type_of% @Bool.and_eq_true:=@Bool.and_eq_true
def LY:type_of% @Bool.eq_iff_iff:=@Bool.eq_iff_iff
def a2C:type_of% @Bool.not_eq_true':=@Bool.not_eq_true'
def bJ9:type_of% @Int.eq_ofNat_of_zero_le:=@Int.eq_ofNat_of_zero_le
def O1:type_of% @Int.le_refl:=@Int.le_refl
def aQ8:type_of% @Int.le_trans:=@Int.le_trans
def a5V:type_of% @Int.tmod_eq_emod_of_nonneg:=@Int.tmod_eq_emod_of_nonneg
def H3:type_of% @Int.toNat_natCast:=@Int.toNat_natCast
def aF3:type_of% @List.all_cons:=@List.all_cons
def aF4:type_of% @List.all_eq_true:=@List.all_eq_true
def aIH:type_of% @List.any_eq_false:=@List.any_eq_false
def qM:type_of% @List.append_assoc:=@List.append_assoc
def wW:type_of% @List.append_nil:=@List.append_nil
def aMW:type_of% @List.concat_eq_append:=@List.concat_eq_append
def H6:type_of% @List.cons_append:=@List.cons_append
theorem vA:type_of% @List.drop_eq_getElem_cons:=@List.drop_eq_getElem_cons
theorem aII:type_of% @List.drop_eq_nil_of_le:=@List.drop_eq_nil_of_le
def PW:type_of% @List.drop_zero:=@List.drop_zero
def vB:type_of% @List.eq_nil_of_length_eq_zero:=@List.eq_nil_of_length_eq_zero
def aCH:type_of% @List.eq_nil_or_concat:=@List.eq_nil_or_concat
def aF5:type_of% @List.ext_getElem?:=@List.ext_getElem?
def aQ9:type_of% @List.findIdx_getElem:=@List.findIdx_getElem
def a2D:type_of% @List.findIdx_lt_length_of_exists:=@List.findIdx_lt_length_of_exists
def DY:type_of% @List.getD_eq_getElem?_getD:=@List.getD_eq_getElem?_getD
def aMX:type_of% @List.getElem?_append:=@List.getElem?_append
def aXZ:type_of% @List.getElem?_append_right:=@List.getElem?_append_right
def aMY:type_of% @List.getElem?_drop:=@List.getElem?_drop
def iS:type_of% @List.getElem?_eq_getElem:=@List.getElem?_eq_getElem
def DZ:type_of% @List.getElem?_eq_some_iff:=@List.getElem?_eq_some_iff
def D0:type_of% @List.getElem?_map:=@List.getElem?_map
def aMZ:type_of% @List.getElem?_of_mem:=@List.getElem?_of_mem
def aIJ:type_of% @List.getElem?_take:=@List.getElem?_take
theorem cQ:type_of% @List.getElem_mem:=@List.getElem_mem
theorem XB:type_of% @List.getElem_of_mem:=@List.getElem_of_mem
def H7:type_of% @List.length_append:=@List.length_append
def H8:type_of% @List.length_cons:=@List.length_cons
def XC:type_of% @List.length_drop:=@List.length_drop
def bDY:type_of% @List.length_filter_le:=@List.length_filter_le
def dM:type_of% @List.length_set:=@List.length_set
def aF6:type_of% @List.length_take:=@List.length_take
def vC:type_of% @List.map_append:=@List.map_append
def LM:type_of% @List.map_cons:=@List.map_cons
def PX:type_of% @List.map_set:=@List.map_set
def dR:type_of% @List.mem_append:=@List.mem_append
def XD:type_of% @List.mem_append_left:=@List.mem_append_left
def aIK:type_of% @List.mem_append_right:=@List.mem_append_right
def lO:type_of% @List.mem_cons:=@List.mem_cons
def lZ:type_of% @List.mem_cons_of_mem:=@List.mem_cons_of_mem
def aF7:type_of% @List.mem_cons_self:=@List.mem_cons_self
def aX0:type_of% @List.mem_filter:=@List.mem_filter
def aM0:type_of% @List.mem_flatMap:=@List.mem_flatMap
theorem aF8:type_of% @List.mem_iff_getElem:=@List.mem_iff_getElem
def H9:type_of% @List.mem_map:=@List.mem_map
def IA:type_of% @List.mem_of_getElem?:=@List.mem_of_getElem?
def XE:type_of% @List.mem_of_mem_drop:=@List.mem_of_mem_drop
def bDZ:type_of% @List.mem_of_mem_take:=@List.mem_of_mem_take
def tD:type_of% @List.mem_or_eq_of_mem_set:=@List.mem_or_eq_of_mem_set
def jQ:type_of% @List.mem_singleton:=@List.mem_singleton
def PY:type_of% @List.nil_append:=@List.nil_append
def aIL:type_of% @List.nodup_append:=@List.nodup_append
def aF9:type_of% @List.nodup_cons:=@List.nodup_cons
def a8I:type_of% @List.not_mem_nil:=@List.not_mem_nil
theorem aRA:type_of% @List.pairwise_cons:=@List.pairwise_cons
theorem aX1:type_of% @List.pairwise_iff_getElem:=@List.pairwise_iff_getElem
theorem aX2:type_of% @List.set_getElem_self:=@List.set_getElem_self
def a2E:type_of% @List.set_set:=@List.set_set
def aRB:type_of% @List.size_toArray:=@List.size_toArray
def aX3:type_of% @List.takeWhile_append_dropWhile:=@List.takeWhile_append_dropWhile
theorem aGA:type_of% @List.take_append_drop:=@List.take_append_drop
theorem aM1:type_of% @List.take_of_length_le:=@List.take_of_length_le
theorem N5:type_of% @List.take_succ_eq_append_getElem:=@List.take_succ_eq_append_getElem
def HE:type_of% @Nat.add_assoc:=@Nat.add_assoc
theorem pL:type_of% @Nat.add_mul:=@Nat.add_mul
def aAS:type_of% @Nat.add_zero:=@Nat.add_zero
theorem y5:type_of% @Nat.blt_eq:=@Nat.blt_eq
theorem qN:type_of% @Nat.eq_of_beq_eq_true:=@Nat.eq_of_beq_eq_true
theorem XF:type_of% @Nat.le_of_ble_eq_true:=@Nat.le_of_ble_eq_true
def aAT:type_of% @Nat.le_of_eq:=@Nat.le_of_eq
def jE:type_of% @Nat.le_refl:=@Nat.le_refl
def oB:type_of% @Nat.le_trans:=@Nat.le_trans
def LN:type_of% @Nat.lt_of_lt_of_le:=@Nat.lt_of_lt_of_le
def aIM:type_of% @Nat.mul_le_mul:=@Nat.mul_le_mul
theorem wX:type_of% @Nat.mul_le_mul_right:=@Nat.mul_le_mul_right
def aIN:type_of% @Nat.zero_add:=@Nat.zero_add
def iT:type_of% @Nat.zero_le:=@Nat.zero_le
def aIO:type_of% @Option.getD_some:=@Option.getD_some
def aM2:type_of% @Option.isSome_iff_exists:=@Option.isSome_iff_exists
abbrev cW:=Nat->Nat->Prop
def cW.IB(F G:cW):Prop:=∀b o,F b o->G b o->False
variable{F:cW}
def F0:cW:=λ_ _=>False
def cW.bBB{G:cW}(h:F.IB G):G.IB F:=λb o a c=>h b o c a
structure eT (F:cW) (w w':World):Prop where
 os:w'.os=w.os
 tape:w'.tape=w.tape
 output:w'.output=w.output
 size:w.heap.size<=w'.heap.size
 block:∀b,b<w.heap.size->(∀o,¬F b o)->w'.heap[b]?=w.heap[b]?
 cell:∀b o,b<w.heap.size->¬F b o->w'.cell? ⟨b,o,none⟩=w.cell? ⟨b,o,none⟩
 zU:∀b o,b<w.heap.size->w'.frozen? ⟨b,o,none⟩=w.frozen? ⟨b,o,none⟩
 stay:∀b o,(w.cell? ⟨b,o,none⟩).isSome=true->(w'.cell? ⟨b,o,none⟩).isSome=true
theorem j4{b o:Nat}(h:(w.cell? ⟨b,o,none⟩).isSome=true):b<w.heap.size:=by obtain⟨v,a⟩:=aM2.1 h;exact World.block_lt_of_cell? w ⟨b,o,none⟩ a
theorem eT.refl(F:cW)(w:World):eT F w w:=⟨rfl,rfl,rfl,jE _,λ_ _ _=>rfl,λ_ _ _ _=>rfl,λ_ _ _=>rfl,λ_ _ h=>h⟩
theorem eT.mono{G:cW}(h:eT F w w')(e:∀b o,b<w.heap.size->F b o->G b o):eT G w w':=⟨h.os,h.tape,h.output,h.size,λb a c=>h.block b a λo d=>c o (e b o a d),λb o a c=>h.cell b o a λd=>c (e b o a d),h.zU,h.stay⟩
def eT.trans{G:cW}{e w2:World}(h:eT F w e)(k:eT G e w2)(f:∀b o,b<w.heap.size->G b o->F b o):eT F w w2:=
  ⟨k.os.trans h.os,k.tape.trans h.tape,k.output.trans h.output,oB h.size k.size,
   λb a c=>(k.block b (LN a h.size) λo d=>c o (f b o a d)).trans (h.block b a c),
   λb o a c=>(k.cell b o (LN a h.size) λd=>c (f b o a d)).trans (h.cell b o a c),
   λb o a=>(k.zU b o (LN a h.size)).trans (h.zU b o a),λb o hc=>k.stay b o (h.stay b o hc)⟩
def eT.drew(F:cW)(w:World):eT F w w.drew:=⟨rfl,rfl,rfl,jE _,λ_ _ _=>rfl,λ_ _ _ _=>rfl,λ_ _ _=>rfl,λ_ _ h=>h⟩
def eT.alloc(F:cW)(w:World)(c:Obj):eT F w (w.alloc c):=by
 have a:∀b,b<w.heap.size->(w.alloc c).heap[b]?=w.heap[b]?:=λb a=>by grind[heap_alloc_old]
 have hc:∀b o,b<w.heap.size->(w.alloc c).cell? ⟨b,o,none⟩=w.cell? ⟨b,o,none⟩:=λb o h=>World.cell?_of_block (a b h);exact⟨rfl,rfl,rfl,ae,λb h _=>a b h,λb o h _=>hc b o h,λb o h=>World.frozen?_of_block (a b h),
  λb o h=>by grind[j4]⟩
def eT.setCell(F:cW)(w:World)(a:Addr)(v:Value)(d:F a.block a.off)(i:a.spot=none):eT F w (w.setCell a v):=by
 have f:(w.setCell a v).heap.size=w.heap.size:=ae
 refine⟨rfl,rfl,rfl,ae,λb _ c=>?_,λb o _ c=>?_,λb o _=>ae,λb o h=>?_⟩
 .exact heap_setCell_other w a b v (λe=>c a.off (e ▸ d))
 .refine World.cell?_setCell_other (h:=λe=>c ?_) ..;rw[e] at d;exact d
 .by_cases e:a=⟨b,o,none⟩
  .subst e;obtain⟨u,g⟩:=aM2.1 h;rw[World.cell?_setCell_same (h:=g)];rfl
  .rw[World.cell?_setCell_other (h:=e)];exact h
def bG(w:World)(b off:Nat)(cs:ar):Prop:=∀j v,cs[j]?=some v->w.cell? ⟨b,off+j,none⟩=some v
class aN (O:Type) where
 n:Nat
 rd:cW->World->ar->O->Prop
 own:World->ar->O->cW->Prop
 mD:∀{S w cs d},rd S w cs d->cs.length=n
 rd_one:∀{S w cs d},rd S w cs d->∀v∈cs,v.oneCell'=true
 rd_agree:∀{S w w' cs d},rd S w cs d->(∀b o,S b o->w'.cell? ⟨b,o,none⟩=w.cell? ⟨b,o,none⟩)->rd S w' cs d
 rd_mono:∀{S S' w cs d},rd S w cs d->(∀b o,S b o->S' b o)->rd S' w cs d
 own_rd:∀{w cs d F},own w cs d F->rd F w cs d
 own_keep:∀{w w' cs d F G},own w cs d F->eT G w w'->F.IB G->own w' cs d F
 own_lt:∀{w cs d F b o},own w cs d F->F b o->b<w.heap.size
@[reducible] def aN.flat {O : Type} (f : O -> Value) (a : ∀ x, (f x).oneCell' = true) : aN O where
 n:=1
 rd:=λ_ _ cs x=>cs=[f x]
 own:=λ_ cs x F=>cs=[f x]/\∀b o,¬F b o
 mD:=λh=>by simp[h]
 rd_one:=λh v c=>aj
 rd_agree:=λh _=>h
 rd_mono:=λh _=>h
 own_rd:=λh=>h.1
 own_keep:=λh _ _=>h
 own_lt:=λh a=>(h.2 _ _ a).elim
instance:aN Int:=aN.flat (λx=>.int .i64 x) λ_=>rfl
instance:aN Bool:=aN.flat (λx=>.bool x) λ_=>rfl
instance:aN UInt8:=aN.flat (λx=>.int .u8 (x.toNat:Int)) λ_=>rfl
structure bO6 where
 b:bh
 deriving DecidableEq,Inhabited
instance:aN bO6:=aN.flat (λx=>.string ⟨x.b.toArray⟩) λ_=>rfl
instance {O β:Type} [aN O] [aN β]:aN (O×β) where
 n:=aN.n O+aN.n β
 rd:=λS w cs d=>∃c1 c2,cs=c1++c2/\aN.rd S w c1 d.1/\aN.rd S w c2 d.2
 own:=λw cs d F=>∃c1 c2 F1 F2,cs=c1++c2/\aN.own w c1 d.1 F1/\aN.own w c2 d.2 F2/\cW.IB F1 F2/\∀b o,F b o↔F1 b o\/F2 b o
 mD:=by grind[aN.mD]
 rd_one:=by grind[aN.rd_one]
 rd_agree:=by grind[aN.rd_agree]
 rd_mono:=by grind[aN.rd_mono]
 own_rd:=by rintro w cs d F ⟨c1,c2,F1,F2,rfl,h1,h2,_,hF⟩;exact⟨c1,c2,rfl,aN.rd_mono (aN.own_rd h1) λb o h=>(hF b o).2 (.inl h),aN.rd_mono (aN.own_rd h2) λb o h=>(hF b o).2 (.inr h)⟩
 own_keep:=by rintro w w' cs d F G ⟨c1,c2,F1,F2,rfl,h1,h2,hd,hF⟩ hk hdj;exact⟨c1,c2,F1,F2,rfl,aN.own_keep h1 hk λb o h g=>hdj b o ((hF b o).2 (.inl h)) g,aN.own_keep h2 hk λb o h g=>hdj b o ((hF b o).2 (.inr h)) g,hd,hF⟩
 own_lt:=by
  rintro w cs d F b o ⟨c1,c2,F1,F2,rfl,h1,h2,hd,hF⟩ hf;rcases(hF b o).1 hf with h|h
  .exact aN.own_lt h1 h
  .exact aN.own_lt h2 h
@[reducible] def aN.via {σ τ : Type} [aN τ] (f : σ -> τ) : aN σ where
 n:=aN.n τ
 rd:=λS w cs d=>aN.rd S w cs (f d)
 own:=λw cs d F=>aN.own w cs (f d) F
 mD:=λh=>aN.mD h
 rd_one:=λh=>aN.rd_one h
 rd_agree:=λh a=>aN.rd_agree h a
 rd_mono:=λh a=>aN.rd_mono h a
 own_rd:=λh=>aN.own_rd h
 own_keep:=λh hk c=>aN.own_keep h hk c
 own_lt:=λh b=>aN.own_lt h b
def bG.agree{b off:Nat}{cs:ar}(h:bG w b off cs)(d:∀o,off<=o->o<off+cs.length->w'.cell? ⟨b,o,none⟩=w.cell? ⟨b,o,none⟩):bG w' b off cs:=by intro j v a;have c:=(DZ.1 a).1;rw[d _ aa aa];exact h j v a
def bG.lt{b off:Nat}{cs:ar}(h:bG w b off cs)(hc:cs≠[]):b<w.heap.size:=by
 cases cs with
 |nil=>grind
 |cons v r=>exact World.block_lt_of_cell? w ⟨b,off+0,none⟩ (h 0 v rfl)
def fB(b off n:Nat):cW:=λb' o=>b'=b/\off<=o/\o<off+n
def sN{O:Type}[aN O](S:cW)(w:World)(cs:ar)(l:List O):Prop:=
 ∃a c,cs=[.slice a l.length c]/\l.length<=c/\c<=maxLen /\
  (l=[]\/∃b off,a=some ⟨b,off,none⟩/\∀i (h:i<l.length),∃ec,bG w b (off+i*aN.n O) ec/\(∀o,fB b (off+i*aN.n O) ec.length b o->S b o)/\aN.rd S w ec l[i])
def D1{O:Type}[aN O](w:World)(cs:ar)(l:List O)(F:cW):Prop:=
  ∃a c,cs=[.slice a l.length c]/\l.length<=c/\c<=maxLen /\
    ((a = none /\ c = 0 /\ ∀ b o,¬ F b o) \/
     ∃b off,∃Fs:Nat->cW,a=some ⟨b,off,none⟩/\(∀o,fB b off (c*aN.n O) b o->(w.cell? ⟨b,o,none⟩).isSome=true/\w.frozen? ⟨b,o,none⟩=false) /\
       (∀i (h:i<l.length),∃ec,bG w b (off+i*aN.n O) ec/\aN.own w ec l[i] (Fs i)) /\
       (∀i j,i<l.length->j<l.length->i≠j->cW.IB (Fs i) (Fs j))/\(∀i,i<l.length->cW.IB (Fs i) (fB b off (c*aN.n O))) /\
       ∀b' o,F b' o↔fB b off (c*aN.n O) b' o\/∃i,i<l.length/\Fs i b' o)
def bD0{len c:Nat}(b:i<len)(hc:len<=c)(a:j<n):i*n+j<c*n:=by have:(i+1)*n<=c*n:=wX n aa;grind
instance bOC {O:Type} [aN O]:aN (List O) where
 n:=1
 rd:=sN
 own:=D1
 mD:=by rintro S w cs d ⟨a,c,rfl,_⟩;rfl
 rd_one:=by rintro S w cs d ⟨a,c,rfl,_⟩ v hv;simp at hv;subst hv;rfl
 rd_agree:=by
  rintro S w w' cs l ⟨a,c,rfl,h1,h2,h3⟩ ha;refine⟨a,c,rfl,h1,h2,?_⟩;obtain h|⟨b,off,rfl,h⟩:=h3
  .exact .inl h
  .refine .inr ⟨b,off,rfl,λi hi=>?_⟩;obtain⟨ec,hc,hr,hd⟩:=h i hi;exact⟨ec,hc.agree λo a1 a2=>ha b o (hr o ⟨rfl,a1,a2⟩),hr,aN.rd_agree hd ha⟩
 rd_mono:=by rintro S S' w cs l ⟨a,c,rfl,h1,h2,h3⟩ ha;refine⟨a,c,rfl,h1,h2,?_⟩;grind[aN.rd_mono]
 own_rd:=by
  rintro w cs l F ⟨a,c,rfl,h1,h2,h3⟩;refine⟨a,c,rfl,h1,h2,?_⟩;obtain⟨rfl,hc,_⟩|⟨b,off,Fs,rfl,hrow,hel,_,_,hF⟩:=h3
  .simp_all
  .refine .inr ⟨b,off,rfl,λi hi=>?_⟩;obtain⟨ec,hc,ho⟩:=hel i hi;refine⟨ec,hc,λo h4=>(hF b o).2 (.inl ⟨rfl,?_,?_⟩),aN.rd_mono (aN.own_rd ho) λb' o hf=>(hF b' o).2 (.inr ⟨i,hi,hf⟩)⟩
   .have:=h4.2.1;omega
   .have hl:=aN.mD (aN.own_rd ho);obtain⟨_,h5,h6⟩:=h4;rw[hl] at h6;have:=bD0 (j:=o-(off+i*aN.n O)) (n:=aN.n O) hi h1 aa;omega
 own_keep:=by
  rintro w w' cs l F G ⟨a,c,rfl,h1,h2,h3⟩ hk hd;refine⟨a,c,rfl,h1,h2,?_⟩;obtain h|⟨b,off,Fs,rfl,hrow,hel,h4,h5,hF⟩:=h3
  .exact .inl h
  .refine .inr ⟨b,off,Fs,rfl,λo ho=>?_,λi hi=>?_,h4,h5,hF⟩
   .have hs:=hrow o ho;exact⟨hk.stay b o hs.1,(hk.zU b o (j4 hs.1)).trans hs.2⟩
   .obtain⟨ec,hc,ho⟩:=hel i hi;refine⟨ec,hc.agree λo h6 h7=>?_,aN.own_keep ho hk λb' o hf hg=>hd b' o ((hF b' o).2 (.inr ⟨i,hi,hf⟩)) hg⟩;have hin:fB b off (c*aN.n O) b o:=by refine⟨rfl,aa,?_⟩;have hl:=aN.mD (aN.own_rd ho);rw[hl] at h7;have:=bD0 (j:=o-(off+i*aN.n O)) (n:=aN.n O) hi h1 aa;omega
    exact hk.cell b o (j4 (hrow o hin).1) λhg=>hd b o ((hF b o).2 (.inl hin)) hg
 own_lt:=by
  rintro w cs l F b' o ⟨a,c,rfl,h1,h2,h3⟩ hf;obtain⟨_,_,h⟩|⟨b,off,Fs,rfl,hrow,hel,h4,h5,hF⟩:=h3
  .grind
  .rcases(hF b' o).1 hf with h|⟨i,hi,h⟩
   .have e:b'=b:=h.1;subst e;exact j4 (hrow o h).1
   .obtain⟨ec,hc,ho⟩:=hel i hi;exact aN.own_lt ho h
structure Chunk where
 P:World->cW->Prop
 keep:∀{w w' F G},P w F->eT G w w'->F.IB G->P w' F
 lt:∀{w F b o},P w F->F b o->b<w.heap.size
abbrev bj:=List Chunk
variable{ch:Chunk}{A A' B:bj}
def QD:Chunk:=⟨λ_ F=>∀b o,¬F b o,λh _ _=>h,λh a=>(h _ _ a).elim⟩
def cAt(b off:Nat)(cs:ar):Chunk where
 P:=λw F=>bG w b off cs/\(∀o,fB b off cs.length b o->w.frozen? ⟨b,o,none⟩=false)/\∀b' o,F b' o↔fB b off cs.length b' o
 keep:=by
  rintro w w' F G ⟨e,h,d⟩ hk k;have a:∀o,fB b off cs.length b o->b<w.heap.size:=λo ho=>by obtain⟨_,g,f⟩:=ho;exact World.block_lt_of_cell? w _ (e (o-off) cs[o-off] (iS aa))
  refine⟨e.agree λo g f=>?_,λo ho=>(hk.zU b o (a o ho)).trans (h o ho),d⟩;have c:fB b off cs.length b o:=⟨rfl,g,f⟩;exact hk.cell b o (a o c) λi=>k b o ((d b o).2 c) i
 lt:=by rintro w F b' o ⟨e,h,d⟩ j;obtain⟨rfl,g,f⟩:=(d b' o).1 j;exact World.block_lt_of_cell? w _ (e (o-off) cs[o-off] (iS aa))
def fF{O:Type}[aN O](cs:ar)(d:O):Chunk:=⟨λw F=>aN.own w cs d F,λh hk b=>aN.own_keep h hk b,λh a=>aN.own_lt h a⟩
def Sep(w:World):bj->cW->Prop
 |[],F=>∀b o,¬F b o
 |c::L,F=>∃d a,c.P w d/\Sep w L a/\d.IB a/\∀b o,F b o↔d b o\/a b o
def Sep.keep{w w':World}{G:cW}(hk:eT G w w'):∀{L:bj} {F:cW},Sep w L F->F.IB G->Sep w' L F
 |[],_,h,_=>h
 |c::_,_,⟨k,j,i,f,e,d⟩,a=>
  ⟨k,j,c.keep i hk λb o h g=>a b o ((d b o).2 (.inl h)) g,Sep.keep hk f λb o h g=>a b o ((d b o).2 (.inr h)) g,e,d⟩
def Sep.lt{w:World}:∀{L:bj} {F:cW} {b o:Nat},Sep w L F->F b o->b<w.heap.size
 |[],_,_,_,h,a=>(h _ _ a).elim
 |c::L,F,b,o,⟨j,i,f,e,g,d⟩,a=>by
  rcases(d b o).1 a with h|h
  .exact c.lt f h
  .exact Sep.lt e h
def Sep.congr{L:bj}{G:cW}(h:Sep w L F)(a:∀b o,F b o↔G b o):Sep w L G:=by
 have:F=G:=aj
 grind
theorem Sep.append{w:World}:∀{A B:bj} {F:cW},Sep w (A++B) F↔∃d a,Sep w A d/\Sep w B a/\d.IB a/\∀b o,F b o↔d b o\/a b o
 |[],B,F=>by
  constructor
  .intro h;exact⟨F0,F,λ_ _ h=>h,h,λ_ _ h _=>h,λb o=>by simp[F0]⟩
  .rintro⟨d,a,m,i,_,l⟩;exact Sep.congr i λb o=>by rw[l];exact⟨.inr,λh=>h.elim (λh=>(m _ _ h).elim) id⟩
 |c::A,B,F=>by
  constructor
  .rintro⟨d,a,m,i,e,l⟩;obtain⟨k,j,q,p,n,f⟩:=Sep.append.1 i;exact⟨λb o=>d b o\/k b o,j,⟨d,k,m,q,λb o h g=>e b o h ((f b o).2 (.inl g)),λ_ _=>Iff.rfl⟩,p,
    λb o h g=>h.elim (λh=>e b o h ((f b o).2 (.inr g))) (λh=>n b o h g),λb o=>aj⟩
  .rintro⟨d,a,⟨k,j,q,p,n,f⟩,i,e,l⟩;exact⟨k,λb o=>j b o\/a b o,q,Sep.append.2 ⟨j,a,p,i,λb o h g=>e b o ((f b o).2 (.inr h)) g,λ_ _=>Iff.rfl⟩,
    λb o h g=>g.elim (λg=>n b o h g) (λg=>e b o ((f b o).2 (.inl h)) g),λb o=>aj⟩
def Sep.swap(h:Sep w (A++B) F):Sep w (B++A) F:=by obtain⟨f,e,d,c,a,g⟩:=Sep.append.1 h;exact Sep.append.2 ⟨e,f,c,d,cW.bBB a,λb o=>aj⟩
theorem Sep.take{w:World}{c:Chunk}:∀{L:bj} {i:Nat} {F:cW},L[i]?=some c->(Sep w L F↔Sep w (c::L.set i QD) F)
 |[],i,F,h=>by simp at h
 |d::L,0,F,h=>by
  simp at h;subst h;show(∃a f,_)↔∃a f,d.P w a/\(∃k e,QD.P w k/\Sep w L e/\k.IB e/\_)/\_;constructor
  .rintro⟨a,f,l,s,j,n⟩;exact⟨a,f,l,⟨F0,f,λ_ _ h=>h,s,λ_ _ h _=>h,λb o=>by simp[F0]⟩,j,n⟩
  .rintro⟨a,f,l,⟨k,e,q,p,_,m⟩,j,n⟩;exact⟨a,e,l,p,λb o h g=>j b o h ((m b o).2 (.inr g)),λb o=>by
    rw[n,m];constructor
    .rintro(h|h|h)
     .exact .inl h
     .exact(q _ _ h).elim
     grind
    grind⟩
 |d::L,i + 1,F,h=>by
  have u:L[i]?=some c:=aj
  show(∃a f,d.P w a/\Sep w L f/\_)↔Sep w (c::d::L.set i QD) F;have step:∀G,Sep w L G↔Sep w (c::L.set i QD) G:=λG=>Sep.take u;constructor
  .rintro⟨a,f,l,s,j,n⟩;obtain⟨k,e,q,p,r,m⟩:=(step f).1 s;exact⟨k,λb o=>a b o\/e b o,q,⟨a,e,l,p,λb o h g=>j b o h ((m b o).2 (.inr g)),λ_ _=>Iff.rfl⟩,
    λb o g h=>h.elim (λh=>j b o h ((m b o).2 (.inl g))) (λh=>r b o g h),λb o=>aj⟩
  .rintro⟨k,H,q,⟨a,e,l,p,j,t⟩,r,n⟩;exact⟨a,λb o=>k b o\/e b o,l,(step _).2 ⟨k,e,q,p,λb o g h=>r b o g ((t b o).2 (.inr h)),λ_ _=>Iff.rfl⟩,
    λb o h g=>g.elim (λg=>r b o g ((t b o).2 (.inl h))) (λg=>j b o h g),λb o=>aj⟩
structure Ctx where
 w0:World
 W:cW
 S0:cW
structure Fact where
 P:cW->World->Prop
 agree:∀{S w w'},P S w->(∀b o,S b o->w'.cell? ⟨b,o,none⟩=w.cell? ⟨b,o,none⟩)->P S w'
 mono:∀{S S' w},P S w->(∀b o,S b o->S' b o)->P S' w
abbrev bs:=List Fact
def fRd{O:Type}[aN O](cs:ar)(d:O):Fact:=⟨λS w=>aN.rd S w cs d,λh a=>aN.rd_agree h a,λh a=>aN.rd_mono h a⟩
def All(w:World):cW:=λb _=>b<w.heap.size
structure St (c:Ctx) (w:World) (L:bj) (R:bs):Prop where
 keep:eT c.W c.w0 w
 sep:∃F S,Sep w L F/\F.IB S/\(∀b o,F b o->c.W b o\/c.w0.heap.size<=b)/\(∀b o,S b o->c.S0 b o\/c.W b o\/c.w0.heap.size<=b) /\
  (∀b o,S b o->b<w.heap.size)/\∀f∈R,f.P S w
 apart:c.W.IB c.S0
section
variable {c:Ctx} {w w':World} {L:bj} {R:bs}
theorem St.fact(h:St c w L R){f:Fact}(i:Nat)(a:R[i]?=some f):f.P (All w) w:=by obtain⟨F,S,_,_,_,_,d,b⟩:=h.sep;exact f.mono (b f (IA a)) d
theorem St.rd[aN O]{cs:ar}{d:O}(h:St c w L R)(i:Nat)(a:R[i]?=some (fRd cs d)):aN.rd (All w) w cs d:=h.fact i a
theorem St.chunk(h:St c w L R)(i:Nat)(b:L[i]?=some ch):∃F,ch.P w F:=by obtain⟨F,S,a,_⟩:=h.sep;obtain⟨f,e,d,_⟩:=(Sep.take b).1 a;grind
theorem St.a8J[aN O]{cs:ar}{d:O}(h:St c w L R)(i:Nat)(e:L[i]?=some (fF cs d)):aN.rd (All w) w cs d:=by obtain⟨F,a⟩:=h.chunk i e;have a:aN.own w cs d F:=a;exact aN.rd_mono (aN.own_rd a) λb o f=>aN.own_lt a f
theorem St.step(h:St c w (A++B) R)(z:∀F,Sep w A F->∃l G,eT G w w'/\(∀b o,G b o->F b o)/\Sep w' A' l/\∀b o,l b o->F b o\/w.heap.size<=b) :
  St c w' (A'++B) R:=by
 obtain⟨F,S,k,e,y,m,d,C⟩:=h.sep;obtain⟨E,x,D,u,s,q⟩:=Sep.append.1 k;obtain⟨l,G,hk,t,p,i⟩:=z E D;have n:∀b o,b<c.w0.heap.size->G b o->c.W b o:=λb o H g=>aj
 refine⟨h.keep.trans hk n,⟨λb o=>l b o\/x b o,S,Sep.append.2 ⟨l,x,p,Sep.keep hk u λb o a g=>s b o (t b o g) a,?_,λ_ _=>Iff.rfl⟩,?_,?_,m,λb o j=>LN (d b o j) hk.size,?_⟩,h.apart⟩
 .intro b o a r;obtain h|h:=i b o a
  .exact s b o h r
  .have:=Sep.lt u r;omega
 .rintro b o (a|a) j
  .obtain h|h:=i b o a
   .exact e b o ((q b o).2 (.inl h)) j
   grind
  .exact e b o ((q b o).2 (.inr a)) j
 .rintro b o (a|a)
  .obtain v|v:=i b o a
   .grind
   .exact .inr (oB h.keep.size v)
  grind
 .intro f a;exact f.agree (C f a) λb o j=>hk.cell b o (d b o j) λg=>e b o ((q b o).2 (.inl (t b o g))) j
theorem St.rot(h:St c w (A++B) R):St c w (B++A) R:=by obtain⟨F,S,a,rest⟩:=h.sep;exact⟨h.keep,⟨F,S,a.swap,rest⟩,h.apart⟩
theorem St.take(h:St c w L R)(i:Nat)(b:L[i]?=some ch):St c w (ch::L.set i QD) R:=by obtain⟨F,S,a,rest⟩:=h.sep;exact⟨h.keep,⟨F,S,(Sep.take b).1 a,rest⟩,h.apart⟩
theorem Sep.put{w:World}:∀{L:bj} {i:Nat} {F:cW},i<L.length->Sep w (ch::L.set i QD) F->Sep w (L.set i ch) F
 |L,i,F,a,h=>(Sep.take (c:=ch) (L:=L.set i ch) (i:=i) (by simp[a])).2 (by simp_all)
theorem St.put(h:St c w (ch::L.set i QD) R)(b:i<L.length):St c w (L.set i ch) R:=by obtain⟨F,S,a,rest⟩:=h.sep;exact⟨h.keep,⟨F,S,Sep.put b a,rest⟩,h.apart⟩
theorem St.aK5(h:St c w L R){ch':Chunk}(i:Nat)(l:L[i]?=some ch)(j:∀F,ch.P w F->∃a G,eT G w w'/\(∀b o,G b o->F b o)/\ch'.P w' a/\∀b o,a b o->F b o\/w.heap.size<=b) :
  St c w' (L.set i ch') R:=by
 have p:St c w ([ch]++L.set i QD) R:=h.take i l;have u:St c w' ([ch']++L.set i QD) R:=p.step λF n=>by obtain⟨q,v,f,s,r,e⟩:=n;obtain⟨a,G,hk,m,k,d⟩:=j q f;refine⟨a,G,hk,λb o g=>(e b o).2 (.inl (m b o g)),⟨a,F0,k,λ_ _ h=>h,λ_ _ _ h=>h,λb o=>by simp[F0]⟩,λb o t=>?_⟩;grind
 grind[St.put]
theorem St.more(h:St c w L R)(hk:eT F0 w w')(a:∃F,ch.P w' F/\∀b o,F b o->w.heap.size<=b):St c w' (L++[ch]) R:=by obtain⟨F,a,e⟩:=a;have f:St c w' ([ch]++L) R:=St.step (A:=[]) aj λG _=>⟨F,F0,hk,λ_ _ h=>h.elim,⟨F,F0,a,λ_ _ h=>h,λ_ _ _ h=>h,λb o=>by simp[F0]⟩,λb o d=>.inr (e b o d)⟩;exact St.rot f
theorem St.same(h:St c w L R)(hk:eT F0 w w'):St c w' L R:=St.step (A:=[]) (A':=[]) (B:=L) h λ_ _=>⟨F0,F0,hk,λ_ _ h=>h.elim,λ_ _ h=>h,λ_ _ h=>h.elim⟩
theorem St.weaken(h:St c w L R){R':bs}(a:∀f∈R',f∈R):St c w L R':=by obtain⟨F,S,k,j,i,g,e,d⟩:=h.sep;exact⟨h.keep,⟨F,S,k,j,i,g,e,λf b=>d f (a f b)⟩,h.apart⟩
theorem St.drop(h:St c w (A++L) R):St c w L R:=St.step (A:=A) (A':=[]) h λ_ _=>⟨F0,F0,eT.refl _ _,λ_ _ h=>h.elim,λ_ _ h=>h,λ_ _ h=>h.elim⟩
theorem St.derive(h:St c w L R){f:Fact}{Gs:bs}(i:Nat)(l:R[i]?=some f)(a:∀S,f.P S w->∀g∈Gs,g.P S w):St c w L (R++Gs):=by obtain⟨F,S,k,j,e,d,b,n⟩:=h.sep;refine⟨h.keep,⟨F,S,k,j,e,d,b,λg m=>?_⟩,h.apart⟩;grind
def eF(w:World):Ctx:=⟨w,F0,All w⟩
theorem St.enter{RA:bs}(a:∀f∈RA,f.P (All w) w):St (eF w) w [] RA:=⟨eT.refl _ _,⟨F0,All w,λ_ _ h=>h,λ_ _ h=>h.elim,λ_ _ h=>h.elim,λ_ _ h=>.inl h,λ_ _ h=>h,a⟩,λ_ _ h=>h.elim⟩
theorem St.after{g:bs}(h:St c w L R)(k:St (eF w) w' A' g):St c w' (L++A') R:=by obtain⟨F,S,f,m,e,l,j,i⟩:=k.sep;have d:St c w' (A'++L) R:=St.step (w:=w) (A:=[]) aj λG _=>⟨F,F0,k.keep,λ_ _ h=>h.elim,f,λb o a=>(e b o a).elim (λh=>h.elim) .inr⟩;exact St.rot d
theorem St.call{x:bs}(h:St c w (A++L) R)(n:∀f∈x,f∈R) :
  ∃c',c'.w0=w/\St c' w A x/\∀w' A' s,St c' w' A' s->St c w' (L++A') (R++s):=by
 obtain⟨F,S,m,e,C,B,i,u⟩:=h.sep;obtain⟨t,y,E,r,q,j⟩:=Sep.append.1 m;refine⟨⟨w,t,S⟩,rfl,⟨eT.refl _ _,⟨t,S,E,λb o a=>e b o ((j b o).2 (.inl a)),λ_ _ h=>.inl h,λ_ _ h=>.inl h,i,λf a=>u f (n f a)⟩,λb o a=>e b o ((j b o).2 (.inl a))⟩,?_⟩;intro w' A' s k;obtain⟨z,S',b1,H,b3,v,J,G⟩:=k.sep;have hk:=k.keep;have p:∀b o,b<c.w0.heap.size->t b o->c.W b o:=λb o I g=>aj
 refine⟨h.keep.trans hk p,⟨λb o=>y b o\/z b o,λb o=>S b o/\True\/S' b o,Sep.append.2 ⟨y,z,Sep.keep hk r λb o a g=>q b o g a,b1,?_,λ_ _=>Iff.rfl⟩,?_,?_,?_,?_,?_⟩,h.apart⟩
 .intro b o a D;obtain h|h:=b3 b o D
  .exact q b o h a
  .have h:w.heap.size<=b:=h;have:=Sep.lt r a;omega
 .rintro b o (a|a) (⟨d,_⟩|d)
  .exact e b o ((j b o).2 (.inr a)) d
  .obtain h|h|h:=v b o d
   .exact e b o ((j b o).2 (.inr a)) h
   .exact q b o h a
   .have h:w.heap.size<=b:=h;have:=Sep.lt r a;omega
  .obtain h|h:=b3 b o a
   .exact e b o ((j b o).2 (.inl h)) d
   grind
  .exact H b o a d
 .rintro b o (a|a)
  .grind
  .obtain l|l:=b3 b o a
   .grind
   .exact .inr (oB h.keep.size l)
 .rintro b o (⟨d,_⟩|d)
  .grind
  .obtain l|l|l:=v b o d
   .grind
   .grind
   .exact .inr (.inr (oB h.keep.size l))
 .rintro b o (⟨d,_⟩|d)
  .exact LN (i b o d) hk.size
  grind
 .intro f a;obtain a|a:=dR.1 a
  .exact f.mono (f.agree (u f a) λb o d=>hk.cell b o (i b o d) λg=>e b o ((j b o).2 (.inl g)) d) λb o d=>.inl ⟨d,trivial⟩
  .exact f.mono (G f a) λb o d=>.inr d
end
abbrev Env:=List (Nat×Value)
variable{e:Env}
def lk:Env->Nat->Option Value
 |[],_=>none
 |(k,v)::e,n=>match Nat.beq n k with
  |true=>some v
  |false=>lk e n
structure O2 (n:Nat) (e:Env) (a:Act):Prop where
 d:a.defers=[]
 size:a.tmps.size=n
 get:∀k v,lk e k=some v->a.tmps[k]?=some v
def ev(e:Env):Operand->Option Value
 |.tmp t=>lk e t
 |.const v=>some v
 |.global g=>some (.pointer (some ⟨g,0,none⟩))
 |.func f=>some (.func (.func f) #[] #[])
theorem O2.eval{a:Act}{v:Value}(h:O2 n e a)(b:ev e x=some v):a.eval x=v:=by
 cases x with
 |tmp t=>
  have:=h.get t v b;show a.tmps.getD t undef=v;simp_all
 |const u=>grind[ev,Act.eval]
 |global g=>grind[ev,Act.eval]
 |func f=>grind[ev,Act.eval]
theorem O2.put{a:Act}(h:O2 n e a)(c:d<n)(v:Value):O2 n ((d,v)::e) (a.put (some d) v):=by
 refine⟨h.d,by simp[Act.put,h.size],λk u hk=>?_⟩;simp only[lk] at hk;show(a.tmps.setIfInBounds d v)[k]?=some u;by_cases b:k=d
 .subst b;have:Nat.beq k k=true:=ae
  rw[this] at hk;simp at hk;rw[Array.getElem?_setIfInBounds_self_of_lt (by rw[h.size];exact c),hk]
 .have:Nat.beq k d=false:=by grind[qN]
  rw[this] at hk;rw[Array.getElem?_setIfInBounds_ne (Ne.symm b)];exact h.get k u hk
def Has(e:Env):Env->Prop
 |[]=>True
 |(k,v)::r=>lk e k=some v/\Has e r
def Has.get{e:Env}:∀{e':Env} {k:Nat} {v:Value},Has e e'->lk e' k=some v->lk e k=some v
 |[],_,_,_,h=>by simp[lk] at h
 |(k',c)::r,k,v,⟨d,b⟩,h=>by
  simp only[lk] at h;cases a:Nat.beq k k' with
  |true=>simp_all
  |false=>rw[a] at h;exact Has.get b h
def O2.part{e':Env}{a:Act}(h:O2 n e a)(hh:Has e e'):O2 n e' a:=⟨h.d,h.size,λk v hk=>h.get k v (hh.get hk)⟩
def a2F:Nat->ar->Env
 |_,[]=>[]
 |k,v::r=>(k,v)::a2F (k+1) r
def bD1(l:ar):∀(b k:Nat) (v:Value),lk (a2F b l) k=some v->b<=k/\l[k-b]?=some v:=by
 induction l with
 |nil=>grind[a2F,lk]
 |cons x r a=>
  intro b k v h;simp only[a2F,lk] at h;cases c:Nat.beq k b with
  |true=>
   simp_all
  |false=>
   grind
def bSJ(l:ar)(n:Nat)(hn:l.length<=n):O2 n (a2F 0 l) {tmps:=l.toArray++Array.replicate (n-l.toArray.size) undef,defers:=[]}:=by refine⟨rfl,ah,λk v hk=>?_⟩;obtain⟨_,a⟩:=bD1 l 0 k v hk;grind
def mkQ(N:Act->World->Prop)(X:Nat->Act->World->Prop)(T:Act->World->Prop):Exit->Act->World->Prop
 |.normal,a,w=>N a w
 |.exit i,a,w=>X i a w
 |.ret,a,w=>T a w
 |_,_,_=>False
def CW(P:Program)(c:Code)(N:Act->World->Prop)(X:Nat->Act->World->Prop)(T:Act->World->Prop)(a:Act)(w:World):Prop:=c.wp P (mkQ N X T) a w
def aX4(id:Nat)(N:Act->World->Prop)(X:Nat->Act->World->Prop):Nat->Act->World->Prop:=λi a w=>if i=id then N a w else X i a w
section
variable {P:Program} {c x y:Code} {N:Act->World->Prop} {X:Nat->Act->World->Prop} {T:Act->World->Prop} {a:Act} {w:World}
theorem CW.mono{f:Act->World->Prop}{b:Nat->Act->World->Prop}{d:Act->World->Prop}(h:CW P c N X T a w)(j:∀a w,N a w->f a w)(g:∀i a w,X i a w->b i a w)(hT:∀a w,T a w->d a w):CW P c f b d a w:=
 wp_mono h λe a w q=>by cases e<;>first|exact j _ _ q|exact g _ _ _ q|exact hT _ _ q|exact q
theorem bO7(h:CW P x (λa w=>CW P y N X T a w) X T a w):CW P (.seq x y) N X T a w:=wp_seq (wp_mono h λe a w q=>by cases e<;>exact q)
theorem bKA(h:N a w):CW P .skip N X T a w:=wp_skip h
theorem bKB(h:X id a w):CW P (.exit id) N X T a w:=wp_exit h
theorem bO8(h:T a w):CW P .ret N X T a w:=wp_ret h
theorem a2G(h:CW P c N (aX4 id N X) T a w):CW P (.block id c) N X T a w:=wp_block (wp_mono h λe a w q=>by cases e<;>exact q)
theorem aP0{o:Operand}{t:Bool}(f:O2 n e a)(ho:ev e o=some (.bool t))(b:t=true->CW P x N X T a w)(d:t=false->CW P y N X T a w):CW P (.cond o x y) N X T a w:=wp_cond_split (f.eval ho) b d
theorem bO9{o:Operand}{t:Bool}(b:O2 n e a)(ho:ev e o=some (.bool t))(d:t=true)(h:CW P x N X T a w):CW P (.cond o x y) N X T a w:=aP0 b ho (λ_=>h) (λf=>aj)
theorem bSK{o:Operand}{t:Bool}(b:O2 n e a)(ho:ev e o=some (.bool t))(d:t=false)(h:CW P y N X T a w):CW P (.cond o x y) N X T a w:=aP0 b ho (λf=>aj) (λ_=>h)
theorem bBC{ops:br}(h:wpList P ops (mkQ N X T) ops.toList a w):CW P (.region id ops false) N X T a w:=wp_region_list h
end
inductive Step (σ ρ:Type) where
 |next (s:σ)
 |stop (r:ρ)
inductive Out (β ρ:Type) where
 |brk (s:β)
 |ret (r:ρ)
def iter{σ ρ:Type}(body:σ->Option (Step σ ρ)):Nat->σ->Option ρ
 |0,_=>none
 |n + 1,s=>match body s with
  |none=>none
  |some (.next a)=>iter body n a
  |some (.stop r)=>some r
theorem a2H{σ ρ:Type}{body:σ->Option (Step σ ρ)}:∀{n m:Nat} {s:σ} {r a:ρ},iter body n s=some r->iter body m s=some a->r=a
 |0,_,_,_,_,h,_=>by grind[iter]
 |_+1,0,_,_,_,_,h=>by grind[iter]
 |n + 1,m + 1,s,r,a,h,b=>by
  simp only[iter] at h b;cases c:body s with
  |none=>grind
  |some o=>cases o with
   |next d=>rw[c] at h b;exact a2H h b
   |stop q=>grind
open Classical in
def loop{σ ρ:Type}(body:σ->Option (Step σ ρ))(s:σ):Option ρ:=if h:∃r,∃n,iter body n s=some r then some (Classical.choose h) else none
theorem XG{body:σ->Option (Step σ ρ)}{s:σ}{r:ρ}:loop body s=some r↔∃n,iter body n s=some r:=by
 unfold loop;by_cases h:∃r,∃n,iter body n s=some r
 .rw[dif_pos h];grind[a2H]
 grind
theorem aY{body:σ->Option (Step σ ρ)}{s:σ}{r:ρ}(h:body s=some (.stop r)):loop body s=some r:=XG.2 ⟨1,by simp[iter,h]⟩
theorem bJ{body:σ->Option (Step σ ρ)}{s s':σ}(h:body s=some (.next s')):loop body s=loop body s':=by
 cases b:loop body s' with
 |some r=>
  obtain⟨n,a⟩:=XG.1 b;exact XG.2 ⟨n+1,by grind[iter]⟩
 |none=>
  cases c:loop body s with
  |none=>rfl
  |some r=>
   obtain⟨n,a⟩:=XG.1 c;cases n with
   |zero=>grind[iter]
   |succ n=>grind[iter,XG]
def bKC{c:Code}{N:Act->World->Prop}{X:Nat->Act->World->Prop}{T:Act->World->Prop}{body:σ->Option (Step σ ρ)}{r:ρ}(d:σ->Act->World->Prop)
  (b:∀s a w o,d s a w->body s=some o->(∀q,o=.stop q->q=r)->CW P c (λi w'=>∃s',o=.next s'/\d s' i w') X T a w)
  {s:σ} (hl:loop body s=some r) {a:Act}  (h:d s a w):CW P (.loop c) N X T a w:=by
 obtain⟨n,f⟩:=XG.1 hl;refine wp_loop_rounds n ?_;clear hl;induction n generalizing s a w with
 |zero=>grind[iter]
 |succ n j=>
  simp only[iter] at f;rw[rounds_succ];cases g:body s with
  |none=>grind
  |some o=>
   have k:∀q,o=.stop q->q=r:=λq e=>aj
   refine wp_mono (b s a w o h g k) λe i w' q=>?_;cases e with
   |normal=>obtain⟨s',e,l⟩:=q;subst e;rw[g] at f;exact j l f
   |_=>exact q
abbrev aZ(n:Int):Int:=IntKind.i64.wrap n
def fH(P:Program)(o:Oper)(e:Env)(w:World)(v:Value)(w':World):Prop:=∀n a,O2 n e a->(execOp a.eval o).run P w=.ok (.value v) w'
def bSL(P:Program)(o:Oper)(e:Env)(w:World)(w':World):Prop:=∀n a,O2 n e a->(execOp a.eval o).run P w=.ok .skip w'
def bPA(P:Program)(o:Oper)(e:Env)(w:World)(f:FuncId)(args:bw):Prop:=∀n a,O2 n e a->(execOp a.eval o).run P w=.ok (.enter f args) w
def Ops(P:Program)(ops:br)(Q:Exit->Act->World->Prop)(rest:cn)(n:Nat)(e:Env)(w:World):Prop:=∀a,O2 n e a->wpList P ops Q rest a w
section
variable {P:Program} {a':Act} {ops:br} {Q:Exit->Act->World->Prop} {o:Oper} {rest:cn} {n d:Nat} {e:Env} {w w':World}
def Want(ops:br)(o:Oper)(e:Env)(b:Bool):Prop:=∀n a,O2 n e a->Region.wanted o (yielded ops a.tmps)=b
theorem a2I(a:o.guard=none):Want ops o e true:=λ_ _ _=>by grind[Region.wanted]
theorem a8K{t c b:Bool}{s:Tmp}(i:o.guard=some (j,t))(h:(ops[j]?).bind (·.dst)=some s)(f:lk e s=some (.bool c))(k:Bool.xor c t=!b):Want ops o e b:=λ_ a g=>by
 have:yielded ops a.tmps j=some c:=by have l:=g.get s _ f;grind[yielded]
 grind[Region.wanted]
theorem bOD{v:Value}(f:fH P o e w v w')(c:Want ops o e true)(g:o.dst=some d)(hn:Nat.blt d n=true)(k:Ops P ops Q rest n ((d,v)::e) w'):Ops P ops Q (o::rest) n e w:=λa b=>by refine wpList_step λK h=>?_;rw[c n a b,aM rfl];unfold Oper.wp;rw[f n a b,Oper.upon_value,g];exact h _ _ (k _ (b.put (by simp_all) v))
theorem bKD(c:Want ops o e false)(f:o.dst=some d)(hn:Nat.blt d n=true)(k:Ops P ops Q rest n ((d,undef)::e) w):Ops P ops Q (o::rest) n e w:=λa b=>by refine wpList_step λK g=>?_;rw[c n a b,aO ae,f];exact g _ _ (k _ (b.put (by simp_all) undef))
def Ret(K:Value->World->Prop):Ending->World->Prop:=λen w'=>∃v,en=.returned v/\K v w'
variable {x y z:Operand} {v u:Value} {k:IntKind} {i j:Int} {t z':TypeId}
theorem bKE(ho:o.op=.move x)(b:ev e x=some v):fH P o e w v w:=λ_ a c=>by simp[execOp,ho,c.eval b]
theorem bBD(ho:o.op=.assign x)(b:ev e x=some v):fH P o e w v w:=λ_ a c=>by simp[execOp,ho,c.eval b]
theorem bPB(ho:o.op=.nilCheck x){p:Addr}(b:ev e x=some (.pointer (some p))):fH P o e w (.pointer (some p)) w:=λ_ a c=>by simp[execOp,ho,c.eval b]
theorem bBE{c:Bool}(ho:o.op=.pick x y z)(g:ev e x=some (.bool c))(hc:c=true)(f:ev e y=some v):fH P o e w v w:=λ_ a b=>by simp[execOp,ho,b.eval g,b.eval f,hc,asBool]
theorem bBF{c:Bool}(ho:o.op=.pick x y z)(f:ev e x=some (.bool c))(hc:c=false)(hz:ev e z=some v):fH P o e w v w:=λ_ a b=>by simp[execOp,ho,b.eval f,b.eval hz,hc,asBool]
theorem bD2{b:Bool}(ho:o.op=.unOp .not t x)(c:ev e x=some (.bool b)):fH P o e w (.bool (!b)) w:=λ_ a f=>by simp[execOp,ho,f.eval c,Op.unary]
theorem bPC(ho:o.op=.unOp .neg t x)(b:ev e x=some (.int k i)):fH P o e w (.int k (k.wrap (0-i))) w:=λ_ a c=>by simp[execOp,ho,c.eval b,Op.unary,Op.intArith]
theorem bPD(ho:o.op=.binOp .add t x y z')(f:ev e x=some (.int k i))(c:ev e y=some (.int k j)):fH P o e w (.int k (k.wrap (i+j))) w:=λ_ a b=>by simp[execOp,ho,b.eval f,b.eval c,eqGuard,binOp,Op.intArith]
theorem bPE(ho:o.op=.binOp .sub t x y z')(f:ev e x=some (.int k i))(c:ev e y=some (.int k j)):fH P o e w (.int k (k.wrap (i-j))) w:=λ_ a b=>by simp[execOp,ho,b.eval f,b.eval c,eqGuard,binOp,Op.intArith]
theorem bPF(ho:o.op=.binOp .mul t x y z')(f:ev e x=some (.int k i))(c:ev e y=some (.int k j)):fH P o e w (.int k (k.wrap (i*j))) w:=λ_ a b=>by simp[execOp,ho,b.eval f,b.eval c,eqGuard,binOp,Op.intArith]
theorem a5W(ho:o.op=.binOp .quo t x y z')(f:ev e x=some (.int k i))(c:ev e y=some (.int k j))(g:j≠0):fH P o e w (.int k (k.wrap (i.tdiv j))) w:=λ_ a b=>by simp[execOp,ho,b.eval f,b.eval c,eqGuard,binOp,Op.intDiv,g]
theorem a5X(ho:o.op=.binOp .rem t x y z')(f:ev e x=some (.int k i))(c:ev e y=some (.int k j))(g:j≠0):fH P o e w (.int k (i.tmod j)) w:=λ_ a b=>by simp[execOp,ho,b.eval f,b.eval c,eqGuard,binOp,Op.intDiv,g]
theorem bPG(ho:o.op=.binOp .lss t x y z')(f:ev e x=some (.int k i))(c:ev e y=some (.int k j)):fH P o e w (.bool (decide (i<j))) w:=λ_ a b=>by simp[execOp,ho,b.eval f,b.eval c,eqGuard,binOp,Op.intCmp]
theorem bPH(ho:o.op=.binOp .leq t x y z')(f:ev e x=some (.int k i))(c:ev e y=some (.int k j)):fH P o e w (.bool (decide (i<=j))) w:=λ_ a b=>by simp[execOp,ho,b.eval f,b.eval c,eqGuard,binOp,Op.intCmp]
theorem bPI(ho:o.op=.binOp .gtr t x y z')(f:ev e x=some (.int k i))(c:ev e y=some (.int k j)):fH P o e w (.bool (decide (j<i))) w:=λ_ a b=>by simp[execOp,ho,b.eval f,b.eval c,eqGuard,binOp,Op.intCmp]
theorem bPJ(ho:o.op=.binOp .geq t x y z')(f:ev e x=some (.int k i))(c:ev e y=some (.int k j)):fH P o e w (.bool (decide (j<=i))) w:=λ_ a b=>by simp[execOp,ho,b.eval f,b.eval c,eqGuard,binOp,Op.intCmp]
theorem bPK(ho:o.op=.binOp .eql t x y z')(f:ev e x=some (.int k i))(c:ev e y=some (.int k j)):fH P o e w (.bool (i == j)) w:=λ_ a b=>by simp[execOp,ho,b.eval f,b.eval c,eqGuard,binOp,Op.intCmp]
theorem bPL(ho:o.op=.binOp .neq t x y z')(f:ev e x=some (.int k i))(c:ev e y=some (.int k j)):fH P o e w (.bool (i != j)) w:=λ_ a b=>by simp[execOp,ho,b.eval f,b.eval c,eqGuard,binOp,Op.intCmp]
def iU(op:BinOp)(k:IntKind)(i j:Int):Int:=
 match op with
 |.and=>k.wrap ((BitVec.ofInt k.bits i &&& BitVec.ofInt k.bits j).toNat:Int)
 |.or=>k.wrap ((BitVec.ofInt k.bits i ||| BitVec.ofInt k.bits j).toNat:Int)
 |.xor=>k.wrap ((BitVec.ofInt k.bits i ^^^ BitVec.ofInt k.bits j).toNat:Int)
 |_=>k.wrap ((BitVec.ofInt k.bits i &&& ~~~ (BitVec.ofInt k.bits j)).toNat:Int)
theorem bPM(ho:o.op=.binOp .and t x y z')(f:ev e x=some (.int k i))(c:ev e y=some (.int k j)):fH P o e w (.int k (iU .and k i j)) w:=λ_ a b=>by simp[execOp,ho,b.eval f,b.eval c,eqGuard,binOp,Op.intBits,iU]
theorem bSM(ho:o.op=.binOp .or t x y z')(f:ev e x=some (.int k i))(c:ev e y=some (.int k j)):fH P o e w (.int k (iU .or k i j)) w:=λ_ a b=>by simp[execOp,ho,b.eval f,b.eval c,eqGuard,binOp,Op.intBits,iU]
theorem bPN(ho:o.op=.binOp .xor t x y z')(f:ev e x=some (.int k i))(c:ev e y=some (.int k j)):fH P o e w (.int k (iU .xor k i j)) w:=λ_ a b=>by simp[execOp,ho,b.eval f,b.eval c,eqGuard,binOp,Op.intBits,iU]
theorem bBG(ho:o.op=.binOp .andNot t x y z')(f:ev e x=some (.int k i))(c:ev e y=some (.int k j)):fH P o e w (.int k (iU .andNot k i j)) w:=λ_ a b=>by simp[execOp,ho,b.eval f,b.eval c,eqGuard,binOp,Op.intBits,iU]
def aRC(k:IntKind)(i j:Int):Int:=k.wrap (i*2 ^ min j.toNat k.bits)
def qO(k:IntKind)(i j:Int):Int:=i.fdiv (2 ^ min j.toNat k.bits)
theorem bD3{c:IntKind}(ho:o.op=.binOp .shl t x y z')(g:ev e x=some (.int k i))(f:ev e y=some (.int c j))(h:¬j<0):fH P o e w (.int k (aRC k i j)) w:=λ_ a b=>by simp[execOp,ho,b.eval g,b.eval f,eqGuard,binOp,Op.shift,h,aRC]
theorem bPO{c:IntKind}(ho:o.op=.binOp .shr t x y z')(g:ev e x=some (.int k i))(f:ev e y=some (.int c j))(h:¬j<0):fH P o e w (.int k (qO k i j)) w:=λ_ a b=>by simp[execOp,ho,b.eval g,b.eval f,eqGuard,binOp,Op.shift,h,qO]
theorem bKF{p q:Bool}(g:P.underlying t=some .bool)(ho:o.op=.binOp .eql t x y z')(f:ev e x=some (.bool p))(c:ev e y=some (.bool q)):fH P o e w (.bool (p == q)) w:=λ_ a b=>by have h:binOp .eql t (.bool p) (.bool q)=(do pure (.bool (<-Op.equal t (.bool p) (.bool q)))):=rfl;simp[execOp,ho,b.eval f,b.eval c,eqGuard,h,Op.equal,Op.maxDepth,run_equalIn_bool' _ _ _ _ _ g]
theorem bKG{p q:Bool}(g:P.underlying t=some .bool)(ho:o.op=.binOp .neq t x y z')(f:ev e x=some (.bool p))(c:ev e y=some (.bool q)):fH P o e w (.bool (!(p == q))) w:=λ_ a b=>by have h:binOp .neq t (.bool p) (.bool q)=(do pure (.bool (!(<-Op.equal t (.bool p) (.bool q))))):=rfl;simp[execOp,ho,b.eval f,b.eval c,eqGuard,h,Op.equal,Op.maxDepth,run_equalIn_bool' _ _ _ _ _ g]
abbrev sv(l:bh):Value:=.string ⟨l.toArray⟩
theorem bKH{p:bh}(ho:o.op=.binOp .eql t x y z')(f:ev e x=some (sv p))(c:ev e y=some (sv q)):fH P o e w (.bool (p == q)) w:=λ_ a b=>by simp[execOp,ho,b.eval f,b.eval c,eqGuard,binOp,Op.stringOp]
theorem bKI{p:bh}(ho:o.op=.binOp .neq t x y z')(f:ev e x=some (sv p))(c:ev e y=some (sv q)):fH P o e w (.bool (!(p == q))) w:=λ_ a b=>by simp[execOp,ho,b.eval f,b.eval c,eqGuard,binOp,Op.stringOp]
theorem bPP{p:bh}(ho:o.op=.binOp .add t x y z')(f:ev e x=some (sv p))(c:ev e y=some (sv q))(m:p.length+q.length<=9223372036854775807):fH P o e w (sv (p++q)) w:=λ_ a b=>by
 have l:(⟨p.toArray⟩:ByteArray)++⟨q.toArray⟩=⟨(p++q).toArray⟩:=by apply ByteArray.ext;simp
 have h:(⟨p.toArray⟩:ByteArray).size=p.length:=by simp[ByteArray.size]
 have g:(⟨q.toArray⟩:ByteArray).size=q.length:=by simp[ByteArray.size]
 simp[execOp,ho,b.eval f,b.eval c,eqGuard,binOp,Op.stringOp,h,g,l];omega
theorem aZR{k':IntKind}{s t:TypeId}(f:P.underlying s=some ds)(c:P.underlying t=some (.int k'))(ho:o.op=.convert s t x)(b:ev e x=some (.int k i)):fH P o e w (.int k' (k'.wrap i)) w:=λ_ a g=>by simp[execOp,ho,g.eval b,convert,run_underlying f,run_underlying c,Conv.intToInt]
theorem a5Y{vs:bw}{ix:Nat}(ho:o.op=.extract x ix)(b:ev e x=some (.tuple vs))(c:vs[ix]?=some v):fH P o e w v w:=λ_ a f=>by simp[execOp,ho,f.eval b,Instr.extract,c]
theorem bPQ{h:Option Addr}{c:Nat}{el:TypeId}(f:P.underlying t=some (.slice el))(ho:o.op=.call {callee:=.builtin .len,args:=#[x],argTypes:=#[t]})(b:ev e x=some (.slice h m c)):fH P o e w (.int .i64 (m:Int)) w:=λ_ a g=>by simp[execOp,ho,resolve,invoke,builtin,Builtin.len_,g.eval b,run_underlying f,goInt]
theorem bKJ(c:P.underlying t=some .string)(ho:o.op=.call {callee:=.builtin .len,args:=#[x],argTypes:=#[t]})(b:ev e x=some (sv l)):fH P o e w (.int .i64 (l.length:Int)) w:=λ_ a f=>by
 have g:(⟨l.toArray⟩:ByteArray).size=l.length:=by simp[ByteArray.size]
 simp[execOp,ho,resolve,invoke,builtin,Builtin.len_,f.eval b,run_underlying c,goInt,g]
theorem bKK{b:Fn}{fs cs:Array Operand}{vf vc:ar}(ho:o.op=.makeFunc b fs cs)(f:fs.toList.map (ev e)=vf.map some)(hc:cs.toList.map (ev e)=vc.map some):fH P o e w (.func b vf.toArray vc.toArray) w:=λ_ a g=>by
 have key:∀(xs:Array Operand) (vs:ar),xs.toList.map (ev e)=vs.map some->xs.map a.eval=vs.toArray:=by
  intro xs vs h;apply Array.toList_inj.1;simp
  revert vs
  generalize xs.toList=l;induction l with
  |nil=>simp
  |cons y r c=>
   intro vs h;cases vs with
   |nil=>simp at h
   |cons v vs=>simp at h ⊢;exact⟨g.eval h.1,c vs h.2⟩
 simp[execOp,ho,key _ _ f,key _ _ hc,Instr.makeFunc]
variable {c:Ctx} {L:bj} {R:bs}
abbrev bKL(b:Nat)(cs:ar):Chunk:=cAt b 0 cs
theorem St.cell(h:St c w L R){b:Nat}{cs:ar}(i:Nat){j:Nat}(f:L[i]?=some (bKL b cs))(a:cs[j]?=some v):w.cell? ⟨b,j,none⟩=some v:=by obtain⟨F,g,_⟩:=h.chunk i f;have:=g j v a;grind
theorem St.cells(h:St c w L R){b:Nat}{cs cs':ar}(i j:Nat)(g:L[i]?=some (bKL b cs))(l:(cs.drop j).take cs'.length=cs'):bG w b j cs':=by intro m u f;have a:=(DZ.1 f).1;refine h.cell i g ?_;grind
theorem tE{b j:Nat}{cs:ar}(h:bG w b j cs)(P:Program):(loadCells ⟨b,j,none⟩ cs.length).run P w=.ok cs.toArray w:=by
 refine run_loadCells_list w ⟨b,j,none⟩ cs λm u a=>?_;have:(⟨b,j,none⟩:Addr).add m=⟨b,j+m,none⟩:=by grind[Addr.add]
 rw[this];exact h m u a
theorem bD4{p:Addr}(ho:o.op=.load t x)(b:ev e x=some (.pointer (some p)))(f:∀w,(isAgg t).run P w=.ok false w)(hc:w.cell? p=some v):fH P o e w v w:=λ_ a g=>by simp[execOp,ho,Instr.loadAt,Instr.sureAddr,g.eval b,loadVar,f,load,Sem.run,hc]
theorem bD5{b j:Nat}{cs:ar}(ho:o.op=.load t x)(f:ev e x=some (.pointer (some ⟨b,j,none⟩)))(h:∀w,(isAgg t).run P w=.ok true w)(hz:∀w,(sizeOf t).run P w=.ok m w)(g:cs.length=m)(hc:bG w b j cs):fH P o e w (.agg cs.toArray) w:=λ_ a l=>by subst g;simp[execOp,ho,Instr.loadAt,Instr.sureAddr,l.eval f,loadVar,h,hz,tE hc P]
theorem St.alloc(h:St c w L R)(cs:ar)(t:TypeId):St c (w.alloc (.cells cs.toArray t)) (L++[bKL w.heap.size cs]) R:=by
 refine h.more (eT.alloc _ _ _) ⟨fB w.heap.size 0 cs.length,⟨λj u g=>?_,λa ho=>?_,λ_ _=>?_⟩,λb a f=>?_⟩
 .simp_all
 .simp
 .simp
 .exact aAT f.1.symm
theorem bD6{f:Field}{ix b j j':Nat}(h:P.underlying t=some (.struct fs))(ho:o.op=.fieldAddr t x ix)(l:fs[ix]?=some f)(hz:∀w,(sizeOf f.type).run P w=.ok (m+1) w)(g:ev e x=some (.pointer (some ⟨b,j,none⟩)))(r:j+f.offset=j'):fH P o e w (.pointer (some ⟨b,j',none⟩)) w:=λ_ a p=>by
 have q:(⟨b,j,none⟩:Addr).add f.offset=⟨b,j',none⟩:=by grind[Addr.add]
 simp[execOp,ho,Instr.fieldAt,p.eval g,run_underlying h,l,Instr.sureAddr,fieldPlace,hz,q]
def elB:Value->Nat
 |.slice (some a) _ _=>a.block
 |_=>0
def elO(n k:Nat):Value->Nat
 |.slice (some a) _ _=>a.off+k*n
 |_=>0
theorem mD[aN O]{S:cW}{l:List O}(h:aN.rd S w [s] l):∃a m,s=.slice a l.length m:=by obtain⟨a,m,b,_⟩:=(show sN S w [s] l from h);grind
def idx{O:Type}(l:List O)(i:Int):Option O:=if 0<=i then l[i.toNat]? else none
theorem D2{l:List O}{i:Int}{x:O}(h:idx l i=some x):0<=i/\i<l.length/\l[i.toNat]?=some x:=by grind[idx]
theorem bPR[aN O]{S:cW}{l:List O}{el:Nat}{q:O}(h:aN.rd S w [s] l)(A:aN.n O=m)(E:idx l i=some q)(D:P.underlying t=some (.slice el))(hz:∀w,(sizeOf el).run P w=.ok m w)(ho:o.op=.indexAddr t x y)(C:ev e x=some s)(B:ev e y=some (.int k i)):fH P o e w (.pointer (some ⟨elB s,elO m i.toNat s,none⟩)) w:=by
 obtain⟨H,G,I⟩:=D2 E;obtain⟨J,c,rfl⟩:=mD h;obtain⟨r,c',p,_,_,g⟩:=(show sN S w [_] l from h);simp at p;obtain⟨rfl,rfl⟩:=p;obtain g|⟨b,off,rfl,_⟩:=g
 .grind
 .intro _ a f;have F:(⟨b,off,none⟩:Addr).add (i.toNat*m)=⟨b,off+i.toNat*m,none⟩:=by grind[Addr.add]
  simp[execOp,ho,Instr.indexAt,f.eval C,f.eval B,asIntOf,run_underlying D,H,G,hz,F,elB,elO]
theorem qP{b:Nat}(P:Program):∀(vs:ar) (w:World) (j m:Nat),(∀v∈vs,v.oneCell'=true)->(∀q,m<=q->q<m+vs.length->(w.cell? ⟨b,j+q,none⟩).isSome=true/\w.frozen? ⟨b,j+q,none⟩=false) ->
  ∃w',(storeCells ⟨b,j,none⟩ vs m).run P w=.ok () w'/\eT (fB b (j+m) vs.length) w w'/\w'.heap.size=w.heap.size/\bG w' b (j+m) vs
 |[],w,j,m,_,_=>⟨w,rfl,eT.refl _ _,rfl,λq v h=>by simp at h⟩
 |v::vs,w,j,m,B,p=>by
  have f:(⟨b,j,none⟩:Addr).add m=⟨b,j+m,none⟩:=by grind[Addr.add]
  obtain⟨g,F⟩:=p m (jE _) ae;obtain⟨u,D⟩:=aM2.1 g;have a:eT (fB b (j+m) (v::vs).length) w (w.setCell ⟨b,j+m,none⟩ v):=eT.setCell _ _ _ _ ⟨rfl,jE _,ae⟩ rfl;obtain⟨w',E,hk,r,hc⟩:=qP P vs (w.setCell ⟨b,j+m,none⟩ v) j (m+1) (λv h=>B v (lZ _ h)) (λq J I=>by
   obtain⟨b1,H⟩:=p q aa ah;exact⟨a.stay _ _ b1,by simp_all⟩)
  refine⟨w',?_,a.trans hk λb' o _ hh=>?_,by simp_all,?_⟩
  .simp_all[run_store,storeCells]
  .obtain⟨c1,C,G⟩:=hh;exact⟨c1,aa,ah⟩
  .intro q A l;cases q with
   |zero=>
    simp at l;subst l;have s:b<w.heap.size:=j4 g;rw[aAS,hk.cell b (j+m) (by simp_all) (λhh=>by obtain⟨_,C,_⟩:=hh;omega)];grind[World.cell?_setCell_same]
   |succ q=>
    have:=hc q A aj;grind
def aIP(cs:ar)(j:Nat):ar->ar
 |[]=>cs
 |v::vs=>aIP (cs.set j v) (j+1) vs
theorem aM3:∀(vs cs:ar) (j:Nat),(aIP cs j vs).length=cs.length
 |[],_,_=>rfl
 |v::vs,cs,j=>by simp[aIP,aM3 vs]
theorem a2J:∀(vs cs:ar) (j q:Nat),j+vs.length<=cs.length->(aIP cs j vs)[q]?=if j<=q/\q<j+vs.length then vs[q-j]? else cs[q]?
 |[],cs,j,q,_=>by simp[aIP,aO]
 |v::vs,cs,j,q,h=>by simp only[aIP];rw[a2J vs (cs.set j v) (j+1) q aj];grind
def evs(e:Env):List Operand->Option ar
 |[]=>some []
 |x::r=>match ev e x,evs e r with
  |some v,some vs=>some (v::vs)
  |_,_=>none
theorem Y0{e:Env}{a:Act}{n:Nat}(b:O2 n e a):∀{xs:List Operand} {vs:ar},evs e xs=some vs->xs.map a.eval=vs
 |[],vs,h=>by grind[evs]
 |x::r,vs,h=>by
  simp only[evs] at h;split at h
  .rename_i v f l g;simp at h;subst h;simp[b.eval l,Y0 b g]
  .cases h
theorem a2K{f:FuncId}{xs:List Operand}{h:Array TypeId}{cap:ar}(b:∀args w,(callFunc f args).run P w=.ok (.enter f args) w)(ho:o.op=.call {callee:=.value x,args:=xs.toArray,argTypes:=h})(l:ev e x=some (.func (.func f) #[] cap.toArray))(m:evs e xs=some vs):bPA P o e w f (vs++cap).toArray:=λ_ a g=>by simp[execOp,ho,resolve,g.eval l,Deferred.ofValue,invoke,b,Y0 g m]
def aK6(tmps:bw):ResultVar->Sem Value
 |.tmp t=>pure (tmps.getD t undef)
 |.cell p t=>do loadVar t (<-asAddr (tmps.getD p undef))
def Fin(P:Program)(b:Func)(K:Value->World->Prop)(a:Act)(w:World):Prop:=a.defers=[]/\∃v,(results b a.tmps).run P w=.ok v w/\K v w
theorem a5Z{b:Func}{a:List ResultVar}(f:b.results=a.toArray)(tmps:bw):results b tmps=(do let vs <-a.toArray.mapM (aK6 tmps);pure (if h:vs.size=1 then vs[0] else .tuple vs)):=by unfold results;rw[f];rfl
theorem bBH{f:FuncId}{b:Func}{cd:Code}{args:ar}{K:Value->World->Prop}(s:P.funcs[f]?=some b)(A:b.body=some cd)(r:b.ntmps=m)(hl:Nat.ble args.length m=true)
  (h:∀a,O2 m (a2F 0 args) a->CW P cd (Fin P b K) (λ_ _ _=>False) (Fin P b K) a w):Calls P f args.toArray w (Ret K):=by
 refine calls_of_wp s A ?_;subst r;refine wp_mono (h _ (bSJ args b.ntmps (XF hl))) λex a w q=>?_;cases ex with
 |ret=>obtain⟨p,v,l,g⟩:=q;exact⟨p,v,l,v,rfl,g⟩
 |normal=>obtain⟨p,v,l,g⟩:=q;exact⟨p,v,l,v,rfl,g⟩
 |_=>exact q.elim
end
def need(p:Prop)[Decidable p]{O:Type}(k:Option O):Option O:=if p then k else none
theorem mP[Decidable p]{k:Option O}{q:O}(h:need p k=some q):p/\k=some q:=by grind[need]
def bKM{ops:br}{o:Oper}{s:Nat}{t:Bool}(f:o.guard=some (j,t))(d:(ops[j]?).bind (·.dst)=some s)(b:lk e s=some undef):Want ops o e false:=λ_ a c=>by
 have:yielded ops a.tmps j=none:=by have g:=c.get s _ b;grind[yielded,undef]
 grind[Region.wanted]
def u8(z:Int):UInt8:=UInt8.ofNat (z % 256).toNat
theorem bPS(z:Int):((u8 z).toNat:Int)=IntKind.u8.wrap z:=by unfold u8;simp[IntKind.wrap,IntKind.bits,IntKind.signed];omega
section
variable {P:Program} {o:Oper} {e:Env} {w w':World} {c:Ctx} {L:bj} {R:bs} {x:Operand} {v:Value} {k:IntKind} {i:Int} {t:TypeId}
theorem bD7{s:TypeId}(d:P.underlying s=some ds)(b:P.underlying t=some (.int .u8))(ho:o.op=.convert s t x)(a:ev e x=some (.int k i)):fH P o e w (.int .u8 ((u8 i).toNat:Int)) w:=by grind[bPS,aZR]
theorem bD8{s:TypeId}{b:UInt8}(f:P.underlying s=some ds)(d:P.underlying t=some (.int .i64))(ho:o.op=.convert s t x)(a:ev e x=some (.int .u8 (b.toNat:Int))):fH P o e w (.int .i64 (b.toNat:Int)) w:=by have h:=aZR (w:=w) f d ho a;have g:=b.toNat_lt;grind[IntKind.wrap,IntKind.bits]
theorem bKN{b:Fn}{fs cs:bw}(ho:o.op=.nilCheck x)(g:∀n,b≠.method n)(d:ev e x=some (.func b fs cs)):fH P o e w (.func b fs cs) w:=λ_ a f=>by cases b<;>simp_all[execOp,f.eval d]
theorem bG.sub{b:Nat}{cs cs':ar}(h:bG w b j cs)(k:Nat)(g:(cs.drop k).take cs'.length=cs')(f:j+k=m):bG w b m cs':=by subst f;intro q u a;have d:=(DZ.1 a).1;rw[<-g] at a;rw[aIJ,aM aa,aMY] at a;have:=h (k+q) u a;grind
theorem lB[aN O]{S:cW}{cs:ar}{d:List O}(h:aN.rd S w cs d):∃v,cs=[v]:=by obtain⟨a,c,h,_⟩:=(show sN S w cs d from h);grind
theorem bPT[aN O]{S:cW}:aN.rd S w [.slice none 0 0] ([]:List O):=⟨none,0,rfl,jE _,iT _,.inl rfl⟩
theorem bOE{f:Fact}(h:f.P (All w) w)(hk:eT F0 w w'):f.P (All w') w':=f.mono (f.agree h λb o a=>hk.cell b o a λh=>h) λ_ _ a=>LN a hk.size
def pick(L:bj):av->bj
 |[]=>[]
 |i::r=>(L[i]?).getD QD::pick L r
def dV:av->Bool
 |[]=>true
 |i::r=>(r.all λj=>!Nat.beq i j) && dV r
theorem aRD{L:bj}{i:Nat}:∀{is:av},(is.all λj=>!Nat.beq i j)=true->pick (L.set i QD) is=pick L is
 |[],_=>rfl
 |j::r,h=>by
  simp only[aF3,yV,a2C] at h;have a:i≠j:=λe=>by simp_all
  simp only[pick,aRD h.2,List.getElem?_set_ne a]
theorem Sep.pick{w:World}:∀{is:av} {L:bj} {F:cW},dV is=true->Sep w L F->∃a f,Sep w (pick L is) a/\a.IB f/\∀b o,F b o↔a b o\/f b o
 |[],L,F,_,_=>⟨F0,F,λ_ _ h=>h,λ_ _ h _=>h,λb o=>by simp[F0]⟩
 |i::r,L,F,d,h=>by
  simp only[dV,yV] at d;have u:Sep w ((L[i]?).getD QD::L.set i QD) F:=by
   cases p:L[i]? with
   |some ch=>grind[Sep.take]
   |none=>
    rw[List.set_eq_of_length_le (List.getElem?_eq_none_iff.1 p)];exact⟨F0,F,λ_ _ h=>h,h,λ_ _ h _=>h,λb o=>by simp[F0]⟩
  obtain⟨a,f,s,q,j,A⟩:=u;obtain⟨n,z,m,y,l⟩:=Sep.pick d.2 q;rw[aRD d.1] at m;exact⟨λb o=>a b o\/n b o,z,⟨a,n,s,m,λb o h g=>j b o h ((l b o).2 (.inl g)),λ_ _=>Iff.rfl⟩,
   λb o h g=>h.elim (λh=>j b o h ((l b o).2 (.inr g))) (λh=>y b o h g),λb o=>aj⟩
theorem St.sel(h:St c w L R)(is:av)(f:dV is=true):St c w (pick L is) R:=by obtain⟨F,S,q,p,n,m,l,j⟩:=h.sep;obtain⟨r,u,g,s,d⟩:=Sep.pick f q;exact⟨h.keep,⟨r,S,g,λb o a=>p b o ((d b o).2 (.inl a)),λb o a=>n b o ((d b o).2 (.inl a)),m,l,j⟩,h.apart⟩
theorem bD9{b:Array (Nat×Nat)}{ps:cw}{cells:bw}(ho:o.op=.build t ps.toArray)(hz:∀w,(zeroValue t).run P w=.ok z w)(g:P.underlying t=some (.struct fs))
  (j:∀w,(fs.mapM λf=>(do pure (f.offset,<-sizeOf f.type):Sem (Nat×Nat))).run P w=.ok b w) (d:evs e (ps.map (·.2))=some vs) (hc:Instr.fill (b[·]?) z.cells ((ps.map (·.1)).zip vs)=some cells):fH P o e w (.agg cells) w:=λ_ a h=>by
 have l:ps.map (λp=>(p.1,a.eval p.2))=(ps.map (·.1)).zip vs:=by rw[<-Y0 h d];grind
 simp[execOp,ho,Instr.build,hz,run_underlying g];simp_all
end
def UA(d:Nat)(xs a:bw):(Op.eqFields d xs a []).run P w=.ok true w:=by simp[Op.eqFields]
def fY(d:Nat)(xs a:bw)(f:Field)(fs:List Field){p q:Value}{b b':Bool}(hn:(f.name == "_")=false)(e:(part f.type xs f.offset).run P w=.ok p w)(c:(part f.type a f.offset).run P w=.ok q w)(h:(Op.equalIn d f.type p q).run P w=.ok b w)(g:(Op.eqFields d xs a fs).run P w=.ok b' w) :
  (Op.eqFields d xs a (f::fs)).run P w=.ok (b && b') w:=by simp only[beq_eq_false_iff_ne,ne_eq] at hn;cases b<;>simp[Op.eqFields,hn,e,c,h,g]
def gD{cs:bw}{v:Value}(b:∀w,(isAgg t).run P w=.ok false w)(a:cs[j]?=some v):(part t cs j).run P w=.ok v w:=by simp_all[part]
def bPU{o:Oper}{y:Operand}{h:TypeId}{xs c:bw}{b:Bool}(l:P.eqGuardType P.depth t=false)(d:P.stoodInHeld t=false)(k:P.underlying t=some (.struct fs))(f:∀w,(Op.eqFields 9999 xs c (match P.underlying t with|some (.struct fs)=>fs|_=>#[]).toList).run P w=.ok b w)(ho:o.op=.binOp .eql t x y h)(j:ev e x=some (.agg xs))(i:ev e y=some (.agg c)):fH P o e w (.bool b) w:=λ_ a g=>by
 have m:P.fieldsOf t=fs:=by grind[Program.fieldsOf]
 rw[k] at f;have n:binOp .eql t (.agg xs) (.agg c)=(do pure (.bool (<-Op.equal t (.agg xs) (.agg c)))):=rfl;simp[execOp,ho,g.eval j,g.eval i,run_eqGuard_agg _ _ _ _ _ _ _ l,n,Op.equal,Op.maxDepth,run_equalIn_struct _ _ _ _ _ aj d,m,f]
def bKO{o:Oper}{y:Operand}{h:TypeId}{xs c:bw}{b:Bool}(l:P.eqGuardType P.depth t=false)(d:P.stoodInHeld t=false)(k:P.underlying t=some (.struct fs))(f:∀w,(Op.eqFields 9999 xs c (match P.underlying t with|some (.struct fs)=>fs|_=>#[]).toList).run P w=.ok b w)(ho:o.op=.binOp .neq t x y h)(j:ev e x=some (.agg xs))(i:ev e y=some (.agg c)):fH P o e w (.bool (!b)) w:=λ_ a g=>by
 have m:P.fieldsOf t=fs:=by grind[Program.fieldsOf]
 rw[k] at f;have n:binOp .neq t (.agg xs) (.agg c)=(do pure (.bool (!(<-Op.equal t (.agg xs) (.agg c))))):=rfl;simp[execOp,ho,g.eval j,g.eval i,run_eqGuard_agg _ _ _ _ _ _ _ l,n,Op.equal,Op.maxDepth,run_equalIn_struct _ _ _ _ _ aj d,m,f]
def nR{k':IntKind}{k:IntKind}{a b:Int}(h:P.underlying t=some (.int k')):(Op.equalIn (d+1) t (.int k a) (.int k b)).run P w=.ok (a == b) w:=run_equalIn_int w d t k k' a b h
def aIQ{a b:Bool}(h:P.underlying t=some .bool):(Op.equalIn (d+1) t (.bool a) (.bool b)).run P w=.ok (a == b) w:=run_equalIn_bool' w d t a b h
def bKP(P:Program)(ops:br)(Q:Exit->Act->World->Prop)(S:World->Prop)(b:Nat)(pT:Array Bool)(n:Nat)(e:Env)(w:World):Prop:=∀a,O2 n e a->wpAnyH P .any ops Q S b pT a w
abbrev bEA(c:Ctx)(L:bj)(R:bs):World->Prop:=λw=>∃a,St c w (L++a) R
section
variable {P:Program} {ops:br} {N:Act->World->Prop} {X:Nat->Act->World->Prop} {T:Act->World->Prop} {S:World->Prop} {fuel n d i:Nat} {pT:Array Bool} {e:Env} {w w':World} {o:Oper} {v:Value}
theorem bSN(i:Nat)(j:Region.noSelect ops=true)(m:ops[i]?=some o)(p:Region.free .any ops pT i=true)(l:(Region.ready .any ops pT).contains i=true)(r:S w)(g:∀w',S w'->fH P o e w' v w')(f:Want ops o e true)(q:o.dst=some d)(hn:Nat.blt d n=true)
  (k:bKP P ops (mkQ N X T) S fuel (pT.setIfInBounds i true) n ((d,v)::e) w):bKP P ops (mkQ N X T) S (fuel+1) pT n e w:=λa c=>by
 refine wpAnyH_take (v:=v) m j p l (λ_ _ _ h=>h.elim) (.inl ⟨f n a c,λw' b=>g w' b n a c⟩) r ?_;rw[q];exact k _ (c.put (by simp_all) v)
end
class Flat (O:Type) [aN O]:Prop where
 own_of:∀{S:cW} {w w':World} {cs:ar} {d:O},aN.rd S w cs d->aN.own w' cs d F0
 no:∀{w:World} {cs:ar} {d:O} {F:cW},aN.own w cs d F->∀b o,¬F b o
instance:Flat Int:=⟨λh=>⟨h,λ_ _ h=>h⟩,λh=>h.2⟩
instance:Flat Bool:=⟨λh=>⟨h,λ_ _ h=>h⟩,λh=>h.2⟩
instance:Flat UInt8:=⟨λh=>⟨h,λ_ _ h=>h⟩,λh=>h.2⟩
instance:Flat bO6:=⟨λh=>⟨h,λ_ _ h=>h⟩,λh=>h.2⟩
instance {O β:Type} [aN O] [aN β] [Flat O] [Flat β]:Flat (O×β):=⟨by
 rintro S w w' cs d ⟨c1,c2,rfl,h1,h2⟩;exact⟨c1,c2,F0,F0,rfl,Flat.own_of h1,Flat.own_of h2,λ_ _ h _=>h,λ_ _=>by simp[F0]⟩,by
 rintro w cs d F ⟨c1,c2,F1,F2,_,h1,h2,_,hF⟩ b o h;exact((hF b o).1 h).elim (Flat.no h1 b o) (Flat.no h2 b o)⟩
def bEB[aN O][Flat O]{cs:ar}{d:O}(h:aN.own w cs d F):aN.own w' cs d F0:=Flat.own_of (aN.own_rd h)
def O3(cc:ar)(n i:Nat):ar:=(cc.drop (i*n)).take n
theorem vM(a:j<n):(O3 cc n i)[j]?=cc[i*n+j]?:=by simp_all[O3]
def aRE{len:Nat}(hc:cc.length=len*n)(a:i<len):(O3 cc n i).length=n:=by unfold O3;rw[aF6,XC,hc];have:(i+1)*n<=len*n:=wX n aa;grind
def aRF{w:World}{b off:Nat}:∀(k:Nat),(∀j,j<k->(w.cell? ⟨b,off+j,none⟩).isSome=true)->∃cc:ar,cc.length=k/\bG w b off cc
 |0,_=>⟨[],rfl,λj v h=>by simp at h⟩
 |k + 1,h=>by
  obtain⟨cc,d,c⟩:=aRF k λj a=>h j aa;obtain⟨v,e⟩:=aM2.1 (h k aa);refine⟨cc++[v],by simp[d],λj u a=>?_⟩;rw[aMX] at a;split at a
  .exact c j u a
  grind
theorem bEC{b off:Nat}{ec:ar}(h:bG w b off cc)(c:bG w b (off+i*n) ec)(d:ec.length=n)(hc:(i+1)*n<=cc.length):O3 cc n i=ec:=by
 rw[pL] at hc;apply aF5;intro j;by_cases a:j<n
 .rw[vM a];have f:=h (i*n+j) cc[i*n+j] (iS aa);have e:=c j ec[j] (iS aa);grind
 grind[O3]
def R0[aN O]{S:cW}{l:List O}(h:aN.rd S w [s] l):∃d c cc,s=.slice d l.length c/\cc.length=l.length*aN.n O/\(l=[]\/∃b off,d=some ⟨b,off,none⟩/\bG w b off cc)/\∀i x,l[i]?=some x->aN.rd S w (O3 cc (aN.n O) i) x:=by
 obtain⟨d,c,f,r,q,a⟩:=(show sN S w [s] l from h);simp at f;subst f;obtain a|⟨b,off,rfl,a⟩:=a
 .simp_all
 .have g:∀j,j<l.length*aN.n O->(w.cell? ⟨b,off+j,none⟩).isSome=true:=λj k=>by
   have e:0<aN.n O:=aj
   have m:j/aN.n O<l.length:=(Nat.div_lt_iff_lt_mul e).2 k;obtain⟨ec,o,_,n⟩:=a _ m;have p:=Nat.mod_lt j e;have hl:=aN.mD n;have:=o (j % aN.n O) ec[j % aN.n O] (iS aa);grind[Nat.div_add_mod]
  obtain⟨cc,c1,t⟩:=aRF _ g;grind[bEC,aN.mD,wX]
section
variable {P:Program} {o:Oper} {e:Env} {w w':World} {c:Ctx} {L:bj} {R:bs} {x y:Operand} {t el:TypeId}
theorem aP1[aN O]{S:cW}{l:List O}(hc:cc.length=l.length*aN.n O)(h:∀i x,l[i]?=some x->aN.rd S w (O3 cc (aN.n O) i) x):∀v∈cc,v.oneCell'=true:=by
 intro v b;obtain⟨j,g,rfl⟩:=XB b;have a:0<aN.n O:=aj
 have d:j/aN.n O<l.length:=(Nat.div_lt_iff_lt_mul a).2 aa;have f:=Nat.mod_lt j a;refine aN.rd_one (h _ _ (iS d)) _ (IA (i:=j % aN.n O) ?_);grind[vM,Nat.div_add_mod]
theorem a8L[aN O][Flat O]{S:cW}{w w0:World}{b off cap:Nat}{l:List O}(hc:bG w b off cc)(k:cc.length=l.length*aN.n O)(p:∀i x,l[i]?=some x->aN.rd S w0 (O3 cc (aN.n O) i) x)(f:l.length<=cap)(d:cap<=maxLen)
  (a:∀o,fB b off (cap*aN.n O) b o->(w.cell? ⟨b,o,none⟩).isSome=true/\w.frozen? ⟨b,o,none⟩=false):aN.own w [.slice (some ⟨b,off,none⟩) l.length cap] l (fB b off (cap*aN.n O)):=by refine⟨_,cap,rfl,f,d,.inr ⟨b,off,λ_=>F0,rfl,a,λi n=>⟨O3 cc (aN.n O) i,?_,Flat.own_of (p i l[i] (iS n))⟩,λ_ _ _ _ _ _ _ h _=>h,λ_ _ _ _ h _=>h,λb' o=>by simp[F0]⟩⟩;intro j v m;have g:=(DZ.1 m).1;rw[aRE k n] at g;rw[vM g] at m;have:=hc _ v m;grind
theorem a8M[aN O][Flat O]{S:cW}(w0:World)(p:St c w L R)(cells:ar)(rest:ar)(l:List O)(cap:Nat)(h:TypeId)(hc:cells.length=l.length*aN.n O)(m:∀i x,l[i]?=some x->aN.rd S w0 (O3 cells (aN.n O) i) x)(g:(cells++rest).length=cap*aN.n O)(d:l.length<=cap)(a:cap<=maxLen) :
  St c (w.alloc (.cells (cells++rest).toArray h)) (L++[fF [.slice (some ⟨w.heap.size,0,none⟩) l.length cap] l]) R:=by
 have f:∀j,(w.alloc (.cells (cells++rest).toArray h)).cell? ⟨w.heap.size,j,none⟩=(cells++rest)[j]?:=λj=>ae
 refine p.more (eT.alloc _ _ _) ⟨_,a8L (w0:=w0) (cc:=cells) (λj v q=>?_) hc m d a (λk ho=>?_),λb k n=>aAT n.1.symm⟩
 .grind
 .obtain⟨_,_,r⟩:=ho;simp_all
def Inf(P:Program)(el:TypeId)(m:Nat)(z:Value):Prop:=∃a,P.info? el=some a/\a.zero=some z/\a.size=m/\a.bytes<=65536
theorem yW{el b:Nat}(h:(P.info? el).map (λi=>(i.zero,i.size,i.bytes))=some (some z,m,b))(f:Nat.ble b 65536=true):Inf P el m z:=by
 cases a:P.info? el with
 |none=>grind
 |some d=>
  rw[a] at h;simp at h;exact⟨d,a,h.1,h.2.1,by simp_all⟩
theorem bED(hz:z.cells.size=m)(b:i<k):O3 (madeCells z.cells (k*m)).toList m i=z.cells.toList:=by
 apply aF5;intro j;by_cases a:j<m
 .rw[vM a];have d:i*m+j<k*m:=by have:(i+1)*m<=k*m:=wX m aa;grind
  simp_all[Nat.mod_eq_of_lt,madeCells]
 grind[O3]
theorem LZ[aN O]{a:Option Addr}(hc:cc.length=n*m)(h:n=0\/∃b off,a=some ⟨b,off,none⟩/\bG w b off cc):(Builtin.firstCells m n (.slice a n k)).run P w=.ok cc.toArray w:=by
 obtain h|⟨b,off,rfl,h⟩:=h
 .subst h;have:cc=[]:=vB aa;subst this;cases a<;>simp[Builtin.firstCells,loadCells,loadCellsFrom]
 grind[tE,Builtin.firstCells]
theorem bBI[aN O][Flat O]{s2:Value}{l xs:List O}(i:Nat)(hS:St c w L R)(hi:L[i]?=some (fF [s] l))(hsrc:aN.rd (All w) w [s2] xs)(hn:aN.n O=m)(hu:P.underlying t=some (.slice el))(hinf:Inf P el m z)(hzs:z.cells.size=m)
  (hb:l.length+xs.length<=1073741824) (ho:o.op=.call {callee:=.builtin .append,args:=#[x,y],argTypes:=#[t,t]}) (hx:ev e x=some s) (hy:ev e y=some s2) :
  ∃v w',fH P o e w v w'/\St c w' (L.set i (fF [v] (l++xs))) R:=by
 subst hn;obtain⟨ti,Q,hz,T,hby⟩:=hinf;obtain⟨D,c2,cc2,rfl,W,hc2,hr2⟩:=R0 hsrc;obtain⟨F,X⟩:=hS.chunk i hi;have X:aN.own w [s] l F:=X;obtain⟨ad,d,cc,rfl,hl1,hc1,hr1⟩:=R0 (aN.own_rd X);obtain⟨ad',cap',he,hlc,hcm,K⟩:=(show D1 w [_] l F from X);simp at he;obtain⟨rfl,rfl⟩:=he;have M:=aP1 W hr2;have B:∀j q,(l++xs)[j]?=some q->aN.rd (λb o=>True) w (O3 (cc++cc2) (aN.n O) j) q:=by
  intro j q E;rw[aMX] at E;split at E
  .rename_i hlt;have:O3 (cc++cc2) (aN.n O) j=O3 cc (aN.n O) j:=by
    have V:(j+1)*aN.n O<=l.length*aN.n O:=wX _ aa;rw[pL] at V;apply aF5;intro p;by_cases hp:p<aN.n O
    .rw[vM hp,vM hp,List.getElem?_append_left aa]
    .rw[List.getElem?_eq_none (by unfold O3;simp;omega),List.getElem?_eq_none (by unfold O3;simp;omega)]
   rw[this];exact aN.rd_mono (hr1 j q E) λ_ _ _=>trivial
  .rename_i hge;have:O3 (cc++cc2) (aN.n O) j=O3 cc2 (aN.n O) (j-l.length):=by
    apply aF5;intro p;by_cases hp:p<aN.n O
    .have hj2:j*aN.n O=l.length*aN.n O+(j-l.length)*aN.n O:=by rw[<-pL];grind
     rw[vM hp,vM hp,aXZ aa];congr 1;omega
    grind[O3]
   rw[this];exact aN.rd_mono (hr2 _ q E) λ_ _ _=>trivial
 have C:(cc++cc2).length=(l++xs).length*aN.n O:=aj
 have A:xs.length=0\/∃b off,D=some ⟨b,off,none⟩/\bG w b off cc2:=hc2.imp (λh=>by simp[h]) id;have r:=LZ (P:=P) (O:=O) (k:=c2) W A;have g:∀(v:Value) (w':World),(Builtin.append_ #[t,t] o.type #[.slice ad l.length d,.slice D xs.length c2]).run P w=.ok v w'->fH P o e w v w':=by intro v w' h _ a hA;simp[execOp,ho,resolve,invoke,builtin,hA.eval hx,hA.eval hy,h]
 by_cases f:l.length+xs.length<=d
 ·
  obtain⟨rfl,rfl,_⟩|⟨b,off,Fs,rfl,n,hel,hd1,hd2,hFF⟩:=K
  .have hl0:l=[]:=vB aa;have hx0:xs=[]:=vB aa;subst hl0;subst hx0;refine⟨.slice none 0 0,w,g _ _ ?_,?_⟩
   .have r:(Builtin.firstCells (aN.n O) 0 (.slice D 0 c2)).run P w=.ok cc2.toArray w:=r;simp[Builtin.append_,run_underlying hu,sizeOf,typeInfo,Q,Builtin.lenOf,T,r]
   .rw[wW];refine hS.aK5 i hi λF X=>⟨F,F0,eT.refl _ _,λ_ _ h=>h.elim,X,λ_ _ h=>.inl h⟩
  .have hcc:bG w b off cc:=by
    obtain h|⟨b',Y,h,hc⟩:=hc1
    .subst h;have:cc=[]:=vB aj;subst this;intro j v E;simp at E
    grind
   have hmul:(l.length+xs.length)*aN.n O<=d*aN.n O:=wX _ f;rw[pL] at hmul;obtain⟨w',hst,hk,hws,N⟩:=qP (b:=b) P cc2 w (off+l.length*aN.n O) 0 M (λq _ hq=>n _ ⟨rfl,aa,aa⟩);refine⟨_,w',g _ _ (by
    have hadd:(⟨b,off,none⟩:Addr).add (l.length*aN.n O)=⟨b,off+l.length*aN.n O,none⟩:=by simp[Addr.add]
    simp[Builtin.append_,run_underlying hu,sizeOf,typeInfo,Q,Builtin.lenOf,T,r,f,hadd,hst];rfl),?_⟩
   refine hS.aK5 i hi λF2 H=>?_;have H:D1 w [_] l F2:=H;obtain⟨_,_,he2,_,_,hr⟩:=H;simp at he2;obtain⟨rfl,rfl⟩:=he2;obtain⟨h,_,_⟩|⟨b',Y,Fs',h,_,_,_,_,J⟩:=hr
   .cases h
   simp at h;obtain⟨rfl,rfl⟩:=h;refine⟨fB b off (d*aN.n O),_,hk,λb' u h=>(J b' u).2 (.inl ?_),?_,λb' u h=>.inl ((J b' u).2 (.inl h))⟩
   .obtain⟨e1,e2,e3⟩:=h;exact⟨e1,aa,aa⟩
   .have hcc':bG w' b off (cc++cc2):=by
     intro j v E;rw[aMX] at E;split at E
     .rename_i hlt;have hc:=hcc j v E;rw[hk.cell b (off+j) (World.block_lt_of_cell? w _ hc) (λhh=>by obtain⟨_,e2,_⟩:=hh;omega)];exact hc
     .rename_i hge;have:=N _ v E;rw[show off+l.length*aN.n O+0+(j-cc.length)=off+j from by omega] at this;exact this
    have hll:l.length+xs.length=(l++xs).length:=ae
    rw[hll];exact a8L hcc' C B ah hcm (λu U=>⟨hk.stay b u (n u U).1,(hk.zU b u (j4 (n u U).1)).trans (n u U).2⟩)
 ·
  have G:(l.length+xs.length)*ti.bytes<=140737488355328:=by have:(l.length+xs.length)*ti.bytes<=1073741824*65536:=aIM hb hby;omega
  have hfit:=growslice_fits (need:=l.length+xs.length) (old:=d) (bytes:=ti.bytes) aa G;obtain⟨hge,V⟩:l.length+xs.length<=grownCap w (l.length+xs.length) d el/\grownCap w (l.length+xs.length) d el<=maxLen:=⟨grownCap_ge _ _ _ _,grownCap_le_maxLen _ _ _ _ (by grind[maxLen])⟩;have hrun:(Builtin.append_ #[t,t] o.type #[.slice ad l.length d,.slice D xs.length c2]).run P w=.ok (.slice (some ⟨w.heap.size,0,none⟩) (l.length+xs.length) (grownCap w (l.length+xs.length) d el)) (w.drew.alloc (.cells (cc.toArray++cc2.toArray++Builtin.zeroCells z.cells (grownCap w (l.length+xs.length) d el-(l.length+xs.length))) el)):=by
   have hn1:¬(l.length+xs.length<=d):=f;have h63':¬(9223372036854775807<((l.length:Int)+(xs.length:Int))):=aa
   have h48':¬(281474976710656<Builtin.nextslicecap (l.length+xs.length) d*ti.bytes):=aa
   have hf1:(Builtin.firstCells (aN.n O) l.length (.slice ad l.length d)).run P w.drew=.ok cc.toArray w.drew:=LZ (O:=O) hl1 (hc1.imp (λh=>by simp[h]) id);have r:(Builtin.firstCells (aN.n O) xs.length (.slice D xs.length c2)).run P w.drew=.ok cc2.toArray w.drew:=LZ (O:=O) W A;simp[Builtin.append_,run_underlying hu,sizeOf,typeInfo,zeroValue,Q,hz,T,Builtin.lenOf,hn1,h63',h48',Question.forced,hf1,r,newRow,grownCap];grind
  refine⟨_,_,g _ _ hrun,?_⟩;refine hS.aK5 i hi λF2 H=>?_;have hz2:(Builtin.zeroCells z.cells (grownCap w (l.length+xs.length) d el-(l.length+xs.length))).size=(grownCap w (l.length+xs.length) d el-(l.length+xs.length))*aN.n O:=by grind[size_zeroCells]
  have Z:((cc++cc2)++(Builtin.zeroCells z.cells (grownCap w (l.length+xs.length) d el-(l.length+xs.length))).toList).length=grownCap w (l.length+xs.length) d el*aN.n O:=by
   have hz3:(Builtin.zeroCells z.cells (grownCap w (l.length+xs.length) d el-(l.length+xs.length))).toList.length=(grownCap w (l.length+xs.length) d el-(l.length+xs.length))*aN.n O:=aa
   rw[H7,C,hz3,H7,<-pL];grind
  have hst0:St (eF w) w [] []:=St.enter ae;have I:=a8M (S:=λb o=>True) w (hst0.same (eT.drew F0 w)) (cc++cc2) (Builtin.zeroCells z.cells (grownCap w (l.length+xs.length) d el-(l.length+xs.length))).toList (l++xs) (grownCap w (l.length+xs.length) d el) el C B Z ah V;obtain⟨Fn,hFn⟩:=I.chunk 0 rfl;obtain⟨Ft,St',⟨Fa,Fb,ha,_,_,hFab⟩,_,hFt,_⟩:=I.sep;have heq:((cc++cc2)++(Builtin.zeroCells z.cells (grownCap w (l.length+xs.length) d el-(l.length+xs.length))).toList).toArray=cc.toArray++cc2.toArray++Builtin.zeroCells z.cells (grownCap w (l.length+xs.length) d el-(l.length+xs.length)):=ae
  rw[heq] at ha;have hll:l.length+xs.length=(l++xs).length:=ae
  refine⟨Fa,F0,(eT.drew F0 w).trans (eT.alloc F0 _ _) (λ_ _ _ h=>h),λ_ _ h=>h.elim,?_,λb' u h=>.inr ?_⟩
  .have ha:aN.own _ _ (l++xs) Fa:=ha;have hsz2:w.drew.heap.size=w.heap.size:=rfl;grind
  .rcases hFt b' u ((hFab b' u).2 (.inl h)) with h|h
   .exact h.elim
   .exact h
def aX5{O:Type}[aN O](m:Nat):ar->List O->Prop
 |cs,[]=>cs=[]
 |cs,x::r=>aN.rd F0 default (cs.take m) x/\aX5 m (cs.drop m) r
theorem aX5.get{O:Type}[aN O]{m:Nat}(hn:aN.n O=m):∀{l:List O} {cs:ar},aX5 m cs l->cs.length=l.length*m/\∀i x,l[i]?=some x->aN.rd F0 default (O3 cs m i) x
 |[],cs,h=>by have h:cs=[]:=h;grind
 |y::r,cs,⟨f,d⟩=>by
  obtain⟨b,j⟩:=aX5.get hn d;have a:=aN.mD f;rw[aF6,hn] at a;rw[XC] at b;refine⟨by simp[pL];omega,λi x g=>?_⟩;cases i with
  |zero=>grind[O3]
  |succ i=>
   grind[O3,List.drop_drop]
theorem bEE[aN O][Flat O]{len:Nat}{ps:cw}{cells:ar}(l:List O)(D:St c w L R)(hn:aN.n O=m)(r:P.underlying t=some (.slice el))(f:Inf P el m z)(hl:l.length=len)(C:Nat.ble 1 m=true)(j:Nat.ble (len*m) 16777216=true)(q:aX5 m cells l)
  (ho:o.op=.buildSlice t len ps.toArray) (B:evs e (ps.map (·.2))=some vs) (hc:Instr.fill (λi=>some (i*m,m)) ((Array.range (len*m)).map (λi=>(if len*m=0 then #[] else z.cells)[i % (if len*m=0 then #[] else z.cells).size]!)) ((ps.map (·.1)).zip vs)=some cells.toArray) :
  ∃v w',fH P o e w v w'/\St c w' (L++[fF [v] l]) R:=by
 subst hl;obtain⟨F,s,hz,g,A⟩:=f;obtain⟨H,G⟩:=q.get hn;have n:¬l.length*m > 2 ^ 24:=by simp_all
 have u:l.length<=16777216:=by have:=Nat.le_mul_of_pos_right l.length (XF C);omega
 have d:l.length<=maxLen:=by grind[maxLen]
 have b:=a8M (S:=F0) default D cells [] l l.length el aj aj aj (jE _) d;rw[wW] at b;refine⟨_,_,λ_ a E=>?_,b⟩;have h:ps.map (λp=>(p.1,a.eval p.2))=(ps.map (·.1)).zip vs:=by rw[<-Y0 E B];grind
 by_cases k:l.length*m=0
 .simp only[k,bS] at hc;simp[execOp,ho,Instr.buildSlice,run_underlying r,sizeOf,typeInfo,s,g,k,h];simp_all[newRow]
 .simp only[k,bN] at hc;simp[execOp,ho,Instr.buildSlice,run_underlying r,sizeOf,typeInfo,zeroValue,s,hz,g,k,n,h];simp_all[newRow]
end
def dC{O:Type}[aN O](w:World):ar->List O->cW->Prop
 |cs,[],F=>cs=[]/\∀b o,¬F b o
 |cs,x::r,F=>∃c1 d c a,cs=c1++d/\aN.own w c1 x c/\dC w d r a/\cW.IB c a/\∀b o,F b o↔c b o\/a b o
def dC.congr[aN O]{cs:ar}{l:List O}{G:cW}(h:dC w cs l F)(a:∀b o,F b o↔G b o):dC w cs l G:=by
 have:F=G:=aj
 grind
def dC.length{O:Type}[aN O]{w:World}:∀{l:List O} {cs:ar} {F:cW},dC w cs l F->cs.length=l.length*aN.n O
 |[],cs,F,h=>by simp[h.1]
 |x::r,cs,F,⟨c1,f,i,g,e,d,c,_,_⟩=>by have a:=aN.mD (aN.own_rd d);have b:=dC.length c;grind
def dC.keep{O:Type}[aN O]{w w':World}{G:cW}(hk:eT G w w'):∀{l:List O} {cs:ar} {F:cW},dC w cs l F->F.IB G->dC w' cs l F
 |[],cs,F,h,_=>h
 |x::r,cs,F,⟨c1,j,m,k,e,i,f,d,a⟩,c=>
  ⟨c1,j,m,k,e,aN.own_keep i hk λb o h g=>c b o ((a b o).2 (.inl h)) g,dC.keep hk f λb o h g=>c b o ((a b o).2 (.inr h)) g,d,a⟩
def dC.lt{O:Type}[aN O]{w:World}:∀{l:List O} {cs:ar} {F:cW} {b o:Nat},dC w cs l F->F b o->b<w.heap.size
 |[],_,_,b,o,h,a=>(h.2 b o a).elim
 |x::r,cs,F,b,o,⟨c1,i,k,j,e,f,d,g,c⟩,a=>by
  rcases(c b o).1 a with h|h
  .exact aN.own_lt f h
  .exact dC.lt d h
theorem dC.app{O:Type}[aN O]{w:World}:∀{l m:List O} {cs ds:ar} {F G H:cW},dC w cs l F->dC w ds m G->F.IB G->(∀b o,H b o↔F b o\/G b o)->dC w (cs++ds) (l++m) H
 |[],m,cs,ds,F,G,H,h,k,_,c=>by rw[h.1];exact dC.congr k λb o=>by rw[c];exact⟨.inr,λq=>q.elim (λq=>(h.2 b o q).elim) id⟩
 |x::r,m,cs,ds,F,G,H,⟨c1,j,s,n,e,i,g,f,d⟩,k,a,c=>by
  subst e;refine⟨c1,j++ds,s,λb o=>n b o\/G b o,ae,i,dC.app g k (λb o p q=>a b o ((d b o).2 (.inr p)) q) λ_ _=>Iff.rfl,?_,λb o=>aj⟩;rintro b o p (q|q)
  .exact f b o p q
  .exact a b o ((d b o).2 (.inl p)) q
def dC.split{O:Type}[aN O]{w:World}:∀{l m:List O} {cs:ar} {H:cW},dC w cs (l++m) H->∃c1 a F G,cs=c1++a/\dC w c1 l F/\dC w a m G/\F.IB G/\∀b o,H b o↔F b o\/G b o
 |[],m,cs,H,h=>⟨[],cs,F0,H,rfl,⟨rfl,λ_ _ h=>h⟩,h,λ_ _ h=>h.elim,λb o=>by simp[F0]⟩
 |x::r,m,cs,H,⟨c1,a,i,A,e,t,s,d,z⟩=>by
  obtain⟨f,v,g,y,u,n,k,j,c⟩:=dC.split s;subst e;subst u;refine⟨c1++f,v,λb o=>i b o\/g b o,y,ae,⟨c1,f,i,g,rfl,t,n,λb o p q=>d b o p ((c b o).2 (.inl q)),λ_ _=>Iff.rfl⟩,k,?_,λb o=>aj⟩;rintro b o (p|p) q
  .exact d b o p ((c b o).2 (.inr q))
  .exact j b o p q
theorem dC.one[aN O]{c:ar}{x:O}:dC w c [x] F↔aN.own w c x F:=by
 constructor
 .rintro⟨c1,j,F1,k,e,i,⟨a,g⟩,d,f⟩;subst e;subst a;have:F=F1:=aj
  grind
 .intro h;exact⟨c,[],F,F0,ae,h,⟨rfl,λ_ _ h=>h⟩,λ_ _ _ h=>h,λb o=>by simp[F0]⟩
def dC.rd{O:Type}[aN O]{w:World}:∀{l:List O} {cs:ar} {F:cW},dC w cs l F->∀i x,l[i]?=some x->aN.rd F w (O3 cs (aN.n O) i) x
 |[],cs,F,_,i,x,h=>by simp at h
 |y::r,cs,F,⟨c1,c,m,k,e,f,g,j,d⟩,i,x,h=>by
  have a:=aN.mD (aN.own_rd f);subst e;cases i with
  |zero=>
   simp at h;subst h;have:O3 (c1++c) (aN.n O) 0=c1:=by grind[O3]
   rw[this];exact aN.rd_mono (aN.own_rd f) λb o q=>(d b o).2 (.inl q)
  |succ i=>
   have:O3 (c1++c) (aN.n O) (i+1)=O3 c (aN.n O) i:=by grind[O3,pL,List.drop_drop,List.drop_left]
   rw[this];exact aN.rd_mono (dC.rd g i x aj) λb o q=>(d b o).2 (.inr q)
def Row(w:World)(b off n:Nat):Prop:=∀o,fB b off n b o->(w.cell? ⟨b,o,none⟩).isSome=true/\w.frozen? ⟨b,o,none⟩=false
def a8N{O:Type}[aN O]{w:World}{b:Nat}:∀{l:List O} {off:Nat} {Fs:Nat->cW},(∀i (h:i<l.length),∃ec,bG w b (off+i*aN.n O) ec/\aN.own w ec l[i] (Fs i)) ->
  (∀i j,i<l.length->j<l.length->i≠j->cW.IB (Fs i) (Fs j))->∃cc,bG w b off cc/\dC w cc l (λb' o=>∃i,i<l.length/\Fs i b' o)
 |[],off,Fs,_,_=>⟨[],λj v h=>by simp at h,rfl,λb o ⟨i,h,_⟩=>by simp at h⟩
 |x::r,off,Fs,h,d=>by
  obtain⟨ec,n,m⟩:=h 0 ae;obtain⟨cc,k,g⟩:=a8N (l:=r) (off:=off+aN.n O) (Fs:=λi=>Fs (i+1)) (λi c=>by
   obtain⟨ec,f,s⟩:=h (i+1) ah;exact⟨ec,by rw[show off+aN.n O+i*aN.n O=off+(i+1)*aN.n O by grind];exact f,aj⟩)
   λi j c a e=>d (i+1) (j+1) ah ah aa
  have hl:=aN.mD (aN.own_rd m);refine⟨ec++cc,λj v a=>?_,ec,cc,Fs 0,_,rfl,aj,g,?_,λb' o=>?_⟩
  .rw[aMX] at a;split at a
   .have:=n j v a;grind
   .have:=k _ v a;grind
  .rintro b' o p ⟨i,c,q⟩;exact d 0 (i+1) ae ah aa b' o p q
  .constructor
   .rintro⟨i,c,q⟩;cases i with
    |zero=>exact .inl q
    |succ i=>grind
   grind
def a8O{O:Type}[aN O]{w:World}{b:Nat}:∀{l:List O} {off:Nat} {cc:ar} {F:cW},bG w b off cc->dC w cc l F ->
  ∃Fs:Nat->cW,(∀i (h:i<l.length),∃ec,bG w b (off+i*aN.n O) ec/\aN.own w ec l[i] (Fs i))/\(∀i j,i<l.length->j<l.length->i≠j->cW.IB (Fs i) (Fs j))/\∀b' o,F b' o↔∃i,i<l.length/\Fs i b' o
 |[],off,cc,F,_,h=>⟨λ_=>F0,λi h=>by simp at h,λi j h=>by simp at h,λb o=>⟨λq=>(h.2 b o q).elim,λ⟨i,h,_⟩=>by simp at h⟩⟩
 |x::r,off,cc,F,hc,⟨c1,c2,u,C,e,s,n,f,m⟩=>by
  have hl:=aN.mD (aN.own_rd s);subst e;have A:bG w b off c1:=λj v d=>hc j v aj;have k:bG w b (off+aN.n O) c2:=λj v d=>by have:=hc (c1.length+j) v aj;grind
  obtain⟨Fs,t,B,c⟩:=a8O k n;refine⟨λi=>match i with|0=>u|i+1=>Fs i,λi a=>?_,λi j a d g=>?_,λb' o=>?_⟩
  .cases i with
   |zero=>grind
   |succ i=>
    obtain⟨ec,z,y⟩:=t i aj;grind
  .cases i with
   |zero=>
    cases j with
    |zero=>omega
    |succ j=>exact λb o p q=>f b o p ((c b o).2 ⟨j,aj,q⟩)
   |succ i=>
    cases j with
    |zero=>exact λb o p q=>f b o q ((c b o).2 ⟨i,aj,p⟩)
    |succ j=>grind
  .rw[m,c];constructor
   .rintro(q|⟨i,a,q⟩)
    .exact⟨0,ae,q⟩
    .exact⟨i+1,ah,q⟩
   .rintro⟨i,a,q⟩;cases i with
    |zero=>exact .inl q
    |succ i=>grind
theorem nS[aN O]{l:List O}:aN.own w [s] l F↔∃a c,s=.slice a l.length c/\l.length<=c/\c<=maxLen /\
  ((a=none/\c=0/\∀b o,¬F b o)\/∃b off cc Fe,a=some ⟨b,off,none⟩/\Row w b off (c*aN.n O)/\bG w b off cc/\dC w cc l Fe/\cW.IB Fe (fB b off (c*aN.n O))/\∀b' o,F b' o↔fB b off (c*aN.n O) b' o\/Fe b' o):=by
 show D1 w [s] l F↔_;constructor
 .rintro⟨a,c,e,t,r,n⟩;simp at e;refine⟨a,c,e,t,r,n.imp id ?_⟩;rintro⟨b,off,Fs,u,j,x,f,d,m⟩;obtain⟨cc,h,g⟩:=a8N x f;exact⟨b,off,cc,_,u,j,h,g,λb o ⟨i,k,q⟩ p=>d i k b o q p,m⟩
 .rintro⟨a,c,e,t,r,n⟩;refine⟨a,c,by rw[e],t,r,n.imp id ?_⟩;rintro⟨b,off,cc,Fe,u,j,h,g,y,m⟩;obtain⟨Fs,A,z,v⟩:=a8O h g;exact⟨b,off,Fs,u,j,A,z,λi k b o q p=>y b o ((v b o).2 ⟨i,k,q⟩) p,λb' o=>by rw[m,v]⟩
def blank(L:bj):av->bj
 |[]=>L
 |i::r=>blank (L.set i QD) r
def Sep.blank{w:World}:∀{is:av} {L:bj} {F:cW},dV is=true->Sep w L F->Sep w (Gv.pick L is++Gv.blank L is) F
 |[],L,F,_,h=>h
 |i::r,L,F,a,h=>by
  simp only[dV,yV] at a;have c:=aRD (L:=L) a.1;show Sep w ((L[i]?).getD QD::(Gv.pick L r++Gv.blank (L.set i QD) r)) F;cases d:L[i]? with
  |none=>
   have:L.set i QD=L:=List.set_eq_of_length_le aj;rw[this];exact⟨F0,F,λ_ _ h=>h,Sep.blank a.2 h,λ_ _ h=>h.elim,λb o=>by simp[F0]⟩
  |some ch=>
   obtain⟨l,k,j,g,e,f⟩:=(Sep.take d).1 h;exact⟨l,k,j,by rw[<-c];exact Sep.blank a.2 g,e,f⟩
section
variable {c:Ctx} {w w':World} {L:bj} {R:bs}
theorem St.front(h:St c w L R)(is:av)(b:dV is=true):St c w (pick L is++blank L is) R:=by obtain⟨F,S,a,rest⟩:=h.sep;exact⟨h.keep,⟨F,S,Sep.blank b a,rest⟩,h.apart⟩
theorem St.bEF(h:St c w L R)(is:av)(e:dV is=true)(d:∀F,Sep w (pick L is) F->∃a G,eT G w w'/\(∀b o,G b o->F b o)/\Sep w' A' a/\∀b o,a b o->F b o\/w.heap.size<=b) :
  St c w' (blank L is++A') R:=St.rot (St.step (h.front is e) d)
theorem St.shift(h:St c w L R)(is:av)(b:dV is=true)(a:∀F,Sep w (pick L is) F->Sep w A' F):St c w (blank L is++A') R:=h.bEF is b λF d=>⟨F,F0,eT.refl _ _,λ_ _ h=>h.elim,a F d,λ_ _ h=>.inl h⟩
end
theorem Sep.one:Sep w [ch] F↔ch.P w F:=by
 constructor
 .rintro⟨F1,e,d,c,_,a⟩;have:F=F1:=by funext b o;exact propext ((a b o).trans ⟨λq=>q.elim id λq=>(c b o q).elim,.inl⟩)
  grind
 .intro h;exact⟨F,F0,h,λ_ _ h=>h,λ_ _ _ h=>h,λb o=>by simp[F0]⟩
def vD{O:Type}[aN O](s:Value)(l:List O)(k:Nat):Chunk where
 P:=λw F=>∃a c b off c1 n i f,s=.slice a l.length c/\l.length<=c/\c<=maxLen/\k<l.length/\a=some ⟨b,off,none⟩ /\
  (∀o,fB b off (c*aN.n O) b o->¬fB b (off+k*aN.n O) (aN.n O) b o->(w.cell? ⟨b,o,none⟩).isSome=true/\w.frozen? ⟨b,o,none⟩=false) /\
  bG w b off c1/\bG w b (off+(k+1)*aN.n O) n/\dC w c1 (l.take k) i/\dC w n (l.drop (k+1)) f/\i.IB f/\i.IB (fB b off (c*aN.n O))/\f.IB (fB b off (c*aN.n O)) /\
  ∀b' o,F b' o↔(fB b off (c*aN.n O) b' o/\¬fB b (off+k*aN.n O) (aN.n O) b' o)\/i b' o\/f b' o
 keep:=by
  rintro w w' F G ⟨a,c,b,off,c1,n,i,f,e,D,C,B,E,z,y,u,t,r,d1,d2,d3,m⟩ hk A;have d:∀o,fB b off (c*aN.n O) b o->¬fB b (off+k*aN.n O) (aN.n O) b o->b<w.heap.size->w'.cell? ⟨b,o,none⟩=w.cell? ⟨b,o,none⟩:=λo p q L=>hk.cell b o L λg=>A b o ((m b o).2 (.inl ⟨p,q⟩)) g;have J:(k+1)*aN.n O<=c*aN.n O:=wX _ aa;rw[pL] at J;have I:=t.length;have H:=r.length;rw[aF6,Nat.min_eq_left aa] at I;rw[XC] at H;have x:(l.length-(k+1))*aN.n O+(k+1)*aN.n O<=c*aN.n O:=by rw[<-pL];exact wX _ aa
  refine⟨a,c,b,off,c1,n,i,f,e,D,C,B,E,λo p q=>?_,?_,?_,t.keep hk λb o p g=>A b o ((m b o).2 (.inr (.inl p))) g,r.keep hk λb o p g=>A b o ((m b o).2 (.inr (.inr p))) g,d1,d2,d3,m⟩
  .have:=z o p q;exact⟨hk.stay b o this.1,(hk.zU b o (j4 this.1)).trans this.2⟩
  .by_cases hc:c1=[]
   .subst hc;intro j v h;simp at h
   .refine y.agree λo p q=>d o ⟨rfl,p,aa⟩ (λ⟨_,N,_⟩=>aa) (y.lt hc)
  .by_cases hc:n=[]
   .subst hc;intro j v h;simp at h
   .rw[pL] at u x;refine bG.agree (by rw[pL];exact u) λo p q=>?_;rw[pL] at p q;exact d o ⟨rfl,aa,aa⟩ (λ⟨_,_,M⟩=>aa) (u.lt hc)
 lt:=by
  rintro w F b' o ⟨a,c,b,off,c1,n,i,f,e,D,C,B,E,z,y,u,t,r,d1,d2,d3,m⟩ K;rcases(m b' o).1 K with ⟨p,q⟩|p|p
  .have:b'=b:=p.1;subst this;exact j4 (z o p q).1
  .exact t.lt p
  .exact r.lt p
def HF{b off:Nat}{c1 c2:ar}(h:bG w b off (c1++c2)):bG w b off c1/\bG w b (off+c1.length) c2:=
 ⟨λj v a=>h j v aj,λj v a=>by
  have:=h (c1.length+j) v aj;grind⟩
theorem Y1{b off:Nat}{c1 c:ar}(e:bG w b off c1)(d:bG w b (off+c1.length) c):bG w b off (c1++c):=λj v a=>by
 rw[aMX] at a;split at a
 .exact e j v a
 .have:=d _ v a;grind
def bEG{l:List O}{x:O}(h:l[k]?=some x):l=l.take k++([x]++l.drop (k+1)):=by obtain⟨hk,rfl⟩:=DZ.1 h;simp
def bEH{l:List O}{x:O}(h:k<l.length):l.set k x=l.take k++([x]++l.drop (k+1)):=by rw[List.set_eq_take_append_cons_drop,aM h];simp
def bEI[aN O]{l:List O}{x:O}(h:aN.own w [s] l F)(D:l[k]?=some x) :
  ∃ec:ar,Sep w [vD s l k,cAt (elB s) (elO (aN.n O) k s) ec,fF ec x] F:=by
 obtain⟨a,c,e,Q,P,G⟩:=nS.1 h;obtain⟨hk,_⟩:=DZ.1 D;obtain⟨_,G,_⟩|⟨b,off,W,X,rfl,E,hc,ho,d,V⟩:=G
 .omega
 rw[bEG D] at ho;obtain⟨c1,J,U,K,rfl,z,i,H,g⟩:=ho.split;obtain⟨ec,S,I,T,rfl,y,v,R,f⟩:=i.split;have A:=z.length;have n:=y.length;have L:=v.length;rw[aF6,Nat.min_eq_left aa] at A;rw[XC] at L;simp only[H8,List.length_nil,aIN,Nat.one_mul] at n;obtain⟨M,j⟩:=HF hc;obtain⟨C,B⟩:=HF j;rw[A] at C B;rw[n] at B;have N:(k+1)*aN.n O<=c*aN.n O:=wX _ aa;have m:=N;rw[pL] at m;subst e;refine⟨ec,_,λb' o=>fB b (off+k*aN.n O) (aN.n O) b' o\/I b' o,⟨some ⟨b,off,none⟩,c,b,off,c1,S,U,T,rfl,Q,P,hk,rfl,λo p q=>E o p,M,?_,z,v,?_,?_,?_,λ_ _=>Iff.rfl⟩,?_⟩
 .grind
 .exact λb o p q=>H b o p ((f b o).2 (.inr q))
 .exact λb o p q=>d b o ((g b o).2 (.inl p)) q
 .exact λb o p q=>d b o ((g b o).2 (.inr ((f b o).2 (.inr p)))) q
 .refine⟨⟨fB b (off+k*aN.n O) (aN.n O),I,⟨C,λo p=>(E o ?_).2,λb' o=>by grind[elB,elO]⟩,Sep.one.2 (dC.one.1 y),?_,λ_ _=>Iff.rfl⟩,?_,λb' o=>?_⟩
  .obtain⟨_,t,r⟩:=p;simp only[elO,n] at t r;exact⟨rfl,aa,aa⟩
  .rintro b' o ⟨rfl,t,r⟩ q;exact d b' o ((g b' o).2 (.inr ((f b' o).2 (.inl q)))) ⟨rfl,aa,aa⟩
  .rintro b' o (⟨p,q⟩|p|p) (u|u)
   .exact q u
   .exact d b' o ((g b' o).2 (.inr ((f b' o).2 (.inl u)))) p
   .obtain⟨rfl,u1,u2⟩:=u;exact d b' o ((g b' o).2 (.inl p)) ⟨rfl,aa,aa⟩
   .exact H b' o p ((f b' o).2 (.inl u))
   .obtain⟨rfl,u1,u2⟩:=u;exact d b' o ((g b' o).2 (.inr ((f b' o).2 (.inr p)))) ⟨rfl,aa,aa⟩
   .exact R b' o u p
  grind[fB]
def bBJ[aN O]{l:List O}{x:O}{ec:ar}(h:Sep w [vD s l k,cAt (elB s) (elO (aN.n O) k s) ec,fF ec x] F):aN.own w [s] (l.set k x) F:=by
 obtain⟨U,T,⟨a,c,b,off,c1,G,I,H,e,R,A,hk,rfl,P,N,M,n,m,E,D,C,g⟩,⟨S,H2,⟨r,hz,d⟩,y,B,f⟩,j,Q⟩:=h;have ho:aN.own w ec x H2:=Sep.one.1 y;subst e;simp only[elB,elO] at r hz d;have v:=n.length;have t:=aN.mD (aN.own_rd ho);have L:=m.length;rw[aF6,Nat.min_eq_left aa] at v;have z:(k+1)*aN.n O<=c*aN.n O:=wX _ aa;have i:=z;rw[pL] at i;rw[t] at d;refine nS.2 ⟨some ⟨b,off,none⟩,c,ae,aj,A,.inr ⟨b,off,c1++(ec++G),λb' o=>I b' o\/(H2 b' o\/H b' o),rfl,λo p=>?_,?_,?_,?_,λb' o=>?_⟩⟩
 .by_cases q:fB b (off+k*aN.n O) (aN.n O) b o
  .refine⟨?_,hz o aj⟩;obtain⟨_,K,J⟩:=q;have:=r (o-(off+k*aN.n O)) _ (iS aa);grind
  grind
 .grind[Y1]
 .rw[bEH hk];refine dC.app n (dC.app (dC.one.2 ho) m ?_ λ_ _=>Iff.rfl) ?_ λ_ _=>Iff.rfl
  .exact λb' o p q=>j b' o ((g b' o).2 (.inr (.inr q))) ((f b' o).2 (.inr p))
  .rintro b' o p (q|q)
   .exact j b' o ((g b' o).2 (.inr (.inl p))) ((f b' o).2 (.inr q))
   .exact E b' o p q
 .rintro b' o (p|p|p) q
  .exact D b' o p q
  .by_cases u:fB b (off+k*aN.n O) (aN.n O) b' o
   .exact B b' o ((d b' o).2 u) p
   .exact j b' o ((g b' o).2 (.inl ⟨q,u⟩)) ((f b' o).2 (.inr p))
  .exact C b' o p q
 grind[fB]
def OP{O:Type}[aN O](cs:ar)(d:O)(A:bj):Prop:=∀w F,aN.own w cs d F↔Sep w A F
def eO[aN O][Flat O]{cs:ar}{d:O}(h:aN.rd F0 default cs d):OP cs d []:=λw F=>by
 constructor
 .intro k;exact Flat.no k
 .intro k;have:F=F0:=by funext b o;exact propext ⟨λq=>(k b o q).elim,λq=>q.elim⟩
  grind[Flat.own_of]
def L4[aN O]{cs:ar}{d:O}:OP cs d [fF cs d]:=λw F=>(Sep.one (ch:=fF cs d)).symm
def fC{β:Type}[aN O][aN β]{c1 i:ar}{d:O×β}(l:OP c1 d.1 A)(j:OP i d.2 B)(hl:c1.length=aN.n O):OP (c1++i) d (A++B):=λw F=>by
 constructor
 .rintro⟨o,n,b,a,e,c,f,g,h⟩;have m:=aN.mD (aN.own_rd c);obtain⟨rfl,rfl⟩:=List.append_inj e aa;exact Sep.append.2 ⟨b,a,(l w b).1 c,(j w a).1 f,g,h⟩
 .intro k;obtain⟨b,a,c,f,g,h⟩:=Sep.append.1 k;exact⟨c1,i,b,a,rfl,(l w b).2 c,(j w a).2 f,g,h⟩
section
variable {P:Program} {o:Oper} {e:Env} {w w':World} {c:Ctx} {L:bj} {R:bs} {x y:Operand} {t el:TypeId}
theorem St.open(h:St c w L R)[aN O]{l:List O}{q:O}(i:Nat)(g:L[i]?=some (fF [s] l))(f:l[k]?=some q) :
  ∃ec,St c w (L.set i QD++[vD s l k,cAt (elB s) (elO (aN.n O) k s) ec,fF ec q]) R:=by have d:St c w ([fF [s] l]++L.set i QD) R:=h.take i g;obtain⟨F,S,a,rest⟩:=d.sep;obtain⟨u,r,p,n,j,m⟩:=Sep.append.1 a;obtain⟨ec,b⟩:=bEI (Sep.one.1 p) f;exact⟨ec,St.rot ⟨d.keep,⟨F,S,Sep.append.2 ⟨u,r,b,n,j,m⟩,rest⟩,d.apart⟩⟩
theorem St.unpack(h:St c w L R)[aN O]{cs:ar}{d:O}(i:Nat)(g:L[i]?=some (fF cs d))(ho:OP cs d A'):St c w (L.set i QD++A') R:=by have b:St c w ([fF cs d]++L.set i QD) R:=h.take i g;obtain⟨F,S,a,rest⟩:=b.sep;obtain⟨f,n,m,l,j,k⟩:=Sep.append.1 a;exact St.rot ⟨b.keep,⟨F,S,Sep.append.2 ⟨f,n,(ho w f).1 (Sep.one.1 m),l,j,k⟩,rest⟩,b.apart⟩
theorem aHA{b off:Nat}{c1 c2:ar}(g:bG w b off c1)(f:bG w b off c2)(hl:c1.length=c2.length):c1=c2:=by
 apply aF5;intro j;by_cases d:j<c1.length
 .have a:=g j _ (iS d);have b:=f j _ (iS aa);grind
 grind
theorem R1[aN O]{b off cap:Nat}{l:List O}{Fe:cW}(f:Row w b off (cap*aN.n O))(hc:bG w b off cc)(ho:dC w cc l Fe)(g:Fe.IB (fB b off (cap*aN.n O)))(d:l.length<=cap)(a:cap<=maxLen) :
  aN.own w [.slice (some ⟨b,off,none⟩) l.length cap] l (λb' o=>fB b off (cap*aN.n O) b' o\/Fe b' o):=nS.2 ⟨_,cap,rfl,d,a,.inr ⟨b,off,cc,Fe,rfl,f,hc,ho,g,λ_ _=>Iff.rfl⟩⟩
theorem aIR[aN O](s:St c w L R)(is:av)(r:dV is=true)(n:pick L is=A)(cells rest:ar)(l:List O)(cap:Nat)(g:TypeId)
  (z:∀F,Sep w A F->∃Fe,dC w cells l Fe/\∀b o,Fe b o->F b o) (i:(cells++rest).length=cap*aN.n O) (d:l.length<=cap) (a:cap<=maxLen) :
  St c (w.alloc (.cells (cells++rest).toArray g)) (blank L is++[fF [.slice (some ⟨w.heap.size,0,none⟩) l.length cap] l]) R:=by
 have f:∀j,(w.alloc (.cells (cells++rest).toArray g)).cell? ⟨w.heap.size,j,none⟩=(cells++rest)[j]?:=λj=>ae
 refine s.bEF is r λF u=>?_;obtain⟨Fe,m,D⟩:=z F (n ▸ u);have hk:=eT.alloc F0 w (.cells (cells++rest).toArray g);refine⟨_,F0,hk,λ_ _ h=>h.elim,Sep.one.2 (R1 (λk ho=>?_) (λj v B=>?_) (m.keep hk λ_ _ _ h=>h) (λb k p q=>?_) d a),?_⟩
 .obtain⟨_,_,C⟩:=ho;simp_all
 .grind
 .have:=m.lt p;obtain⟨rfl,_⟩:=q;omega
 .rintro b k (p|p)
  .exact .inr (aAT p.1.symm)
  grind
theorem bEJ[aN O]{i:Int}(g:O)(M:St c w L R)(hn:aN.n O=m)(H:P.underlying t=some (.slice el))(f:Inf P el m z)(l:z.cells.size=m)(B:∀w,aN.own w z.cells.toList g F0)
  (p:0<=i/\i<=4294967296) (ho:o.op=.makeSlice t x y) (G:ev e x=some (.int .i64 i)) (E:ev e y=some (.int .i64 i)) :
  ∃v w',fH P o e w v w'/\St c w' (L++[fF [v] (List.replicate i.toNat g)]) R:=by
 obtain⟨A,N⟩:=p;subst hn;obtain⟨q,J,hz,n,C⟩:=f;have K:(q.bytes:Int)*i<=281474976710656:=by have:(q.bytes:Int)*i<=65536*4294967296:=Int.mul_le_mul aa N A aa;omega
 have r:=run_make (P:=P) w t el q z H J hz .i64 .i64 i i A (O1 _) K aa;rw[n] at r;refine⟨.slice (some ⟨w.heap.size,0,none⟩) i.toNat i.toNat,w.alloc (.cells (madeCells z.cells (i.toNat*aN.n O)) el),λ_ a u=>?_,?_⟩
 rotate_left 1
 .have all:∀(k:Nat) (d:ar),d.length=k*aN.n O->(∀j,j<k->O3 d (aN.n O) j=z.cells.toList)->dC w d (List.replicate k g) F0:=by
   intro k;induction k with
   |zero=>intro d h _;exact⟨vB aa,λ_ _ h=>h⟩
   |succ k D=>
    intro d h I;rw[pL] at h;refine⟨d.take (aN.n O),d.drop (aN.n O),F0,F0,ae,?_,D _ aj λj s=>?_,λ_ _ h _=>h,λb o=>by simp[F0]⟩
    .have:=I 0 aa;grind[O3]
    grind[O3,List.drop_drop]
  have h:=aIR M [] rfl rfl (madeCells z.cells (i.toNat*aN.n O)).toList [] (List.replicate i.toNat g) i.toNat el (λF _=>⟨F0,all _ _ (by simp[size_madeCells]) λj s=>bED l s,λ_ _ h=>h.elim⟩) (by simp[size_madeCells]) ae (by grind[maxLen]);simp only[wW,List.length_replicate] at h;exact h
 .simp[execOp,ho,u.eval G,u.eval E,r]
def OPs{O:Type}[aN O](m:Nat):ar->List O->bj->Prop
 |cs,[],A=>cs=[]/\A=[]
 |cs,x::r,A=>∃B,A=fF (cs.take m) x::B/\(cs.take m).length=m/\OPs m (cs.drop m) r B
theorem OPs.all{O:Type}[aN O]{m:Nat}(hn:aN.n O=m):∀{l:List O} {cs:ar} {A:bj} {F:cW},OPs m cs l A->Sep w A F->dC w cs l F
 |[],cs,A,F,⟨b,a⟩,h=>by subst b;subst a;exact⟨rfl,h⟩
 |x::r,cs,A,F,⟨B,b,_,a⟩,h=>by subst b;obtain⟨k,j,i,g,d,f⟩:=h;exact⟨cs.take m,cs.drop m,k,j,ae,i,OPs.all hn a g,d,f⟩
theorem OPs.len{O:Type}[aN O]{m:Nat}:∀{l:List O} {cs:ar} {A:bj},OPs m cs l A->cs.length=l.length*m
 |[],cs,A,⟨b,a⟩=>by simp[b]
 |x::r,cs,A,⟨B,b,d,a⟩=>by have:=OPs.len a;grind[pL]
theorem bKQ[aN O]{len:Nat}{ps:cw}{cells:ar}(l:List O)(G:St c w L R)(is:av)(E:dV is=true)(j:OPs m cells l (pick L is))(hn:aN.n O=m)(s:P.underlying t=some (.slice el))(f:Inf P el m z)(hl:l.length=len)(D:Nat.ble 1 m=true)(n:Nat.ble (len*m) 16777216=true)
  (ho:o.op=.buildSlice t len ps.toArray) (C:evs e (ps.map (·.2))=some vs) (hc:Instr.fill (λi=>some (i*m,m)) ((Array.range (len*m)).map (λi=>(if len*m=0 then #[] else z.cells)[i % (if len*m=0 then #[] else z.cells).size]!)) ((ps.map (·.1)).zip vs)=some cells.toArray) :
  ∃v w',fH P o e w v w'/\St c w' (blank L is++[fF [v] l]) R:=by
 subst hl;obtain⟨J,u,hz,g,B⟩:=f;have K:=j.len;have r:¬l.length*m > 2 ^ 24:=by simp_all
 have A:l.length<=16777216:=by have:=Nat.le_mul_of_pos_right l.length (XF D);omega
 have d:l.length<=maxLen:=by grind[maxLen]
 have b:=aIR G is E rfl cells [] l l.length el (λF H=>⟨F,j.all hn H,λ_ _ h=>h⟩) aj (jE _) d;rw[wW] at b;refine⟨_,_,λ_ a I=>?_,b⟩;have k:ps.map (λp=>(p.1,a.eval p.2))=(ps.map (·.1)).zip vs:=by rw[<-Y0 I C];grind
 by_cases q:l.length*m=0
 .simp only[q,bS] at hc;simp[execOp,ho,Instr.buildSlice,run_underlying s,sizeOf,typeInfo,u,g,q,k];simp_all[newRow]
 .simp only[q,bN] at hc;simp[execOp,ho,Instr.buildSlice,run_underlying s,sizeOf,typeInfo,zeroValue,u,hz,g,q,r,k];simp_all[newRow]
theorem bKR[aN O]{s2:Value}{l xs:List O}(is:av)(hS:St c w L R)(ha:dV is=true)(hp:pick L is=[fF [s] l,fF [s2] xs])(hn:aN.n O=m)(hu:P.underlying t=some (.slice el))(hinf:Inf P el m z)(hzs:z.cells.size=m)
  (hb:l.length+xs.length<=1073741824) (ho:o.op=.call {callee:=.builtin .append,args:=#[x,y],argTypes:=#[t,t]}) (hx:ev e x=some s) (hy:ev e y=some s2) :
  ∃v w',fH P o e w v w'/\St c w' (blank L is++[fF [v] (l++xs)]) R:=by
 subst hn;obtain⟨ti,T,hz,U,hby⟩:=hinf;have h12:St c w ([fF [s] l,fF [s2] xs]++blank L is) R:=hp ▸ hS.front is ha;obtain⟨F,N⟩:=h12.chunk 0 rfl;obtain⟨G,hG⟩:=h12.chunk 1 rfl;have N:aN.own w [s] l F:=N;have hG:aN.own w [s2] xs G:=hG;obtain⟨E,c2,cc2,rfl,D,X,hr2⟩:=R0 (aN.own_rd hG);obtain⟨ad,d,cc,rfl,W,Y,hr1⟩:=R0 (aN.own_rd N);have Q:=aP1 D hr2;have hlen:(cc++cc2).length=(l++xs).length*aN.n O:=aj
 have A:xs.length=0\/∃b off,E=some ⟨b,off,none⟩/\bG w b off cc2:=X.imp (λh=>by simp[h]) id;have u:=LZ (P:=P) (O:=O) (k:=c2) D A;have n:∀(v:Value) (w':World),(Builtin.append_ #[t,t] o.type #[.slice ad l.length d,.slice E xs.length c2]).run P w=.ok v w'->fH P o e w v w':=by intro v w' h _ a hA;simp[execOp,ho,resolve,invoke,builtin,hA.eval hx,hA.eval hy,h]
 have B:∀{s:Value} {l:List O} {F:cW} {ad:Option Addr} {d:Nat} {cc:ar},s=.slice ad l.length d->aN.own w [s] l F->cc.length=l.length*aN.n O->(l=[]\/∃b off,ad=some ⟨b,off,none⟩/\bG w b off cc)->∃Fe,dC w cc l Fe/\∀b o,Fe b o->F b o:=by
  intro s l F ad d cc e h hl hc;obtain⟨a',c',e',_,_,h3⟩:=nS.1 h;rw[e] at e';simp at e';obtain⟨rfl,rfl⟩:=e';obtain hc|⟨b,off,rfl,hc⟩:=hc
  .subst hc;exact⟨F0,⟨vB aj,λ_ _ h=>h⟩,λ_ _ h=>h.elim⟩
  .obtain⟨h,_⟩|⟨b',K,cc',Fe,h,_,k1,k2,_,N⟩:=h3
   .cases h
   simp at h;obtain⟨rfl,rfl⟩:=h;have:cc'=cc:=aHA k1 hc (by rw[k2.length,hl]);grind
 by_cases i:l.length+xs.length<=d
 ·
  obtain⟨a',cap',e',hlc,hcm,h3⟩:=nS.1 N;simp at e';obtain⟨rfl,rfl⟩:=e';obtain⟨rfl,h0,_⟩|⟨b,off,cc',Fe0,rfl,r,hcc',hoA,hdj0,hFF0⟩:=h3
  .have hl0:l=[]:=vB aa;have hx0:xs=[]:=vB aa;subst hl0;subst hx0;refine⟨.slice none 0 0,w,n _ _ ?_,?_⟩
   .have u:(Builtin.firstCells (aN.n O) 0 (.slice E 0 c2)).run P w=.ok cc2.toArray w:=u;simp[h0,Builtin.append_,run_underlying hu,sizeOf,typeInfo,T,Builtin.lenOf,U,u]
   .rw[wW];refine hS.bEF is ha λF N=>?_;rw[hp] at N;obtain⟨F1,F2,k1,k2,kd,kF⟩:=N;subst h0;exact⟨F1,F0,eT.refl _ _,λ_ _ h=>h.elim,Sep.one.2 k1,λb o h=>.inl ((kF b o).2 (.inl h))⟩
  .have hcc:bG w b off cc:=by
    obtain h|⟨b',K,h,hc⟩:=Y
    .subst h;have:cc=[]:=vB aj;subst this;intro j v hj;simp at hj
    grind
   have hmul:(l.length+xs.length)*aN.n O<=d*aN.n O:=wX _ i;rw[pL] at hmul;obtain⟨w',hst,hk,hws,S⟩:=qP (b:=b) P cc2 w (off+l.length*aN.n O) 0 Q (λq _ hq=>r _ ⟨rfl,aa,aa⟩);refine⟨_,w',n _ _ (by
    have hadd:(⟨b,off,none⟩:Addr).add (l.length*aN.n O)=⟨b,off+l.length*aN.n O,none⟩:=by simp[Addr.add]
    simp[Builtin.append_,run_underlying hu,sizeOf,typeInfo,T,Builtin.lenOf,U,u,i,hadd,hst];rfl),?_⟩
   refine hS.bEF is ha λF2 J=>?_;rw[hp] at J;obtain⟨Fa,Fb,Z,kb,kd,kF⟩:=J;have Z:aN.own w [_] l Fa:=Z;have kb:aN.own w [_] xs Fb:=Sep.one.1 kb;obtain⟨_,_,he2,_,_,hr⟩:=nS.1 Z;simp at he2;obtain⟨rfl,rfl⟩:=he2;obtain⟨h,_,_⟩|⟨b',K,M,Fe,h,hrow2,k1,k2,hdj,I⟩:=hr
   .cases h
   simp at h;obtain⟨rfl,rfl⟩:=h;have ecc:M=cc:=aHA k1 hcc (by rw[k2.length,W]);subst ecc;obtain⟨Fe2,o2,C⟩:=B rfl kb D X;have hkd:∀{G:cW},(∀b' f,G b' f->¬fB b off (d*aN.n O) b' f)->G.IB (λb' f=>b'=b/\off+l.length*aN.n O+0<=f/\f<off+l.length*aN.n O+0+cc2.length):=by rintro G hG b' f g ⟨e1,e2,e3⟩;exact hG b' f g ⟨e1,aa,aa⟩
   have hcc2:bG w' b off (M++cc2):=by
    intro j v hj;rw[aMX] at hj;split at hj
    .rename_i hlt;have hc:=hcc j v hj;rw[hk.cell b (off+j) (World.block_lt_of_cell? w _ hc) (λhh=>by obtain⟨_,e2,_⟩:=hh;omega)];exact hc
    .rename_i hge;have:=S _ v hj;grind
   refine⟨λb' f=>fB b off (d*aN.n O) b' f\/(Fe b' f\/Fe2 b' f),_,hk,?_,Sep.one.2 ?_,?_⟩
   .rintro b' f ⟨e1,e2,e3⟩;exact(kF b' f).2 (.inl ((I b' f).2 (.inl ⟨e1,aa,aa⟩)))
   .have hll:l.length+xs.length=(l++xs).length:=ae
    rw[hll];refine R1 (λf V=>⟨hk.stay b f (r f V).1,(hk.zU b f (j4 (r f V).1)).trans (r f V).2⟩) hcc2 (dC.app (k2.keep hk (hkd λb' f g q=>hdj b' f g q)) (o2.keep hk (hkd λb' f g q=>?_)) (λb' f p q=>?_) λ_ _=>Iff.rfl) ?_ ah hcm
    .exact kd b' f ((I b' f).2 (.inl q)) (C b' f g)
    .exact kd b' f ((I b' f).2 (.inr p)) (C b' f q)
    .rintro b' f (p|p) q
     .exact hdj b' f p q
     .exact kd b' f ((I b' f).2 (.inl q)) (C b' f p)
   grind
 ·
  have H:(l.length+xs.length)*ti.bytes<=140737488355328:=by have:(l.length+xs.length)*ti.bytes<=1073741824*65536:=aIM hb hby;omega
  have hfit:=growslice_fits (need:=l.length+xs.length) (old:=d) (bytes:=ti.bytes) aa H;obtain⟨hge,hle⟩:l.length+xs.length<=grownCap w (l.length+xs.length) d el/\grownCap w (l.length+xs.length) d el<=maxLen:=⟨grownCap_ge _ _ _ _,grownCap_le_maxLen _ _ _ _ (by grind[maxLen])⟩;have hrun:(Builtin.append_ #[t,t] o.type #[.slice ad l.length d,.slice E xs.length c2]).run P w=.ok (.slice (some ⟨w.heap.size,0,none⟩) (l.length+xs.length) (grownCap w (l.length+xs.length) d el)) (w.drew.alloc (.cells (cc.toArray++cc2.toArray++Builtin.zeroCells z.cells (grownCap w (l.length+xs.length) d el-(l.length+xs.length))) el)):=by
   have hn1:¬(l.length+xs.length<=d):=i;have h63':¬(9223372036854775807<((l.length:Int)+(xs.length:Int))):=aa
   have h48':¬(281474976710656<Builtin.nextslicecap (l.length+xs.length) d*ti.bytes):=aa
   have hf1:(Builtin.firstCells (aN.n O) l.length (.slice ad l.length d)).run P w.drew=.ok cc.toArray w.drew:=LZ (O:=O) W (Y.imp (λh=>by simp[h]) id);have u:(Builtin.firstCells (aN.n O) xs.length (.slice E xs.length c2)).run P w.drew=.ok cc2.toArray w.drew:=LZ (O:=O) D A;simp[Builtin.append_,run_underlying hu,sizeOf,typeInfo,zeroValue,T,hz,U,Builtin.lenOf,hn1,h63',h48',Question.forced,hf1,u,newRow,grownCap];grind
  refine⟨_,_,n _ _ hrun,?_⟩;have hz3:(Builtin.zeroCells z.cells (grownCap w (l.length+xs.length) d el-(l.length+xs.length))).toList.length=(grownCap w (l.length+xs.length) d el-(l.length+xs.length))*aN.n O:=by grind[size_zeroCells]
  have htot:((cc++cc2)++(Builtin.zeroCells z.cells (grownCap w (l.length+xs.length) d el-(l.length+xs.length))).toList).length=grownCap w (l.length+xs.length) d el*aN.n O:=by rw[H7,hlen,hz3,H7,<-pL];grind
  have hS':St c w.drew L R:=hS.same (eT.drew F0 w);have hnew:=aIR hS' is ha hp (cc++cc2) (Builtin.zeroCells z.cells (grownCap w (l.length+xs.length) d el-(l.length+xs.length))).toList (l++xs) (grownCap w (l.length+xs.length) d el) el (λF2 J=>by
   obtain⟨Fa,Fb,Z,kb,kd,kF⟩:=J;have Z:aN.own w.drew [_] l Fa:=Z;have kb:aN.own w.drew [_] xs Fb:=Sep.one.1 kb;have drop:eT F0 w.drew w:=⟨rfl,rfl,rfl,jE _,λ_ _ _=>rfl,λ_ _ _ _=>rfl,λ_ _ _=>rfl,λ_ _ h=>h⟩;obtain⟨Fe,o1,h1⟩:=B rfl (aN.own_keep Z drop λ_ _ _ h=>h) W Y;obtain⟨Fe2,o2,h2⟩:=B rfl (aN.own_keep kb drop λ_ _ _ h=>h) D X;have hk:=eT.drew F0 w;exact⟨_,dC.app (o1.keep hk λ_ _ _ h=>h) (o2.keep hk λ_ _ _ h=>h) (λb o p q=>kd b o (h1 b o p) (h2 b o q)) λ_ _=>Iff.rfl,λb o p=>(kF b o).2 (p.imp (h1 b o) (h2 b o))⟩) htot ah hle
  have heq:((cc++cc2)++(Builtin.zeroCells z.cells (grownCap w (l.length+xs.length) d el-(l.length+xs.length))).toList).toArray=cc.toArray++cc2.toArray++Builtin.zeroCells z.cells (grownCap w (l.length+xs.length) d el-(l.length+xs.length)):=ae
  rw[heq] at hnew;simp_all
end
section
variable {v:Value} {k:IntKind} {i:Int} {P:Program} {o:Oper} {e:Env} {w w':World} {c:Ctx} {L:bj} {R:bs} {x y:Operand} {t el:TypeId}
theorem bSO{b q i:Nat}{cs:ar}(I:St c w L R)(H:L[i]?=some (cAt b q cs))(ho:o.op=.store t x y)(T:ev e x=some (.pointer (some ⟨b,q+j,none⟩)))(S:ev e y=some v)(K:v.cells.toList=vs)(hz:∀w,(sizeOf t).run P w=.ok m w)(U:vs.length=m)(V:Nat.ble (j+m) cs.length=true)(h1:vs.all Value.oneCell'=true) :
  ∃w',bSL P o e w w'/\St c w' (L.set i (cAt b q (aIP cs j vs))) R:=by
 subst U;have N:j+vs.length<=cs.length:=XF V;have C:∀v∈vs,v.oneCell'=true:=λv Z=>aj
 obtain⟨F,W⟩:=I.chunk i H;obtain⟨hc,A,_⟩:=W;obtain⟨w',hr,hk,M,g⟩:=qP (b:=b) P vs w (q+j) 0 C (λp _ r=>by
  refine⟨?_,A (q+j+p) ⟨rfl,aa,aa⟩⟩;have:=hc (j+p) _ (iS aa);grind)
 refine⟨w',λ_ a J=>?_,?_⟩
 .have f:v.cells.size=vs.length:=aj
  have z:(storeCells ⟨b,q+j,none⟩ v.cells.toList).run P w=.ok () w':=aj
  simp[execOp,ho,Instr.storeAt,Instr.sureAddr,J.eval T,J.eval S,storeVar,hz,f,z]
 .refine I.aK5 i H λY B=>?_;obtain⟨G,Q,O⟩:=B;have l:(aIP cs j vs).length=cs.length:=aM3 vs cs j;refine⟨Y,_,hk,?_,⟨?_,λd n=>?_,λb' d=>aj⟩,λ_ _ h=>.inl h⟩
  .rintro b' d ⟨X,E,D⟩;exact(O b' d).2 ⟨X,aa,aa⟩
  .intro p u r;rw[a2J vs cs j p aa] at r;split at r
   .have:=g _ u r;grind
   .have s:=G p u r;rw[hk.cell b (q+p) (World.block_lt_of_cell? w _ s) (λhh=>by obtain⟨_,E,D⟩:=hh;omega)];exact s
  .rw[l] at n;obtain⟨_,E,D⟩:=n;have s:=G (d-q) _ (iS aa);rw[show q+(d-q)=d by omega] at s;exact(hk.zU b d (World.block_lt_of_cell? w _ s)).trans (Q d ⟨rfl,E,D⟩)
theorem bKS(h:St c w L R)[aN O]{l:List O}{k:Nat}(i:Nat)(d:L[i]?=some (vD s l k)):∃b off m,s=.slice (some ⟨b,off,none⟩) l.length m/\l.length<=maxLen:=by obtain⟨F,a,n,b,off,c1,p,r,q,e,j,g,f,rfl,_⟩:=h.chunk i d;grind
theorem bKT[aN O]{l:List O}{el:Nat}{q:O}(h:∃b off m,s=.slice (some ⟨b,off,none⟩) l.length m/\l.length<=maxLen)(f:aN.n O=m)(p:idx l i=some q)(n:P.underlying t=some (.slice el))(hz:∀w,(sizeOf el).run P w=.ok m w)(ho:o.op=.indexAddr t x y)(j:ev e x=some s)(g:ev e y=some (.int k i)):fH P o e w (.pointer (some ⟨elB s,elO m i.toNat s,none⟩)) w:=by
 obtain⟨z,u,A⟩:=D2 p;obtain⟨b,off,B,rfl,_⟩:=h;intro _ a d;have r:(⟨b,off,none⟩:Addr).add (i.toNat*m)=⟨b,off+i.toNat*m,none⟩:=by grind[Addr.add]
 simp[execOp,ho,Instr.indexAt,d.eval j,d.eval g,asIntOf,run_underlying n,z,u,hz,r,elB,elO]
theorem bEK[aN O]{w:World}:aN.own w [.slice none 0 0] ([]:List O) F0:=⟨none,0,rfl,jE _,iT _,.inl ⟨rfl,rfl,λ_ _ h=>h⟩⟩
theorem aNN{w:World}:∀ch∈([]:bj),ch.P w F0:=λ_ h=>nomatch h
theorem y6{w:World}[aN O](h:∀ch∈A,ch.P w F0):∀ch∈fF [.slice none 0 0] ([]:List O)::A,ch.P w F0:=λch hc=>by
 obtain rfl|hc:=lO.1 hc
 .exact bEK
 grind
theorem E8{w:World}[aN O]{cs:ar}{d:O}(h:OP cs d A)(hz:∀ch∈A,ch.P w F0):aN.own w cs d F0:=by
 refine(h w F0).2 ?_;clear h;induction A with
 |nil=>exact λ_ _ h=>h
 |cons a A f=>exact⟨F0,F0,hz a ae,f λch hc=>hz ch (by simp[hc]),λ_ _ h=>h.elim,λb o=>by simp[F0]⟩
theorem aK7:∀{is:av} {L:bj} {j:Nat},(is.all λi=>!Nat.beq i j)=true->(blank L is)[j]?=L[j]?
 |[],L,j,_=>rfl
 |i::r,L,j,h=>by
  simp only[aF3,yV,a2C] at h;have a:i≠j:=λe=>by simp_all
  show(blank (L.set i QD) r)[j]?=_;rw[aK7 h.2,List.getElem?_set_ne a]
theorem all_cons{Q:Fact->Prop}{f:Fact}{l:bs}(h:Q f)(hl:∀f∈l,Q f):∀g∈f::l,Q g:=aj
theorem bBK{b q:Nat}{A B C:ar}(h:(cAt b q (A++(B++C))).P w F):Sep w [cAt b q A,cAt b (q+A.length) B,cAt b (q+A.length+B.length) C] F:=by
 obtain⟨D,f,m⟩:=h;obtain⟨z,g⟩:=HF D;obtain⟨u,s⟩:=HF g;simp only[H7] at f m;refine⟨fB b q A.length,λb' o=>fB b (q+A.length) B.length b' o\/fB b (q+A.length+B.length) C.length b' o,⟨z,λo p=>f o ⟨rfl,by have:=p.2;omega,by have:=p.2;omega⟩,λ_ _=>Iff.rfl⟩,
  ⟨fB b (q+A.length) B.length,fB b (q+A.length+B.length) C.length,⟨u,λo p=>f o ⟨rfl,by have:=p.2;omega,by have:=p.2;omega⟩,λ_ _=>Iff.rfl⟩,Sep.one.2 ⟨s,λo p=>f o ⟨rfl,by have:=p.2;omega,by have:=p.2;omega⟩,λ_ _=>Iff.rfl⟩,?_,λ_ _=>Iff.rfl⟩,?_,λb' o=>?_⟩
 .rintro b' o ⟨_,a,d⟩ ⟨_,l,j⟩;omega
 .rintro b' o ⟨_,a,d⟩ (⟨_,l,j⟩|⟨_,l,j⟩)<;>omega
 .rw[m];constructor
  .rintro⟨e,a,d⟩;by_cases r:o<q+A.length
   .exact .inl ⟨e,a,r⟩
   .by_cases n:o<q+A.length+B.length
    .exact .inr (.inl ⟨e,aa,n⟩)
    .exact .inr (.inr ⟨e,aa,aa⟩)
  .rintro(⟨e,a,d⟩|⟨e,a,d⟩|⟨e,a,d⟩)<;>exact⟨e,aa,aa⟩
theorem bEL{b q:Nat}{A B C:ar}(h:Sep w [cAt b q A,cAt b (q+A.length) B,cAt b (q+A.length+B.length) C] F):(cAt b q (A++(B++C))).P w F:=by
 obtain⟨J,m,⟨G,E,D⟩,⟨I,H,⟨b1,z,u⟩,n,_,g⟩,_,f⟩:=h;obtain⟨c1,s,r⟩:=Sep.one.1 n;refine⟨Y1 G (Y1 b1 c1),λo p=>?_,λb' o=>?_⟩
 .obtain⟨_,a,d⟩:=p;simp only[H7] at d;by_cases l:o<q+A.length
  .exact E o ⟨rfl,a,l⟩
  .by_cases j:o<q+A.length+B.length
   .exact z o ⟨rfl,aa,j⟩
   .exact s o ⟨rfl,aa,aa⟩
 .rw[f,g,D,u,r];simp only[H7];constructor
  .rintro(⟨e,a,d⟩|⟨e,a,d⟩|⟨e,a,d⟩)<;>exact⟨e,aa,aa⟩
  .rintro⟨e,a,d⟩;by_cases l:o<q+A.length
   .exact .inl ⟨e,a,l⟩
   .by_cases j:o<q+A.length+B.length
    .exact .inr (.inl ⟨e,aa,j⟩)
    .exact .inr (.inr ⟨e,aa,aa⟩)
end
def jF(n l h:Nat):Value->Value
 |.slice a _ cap=>.slice (if cap=l then a else a.map (·.add (l*n))) (h-l) (cap-l)
 |v=>v
def BY{l:List O}{a b:Nat}(d:a<=b)(c:b<=l.length):((l.take b).drop a).length=b-a:=ah
def bKU{l:List O}{a b:Nat}(d:b<=l.length)(c:i<b-a):((l.take b).drop a)[i]?=l[a+i]?:=aj
def a50[aN O]{S:cW}{l:List O}{a b:Nat}(hn:aN.n O=n)(h:aN.rd S w [s] l)(o:a<=b)(k:b<=l.length):aN.rd S w [jF n a b s] ((l.take b).drop a):=by
 subst hn;obtain⟨m,c,e,q,p,d⟩:=(show sN S w [s] l from h);simp at e;subst e;have hl:=BY o k;refine⟨if c=a then m else m.map (·.add (a*aN.n O)),c-a,by grind[jF],aa,aa,?_⟩;by_cases t:b=a
 .grind
 .right;obtain d|⟨f,off,rfl,d⟩:=d
  .grind
  .have g:(⟨f,off,none⟩:Addr).add (a*aN.n O)=⟨f,off+a*aN.n O,none⟩:=by grind[Addr.add]
   refine⟨f,off+a*aN.n O,aj,λi j=>?_⟩;rw[hl] at j;have r:=bKU k j;grind
def a8P[aN O]{l:List O}{a b:Nat}(hn:aN.n O=n)(h:aN.own w [s] l F)(N:a<=b)(M:b<=l.length):∃B,aN.own w [jF n a b s] ((l.take b).drop a) B/\∀b o,B b o->F b o:=by
 subst hn;obtain⟨ad,c,e,Y,X,H⟩:=nS.1 h;subst e;have hl:=BY N M;obtain⟨rfl,rfl,A⟩|⟨d,off,cc,Fe,rfl,I,hc,ho,J,A⟩:=H
 .have:l=[]:=vB aa;subst this;have L:a=0:=aa
  have K:b=0:=aa
  subst L;subst K;exact⟨F0,⟨none,0,rfl,jE _,iT _,.inl ⟨rfl,rfl,λ_ _ h=>h⟩⟩,λ_ _ h=>h.elim⟩
 .have S:l=l.take a++((l.take b).drop a++l.drop b):=by grind[aGA]
  rw[S] at ho;obtain⟨c1,C,F1,D,rfl,G,k,d1,Q⟩:=ho.split;obtain⟨c2,c3,T,F3,rfl,E,W,Z,P⟩:=k.split;have z:=G.length;rw[aF6,Nat.min_eq_left aa] at z;obtain⟨V,i⟩:=HF hc;obtain⟨y,U⟩:=HF i;rw[z] at y;by_cases g:c=a
  .have m:b=a:=aa
   have hz:(l.take b).drop a=[]:=aj
   refine⟨F0,?_,λ_ _ h=>h.elim⟩;rw[hz];simp only[jF,g,m,Nat.sub_self,bS];exact nS.2 ⟨some ⟨d,off,none⟩,0,rfl,jE _,iT _,.inr ⟨d,off,[],F0,rfl,λo p=>by obtain⟨_,t,r⟩:=p;omega,λj v h=>by simp at h,⟨rfl,λ_ _ h=>h⟩,λ_ _ h=>h.elim,λb' o=>by
    simp[F0,fB]⟩⟩
  .have x:a*aN.n O+(c-a)*aN.n O=c*aN.n O:=by rw[<-pL];grind
   refine⟨λb' o=>fB d (off+a*aN.n O) ((c-a)*aN.n O) b' o\/T b' o,?_,?_⟩
   .have R:jF (aN.n O) a b (.slice (some ⟨d,off,none⟩) l.length c)=.slice (some ⟨d,off+a*aN.n O,none⟩) ((l.take b).drop a).length (c-a):=by
     have f:(⟨d,off,none⟩:Addr).add (a*aN.n O)=⟨d,off+a*aN.n O,none⟩:=by simp[Addr.add]
     simp only[jF,hl,aO g,Option.map_some,f]
    rw[R];refine R1 (λo p=>I o ?_) y E (λb' o p q=>J b' o ((Q b' o).2 (.inr ((P b' o).2 (.inl p)))) ?_) aa aa
    .obtain⟨_,t,r⟩:=p;exact⟨rfl,aa,aa⟩
    .obtain⟨u,t,r⟩:=q;exact⟨u,aa,aa⟩
   .rintro b' o (p|p)
    .obtain⟨u,t,r⟩:=p;exact(A b' o).2 (.inl ⟨u,aa,aa⟩)
    grind
section
variable {v:Value} {k k2:IntKind} {i j:Int} {P:Program} {o:Oper} {e:Env} {w w':World} {c:Ctx} {L:bj} {R:bs} {x y z:Operand} {t el:TypeId}
theorem St.iV(h:St c w L R)[aN O]{l:List O}{a b:Nat}(m:Nat)(f:R[m]?=some (fRd [s] l))(hn:aN.n O=n)(r:a<=b)(q:b<=l.length):St c w L (R++[fRd [jF n a b s] ((l.take b).drop a)]):=h.derive m f λS p g d=>by simp at d;subst d;exact a50 hn p r q
theorem aRG[aN O]{S:cW}{l:List O}(h:aN.rd S w [s] l):∃a cp,s=.slice a l.length cp/\l.length<=cp:=by obtain⟨a,cp,e,b,_⟩:=(show sN S w [s] l from h);grind
theorem bBL[aN O]{S:cW}{l:List O}(h:aN.rd S w [s] l)(hn:aN.n O=n)(m:P.underlying t=some (.slice el))(hz:∀w,(sizeOf el).run P w=.ok n w)(p:0<=i/\i<=j/\j<=l.length)(ho:o.op=.slice t x (some y) (some z) none)(f:ev e x=some s)(d:ev e y=some (.int k i))(g:ev e z=some (.int k2 j)):fH P o e w (jF n i.toNat j.toNat s) w:=λ_ a b=>by
 obtain⟨D,A,rfl,hc⟩:=aRG h;obtain⟨B,b1,C⟩:=p;have u:j<=(A:Int):=aa
 have q:0<=j:=aa
 have r:max j 0=j:=aa
 simp[execOp,ho,Instr.sliceAt,Instr.slice,run_underlying m,Instr.sliceBounds,b.eval f,b.eval d,b.eval g,Instr.sliceBound,asIntOf,hz,B,b1,u,r,q,jF]
theorem bEM[aN O]{S:cW}{l:List O}(h:aN.rd S w [s] l)(hn:aN.n O=n)(g:P.underlying t=some (.slice el))(hz:∀w,(sizeOf el).run P w=.ok n w)(m:0<=j/\j<=l.length)(ho:o.op=.slice t x none (some z) none)(d:ev e x=some s)(f:ev e z=some (.int k2 j)):fH P o e w (jF n 0 j.toNat s) w:=λ_ a b=>by
 obtain⟨u,q,rfl,hc⟩:=aRG h;obtain⟨r,b1⟩:=m;have p:j<=(q:Int):=aa
 simp[execOp,ho,Instr.sliceAt,Instr.slice,run_underlying g,Instr.sliceBounds,b.eval d,b.eval f,Instr.sliceBound,asIntOf,hz,r,p,jF]
theorem bKV{q:UInt8}(h:P.underlying t=some .string)(m:idx l i=some q)(ho:o.op=.index t x y)(g:ev e x=some (sv l))(f:ev e y=some (.int k i)):fH P o e w (.int .u8 (q.toNat:Int)) w:=λ_ a d=>by
 obtain⟨p,r,b⟩:=D2 m;have n:(⟨l.toArray⟩:ByteArray)[i.toNat]?=some q:=by rw[getElem?_pos _ _ (by simp[ByteArray.size];omega)];rw[iS aa] at b;simp only[Option.some.injEq] at b;rw[<-b];rfl
 simp[execOp,ho,Instr.index,run_underlying h,d.eval g,d.eval f,asIntOf,p,n]
theorem bPV(ho:o.op=.call {callee:=.builtin .min,args:=#[x,y],argTypes:=#[t,el]})(f:ev e x=some (.int .i64 i))(d:ev e y=some (.int k j)):fH P o e w (.int .i64 (if j<i then j else i)) w:=λ_ a b=>by simp[execOp,ho,resolve,invoke,builtin,Builtin.min_,Builtin.min2,b.eval f,b.eval d]
theorem bPW(ho:o.op=.call {callee:=.builtin .max,args:=#[x,y],argTypes:=#[t,el]})(f:ev e x=some (.int .i64 i))(d:ev e y=some (.int k j)):fH P o e w (.int .i64 (if i<j then j else i)) w:=λ_ a b=>by simp[execOp,ho,resolve,invoke,builtin,Builtin.max_,Builtin.max2,b.eval f,b.eval d]
theorem aRH:∀(l:bh) (s:ByteArray),(l.map λq=>(q.toNat:Int)).foldl (λr n=>r.push (UInt8.ofNat n.toNat)) s=⟨s.data++l.toArray⟩
 |[],s=>ae
 |q::l,s=>by rw[LM,List.foldl_cons,aRH l];simp
theorem bPX{S:cW}{r:TypeId}(h:aN.rd S w [s] l)(B:P.underlying t=some (.slice el))(D:P.underlying el=some (.int .u8))(m:P.underlying r=some .string)(ho:o.op=.convert t r x)(A:ev e x=some s):fH P o e w (sv l) w:=λ_ a E=>by
 obtain⟨u,p,d,rfl,g,f,F⟩:=R0 h;have n:d=(l.map λq=>(q.toNat:Int)).map (Value.int .u8):=by
  have g:d.length=l.length*1:=g;apply aF5;intro i;by_cases C:i<l.length
  .have:=F i l[i] (iS C);have:O3 d 1 i=[.int .u8 (l[i].toNat:Int)]:=this;have G:(O3 d 1 i)[0]?=d[i*1+0]?:=vM aa;grind
  grind
 have key:(Conv.bytesToString (.slice u l.length p)).run P w=.ok (sv l) w:=by
  obtain f|⟨b,off,rfl,f⟩:=f
  .subst f;cases u with
   |none=>rfl
   |some a=>
    rw[show([]:bh).length=0 from rfl,run_bytesToString w a 0 p [] (by simp[loadCells,loadCellsFrom])];rfl
  .rw[run_bytesToString w _ _ p _ (by
    have:=tE f P;have g:d.length=l.length*1:=g;rw[g,Nat.mul_one] at this;rw[<-n];exact this),aRH]
   simp[sv]
 simp[execOp,ho,convert,run_underlying B,run_underlying m,run_underlying D,E.eval A,key]
theorem bPY(f:O->Value){l:List O}{q:O}{cs:bw}(p:P.underlying t=some (.array n el))(hz:∀w,(sizeOf el).run P w=.ok 1 w)(s:∀w,(isAgg el).run P w=.ok false w)(r:idx l i=some q)(hn:l.length=n)(b:cs=(l.map f).toArray)(ho:o.op=.index t x y)(m:ev e x=some (.agg cs))(h:ev e y=some (.int k i)):fH P o e w (f q) w:=λ_ a g=>by obtain⟨B,A,u⟩:=D2 r;subst hn;subst b;have d:=u;rw[iS aa] at d;simp only[Option.some.injEq] at d;simp[execOp,ho,Instr.index,run_underlying p,g.eval m,g.eval h,asIntOf,B,A,hz,part,s,d]
theorem bBM{b:Value}{ps:cw}{cells:bw}(ho:o.op=.build t ps.toArray)(hz:∀w,(zeroValue t).run P w=.ok b w)(g:P.underlying t=some (.array n el))
  (h:∀w,(sizeOf el).run P w=.ok m w) (d:evs e (ps.map (·.2))=some vs) (hc:Instr.fill (λi=>some (i*m,m)) b.cells ((ps.map (·.1)).zip vs)=some cells):fH P o e w (.agg cells) w:=λ_ a f=>by
 have l:ps.map (λp=>(p.1,a.eval p.2))=(ps.map (·.1)).zip vs:=by rw[<-Y0 f d];grind
 simp_all[execOp,Instr.build,run_underlying]
theorem bKW[aN O]{l:Value}(n:St c w L R)(hn:aN.n O=m)(q:P.underlying t=some (.slice el))(d:Inf P el m l)(ho:o.op=.buildSlice t 0 #[]) :
  ∃v w',fH P o e w v w'/\St c w' (L++[fF [v] ([]:List O)]) R:=by obtain⟨p,r,hz,f,g⟩:=d;have b:=aIR (O:=O) n [] rfl rfl [] [] [] 0 el (λF _=>⟨F0,⟨rfl,λ_ _ h=>h⟩,λ_ _ h=>h.elim⟩) ae (jE _) (iT _);refine⟨_,_,λ_ a s=>?_,b⟩;simp_all[Array.eq_empty_of_size_eq_zero,execOp,Instr.buildSlice,run_underlying,sizeOf,typeInfo,Instr.fill,newRow]
theorem bEN{a v c0:Value}(hc:v.cells=#[c0]):Instr.fill (λi=>some (i*1,1)) ((Array.range (1*1)).map (λi=>(if 1*1=0 then #[] else a.cells)[i % (if 1*1=0 then #[] else a.cells).size]!)) [(0,v)]=some #[c0]:=by have b:Array.range 1=#[0]:=rfl;simp_all[Instr.fill]
theorem bKX[aN O][Flat O](q:O){x:Operand}{v c0 d:Value}(h:St c w L R)(hn:aN.n O=1)(g:P.underlying t=some (.slice el))(a:Inf P el 1 d)(b:aN.rd F0 default [c0] q)
  (ho:o.op=.buildSlice t 1 #[(0,x)]) (f:ev e x=some v) (hc:v.cells=#[c0]) :
  ∃v w',fH P o e w v w'/\St c w' (L++[fF [v] [q]]) R:=by refine bEE (ps:=[(0,x)]) (vs:=[v]) (cells:=[c0]) [q] h hn g a rfl ak ak ⟨b,rfl⟩ ho (by simp[evs,f]) ?_;exact bEN hc
theorem bEO{D:Nat}(a:P.underlying t=some (.slice el)):(Op.equalIn (D+1) t (.slice none n m) (.slice none 0 0)).run P w=.ok true w:=by simp[Op.equalIn,run_underlying a]
theorem bEP{D:Nat}{b:Addr}(a:P.underlying t=some (.slice el)):(Op.equalIn (D+1) t (.slice (some b) n m) (.slice none 0 0)).run P w=.ok false w:=by simp[Op.equalIn,run_underlying a]
theorem a51{d:TypeId}(l:P.underlying t=some (.slice el))(h:∃n m,s=.slice none n m)(ho:o.op=.binOp .eql t x y d)(g:ev e x=some s)(f:ev e y=some (.slice none 0 0)):fH P o e w (.bool true) w:=λ_ a b=>by obtain⟨n,m,rfl⟩:=h;have q:binOp .eql t (.slice none n m) (.slice none 0 0)=(do pure (.bool (<-Op.equal t (.slice none n m) (.slice none 0 0)))):=rfl;have p:(Op.equal t (.slice none n m) (.slice none 0 0)).run P w=.ok true w:=bEO (D:=9999) l;simp[execOp,ho,b.eval g,b.eval f,eqGuard,q,p]
theorem a52{f:TypeId}(p:P.underlying t=some (.slice el))(h:∃a n m,s=.slice (some a) n m)(ho:o.op=.binOp .eql t x y f)(l:ev e x=some s)(g:ev e y=some (.slice none 0 0)):fH P o e w (.bool false) w:=λ_ a d=>by obtain⟨b,n,m,rfl⟩:=h;have r:binOp .eql t (.slice (some b) n m) (.slice none 0 0)=(do pure (.bool (<-Op.equal t (.slice (some b) n m) (.slice none 0 0)))):=rfl;have q:(Op.equal t (.slice (some b) n m) (.slice none 0 0)).run P w=.ok false w:=bEP (D:=9999) p;simp[execOp,ho,d.eval l,d.eval g,eqGuard,r,q]
end
structure Raw where
 v:Value
abbrev cg:=List Raw
abbrev cz:=List (List Raw)
instance:Inhabited Raw:=⟨⟨.slice none 0 0⟩⟩
instance:aN Raw where
 n:=1
 rd:=λ_ _ cs x=>cs=[x.v]/\x.v.oneCell'=true
 own:=λ_ cs x F=>(cs=[x.v]/\x.v.oneCell'=true)/\∀b o,¬F b o
 mD:=λh=>by simp[h.1]
 rd_one:=λh v hv=>aj
 rd_agree:=λh _=>h
 rd_mono:=λh _=>h
 own_rd:=λh=>h.1
 own_keep:=λh _ _=>h
 own_lt:=λh hf=>(h.2 _ _ hf).elim
instance:Flat Raw:=⟨λh=>⟨h,λ_ _ h=>h⟩,λh=>h.2⟩
def aCI{O:Type}[aN O](S:cW)(w:World)(us:cg)(l:List O):Prop:=us.length=l.length/\∀(i:Nat) (u:Raw) (x:O),us[i]?=some u->l[i]?=some x->aN.rd S w [u.v] x
theorem aCI.append[aN O]{S:cW}{us vs:cg}{l m:List O}(h:aCI S w us l)(k:aCI S w vs m):aCI S w (us++vs) (l++m):=by
 refine⟨by simp[h.1,k.1],λi u x c b=>?_⟩;rw[aMX] at c b;rw[h.1] at c;split at c
 .rename_i a;rw[aM a] at b;exact h.2 i u x c b
 .rename_i a;rw[aO a] at b;exact k.2 _ u x c b
def bPZ[aN O](hn:aN.n O=1){S:cW}{l:List O}(h:aN.rd S w [s] l):∃us:cg,aN.rd S w [s] us/\aCI S w us l:=by
 obtain⟨y,c,e,t,m,d⟩:=(show sN S w [s] l from h);obtain d|⟨b,off,rfl,d⟩:=d
 .subst d;exact⟨[],⟨y,c,e,t,m,.inl rfl⟩,rfl,λi u x j=>by simp at j⟩
 .have r:∀i,i<l.length->∃v:Value,bG w b (off+i*1) [v]/\(∀o,fB b (off+i*1) 1 b o->S b o)/\v.oneCell'=true/\∀x,l[i]?=some x->aN.rd S w [v] x:=λi k=>by obtain⟨ec,q,p,n⟩:=d i k;have hl:=aN.mD n;rw[hn] at hl q p;grind[List.length_eq_one_iff,aN.rd_one]
  obtain⟨f,g⟩:=Go.Deep.choose_lt (α:=Value) r;refine⟨(List.range l.length).map λi=>⟨f i⟩,⟨_,c,by rw[e];simp,aj,m,.inr ⟨b,off,rfl,λi k=>?_⟩⟩,ae,λi u x j z=>?_⟩
  .have a:i<l.length:=aj
   refine⟨[f i],(g i a).1,(g i a).2.1,?_⟩;simp only[List.getElem_map,List.getElem_range];exact⟨rfl,(g i a).2.2.1⟩
  grind
def bEQ[aN O](hn:aN.n O=1){S:cW}{us:cg}{l:List O}(h:aN.rd S w [s] us)(f:aCI S w us l):aN.rd S w [s] l:=by
 obtain⟨o,c,e,n,m,a⟩:=(show sN S w [s] us from h);have hl:us.length=l.length:=f.1;refine⟨o,c,by rw[e,hl],hl ▸ n,m,?_⟩;obtain a|⟨b,off,rfl,a⟩:=a
 .grind
 .right;refine⟨b,off,rfl,λi k=>?_⟩;obtain⟨ec,j,g,d⟩:=a i aa;have d:ec=[(us[i]' aa).v]/\_:=d;refine⟨ec,by rw[hn];exact j,by rw[hn];exact g,?_⟩;rw[d.1];exact f.2 i _ _ (iS _) (iS k)
def bER(s:Value)(n:Nat):Chunk where
 P:=λw F=>∃b off len c,s=.slice (some ⟨b,off,none⟩) len c/\c<=maxLen/\Row w b off (c*n)/\∀b' o,F b' o↔fB b off (c*n) b' o
 keep:=by rintro w w' F G ⟨b,off,len,c,e,f,a,d⟩ hk h;exact⟨b,off,len,c,e,f,λo p=>⟨hk.stay b o (a o p).1,(hk.zU b o (j4 (a o p).1)).trans (a o p).2⟩,d⟩
 lt:=by rintro w F b' o ⟨b,off,len,c,e,f,a,d⟩ g;have p:=(d b' o).1 g;obtain rfl:b'=b:=p.1;exact j4 (a o p).1
section
variable {v:Value} {k k2:IntKind} {i j:Int} {P:Program} {o:Oper} {e:Env} {w w':World} {c:Ctx} {L:bj} {R:bs} {x y z:Operand} {t t2 el:TypeId}
theorem St.bP0(h:St c w L R)[aN O](m:Nat)(f:L[m]?=some (bER s n))(hn:aN.n O=n):St c w (L.set m (fF [jF n 0 0 s] ([]:List O))) R:=
 h.aK5 m f λF d=>by
  obtain⟨b,off,len,cp,rfl,p,g,d⟩:=d;have e:jF n 0 0 (.slice (some ⟨b,off,none⟩) len cp)=.slice (some ⟨b,off,none⟩) 0 cp:=by simp[jF,Addr.add]
  subst hn;refine⟨λb' a=>fB b off (cp*aN.n O) b' a\/F0 b' a,F0,eT.refl _ _,λ_ _ h=>h.elim,?_,λb' a q=>.inl ((d b' a).2 (q.elim id λq=>q.elim))⟩;show aN.own w [_] ([]:List O) _;rw[e];exact R1 (l:=([]:List O)) (cc:=[]) (Fe:=F0) g (λj v h=>by simp at h) ⟨rfl,λ_ _ h=>h⟩ (λ_ _ h=>h.elim) (iT _) p
theorem bBN(d:P.underlying t=some (.slice el))(ho:o.op=.call {callee:=.builtin .cap,args:=#[x],argTypes:=#[t]})(b:ev e x=some (.slice none 0 0)):fH P o e w (.int .i64 0) w:=λ_ a f=>by simp[execOp,ho,resolve,invoke,builtin,Builtin.cap_,f.eval b,run_underlying d,goInt]
theorem bKY{z:Value}(Z:St c w L R)(V:P.underlying t=some (.slice el))(u:P.underlying t2=some (.int k))(l:Inf P el m z)(s:z.cells.size=m)(W:Nat.ble 1 m=true)
  (Y:1<=i/\i<=1073741824) (ho:o.op=.call {callee:=.builtin .append,args:=#[x,y],argTypes:=#[t,t2]}) (T:ev e x=some (.slice none 0 0)) (S:ev e y=some (.int .i64 i)) :
  ∃v w',fH P o e w v w'/\St c w' (L++[bER v m]) R/\∃ad cp,v=.slice ad i.toNat cp:=by
 obtain⟨r,A,hz,B,H⟩:=l;obtain⟨b0,b1⟩:=Y;have U:IntKind.i64.wrap i=i:=by grind[IntKind.wrap,IntKind.bits]
 have E:¬(i.toNat<=0):=aa
 have f:i.toNat*r.bytes<=140737488355328:=by have:i.toNat*r.bytes<=1073741824*65536:=aIM aa H;omega
 have K:=growslice_fits (need:=i.toNat) (old:=0) (bytes:=r.bytes) aa f;obtain⟨O,F⟩:i.toNat<=grownCap w i.toNat 0 el/\grownCap w i.toNat 0 el<=maxLen:=⟨grownCap_ge _ _ _ _,grownCap_le_maxLen _ _ _ _ (by grind[maxLen])⟩;have d:∃cs:bw,cs.size=grownCap w i.toNat 0 el*m/\(Builtin.append_ #[t,t2] o.type #[.slice none 0 0,.int .i64 i]).run P w=.ok (.slice (some ⟨w.heap.size,0,none⟩) i.toNat (grownCap w i.toNat 0 el)) (w.drew.alloc (.cells cs el)):=by
  have D:¬(i<=0):=aa
  have X:(i.toNat:Int)=i:=aa
  have n:¬(9223372036854775807<i):=aa
  have q:¬(281474976710656<Builtin.nextslicecap i.toNat 0*r.bytes):=aa
  have I:¬(281474976710656<i*(r.bytes:Int)):=aj
  have g:¬(i<0):=aa
  have h:max i 0=i:=aa
  have N:=XF W;have C:¬(i.toNat*m=0):=by grind[Nat.mul_eq_zero]
  refine⟨Builtin.zeroCells z.cells i.toNat++Builtin.zeroCells z.cells (grownCap w i.toNat 0 el-i.toNat),?_,?_⟩
  rotate_left 1
  .have G:(Builtin.firstCells m 0 (.slice none 0 0)).run P w.drew=.ok #[] w.drew:=rfl;simp[Builtin.append_,run_underlying V,run_underlying u,sizeOf,typeInfo,zeroValue,A,hz,B,Builtin.lenOf,asInt,asIntOf,U,g,I,E,n,q,Question.forced,newRow,grownCap,G,C,X,D,h]
  .rw[Array.size_append,size_zeroCells,size_zeroCells,s,<-pL];grind
 obtain⟨cs,Q,d⟩:=d;refine⟨.slice (some ⟨w.heap.size,0,none⟩) i.toNat (grownCap w i.toNat 0 el),w.drew.alloc (.cells cs el),λ_ a M=>?_,?_,_,_,rfl⟩
 rotate_left 1
 .refine(Z.same (eT.drew F0 w)).more (eT.alloc _ _ _) ⟨fB w.heap.size 0 (grownCap w i.toNat 0 el*m),⟨_,_,_,_,rfl,F,λJ p=>?_,λ_ _=>Iff.rfl⟩,λb J p=>aAT p.1.symm⟩;obtain⟨_,_,h3⟩:=p;refine⟨?_,World.frozen?_alloc_at (hn:=rfl) ..⟩;have h4:(w.drew.alloc (.cells cs el)).cell? ⟨w.drew.heap.size,J,none⟩=cs[J]?:=by grind[World.cell?_alloc_at]
  simp_all
 .simp[execOp,ho,resolve,invoke,builtin,M.eval T,M.eval S,d]
theorem a8Q(h:∃f len d,s=.slice f len d)(m:P.underlying t=some (.slice el))(hz:∀w,(sizeOf el).run P w=.ok n w)(ho:o.op=.slice t x none (some z) none)(g:ev e x=some s)(l:ev e z=some (.int k2 0)):fH P o e w (jF n 0 0 s) w:=λ_ a b=>by obtain⟨f,len,d,rfl⟩:=h;simp[execOp,ho,Instr.sliceAt,Instr.slice,run_underlying m,Instr.sliceBounds,b.eval g,b.eval l,Instr.sliceBound,asIntOf,hz,jF]
end
open Go.ChangeShapes Go.WideShapes Go.ChangeAt Go.RowKit
class Fits (O:Type) where
 fit:O->Prop
abbrev fit{O:Type}[Fits O](x:O):Prop:=Fits.fit x
instance:Fits Int:=⟨λx=>-9223372036854775808<=x/\x<=9223372036854775807⟩
instance:Fits Bool:=⟨λ_=>True⟩
instance:Fits UInt8:=⟨λ_=>True⟩
instance:Fits bO6:=⟨λs=>s.b.length<=maxLen⟩
instance {O β:Type} [Fits O] [Fits β]:Fits (O×β):=⟨λp=>fit p.1/\fit p.2⟩
instance {O:Type} [Fits O]:Fits (List O):=⟨λl=>l.length<=maxLen/\∀x∈l,fit x⟩
@[reducible] def Fits.via {O β : Type} [Fits β] (f : O -> β) : Fits O := ⟨λx => fit (f x)⟩
def aEU(P:Program)(t:TypeId)(O:Type)[aN O][Fits O]:Prop:=
 ∀{H:Type} {enc:TypeId×Value->H} {w:World} {spare:Nat->Bool} {held:Bool} {fuel:Nat} {cs:ar} {x:DataW H×List MemPlace},
  DataW.trod enc P w 0 spare held fuel t cs=some x->∃d:O,aN.rd (All w) w cs d/\fit d
def bES(a:P.underlying t=some (.int .u8)):aEU P t UInt8:=λh=>by
 obtain⟨n,rfl,_,b⟩:=DataW.trod_int a h;have c:0<=n/\n<=255:=by simpa[Lit.wf,show IntKind.u8.min=0 by decide,show IntKind.u8.max=255 by decide] using b
 refine⟨UInt8.ofNat n.toNat,?_,trivial⟩;show [Value.int .u8 n]=[Value.int .u8 ((UInt8.ofNat n.toNat).toNat:Int)]
 (simp_all;omega)
def a2L{e:TypeId}[aN O][Fits O](E:P.underlying t=some (.slice e))(hc:P.cellsOf e=aN.n O)(hn:0<aN.n O)(I:aEU P e O):aEU P t (List O):=λ{H enc w spare held fuel cs x} h=>by
 obtain⟨rfl,_⟩|⟨a,len,cap,m,n,D,L,rfl,_,hl,hm,A,_,k⟩:=Go.Deep.open_slice E h
 .exact⟨[],⟨none,0,rfl,jE _,iT _,.inl rfl⟩,iT _,λ_ h=>nomatch h⟩
 .have B:len<=m:=aj
  rw[hc] at k;by_cases J:len=0
  .subst J;exact⟨[],⟨some a,cap,rfl,iT _,hm,.inl rfl⟩,iT _,λ_ h=>nomatch h⟩
  have one:∀i,i<len->∃d:O,(∃ec,w.cells? 0 (a.add (i*aN.n O)) (aN.n O)=some ec/\aN.rd (All w) w ec d)/\fit d:=λi F=>by obtain⟨ec,l,s⟩:=k i aa;obtain⟨d,r,g⟩:=I s;grind
  obtain⟨K,_⟩:=one 0 aa;haveI:Inhabited O:=⟨K⟩;obtain⟨f,G⟩:=Go.Deep.choose_lt one;obtain⟨b,off,u⟩:=a;refine⟨(List.range len).map f,⟨some ⟨b,off,u⟩,cap,ae,aj,hm,?_⟩,ah,λx k=>by
   grind⟩
  right;have p:u=none:=by obtain⟨ec,l,_⟩:=k 0 aa;obtain⟨_,s,r⟩:=World.cells?_some l;have g:=r 0 hn;rw[iS aa] at g;have z:=World.cell?_spot g;grind[Addr.add]
  subst p;refine⟨b,off,rfl,λi F=>?_⟩;have q:i<len:=aj
  obtain⟨ec,l,s⟩:=(G i q).1;obtain⟨_,r,g⟩:=World.cells?_some l;have c:bG w b (off+i*aN.n O) ec:=λj v y=>by
   obtain⟨C,_⟩:=DZ.1 y;have z:=g j aa;rw[y] at z;have e:((⟨b,off,none⟩:Addr).add (i*aN.n O)).add j=⟨b,off+i*aN.n O+j,none⟩:=by rw[Go.Deep.add_add];grind[Addr.add]
   grind
  refine⟨ec,c,λo _=>?_,aj⟩;exact c.lt (λe=>aj)
def Trod.opens{H:Type}{b:TypeId×Value->H}{a:Nat->Bool}{held:Bool}{v:Value}{x:DataW H}{ps:List MemPlace}[aN O][Fits O](ho:aEU P t O)(h:DataW.Trod b P w 0 a held t v x ps) :
  ∃d:O,aN.rd (All w) w v.cells.toList d/\fit d:=by obtain⟨c,e⟩:=h;exact ho e
def St.below{w0:World}{L:bj}{R:bs}(h:St (eF w0) w' L R):Below w0.heap.size w0 w':=⟨h.keep.os,h.keep.tape,h.keep.output,h.keep.size,λk hk=>h.keep.block k hk λ_ a=>a⟩
end Go.Gv
end
noncomputable section
namespace Go.Gv
variable{op:BinOp}{c:Ctx}{i j:Int}{k:IntKind}{R:bs}{vs:ar}{m n:Nat}{O:Type}{t z:TypeId}{s:Value}{w:World}{F:cW}
section
variable {P:Program} {op:Op} {ty:TypeId} {ps:String} {af:Array Edge} {ops:br} {rest:cn} {Q:Exit->Act->World->Prop} {n d:Nat} {e:Env} {v:Value} {w w':World} {c:Ctx} {L:bj} {R:bs}
theorem ey{N:Act->World->Prop}{X:Nat->Act->World->Prop}{T:Act->World->Prop}{a:Nat}{pT:Array Bool}(i:Nat)(f:ops[i]?=some ⟨some d,op,ty,ps,af,none⟩)
  (hc:(Region.noSelect ops && (Region.free .any ops pT i && (Region.ready .any ops pT).contains i))=true) (g:bEA c L R w) (b:∀(L':bj) (w':World),St c w' (L++L') R->fH P ⟨some d,op,ty,ps,af,none⟩ e w' v w') (hn:Nat.blt d n=true)
  (k:bKP P ops (mkQ N X T) (bEA c L R) a (pT.setIfInBounds i true) n ((d,v)::e) w):bKP P ops (mkQ N X T) (bEA c L R) (a+1) pT n e w:=by rw[yV,yV] at hc;grind[bSN,a2I]
end
def fAt(b off:Nat)(cs:ar):Fact where
 P:=λS w=>bG w b off cs/\∀o,fB b off cs.length b o->S b o
 agree:=λ⟨d,a⟩ c=>⟨d.agree λo f e=>c b o (a o ⟨rfl,f,e⟩),a⟩
 mono:=λ⟨d,a⟩ c=>⟨d,λo h=>c b o (a o h)⟩
def bP1[aN O]{S:cW}{l:List O}(h:aN.rd S w [s] l){k:Nat}{x:O}(hk:l[k]?=some x):∃ec,(fAt (elB s) (elO (aN.n O) k s) ec).P S w/\aN.rd S w ec x:=by
 obtain⟨q,m,d,p,n,a⟩:=(show sN S w [s] l from h);obtain⟨c,f⟩:=DZ.1 hk;simp at d;subst d;obtain a|⟨b,off,rfl,a⟩:=a
 .grind
 .obtain⟨ec,g,i,e⟩:=a k c;have j:ec.length=aN.n O:=aN.mD e;exact⟨ec,⟨g,λo ho=>i o ho⟩,f ▸ e⟩
def St.fat{L:bj}{b off:Nat}{cs:ar}(h:St c w L R)(j:Nat)(a:R[j]?=some (fAt b off cs)):bG w b off cs:=(h.fact j a).1
def bSP(off:Nat):∀(l:ar) (k:Nat) (cells:bw),off+k+l.length<=cells.size ->
  ((l.zipIdx k).foldl (λcs (q:Value×Nat)=>cs.setIfInBounds (off+q.2) q.1) cells).toList=cells.toList.take (off+k)++l++cells.toList.drop (off+k+l.length)
 |[],k,cells,h=>ae
 |c::r,k,cells,h=>by
  have a:off+k<cells.size:=aj
  rw[List.zipIdx_cons,List.foldl_cons,bSP off r (k+1) _ aj];simp only[Array.toList_setIfInBounds];have d:(cells.toList.set (off+k) c).take (off+(k+1))=cells.toList.take (off+k)++[c]:=by rw[show off+(k+1)=(off+k)+1 by omega,N5 aj,List.take_set_of_le (jE _),List.getElem_set_self]
  have b:(cells.toList.set (off+k) c).drop (off+(k+1)+r.length)=cells.toList.drop (off+k+(c::r).length):=by rw[List.drop_set_of_lt aa];grind
  grind
def a2M(n:Nat):∀(vs:ar) (i:Nat) (cells:bw),(∀v∈vs,v.cells.size=n)->cells.size=(i+vs.length)*n ->
  Instr.fill (λi=>some (i*n,n)) cells ((List.range' i vs.length).zip vs)=some (cells.toList.take (i*n)++vs.flatMap λv=>v.cells.toList).toArray
 |[],i,cells,_,h=>by simp_all[aM1,Instr.fill]
 |v::r,i,cells,c,h=>by
  have j:=c v aF7;have b:(i+(r.length+1))*n=i*n+n+r.length*n:=aj
  have f:i*n+n<=cells.size:=aj
  have d:=bSP (i*n) v.cells.toList 0 cells ah;have k:v.cells.zipIdx.foldl (λcs (q:Value×Nat)=>cs.setIfInBounds (i*n+q.2) q.1) cells=(v.cells.toList.zipIdx 0).foldl (λcs (q:Value×Nat)=>cs.setIfInBounds (i*n+q.2) q.1) cells:=by grind[Array.toList_zipIdx]
  rw[<-k] at d;simp only[H8,List.range'_succ,List.zip_cons_cons,Instr.fill,j];rw[aO ah];have a:(v.cells.zipIdx.foldl (λcs (q:Value×Nat)=>cs.setIfInBounds (i*n+q.2) q.1) cells).size=cells.size:=by grind[Array.length_toList]
  rw[a2M n r (i+1) _ (λx g=>c x (lZ _ g)) aj,d];congr 2;have e:(i+1)*n=i*n+n:=aj
  rw[e,aAS,List.take_append_of_le_length ah];grind
def aRI{ps:cw}{cells:ar}{len:Nat}{F:Nat->Value}(d:ps.map (·.1)=List.range' 0 len)(a:vs.length=len)(c:vs.all (λv=>v.cells.size == m)=true)(b:(vs.flatMap λv=>v.cells.toList)=cells) :
  Instr.fill (λi=>some (i*m,m)) ((Array.range (len*m)).map F) ((ps.map (·.1)).zip vs)=some cells.toArray:=by subst a;simp_all[a2M]
def bKZ(n a b m:Nat):Value->Value
 |.slice c _ _=>.slice (if m=a then c else c.map (·.add (a*n))) (b-a) (m-a)
 |v=>v
def bK0[aN O]{i:Option Addr}{l:List O}{c:Nat}(h:aN.own w [.slice i l.length c] l F)(v:l.length<=m)(u:m<=c)(B:0<m):∃j,aN.own w [.slice i l.length m] l j/\∀b o,j b o->F b o:=by
 obtain⟨k,c',e,A,z,n⟩:=nS.1 h;simp at e;obtain⟨rfl,rfl⟩:=e;obtain⟨_,hc,_⟩|⟨x,off,C,y,rfl,r,hc,ho,s,t⟩:=n
 .omega
 .have f:m*aN.n O<=c*aN.n O:=wX _ u;refine⟨λb' o=>fB x off (m*aN.n O) b' o\/y b' o,R1 (λo p=>r o ?_) hc ho (λb' o p q=>s b' o p ?_) v aa,?_⟩
  .obtain⟨d,a,g⟩:=p;exact⟨d,a,aa⟩
  .obtain⟨d,a,g⟩:=q;exact⟨d,a,aa⟩
  .rintro b' o (p|p)
   .obtain⟨d,a,g⟩:=p;exact(t b' o).2 (.inl ⟨d,a,aa⟩)
   grind
def RW[aN O]{l:List O}(h:aN.own w [s] l F):∃a c,s=.slice a l.length c/\l.length<=c:=by grind[nS]
def bET[aN O]{l:List O}{a b:Nat}(hn:aN.n O=n)(h:aN.own w [s] l F)(q:a<=b)(k:b<=m)(i:m<=l.length):∃u,aN.own w [bKZ n a b m s] ((l.take b).drop a) u/\∀b o,u b o->F b o:=by
 have hl:=BY q (oB k i);obtain⟨t,c,rfl,hc⟩:=RW h;by_cases hm:m=a
 .have B:b=a:=aa
  have hz:(l.take b).drop a=[]:=aj
  rw[hz];simp only[bKZ,hm,B,Nat.sub_self,bS];refine⟨F0,?_,λ_ _ h=>h.elim⟩;obtain⟨z,c',e,d,g,f⟩:=nS.1 h;simp at e;obtain⟨rfl,rfl⟩:=e;obtain⟨rfl,y,_⟩|⟨r,off,G,H,rfl,_⟩:=f
  .exact⟨none,0,rfl,jE _,iT _,.inl ⟨rfl,rfl,λ_ _ h=>h⟩⟩
  .exact nS.2 ⟨some ⟨r,off,none⟩,0,rfl,jE _,iT _,.inr ⟨r,off,[],F0,rfl,λo p=>by obtain⟨_,E,D⟩:=p;omega,λj v h=>by simp at h,⟨rfl,λ_ _ h=>h⟩,λ_ _ h=>h.elim,λb' o=>by
    simp[F0,fB]⟩⟩
 .obtain⟨I,d,g⟩:=a8P hn h q (oB k i);have x:c≠a:=aa
  have e:jF n a b (.slice t l.length c)=.slice (t.map (·.add (a*n))) ((l.take b).drop a).length (c-a):=by simp_all[jF]
  rw[e] at d;obtain⟨C,f,A⟩:=bK0 (m:=m-a) d aa aa aa;refine⟨C,?_,λb' o p=>g _ _ (A _ _ p)⟩;simp_all[bKZ]
def dF{O:Type}(l:List O)(a:Nat)(xs:List O):List O:=l.take a++(xs.take (l.length-a)++l.drop (a+xs.length))
theorem fK{l:List O}{a:Nat}{xs:List O}(h:a<=l.length):(dF l a xs).length=l.length:=by grind[dF]
theorem aEV{l:List O}{a:Nat}{xs:List O}(h:a<=l.length){i:Nat}{x:O}(b:(dF l a xs)[i]?=some x) :
  (a<=i/\i<a+min xs.length (l.length-a)/\xs[i-a]?=some x)\/((i<a\/a+min xs.length (l.length-a)<=i)/\l[i]?=some x):=by unfold dF at b;rw[aMX] at b;grind
def XH[aN O][Flat O](P:Program){w0:World}{S:cW}{b off cap a k:Nat}{l l':List O}{f:ar}(h:aN.own w [.slice (some ⟨b,off,none⟩) l.length cap] l F)(R:l'.length=l.length)(hk:f.length=k*aN.n O)(I:a+k<=cap)(u:∀v∈f,v.oneCell'=true)
  (Y:∀i x,l'[i]?=some x->(a<=i/\i<a+k/\aN.rd S w0 (O3 f (aN.n O) (i-a)) x)\/((i<a\/a+k<=i)/\l[i]?=some x)) :
  ∃w' G N,(storeCells ⟨b,off+a*aN.n O,none⟩ f).run P w=.ok () w'/\eT G w w'/\(∀b o,G b o->F b o)/\aN.own w' [.slice (some ⟨b,off,none⟩) l'.length cap] l' N/\∀b o,N b o->F b o:=by
 obtain⟨ad,c,e,k1,W,V⟩:=(show D1 w [_] l F from h);simp at e;obtain⟨rfl,rfl⟩:=e;obtain⟨B,_,_⟩|⟨b2,J,Fs,B,d,H,U,T,z⟩:=V
 .cases B
 simp at B;obtain⟨rfl,rfl⟩:=B;have K:a*aN.n O+k*aN.n O<=cap*aN.n O:=by rw[<-pL];exact wX _ I
 obtain⟨w',C,g,Q,n⟩:=qP (b:=b) P f w (off+a*aN.n O) 0 u (λq _ hq=>d _ ⟨rfl,aa,aa⟩);refine⟨w',_,fB b off (cap*aN.n O),C,g,λb' m p=>(z b' m).2 (.inl ?_),?_,λb' m p=>(z b' m).2 (.inl p)⟩
 .obtain⟨e1,e2,M⟩:=p;exact⟨e1,aa,aa⟩
 .refine⟨_,cap,rfl,aa,W,.inr ⟨b,off,λ_=>F0,rfl,λm r=>⟨g.stay b m (d m r).1,(g.zU b m (j4 (d m r).1)).trans (d m r).2⟩,λi Z=>?_,λ_ _ _ _ _ _ _ h _=>h,λ_ _ _ _ h _=>h,λb' o=>by simp[F0]⟩⟩;rcases Y i l'[i] (iS Z) with ⟨A,L,g3⟩|⟨A,L⟩
  .refine⟨O3 f (aN.n O) (i-a),?_,Flat.own_of g3⟩;intro j v t;have s:=(DZ.1 t).1;rw[aRE hk aa] at s;rw[vM s] at t;have:=n _ v t;have D:i*aN.n O=a*aN.n O+(i-a)*aN.n O:=by rw[<-pL];grind
   rw[show off+i*aN.n O+j=off+a*aN.n O+0+((i-a)*aN.n O+j) from by omega];exact this
  .obtain⟨E,X⟩:=DZ.1 L;obtain⟨ec,c1,c2⟩:=H i E;have y:=aN.own_rd c2;have hn:=aN.mD y;refine⟨ec,?_,X ▸ Flat.own_of y⟩;intro j v t;have s:=(DZ.1 t).1;have hc:=c1 j v t;have D:(i+1)*aN.n O=i*aN.n O+aN.n O:=aj
   rw[g.cell b (off+i*aN.n O+j) (World.block_lt_of_cell? w _ hc) (λhh=>by
    obtain⟨_,e2,M⟩:=hh;rw[hk] at M;obtain A|A:=A
    .have:(i+1)*aN.n O<=a*aN.n O:=wX _ aa;omega
    .have:(a+k)*aN.n O<=i*aN.n O:=wX _ A;grind)]
   exact hc
section
variable {v:Value} {i j:Int} {P:Program} {o:Oper} {e:Env} {w w':World} {c:Ctx} {L:bj} {R:bs} {x y z:Operand} {t t2 el:TypeId}
theorem a8R[aN O][Flat O]{s2:Value}{l xs:List O}{a:Nat}(m:Nat)(hS:St c w L R)(hm:L[m]?=some (fF [s] l))(M:aN.rd (All w) w [s2] xs)(hn:aN.n O=n)(Z:a<=l.length)(hu:P.underlying t=some (.slice el))(hz:∀w,(sizeOf el).run P w=.ok n w)
  (ho:o.op=.call {callee:=.builtin .copy,args:=#[x,y],argTypes:=#[t,t2]}) (X:ev e x=some (jF n a l.length s)) (hy:ev e y=some s2) :
  ∃v w',fH P o e w v w'/\(v=.int .i64 ((min xs.length (l.length-a):Nat):Int)/\St c w' (L.set m (fF [s] (dF l a xs))) R):=by
 subst hn;obtain⟨J,c2,f,rfl,hl2,hc2,hr2⟩:=R0 M;obtain⟨F,K⟩:=hS.chunk m hm;have K:aN.own w [s] l F:=K;obtain⟨ad,B,rfl,hlc⟩:=RW K;have hk:(f.take (min xs.length (l.length-a)*aN.n O)).length=min xs.length (l.length-a)*aN.n O:=by simp_all
 have d:(Builtin.firstCells (aN.n O) (min xs.length (l.length-a)) (.slice J xs.length c2)).run P w=.ok (f.take (min xs.length (l.length-a)*aN.n O)).toArray w:=by
  obtain h|⟨b,off,rfl,h⟩:=hc2
  .subst h;have h0:f=[]:=vB aj;subst h0;cases J<;>simp[Builtin.firstCells,loadCells,loadCellsFrom]
  grind[bG,tE,Builtin.firstCells]
 have D:∀v∈f.take (min xs.length (l.length-a)*aN.n O),v.oneCell'=true:=λv hv=>aP1 hl2 hr2 v (bDZ hv);have r:∀(w':World),(Builtin.copy_ #[t,t2] o.type #[jF (aN.n O) a l.length (.slice ad l.length B),.slice J xs.length c2]).run P w=.ok (.int .i64 ((min xs.length (l.length-a):Nat):Int)) w'->fH P o e w (.int .i64 ((min xs.length (l.length-a):Nat):Int)) w':=by intro w' h _ a' hA;simp[execOp,ho,resolve,invoke,builtin,hA.eval X,hA.eval hy,h]
 have hmn:Nat.min xs.length (l.length-a)=min xs.length (l.length-a):=rfl;obtain⟨ad',cap',he,_,_,H⟩:=(show D1 w [_] l F from K);simp at he;obtain⟨rfl,rfl⟩:=he;by_cases h0:min xs.length (l.length-a)=0
 ·
  have E:dF l a xs=l:=by
   unfold dF;by_cases h1:xs.length=0
   .simp_all
   .have h2:l.length=a:=aa
    rw[<-h2];simp
  rw[E];have hcz:f.take (min xs.length (l.length-a)*aN.n O)=[]:=aj
  rw[hcz] at d;refine⟨_,w,r _ ?_,rfl,?_⟩
  .rw[h0] at d ⊢;have u:Nat.min xs.length (l.length-a)=0:=h0;cases ad with
   |none=>simp[Builtin.copy_,run_underlying hu,jF,Builtin.lenOf,hz,u,d,goInt]
   |some a0=>
    by_cases A:B=a
    .simp[Builtin.copy_,run_underlying hu,jF,A,Builtin.lenOf,hz,u,d,goInt,storeCells]
    .simp[Builtin.copy_,run_underlying hu,jF,A,Builtin.lenOf,hz,u,d,goInt,storeCells]
  .refine hS.aK5 m hm λF K=>⟨F,F0,eT.refl _ _,λ_ _ h=>h.elim,K,λ_ _ h=>.inl h⟩
 .have A:B≠a:=aa
  obtain⟨_,hc0,_⟩|⟨b,off,Fs,rfl,_⟩:=H
  .omega
  have T:(⟨b,off,none⟩:Addr).add (a*aN.n O)=⟨b,off+a*aN.n O,none⟩:=by grind[Addr.add]
  have hbl:=XH P (S:=All w) (w0:=w) (a:=a) (k:=min xs.length (l.length-a)) (l':=dF l a xs) K (fK Z) hk aa D (λi x X=>by
   obtain⟨g1,g2,g3⟩|g:=aEV Z X
   .refine .inl ⟨g1,g2,?_⟩;have hs:O3 (f.take (min xs.length (l.length-a)*aN.n O)) (aN.n O) (i-a)=O3 f (aN.n O) (i-a):=by
     apply aF5;intro p;by_cases Y:p<aN.n O
     .have:(i-a+1)*aN.n O<=min xs.length (l.length-a)*aN.n O:=wX _ aa;rw[pL] at this;rw[vM Y,vM Y,aIJ,aM aa]
     grind[O3]
    grind
   grind)
  obtain⟨w',G,F',W,hkp,hGF,hown,hFF⟩:=hbl;refine⟨_,w',r w' ?_,rfl,?_⟩
  .simp[Builtin.copy_,run_underlying hu,jF,A,Builtin.lenOf,hz,hmn,d,T,W,goInt]
  .refine hS.aK5 m hm λF2 I=>?_;have I:aN.own w [.slice (some ⟨b,off,none⟩) l.length B] l F2:=I;have Q:=XH P (S:=All w) (w0:=w) (a:=a) (k:=min xs.length (l.length-a)) (l':=dF l a xs) I (fK Z) hk aa D (λi x X=>by
    obtain⟨g1,g2,g3⟩|g:=aEV Z X
    .refine .inl ⟨g1,g2,?_⟩;have hs:O3 (f.take (min xs.length (l.length-a)*aN.n O)) (aN.n O) (i-a)=O3 f (aN.n O) (i-a):=by
      apply aF5;intro p;by_cases Y:p<aN.n O
      .have:(i-a+1)*aN.n O<=min xs.length (l.length-a)*aN.n O:=wX _ aa;rw[pL] at this;rw[vM Y,vM Y,aIJ,aM aa]
      grind[O3]
     grind
    grind)
   obtain⟨w2,G2,F3,C,N,U,q,V⟩:=Q;rw[W] at C;cases C;rw[fK Z] at q;exact⟨F3,G2,N,U,q,λb' o' p=>.inl (V b' o' p)⟩
theorem bEU[aN O]{w:World}{l:List O}(h:aN.own w [s] l F):jF n 0 l.length s=s:=by obtain⟨a,c,rfl,_⟩:=RW h;simp[jF,Addr.add]
theorem bEV[aN O][Flat O]{b:Value}{l xs:List O}(m:Nat)(f:St c w L R)(d:L[m]?=some (fF [s] l))(a:aN.rd (All w) w [b] xs)(hn:aN.n O=n)(k:P.underlying t=some (.slice el))(hz:∀w,(sizeOf el).run P w=.ok n w)
  (ho:o.op=.call {callee:=.builtin .copy,args:=#[x,y],argTypes:=#[t,t2]}) (h:ev e x=some s) (g:ev e y=some b) :
  ∃v w',fH P o e w v w'/\(v=.int .i64 ((min xs.length (l.length-0):Nat):Int)/\St c w' (L.set m (fF [s] (dF l 0 xs))) R):=by obtain⟨F,p⟩:=f.chunk m d;exact a8R m f d a hn (iT _) k hz ho (by rw[bEU (show aN.own w [s] l F from p)];exact h) g
end
def idx_eq{l:List O}(b:0<=i)(a:i<l.length):idx l i=some (l[i.toNat]' aa):=by simp_all[idx]
theorem aS{l:List O}{k:Nat}(a:k<l.length):idx l (k:Int)=some l[k]:=by simp[idx]
theorem cJ{p:Prop}[Decidable p](h:p)(k:Option O):need p k=k:=by simp_all[need]
theorem VW{x:Int}(h:-9223372036854775808<=x/\x<=9223372036854775807):aZ x=x:=by grind[IntKind.wrap,IntKind.bits,IntKind.signed]
theorem nT{x:Nat}(h:x<maxLen):aZ ((x:Int)+1)=((x+1:Nat):Int):=by have a:x<9223372036854775807:=h;grind[VW]
def aZS{ρ:Type}{f:Int->Option (Step Int ρ)}(n:Nat)(g:Nat->ρ)
  (h:∀k:Nat,k<=n->f k=some (.stop (g k))\/(k<n/\f k=some (.next ((k+1:Nat):Int))/\g k=g (k+1))):∀k:Nat,k<=n->loop f (k:Int)=some (g k):=by
 intro k hk;obtain⟨d,rfl⟩:∃d,n=k+d:=⟨n-k,aa⟩;induction d generalizing k with
 |zero=>
  grind[aY]
 |succ d b=>
  obtain a|⟨a,e,c⟩:=h k hk
  .exact aY a
  grind[bJ]
def R3{l:List O}{k:Nat}(h:k<l.length)(a:l.length<=maxLen):k<maxLen:=aa
def a8S(O:Type)(n:Int):Option (List O):=need (0<=n/\n<=1073741824) (if decide (n<0)=true then none else if decide (0<aZ (n-aZ (0-0)))=true then some [] else some [])
section
variable {v:Value} {i j:Int} {P:Program} {o:Oper} {e:Env} {w w':World} {c:Ctx} {L:bj} {R:bs} {x y z:Operand} {t t2 el:TypeId}
theorem XI{b off:Nat}:(⟨b,off,none⟩:Addr).add n=⟨b,off+n,none⟩:=by grind[Addr.add]
theorem aK8[aN O]{l:List O}(h:aN.own w [s] l F):∃a cap cc,s=.slice a l.length cap/\l.length<=cap/\cc.length=l.length*aN.n O/\((a=none/\cap=0/\l=[])\/∃b off,a=some ⟨b,off,none⟩/\bG w b off cc)/\∀i x,l[i]?=some x->aN.rd (All w) w (O3 cc (aN.n O) i) x:=by
 have q:aN.rd (All w) w [s] l:=aN.rd_mono (aN.own_rd h) λb o u=>aN.own_lt h u;obtain⟨a,cap,cc,rfl,B,d,A⟩:=R0 q;obtain⟨m,g,e,p,C,n⟩:=nS.1 h;simp at e;obtain⟨rfl,rfl⟩:=e;refine⟨a,cap,cc,rfl,p,B,?_,A⟩;obtain⟨rfl,rfl,_⟩|⟨b,off,k,G,rfl,_⟩:=n
 .grind
 .right;obtain d|⟨E,f,d,D⟩:=d
  .subst d;have:cc=[]:=vB aj;subst this;exact⟨b,off,rfl,λj v r=>by simp at r⟩
  grind
theorem a53[aN O][Flat O]{l:List O}{a b:Nat}(m:Nat)(hS:St c w L R)(Z:L[m]?=some (fF [s] l))(hn:aN.n O=n)(hab:a<=b)(hb:b<=l.length)(hu:P.underlying t=some (.slice el))(hz:∀w,(sizeOf el).run P w=.ok n w)
  (ho:o.op=.call {callee:=.builtin .append,args:=#[x,y],argTypes:=#[t,t]}) (hx:ev e x=some (jF n 0 a s)) (hy:ev e y=some (jF n b l.length s)) :
  ∃v w',fH P o e w v w'/\(v=jF n 0 (a+(l.length-b)) s/\St c w' (L.set m (fF [s] (dF l a (l.drop b)))) R):=by
 subst hn;obtain⟨F,H⟩:=hS.chunk m Z;have H:aN.own w [s] l F:=H;obtain⟨ad,cap,N,rfl,hlc,W,Y,V⟩:=aK8 H;have r:∀(v:Value) (w':World),(Builtin.append_ #[t,t] o.type #[jF (aN.n O) 0 a (.slice ad l.length cap),jF (aN.n O) b l.length (.slice ad l.length cap)]).run P w=.ok v w'->fH P o e w v w':=by intro v w' h _ a' hA;simp[execOp,ho,resolve,invoke,builtin,hA.eval hx,hA.eval hy,h]
 obtain⟨rfl,rfl,rfl⟩|⟨f,off,rfl,A⟩:=Y
 .have ha:a=0:=aa
  have hb0:b=0:=aa
  subst ha;subst hb0;refine⟨_,w,r (jF (aN.n O) 0 0 (.slice none 0 0)) w ?_,rfl,?_⟩
  .simp[Builtin.append_,run_underlying hu,jF,Builtin.lenOf,hz,Builtin.firstCells]
  .have:dF ([]:List O) 0 (([]:List O).drop 0)=[]:=rfl;rw[this];exact hS.aK5 m Z λF H=>⟨F,F0,eT.refl _ _,λ_ _ h=>h.elim,H,λ_ _ h=>.inl h⟩
 ·
  have hk:(N.drop (b*aN.n O)).length=(l.length-b)*aN.n O:=by grind[Nat.sub_mul]
  have u:∀q,(Builtin.firstCells (aN.n O) (l.length-b) (.slice (if cap=b then some ⟨f,off,none⟩ else some ⟨f,off+b*aN.n O,none⟩) (l.length-b) q)).run P w=.ok (N.drop (b*aN.n O)).toArray w:=by
   intro q;by_cases h0:l.length-b=0
   .have:N.drop (b*aN.n O)=[]:=vB aj;rw[this,h0];split<;>simp[Builtin.firstCells,loadCells,loadCellsFrom]
   .have X:cap≠b:=aa
    rw[aO X];refine LZ (O:=O) hk (.inr ⟨f,off+b*aN.n O,rfl,λp v hp=>?_⟩);rw[aMY] at hp;have:=A _ v hp;grind
  have C:∀v∈N.drop (b*aN.n O),v.oneCell'=true:=λv hv=>aP1 W V v (XE hv);have hdl:(l.drop b).length=l.length-b:=XC;have D:∀i x,(dF l a (l.drop b))[i]?=some x->(a<=i/\i<a+(l.length-b)/\aN.rd (All w) w (O3 (N.drop (b*aN.n O)) (aN.n O) (i-a)) x)\/((i<a\/a+(l.length-b)<=i)/\l[i]?=some x):=by
   intro i x hx;have hmin:min (l.drop b).length (l.length-a)=l.length-b:=aa
   grind[aEV,O3,List.drop_drop,pL]
  have d:a+(l.length-b)<=cap:=aa
  obtain⟨w',G,F',M,hkp,hGF,hown,hFF⟩:=XH P (S:=All w) (w0:=w) (a:=a) (k:=l.length-b) (l':=dF l a (l.drop b)) H (fK aa) hk d C D;have U:jF (aN.n O) 0 a (.slice (some ⟨f,off,none⟩) l.length cap)=.slice (some ⟨f,off,none⟩) a cap:=by simp[jF,XI]
  have T:jF (aN.n O) b l.length (.slice (some ⟨f,off,none⟩) l.length cap)=.slice (if cap=b then some ⟨f,off,none⟩ else some ⟨f,off+b*aN.n O,none⟩) (l.length-b) (cap-b):=by grind[jF,XI]
  have Q:jF (aN.n O) 0 (a+(l.length-b)) (.slice (some ⟨f,off,none⟩) l.length cap)=.slice (some ⟨f,off,none⟩) (a+(l.length-b)) cap:=by simp[jF,XI]
  refine⟨_,w',r (.slice (some ⟨f,off,none⟩) (a+(l.length-b)) cap) w' ?_,Q.symm,?_⟩
  .rw[U,T];simp[Builtin.append_,run_underlying hu,Builtin.lenOf,hz,u,d,XI,M]
  .refine hS.aK5 m Z λF2 E=>?_;have E:aN.own w [.slice (some ⟨f,off,none⟩) l.length cap] l F2:=E;obtain⟨w2,G2,F3,B,I,J,g,K⟩:=XH P (S:=All w) (w0:=w) (a:=a) (k:=l.length-b) (l':=dF l a (l.drop b)) E (fK aa) hk d C D;rw[M] at B;cases B;rw[fK aa] at g;exact⟨F3,G2,I,J,g,λb' o' p=>.inl (K b' o' p)⟩
theorem bEW{a b k:Nat}(h:(∃len cap,s=.slice none len cap/\cap=0/\a=0)\/∃d off len cap,s=.slice (some ⟨d,off,none⟩) len cap):jF n a b (jF n 0 k s)=jF n a b s:=by
 obtain⟨len,cap,rfl,rfl,rfl⟩|⟨d,off,len,cap,rfl⟩:=h
 .simp[jF]
 .simp only[jF,Option.map_some,Nat.zero_mul,XI,aAS,Nat.sub_zero,ite_self]
theorem bEX[aN O]{l:List O}{a b k:Nat}(h:aN.own w [s] l F)(d:a<=b)(f:b<=l.length):jF n a b (jF n 0 k s)=jF n a b s:=by grind[aK8,bEW]
theorem a54[aN O]{l:List O}{k':Nat}{f:IntKind}(m:Nat)(A:St c w L R)(r:L[m]?=some (fF [s] l))(hn:aN.n O=n)(q:P.underlying t=some (.slice el))(hz:∀w,(sizeOf el).run P w=.ok n w)(u:0<=i/\i<=j/\j<=l.length)(ho:o.op=.slice t x (some y) (some z) none)(h:ev e x=some (jF n 0 k' s))(g:ev e y=some (.int k i))(p:ev e z=some (.int f j)):fH P o e w (jF n i.toNat j.toNat s) w:=λ_ a d=>by
 obtain⟨F,b⟩:=A.chunk m r;have b:aN.own w [s] l F:=b;obtain⟨G,b1,H⟩:=u;rw[<-bEX (k:=k') b (show i.toNat<=j.toNat by omega) aa];obtain⟨I,E,rfl,hc⟩:=RW b;have D:j<=(E:Int):=aa
 have B:0<=j:=aa
 have C:max j 0=j:=aa
 simp[execOp,ho,Instr.sliceAt,Instr.slice,run_underlying q,Instr.sliceBounds,d.eval h,d.eval g,d.eval p,Instr.sliceBound,asIntOf,hz,G,b1,D,C,B,jF]
theorem a2N{b:bw}{k i:Nat}(hz:b.size=n)(d:i<k):O3 (Builtin.zeroCells b k).toList n i=b.toList:=by have a:(i+1)*n<=k*n:=wX n aa;rw[pL] at a;apply aF5;grind[Nat.mul_comm,Nat.mul_add_mod,Nat.mod_eq_of_lt,Builtin.zeroCells,O3]
theorem bEY[aN O][Flat O]{C:Value}{l:List O}{a b:Nat}(J:O)(m:Nat)(hS:St c w L R)(hm:L[m]?=some (fF [s] l))(hn:aN.n O=n)(hab:a<=b)(hb:b<=l.length)(hu:P.underlying t=some (.slice el))(Q:Inf P el n C)(V:C.cells.size=n)(hzd:∀w,aN.rd F0 w C.cells.toList J)(M:∀v∈C.cells.toList,v.oneCell'=true)
  (ho:o.op=.call {callee:=.builtin .clear,args:=#[x],argTypes:=#[t]}) (hx:ev e x=some (jF n a b s)) :
  ∃v w',fH P o e w v w'/\(v=.tuple #[]/\St c w' (L.set m (fF [s] (dF l a (List.replicate (b-a) J)))) R):=by
 subst hn;obtain⟨ti,hti,hz,hsz,hby⟩:=Q;obtain⟨F,K⟩:=hS.chunk m hm;have K:aN.own w [s] l F:=K;obtain⟨ad,r,cc,rfl,hlc,hcc,W,hrd⟩:=aK8 K;have g:∀(w':World),(Builtin.clear_ #[t] o.type #[jF (aN.n O) a b (.slice ad l.length r)]).run P w=.ok (.tuple #[]) w'->fH P o e w (.tuple #[]) w':=by intro w' h _ a' hA;simp[execOp,ho,resolve,invoke,builtin,hA.eval hx,h]
 by_cases h0:b-a=0
 .have D:dF l a (List.replicate (b-a) J)=l:=by simp_all[dF]
  rw[D];refine⟨_,w,g w ?_,rfl,hS.aK5 m hm λF K=>⟨F,F0,eT.refl _ _,λ_ _ h=>h.elim,K,λ_ _ h=>.inl h⟩⟩;obtain⟨rfl,rfl,rfl⟩|⟨bl,off,rfl,_⟩:=W
  .simp_all[Builtin.clear_,run_underlying,jF]
  .by_cases H:r=a<;>simp[Builtin.clear_,run_underlying hu,jF,H,h0]
 .obtain⟨rfl,rfl,rfl⟩|⟨bl,off,rfl,X⟩:=W
  .omega
  have H:r≠a:=aa
  have hk:(Builtin.zeroCells C.cells (b-a)).toList.length=(b-a)*aN.n O:=by grind[size_zeroCells]
  have f:∀v∈(Builtin.zeroCells C.cells (b-a)).toList,v.oneCell'=true:=by
   intro v hv;obtain⟨p,hp,rfl⟩:=aF8.1 hv;have hn0:0<aN.n O:=by rcases Nat.eq_zero_or_pos (aN.n O) with h|h;rw[hk,h] at hp;omega;exact h
   have hp2:p<(b-a)*aN.n O:=by rw[<-hk];exact hp
   have hi:p/aN.n O<b-a:=Nat.div_lt_of_lt_mul (by rw[Nat.mul_comm];exact hp2);have hs:=a2N (k:=b-a) V hi;have hpe:p/aN.n O*aN.n O+p % aN.n O=p:=by rw[Nat.mul_comm];exact Nat.div_add_mod p (aN.n O)
   have hg:=vM (cc:=(Builtin.zeroCells C.cells (b-a)).toList) (n:=aN.n O) (i:=p/aN.n O) (j:=p % aN.n O) (Nat.mod_lt _ hn0);rw[hs,hpe,iS hp] at hg;exact M _ (IA hg)
  have B:∀i x,(dF l a (List.replicate (b-a) J))[i]?=some x->(a<=i/\i<a+(b-a)/\aN.rd F0 w (O3 (Builtin.zeroCells C.cells (b-a)).toList (aN.n O) (i-a)) x)\/((i<a\/a+(b-a)<=i)/\l[i]?=some x):=by
   intro i x hx;have A:min (List.replicate (b-a) J).length (l.length-a)=b-a:=ah
   obtain⟨Z,Y,g3⟩|⟨Z,Y⟩:=aEV aa hx
   .rw[A] at Y;rw[List.getElem?_replicate,aM aa] at g3;simp at g3;subst g3;refine .inl ⟨Z,Y,?_⟩;rw[a2N V aa];exact hzd w
   .rw[A] at Z;exact .inr ⟨Z,Y⟩
  obtain⟨w',G,F',E,hkp,hGF,hown,hFF⟩:=XH P (S:=F0) (w0:=w) (a:=a) (k:=b-a) (l':=dF l a (List.replicate (b-a) J)) K (fK aa) hk aa f B;refine⟨_,w',g w' ?_,rfl,?_⟩
  .obtain⟨q,hq⟩:∃q,b-a=q+1:=⟨b-a-1,aa⟩;rw[hq] at E;simp[Builtin.clear_,run_underlying hu,jF,H,hq,XI,zeroValue,typeInfo,hti,hz,E]
  .refine hS.aK5 m hm λF2 I=>?_;have I:aN.own w [.slice (some ⟨bl,off,none⟩) l.length r] l F2:=I;obtain⟨w2,G2,F3,u,N,T,d,U⟩:=XH P (S:=F0) (w0:=w) (a:=a) (k:=b-a) (l':=dF l a (List.replicate (b-a) J)) I (fK aa) hk aa f B;rw[E] at u;cases u;rw[fK aa] at d;exact⟨F3,G2,N,T,d,λb' o' p=>.inl (U b' o' p)⟩
end
structure AC where
 a:Option Addr
 c:Nat
abbrev AC.v(s:AC)(n:Nat):Value:=.slice s.a n s.c
inductive SV where
 |i (k:IntKind) (x:Int)
 |y (b:UInt8)
 |b (c:Bool)
 |l (c:Bool)
 |s (l:bh)
 |p (n o:Nat)
 |h (s:AC) (n:Nat)
 |e (s:AC) (n i o:Nat)
 |k (x:Value)
 |g (cs:List SV)
 |t (cs:List SV)
 |f (f:FuncId) (cs:av)
 |u
abbrev au:=List SV
abbrev bz:=Option SV
abbrev bF:=List (List SV)
abbrev ct:=List (Nat×List SV)
variable{x:SV}
abbrev SE:=List (Nat×SV)
inductive Ch where
 |box (n:Nat) (cs:au)
 |ro (n:Nat) (cs:au)
 |o (c:Chunk)
 |f (f:Fact)
 |no
 |w (n b z:Nat)
abbrev ao:=List Ch
inductive TK where
 |i (k:IntKind)
 |b
 |st (fs:b6)
 |s
 |sl (el:Nat)
 |x
structure TI where
 d:TK
 a:Bool
 n:Nat
 z:au
abbrev TT:=List (Nat×TI)
def zS:TT->Nat->Option TI
 |[],_=>none
 |(k,v)::r,n=>match Nat.beq n k with
  |true=>some v
  |false=>zS r n
def GK:SE->Nat->bz
 |[],_=>none
 |(k,v)::r,n=>match Nat.beq n k with
  |true=>some v
  |false=>GK r n
def aV{O β:Type}(f:O->Option β):List O->Option (List β)
 |[]=>some []
 |x::r=>match f x with
  |none=>none
  |some y=>match aV f r with
   |none=>none
   |some a=>some (y::a)
def one?(v:Value):bz:=match v.oneCell' with
 |true=>some (.k v)
 |false=>none
def bEZ(n:Nat):bz:=match Nat.blt n 256 with
 |true=>some (.y (UInt8.ofNat n))
 |false=>none
def ofC:Value->bz
 |.int .u8 (.ofNat n)=>bEZ n
 |.int k n=>some (.i k n)
 |.bool c=>some (.l c)
 |.string s=>some (.s s.data.toList)
 |.slice a n c=>some (.h ⟨a,c⟩ n)
 |.agg _=>none
 |v=>one? v
def jA(e:SE):Operand->bz
 |.tmp t=>GK e t
 |.const v=>ofC v
 |.global _=>none
 |.func f=>some (.f f [])
def tF:SV->Option (IntKind×Int)
 |.i k x=>some (k,x)
 |.y b=>some (.u8,(b.toNat:Int))
 |_=>none
def bK1(op:BinOp)(k:IntKind)(x y:Int)(yo:Operand):bz:=match op with
 |.add=>some (.i k (k.wrap (x+y)))
 |.sub=>some (.i k (k.wrap (x-y)))
 |.mul=>some (.i k (k.wrap (x*y)))
 |.lss=>some (.b (decide (x<y)))
 |.leq=>some (.b (decide (x<=y)))
 |.gtr=>some (.b (decide (y<x)))
 |.geq=>some (.b (decide (y<=x)))
 |.eql=>some (.b (x == y))
 |.neq=>some (.b (x != y))
 |.and=>some (.i k (iU .and k x y))
 |.or=>some (.i k (iU .or k x y))
 |.xor=>some (.i k (iU .xor k x y))
 |.andNot=>some (.i k (iU .andNot k x y))
 |.quo=>match yo with
  |.const (.int _ (.ofNat (_+1)))=>some (.i k (k.wrap (x.tdiv y)))
  |.const (.int _ (.negSucc _))=>some (.i k (k.wrap (x.tdiv y)))
  |_=>none
 |.rem=>match yo with
  |.const (.int _ (.ofNat (_+1)))=>some (.i k (x.tmod y))
  |.const (.int _ (.negSucc _))=>some (.i k (x.tmod y))
  |_=>none
 |_=>none
def shI(op:BinOp)(k:IntKind)(x y:Int)(yo:Operand):bz:=match op with
 |.shl=>match yo with
  |.const (.int _ (.ofNat _))=>some (.i k (aRC k x y))
  |_=>none
 |.shr=>match yo with
  |.const (.int _ (.ofNat _))=>some (.i k (qO k x y))
  |_=>none
 |_=>none
def a8T:SV->aw
 |.b c=>some c
 |.l c=>some c
 |_=>none
def bin(T:TT)(op:BinOp)(t:TypeId)(x y:SV)(yo:Operand):bz:=
 match tF x,tF y with
 |some (k,a),some (k',c)=>match op with
  |.shl=>shI op k a c yo
  |.shr=>shI op k a c yo
  |_=>match decEq k k' with
   |.isTrue _=>bK1 op k a c yo
   |.isFalse _=>none
 |_,_=>match x,y with
  |.s a,.s c=>match op with
   |.eql=>some (.b (a == c))
   |.neq=>some (.b (!(a == c)))
   |_=>none
  |_,_=>match a8T x,a8T y,zS T t with
   |some a,some c,some ⟨.b,_,_,_⟩=>match op with
    |.eql=>some (.b (a == c))
    |.neq=>some (.b (!(a == c)))
    |_=>none
   |_,_,_=>none
def conv(T:TT)(s t:TypeId)(x:SV):bz:=match zS T s,zS T t with
 |some _,some ⟨.i k',_,_,_⟩=>match x with
  |.i _ a=>match k' with
   |.u8=>some (.y (u8 a))
   |_=>some (.i k' (k'.wrap a))
  |.y b=>match k' with
   |.i64=>some (.i .i64 (b.toNat:Int))
   |_=>none
  |_=>none
 |_,_=>none
def bK2(T:TT)(t:TypeId)(ix:Nat):cq:=match zS T t with
 |some ⟨.st fs,_,_,_⟩=>match fs[ix]? with
  |some (o,_+1)=>some o
  |_=>none
 |_=>none
def bE0(T:TT)(t:TypeId)(x:SV)(ix:Nat):bz:=match x with
 |.p n o=>match bK2 T t ix with
  |some k=>some (.p n (o+k))
  |none=>none
 |.e s n i o=>match bK2 T t ix with
  |some k=>some (.e s n i (o+k))
  |none=>none
 |_=>none
def LO(n:Nat):ao->Option au
 |[]=>none
 |.box k cs::L=>match Nat.beq n k with
  |true=>some cs
  |false=>LO n L
 |.ro k cs::L=>match Nat.beq n k with
  |true=>some cs
  |false=>LO n L
 |_::L=>LO n L
def frc{O:Type}:List O->Option (List O)
 |[]=>some []
 |x::r=>match frc r with
  |some s=>some (x::s)
  |none=>none
def pN:SV->au
 |.g cs=>cs
 |x=>[x]
def isCells:SV->Bool
 |.t _=>false
 |.f _ _=>false
 |.u=>false
 |_=>true
def aX7(T:TT)(t:TypeId)(p:SV)(L:ao):bz:=match p with
 |.p n o=>match LO n L,zS T t with
  |some cs,some ⟨_,true,m,_⟩=>match Nat.ble (o + m) cs.length with
   |true=>match frc ((cs.drop o).take m) with
    |some a=>some (.g a)
    |none=>none
   |false=>none
  |some cs,some ⟨_,false,_,_⟩=>cs[o]?
  |_,_=>none
 |_=>none
def bE1(cs:au)(o:Nat):au->au
 |[]=>cs
 |v::vs=>bE1 (cs.set o v) (o+1) vs
def ovw:au->Nat->au->au
 |[],_,_=>[]
 |c::cs,n+1,vs=>c::ovw cs n vs
 |c::cs,0,vs=>match vs with
  |[]=>c::cs
  |v::vs=>v::ovw cs 0 vs
def aZT(e:SE)(fs:b6):cw->au->Option au
 |[],cs=>some cs
 |(ix,o)::r,cs=>match fs[ix]?,jA e o with
  |some (f,m),some v=>match isCells v,Nat.beq (pN v).length m,Nat.ble (f + m) cs.length with
   |true,true,true=>match frc (ovw cs f (pN v)) with
    |some a=>aZT e fs r a
    |none=>none
   |_,_,_=>none
  |_,_=>none
def a55(T:TT)(e:SE)(t:TypeId)(ps:cw):bz:=match zS T t with
 |some ⟨.st fs,true,_,z⟩=>match aZT e fs ps z with
  |some cs=>some (.g cs)
  |none=>none
 |_=>none
def bSQ(k:TK)(x:SV):bz:=match x with
 |.h _ n=>match k with
  |.sl _=>some (.i .i64 (n:Int))
  |_=>none
 |.s l=>match k with
  |.s=>some (.i .i64 (l.length:Int))
  |_=>none
 |_=>none
def ev1(T:TT)(e:SE)(L:ao):Op->bz
 |.move x=>jA e x
 |.assign x=>jA e x
 |.nilCheck x=>match jA e x with
  |some (.p n o)=>some (.p n o)
  |some (.e s n i o)=>some (.e s n i o)
  |some (.f f cs)=>some (.f f cs)
  |some (.k (.func (.func f) a b))=>some (.k (.func (.func f) a b))
  |_=>none
 |.pick c a b=>match jA e c with
  |some (.l true)=>jA e a
  |some (.l false)=>jA e b
  |_=>none
 |.unOp .not _ x=>match jA e x with
  |some (.b c)=>some (.b (!c))
  |some (.l c)=>some (.l (!c))
  |_=>none
 |.unOp .neg _ x=>match jA e x with
  |some (.i k a)=>some (.i k (k.wrap (0-a)))
  |_=>none
 |.binOp op t x y _=>match jA e x,jA e y with
  |some a,some b=>bin T op t a b y
  |_,_=>none
 |.convert s t x=>match jA e x with
  |some a=>conv T s t a
  |none=>none
 |.extract x ix=>match jA e x with
  |some (.t xs)=>xs[ix]?
  |_=>none
 |.fieldAddr t x ix=>match jA e x with
  |some a=>bE0 T t a ix
  |none=>none
 |.load t p=>match jA e p with
  |some a=>aX7 T t a L
  |none=>none
 |.build t d=>a55 T e t d.toList
 |.call { callee:=.builtin .len,args:=⟨[x]⟩,argTypes:=⟨[t]⟩ } => match jA e x,zS T t with
  |some a,some ⟨k,_,_,_⟩=>bSQ k a
  |_,_=>none
 |_=>none
abbrev Bl:=b6
variable{B:Bl}
inductive Fr where
 |s (y:Code)
 |k (id:Nat)
abbrev bg:=List Fr
inductive wV where
 |n
 |c (x:Code)
 |r (ops:br) (l:cn)
 |d (B1:Bl) (ops:br) (l:aF) (is:av) (Lf Lv:ao)
 |o (B1:Bl) (ops:br) (l:aF) (is:av) (Lf Lv:ao) (i:Nat)
def wV.ext(a:ao):wV->wV
 |.d B1 ops l is Lf Lv=>.d B1 ops l is Lf (Lv++a)
 |.o B1 ops l is Lf Lv i=>.o B1 ops l is Lf (Lv++a) i
 |x=>x
inductive Stop where
 |ret (m:Nat) (e:SE) (L:ao)
 |fin (m:Nat) (e:SE) (L:ao)
 |ex (id m:Nat) (e:SE) (L:ao)
 |cond (o:Operand) (b:Bool) (x y:Code) (K:bg) (m:Nat) (e:SE) (L:ao)
 |case (b:Bool) (cf:wV) (K:bg) (m:Nat) (e:SE) (L:ao)
 |loop (id:Nat) (x:Code) (K:bg) (m:Nat) (e:SE) (L:ao)
 |idx (o:Oper) (d t:Nat) (s:AC) (n:Nat) (i:Int) (Lv:ao) (cf cf':wV) (K:bg) (m:Nat) (e:SE) (L:ao)
 |call (o:Oper) (d:cq) (f:FuncId) (xs:au) (cf cf':wV) (K:bg) (m:Nat) (e:SE) (L:ao)
 |callp (o:Oper) (d:cq) (f:FuncId) (xs:au) (cf cf':wV) (K:bg) (m:Nat) (e:SE) (L:ao)
 |opp (o:Oper) (Lv:ao) (cf cf':wV) (K:bg) (m:Nat) (e:SE) (L:ao)
 |op (o:Oper) (Lv:ao) (cf cf':wV) (K:bg) (m:Nat) (e:SE) (L:ao)
 |rgn (id:Nat) (ops:br) (K:bg) (m:Nat) (e:SE) (L:ao)
 |alt (cf:wV) (K:bg) (m:Nat) (e:SE) (L:ao)
 |stuck
def pop:bg->Option (Code×List Fr)
 |[]=>none
 |.s y::K=>some (y,K)
 |.k _::K=>pop K
def xit(id:Nat):bg->Option bg
 |[]=>none
 |.s _::K=>xit id K
 |.k j::K=>match Nat.beq id j with
  |true=>some K
  |false=>xit id K
inductive Gd where
 |yes|no|ask (b:Bool)|bad
def GL (ops : br) (e : SE) : Option (Nat × Bool) -> Gd
 |none=>.yes
 |some (j,w)=>match ops.toList[j]? with
  |some q=>match q.dst with
   |some s=>match GK e s with
    |some (.l c)=>match c,w with
     |true,true=>.yes
     |false,false=>.yes
     |_,_=>.no
    |some .u=>.no
    |some (.b c)=>.ask c
    |_=>.bad
   |none=>.bad
  |none=>.bad
def vN(n:Nat)(cs:au):ao->ao
 |[]=>[]
 |.box k c::L=>match Nat.beq n k with
  |true=>.box k cs::L
  |false=>.box k c::vN n cs L
 |x::L=>x::vN n cs L
def XJ(n:Nat):ao->Bool
 |[]=>false
 |.box k _::L=>match Nat.beq n k with
  |true=>true
  |false=>XJ n L
 |.ro k _::L=>match Nat.beq n k with
  |true=>false
  |false=>XJ n L
 |_::L=>XJ n L
def Y2 (T : TT) (t : TypeId) (p v : SV) (L : ao) : Option (List Ch):=match p with
 |.p n o=>match XJ n L with
  |true=>match LO n L,zS T t with
   |some cs,some ⟨_,_,m,_⟩=>match isCells v,Nat.beq (pN v).length m,Nat.ble (o + m) cs.length with
    |true,true,true=>match frc (ovw cs o (pN v)) with
     |some a=>match frc (vN n a L) with
      |some b=>some b
      |none=>none
     |none=>none
    |_,_,_=>none
   |_,_=>none
  |false=>none
 |_=>none
inductive Ef where
 |val (v:SV)
 |box (cs:au)
 |st (L:ao)
 |no
def eff(T:TT)(e:SE)(L:ao)(o:Op):Ef:=match ev1 T e L o with
 |some v=>.val v
 |none=>match o with
  |.alloc t=>match zS T t with
   |some ⟨_,_,_,z⟩=>.box z
   |none=>.no
  |.box _ v=>match jA e v with
   |some a=>match isCells a with
    |true=>.box (pN a)
    |false=>.no
   |none=>.no
  |.store t p v=>match jA e p,jA e v with
   |some a,some b=>match Y2 T t a b L with
    |some c=>.st c
    |none=>.no
   |_,_=>.no
  |_=>.no
def BZ(m:Nat):SV->Bool
 |.p n _=>Nat.blt n m
 |.g cs=>okC m cs
 |.t cs=>okT m cs
 |.f _ cs=>okF m cs
 |_=>true
where
 okC (m:Nat):au->Bool
  |[]=>true
  |x::r=>match x with
   |.p n _=>match Nat.blt n m with
    |true=>okC m r
    |false=>false
   |.g _=>false
   |_=>okC m r
 okT (m:Nat):au->Bool
  |[]=>true
  |x::r=>match x with
   |.p n _=>match Nat.blt n m with
    |true=>okT m r
    |false=>false
   |.g cs=>match okC m cs with
    |true=>okT m r
    |false=>false
   |_=>okT m r
 okF (m:Nat):av->Bool
  |[]=>true
  |n::r=>match Nat.blt n m with
   |true=>okF m r
   |false=>false
def nb1:SV->SV
 |.l c=>.b c
 |x=>x
def nbL:au->au
 |[]=>[]
 |x::r=>nb1 x::nbL r
def nbG:SV->SV
 |.g cs=>.g (nbL cs)
 |x=>nb1 x
def nbT:au->au
 |[]=>[]
 |x::r=>nbG x::nbT r
def nbS:SV->SV
 |.t xs=>.t (nbT xs)
 |x=>nbG x
def nbA:au->au
 |[]=>[]
 |x::r=>match x with
  |.f g []=>.k (.func (.func g) #[] #[])::nbA r
  |y=>nbG y::nbA r
def okA:au->Bool
 |[]=>true
 |x::r=>match BZ 0 x with
  |true=>okA r
  |false=>false
def bK3(e:SE)(o:Oper)(Lv:ao)(cf cf':wV)(K:bg)(m:Nat)(L:ao):Op->Stop
 |.pick c _ _=>match jA e c with
  |some (.b b)=>.case b cf K m e L
  |_=>.stuck
 |.indexAddr t x y=>match jA e x,jA e y,o.dst with
  |some (.h s n),some (.i .i64 i),some d=>.idx o d t s n i Lv cf cf' K m e L
  |_,_,_=>.op o Lv cf cf' K m e L
 |.call { callee:=.value f,args,.. } => match jA e f,aV (jA e) args.toList with
  |some (.f g []),some xs=>match okA (nbA xs) with
   |true=>.call o o.dst g (nbA xs) cf cf' K m e L
   |false=>.callp o o.dst g (nbA xs) cf cf' K m e L
  |_,_=>.op o Lv cf cf' K m e L
 |_=>.op o Lv cf cf' K m e L
def bP4(e:SE)(o:Oper)(Lv:ao)(cf cf':wV)(K:bg)(m:Nat)(L:ao):Op->Stop
 |.pick c _ _=>match jA e c with
  |some (.b b)=>.case b cf K m e L
  |_=>.stuck
 |.indexAddr t x y=>match jA e x,jA e y,o.dst with
  |some (.h s n),some (.i .i64 i),some d=>.idx o d t s n i Lv cf cf' K m e L
  |_,_,_=>.opp o Lv cf cf' K m e L
 |_=>.opp o Lv cf cf' K m e L
def opS:Stop->Option (Oper×List Ch×wV×wV×List Fr×Nat×SE×List Ch)
 |.op o Lv cf cf' K m e L=>some (o,Lv,cf,cf',K,m,e,L)
 |.opp o Lv cf cf' K m e L=>some (o,Lv,cf,cf',K,m,e,L)
 |_=>none
def sH(n:Nat):cq->Bool
 |none=>true
 |some d=>Nat.blt d n
def bE2:Ground->Bool
 |.textOnly _=>false
 |.gcOnly _=>false
 |_=>true
def VX(l:aF):List Edge->Bool
 |[]=>true
 |⟨on,g⟩::r=>match bE2 g with
  |true=>match l[on]? with
   |some true=>VX l r
   |_=>false
  |false=>VX l r
def aM4(l:aF)(i:Nat):cn->Nat->Bool
 |[],_=>true
 |o::r,j=>match l[j]? with
  |some false=>match Nat.beq j i with
   |true=>match VX l o.after.toList with
    |true=>aM4 l i r (j+1)
    |false=>false
   |false=>match VX l o.after.toList with
    |true=>false
    |false=>aM4 l i r (j+1)
  |some true=>aM4 l i r (j+1)
  |none=>false
def bOH:Op->Bool
 |.pick ..=>true
 |.indexAddr ..=>true
 |.index ..=>true
 |.binOp ..=>true
 |.slice ..=>true
 |.convert ..=>true
 |.call {callee:=.builtin .len,..}=>true
 |.call {callee:=.builtin .min,..}=>true
 |.call {callee:=.builtin .max,..}=>true
 |_=>false
inductive Ps where
 |fin (l:aF) (e:SE) (q:List (Nat×Oper))
 |ask (b:Bool) (l:aF) (e:SE)
 |pur (i:Nat) (o:Oper) (l:aF) (e:SE)
 |bad
def pass (T : TT) (n : Nat) (ops : br) (Lv : ao) : cn -> Nat -> aF -> SE -> List (Nat × Oper) -> Ps
 |[],_,l,e,q=>.fin l e q
 |o::r,i,l,e,q=>match l[i]? with
  |some true=>pass T n ops Lv r (i+1) l e q
  |some false=>match VX l o.after.toList with
   |false=>pass T n ops Lv r (i+1) l e q
   |true=>match GL ops e o.guard with
    |.bad=>.bad
    |.ask c=>.ask c l e
    |.no=>match o.dst with
     |some d=>match Nat.blt d n with
      |true=>pass T n ops Lv r (i+1) (l.set i true) ((d,.u)::e) q
      |false=>.bad
     |none=>.bad
    |.yes=>match ev1 T e Lv o.op with
     |some v=>match o.dst with
      |some d=>match Nat.blt d n with
       |true=>pass T n ops Lv r (i+1) (l.set i true) ((d,v)::e) q
       |false=>.bad
      |none=>.bad
     |none=>match bOH o.op with
      |true=>.pur i o l e
      |false=>pass T n ops Lv r (i+1) l e ((i,o)::q)
  |none=>.bad
def zT(l:aF):cn->Nat->av
 |[],_=>[]
 |o::r,j=>match l[j]? with
  |some false=>match VX l o.after.toList with
   |true=>j::zT l r (j+1)
   |false=>zT l r (j+1)
  |_=>zT l r (j+1)
def bK4:aF->Bool
 |[]=>true
 |b::l=>match b with
  |true=>bK4 l
  |false=>false
def aZU(n:Nat):ao->Nat->Nat
 |[],i=>i
 |.box k _::L,i=>match Nat.beq n k with
  |true=>i
  |false=>aZU n L (i+1)
 |_::L,i=>aZU n L (i+1)
def gE(i:Nat):av->Bool
 |[]=>true
 |j::r=>match Nat.beq i j with
  |true=>false
  |false=>gE i r
def bP5(e:SE)(L:ao)(is:av):Op->Bool
 |.store _ p _=>match jA e p with
  |some (.p n _)=>gE (aZU n L 0) is
  |_=>false
 |_=>true
def stp(T:TT)(n:Nat):Nat->bg->wV->Nat->SE->ao->Stop
 |0,_,_,_,_,_=>.stuck
 |F + 1,K,.c x,m,e,L=>match x with
  |.skip=>match pop K with
   |some (y,j)=>stp T n F j (.c y) m e L
   |none=>.fin m e L
  |.seq a b=>stp T n F (.s b::K) (.c a) m e L
  |.block id b=>match b with
   |.loop y=>.loop id y K m e L
   |b=>stp T n F (.k id::K) (.c b) m e L
  |.exit id=>match xit id K with
   |some j=>match pop j with
    |some (y,q)=>stp T n F q (.c y) m e L
    |none=>.fin m e L
   |none=>.ex id m e L
  |.ret=>.ret m e L
  |.cond o x y=>match jA e o with
   |some (.l c)=>match c with
    |true=>stp T n F K (.c x) m e L
    |false=>stp T n F K (.c y) m e L
   |some (.b c)=>.cond o c x y K m e L
   |_=>.stuck
  |.region id ops d=>match d with
   |false=>stp T n F K (.r ops ops.toList) m e L
   |true=>.rgn id ops K m e L
  |_=>.stuck
 |F + 1,K,.n,m,e,L=>match pop K with
  |some (y,j)=>stp T n F j (.c y) m e L
  |none=>.fin m e L
 |F + 1,K,.r _ [],m,e,L=>match pop K with
  |some (y,j)=>stp T n F j (.c y) m e L
  |none=>.fin m e L
 |F + 1,K,.r ops (⟨dst,op,ty,p,k,h⟩::l),m,e,L=>match GL ops e h with
  |.bad=>.stuck
  |.ask c=>.case c (.r ops (⟨dst,op,ty,p,k,h⟩::l)) K m e L
  |.no=>match dst with
   |some d=>match Nat.blt d n with
    |true=>stp T n F K (.r ops l) m ((d,.u)::e) L
    |false=>.stuck
   |none=>.stuck
  |.yes=>match eff T e L op,dst with
   |.val v,some d=>match Nat.blt d n with
    |true=>stp T n F K (.r ops l) m ((d,v)::e) L
    |false=>.stuck
   |.box cs,some d=>match Nat.blt d n with
    |true=>stp T n F K (.r ops l) (m+1) ((d,.p m 0)::e) (L++[.box m cs])
    |false=>.stuck
   |.st r,none=>stp T n F K (.r ops l) m e r
   |.no,_=>match sH n dst with
    |true=>bK3 e ⟨dst,op,ty,p,k,h⟩ L (.r ops (⟨dst,op,ty,p,k,h⟩::l)) (.r ops l) K m L op
    |false=>.stuck
   |_,_=>.stuck
 |F + 1,K,.d B1 ops l is Lf Lv,m,e,L=>match pass T n ops Lv ops.toList 0 l e [] with
  |.bad=>.stuck
  |.ask c f g=>.case c (.d B1 ops f is Lf Lv) K m g L
  |.pur i o f g=>match sH n o.dst with
   |true=>bP4 g o Lv (.d B1 ops f is Lf Lv) (.d B1 ops (f.set i true) is Lf Lv) K m L o.op
   |false=>.stuck
  |.fin f g []=>match bK4 f with
   |true=>stp T n F K .n m g L
   |false=>.stuck
  |.fin f g [(i,_)]=>match aM4 f i ops.toList 0 with
   |true=>stp T n F K (.o B1 ops f is Lf Lv i) m g L
   |false=>.stuck
  |.fin f g _=>.alt (.d B1 ops f is Lf Lv) K m g L
 |F + 1,K,.o B1 ops l is Lf Lv i,m,e,L=>match ops.toList[i]? with
  |some ⟨dst,op,ty,p,k,h⟩=>match VX l k.toList,l[i]?,GL ops e h with
   |true,some false,.yes=>match eff T e L op,dst with
    |.val v,some d=>match Nat.blt d n with
     |true=>stp T n F K (.d B1 ops (l.set i true) is Lf Lv) m ((d,v)::e) L
     |false=>.stuck
    |.box cs,some d=>match Nat.blt d n with
     |true=>stp T n F K (.d B1 ops (l.set i true) is Lf Lv) (m+1) ((d,.p m 0)::e) (L++[.box m cs])
     |false=>.stuck
    |.st r,none=>match bP5 e L is op with
     |true=>stp T n F K (.d B1 ops (l.set i true) is Lf Lv) m e r
     |false=>.stuck
    |.no,_=>match sH n dst with
     |true=>bK3 e ⟨dst,op,ty,p,k,h⟩ Lv (.o B1 ops l is Lf Lv i) (.d B1 ops (l.set i true) is Lf Lv) K m L op
     |false=>.stuck
    |_,_=>.stuck
   |_,_,_=>.stuck
  |none=>.stuck
def bBP:SE->Option SE
 |[]=>some []
 |(k,v)::r=>match bBP r with
  |some s=>some ((k,v)::s)
  |none=>none
def bBQ:ao->Option ao
 |[]=>some []
 |x::r=>match bBQ r with
  |some s=>match x with
   |.box n cs=>match frc cs with
    |some a=>some (.box n a::s)
    |none=>none
   |.ro n cs=>match frc cs with
    |some a=>some (.ro n a::s)
    |none=>none
   |y=>some (y::s)
  |none=>none
def jO(T:TT)(n:Nat)(K:bg)(cf:wV)(m:Nat)(e:SE)(L:ao):Stop:=match bBP e,bBQ L with
 |some a,some b=>stp T n 9999 K cf m a b
 |_,_=>.stuck
def kp(e:SE):av->SE
 |[]=>[]
 |k::a=>match GK e k with
  |some x=>(k,x)::kp e a
  |none=>kp e a
def kl(L:ao):av->ao
 |[]=>[]
 |i::is=>match L[i]? with
  |some x=>x::kl L is
  |none=>kl L is
def re1:SV->SV->SV
 |.b _,.l c=>.b c
 |_,x=>x
def reC:au->au->au
 |x::xs,y::a=>re1 x y::reC xs a
 |_,a=>a
def reE(e:SE):SE->Option SE
 |[]=>some []
 |(k,z)::r=>match GK e k with
  |some x=>match reE e r with
   |some s=>some ((k,re1 z x)::s)
   |none=>none
  |none=>none
def reL:ao->ao->ao
 |.box _ cs::M,.box n a::L=>.box n (reC cs a)::reL M L
 |_::M,x::L=>x::reL M L
 |[],L=>L
 |_,[]=>[]
def okE(m:Nat):SE->Bool
 |[]=>true
 |(_,x)::e=>match BZ m x with
  |true=>okE m e
  |false=>false
def okL(m:Nat):ao->Bool
 |[]=>true
 |.box n cs::L=>match Nat.blt n m,BZ.okC m cs with
  |true,true=>okL m L
  |_,_=>false
 |.ro n cs::L=>match Nat.blt n m,BZ.okC m cs with
  |true,true=>okL m L
  |_,_=>false
 |.w n _ _::L=>match Nat.blt n m with
  |true=>okL m L
  |false=>false
 |_::L=>okL m L
def asS(e:SE)(L:ao)(is:av)(m:Nat)(e':SE)(L':ao):Option (SE×List Ch):=match reE e e' with
 |some s=>match okE m s,okL m (reL L' (kl L is)) with
  |true,true=>some (s,reL L' (kl L is))
  |_,_=>none
 |none=>none
def asT(b m:Nat)(e:SE)(L:ao)(is:av)(m':Nat)(e':SE)(L':ao):Option (SE×List Ch):=match Nat.ble b m',Nat.ble m' m,dV is with
 |true,true,true=>asS e L is m' e' L'
 |_,_,_=>none
def ovr(c:Bool)(e:SE):av->SE
 |[]=>e
 |s::a=>(s,.l c)::ovr c e a
def XL:Stop->Option (List Fr×wV×Nat×SE×List Ch)
 |.cond o _ x y K m e L=>some (K,.c (.cond o x y),m,e,L)
 |.case _ cf K m e L=>some (K,cf,m,e,L)
 |.loop id y K m e L=>some (K,.c (.block id (.loop y)),m,e,L)
 |.idx _ _ _ _ _ _ _ cf _ K m e L=>some (K,cf,m,e,L)
 |.call _ _ _ _ cf _ K m e L=>some (K,cf,m,e,L)
 |.callp _ _ _ _ cf _ K m e L=>some (K,cf,m,e,L)
 |.op _ _ cf _ K m e L=>some (K,cf,m,e,L)
 |.opp _ _ cf _ K m e L=>some (K,cf,m,e,L)
 |.rgn id ops K m e L=>some (K,.c (.region id ops true),m,e,L)
 |.alt cf K m e L=>some (K,cf,m,e,L)
 |_=>none
def aHB(i:Nat):List Edge->Bool
 |[]=>false
 |⟨on,g⟩::r=>match bE2 g with
  |true=>match Nat.beq on i with
   |true=>true
   |false=>aHB i r
  |false=>aHB i r
def a2P(ops:br):Bool:=Region.noSelect ops && ops.toList.zipIdx.all λp=>ops.toList.zipIdx.all λq=>Nat.beq p.2 q.2 || aHB p.2 q.1.after.toList || aHB q.2 p.1.after.toList || p.1.apart ops q.1
def bE3(T:TT)(e:SE)(L:ao):ResultVar->bz
 |.tmp t=>GK e t
 |.cell t ty=>match GK e t with
  |some p=>aX7 T ty p L
  |none=>none
def a56(T:TT)(e:SE)(L:ao)(r:ResultVar):bz:=match bE3 T e L r with
 |some x=>match isCells x with
  |true=>some x
  |false=>none
 |none=>none
def aZW(T:TT)(e:SE)(L:ao):List ResultVar->bz
 |[]=>some (.t [])
 |[r]=>bE3 T e L r
 |[r,s]=>match a56 T e L r,a56 T e L s with
  |some x,some y=>some (.t [x,y])
  |_,_=>none
 |[r,s,t]=>match a56 T e L r,a56 T e L s,a56 T e L t with
  |some x,some y,some z=>some (.t [x,y,z])
  |_,_,_=>none
 |_=>none
def bT(B:Bl):SV->Option Value
 |.i k x=>some (.int k x)
 |.y b=>some (.int .u8 (b.toNat:Int))
 |.b c=>some (.bool c)
 |.l c=>some (.bool c)
 |.s l=>some (sv l)
 |.p n o=>match B[n]? with
  |some (b,z)=>some (.pointer (some ⟨b,z+o,none⟩))
  |none=>none
 |.h s n=>some (s.v n)
 |.e s n i o=>some (.pointer (some ⟨elB (s.v 0),elO n i (s.v 0)+o,none⟩))
 |.k x=>match x.oneCell' with
  |true=>some x
  |false=>none
 |_=>none
def gV(B:Bl):SV->Option Value
 |.g cs=>match aV (bT B) cs with
  |some vs=>some (.agg vs.toArray)
  |none=>none
 |x=>bT B x
def aB2(B:Bl)(n:Nat):Option Value:=match B[n]? with
 |some (b,z)=>some (.pointer (some ⟨b,z,none⟩))
 |none=>none
def fS(B:Bl):SV->Option Value
 |.t xs=>match aV (gV B) xs with
  |some vs=>some (.tuple vs.toArray)
  |none=>none
 |.f f cs=>match aV (aB2 B) cs with
  |some vs=>some (.func (.func f) #[] vs.toArray)
  |none=>none
 |.u=>some undef
 |x=>gV B x
theorem aRK{v:Value}(h:bT B x=some v):v.oneCell'=true:=by
 cases x<;>simp only[bT] at h<;>try (simp at h;done)
 all_goals try (cases h;rfl)
 .split at h<;>cases h;rfl
 grind
theorem mE{O β:Type}{f:O->Option β}:∀{l:List O} {r:List β},aV f l=some r->r.length=l.length
 |[],r,h=>by cases h;rfl
 |x::l,r,h=>by
  simp only[aV] at h;split at h
  .cases h
  .split at h
   .cases h
   .rename_i a;cases h;simp[mE a]
def XM{O β:Type}{f:O->Option β}:∀{l:List O} {r:List β} {i:Nat} {x:O},aV f l=some r->l[i]?=some x->∃y,f x=some y/\r[i]?=some y
 |[],_,_,_,_,h=>by simp at h
 |x::l,r,i,z,h,a=>by
  simp only[aV] at h;split at h
  .cases h
  .rename_i e;split at h
   .cases h
   .rename_i b;cases h;cases i with
    |zero=>grind
    |succ i=>obtain⟨y,d,c⟩:=XM b (by simpa using a);grind
theorem XN{O β:Type}{f:O->Option β}:∀{l:List O} {r:List β} (k:Nat),aV f l=some r->aV f (l.drop k)=some (r.drop k)
 |l,r,0,h=>h
 |[],r,k+1,h=>by cases h;rfl
 |x::l,r,k + 1,h=>by
  simp only[aV] at h;split at h
  .cases h
  .split at h
   .cases h
   .rename_i a;cases h;exact XN k a
theorem XO{O β:Type}{f:O->Option β}:∀{l:List O} {r:List β} (k:Nat),aV f l=some r->aV f (l.take k)=some (r.take k)
 |l,r,0,h=>rfl
 |[],r,k+1,h=>by cases h;rfl
 |x::l,r,k + 1,h=>by
  simp only[aV] at h;split at h
  .cases h
  .rename_i b;split at h
   .cases h
   .rename_i a;cases h;simp[aV,b,XO k a]
theorem fL{O β:Type}{f g:O->Option β}(a:∀x y,f x=some y->g x=some y):∀{l:List O} {r:List β},aV f l=some r->aV g l=some r
 |[],r,h=>h
 |x::l,r,h=>by
  simp only[aV] at h;split at h
  .cases h
  .rename_i c;split at h
   .cases h
   .rename_i b;cases h;simp[aV,a _ _ c,fL a b]
def a2Q{O β:Type}{f:O->Option β}:∀{l:List O} {r:List β} {x:O} {y:β} (k:Nat),aV f l=some r->f x=some y->aV f (l.set k x)=some (r.set k y)
 |[],r,_,_,k,h,_=>by cases h;rfl
 |z::l,r,x,y,k,h,a=>by
  simp only[aV] at h;split at h
  .cases h
  .rename_i c;split at h
   .cases h
   .rename_i b;cases h;cases k with
    |zero=>grind[aV]
    |succ k=>simp[aV,c,a2Q k b a]
theorem aIT{f:SV->Option Value}:∀{ds:au} {vs:ar} {cs:au} {r:ar} (k:Nat),aV f cs=some r->aV f ds=some vs->aV f (bE1 cs k ds)=some (aIP r k vs)
 |[],vs,cs,r,k,h,a=>by cases a;exact h
 |d::ds,vs,cs,r,k,h,a=>by
  simp only[aV] at a;split at a
  .cases a
  .rename_i c;split at a
   .cases a
   .rename_i b;cases a;exact aIT (k+1) (a2Q k h c) b
def Bl.app(B':Bl){q:Nat×Nat}(h:B[n]?=some q):(B++B')[n]?=some q:=aj
theorem gR(B':Bl){v:Value}(h:bT B x=some v):bT (B++B') x=some v:=by
 cases x<;>simp only[bT] at h ⊢<;>try exact h
 grind
def bE4(B':Bl){v:Value}(h:gV B x=some v):gV (B++B') x=some v:=by
 cases x<;>simp only[gV] at h ⊢<;>try exact gR B' h
 grind[fL,gR]
def bE5(B':Bl){x:Nat}{v:Value}(h:aB2 B x=some v):aB2 (B++B') x=some v:=by grind[aB2]
theorem y7(B':Bl){v:Value}(h:fS B x=some v):fS (B++B') x=some v:=by
 cases x<;>simp only[fS] at h ⊢<;>try exact bE4 B' h
 .split at h
  .rename_i a;rw[fL (λ_ _=>bE4 B') a];exact h
  .cases h
 .split at h
  .rename_i a;rw[fL (λ_ _=>bE5 B') a];exact h
  .cases h
 .exact h
theorem bSR{v:Value}(h:gV B x=some v):fS B x=some v:=by cases x<;>first|exact h|grind[gV,bT]
def a8U{v:Value}(h:bT B x=some v):fS B x=some v:=by cases x<;>first|exact h|grind[bT]
structure iC (n:Nat) (B:Bl) (e:SE) (a:Act):Prop where
 d:a.defers=[]
 size:a.tmps.size=n
 get:∀k x,GK e k=some x->∃v,fS B x=some v/\a.tmps[k]?=some v
def vE(B:Bl):SE->Env
 |[]=>[]
 |(k,x)::e=>(k,(fS B x).getD undef)::vE B e
def bE6{B:Bl}{k:Nat}{v:Value}:∀{e:SE},lk (vE B e) k=some v->∃x,GK e k=some x/\v=(fS B x).getD undef
 |[],h=>by simp[vE,lk] at h
 |(j,x)::e,h=>by
  simp only[vE,lk] at h;simp only[GK];cases a:Nat.beq k j with
  |true=>grind
  |false=>rw[a] at h;exact bE6 h
theorem aRL{B:Bl}{k:Nat}{x:SV}:∀{e:SE},GK e k=some x->lk (vE B e) k=some ((fS B x).getD undef)
 |[],h=>by simp[GK] at h
 |(j,y)::e,h=>by
  simp only[GK] at h;simp only[vE,lk];cases a:Nat.beq k j with
  |true=>grind
  |false=>rw[a] at h;exact aRL h
section
variable {n:Nat} {B:Bl} {e:SE} {a:Act}
theorem iC.env(h:iC n B e a):O2 n (vE B e) a:=⟨h.d,h.size,λk v hk=>by
 obtain⟨x,b,f⟩:=bE6 hk;obtain⟨u,d,c⟩:=h.get k x b;grind⟩
theorem iC.of{a':Act}(h:iC n B e a){d:Nat}{v:Value}(f:fS B x=some v)(b:O2 n ((d,v)::vE B e) a'):iC n B ((d,x)::e) a':=⟨b.d,b.size,λk y hk=>by
 simp only[GK] at hk;cases c:Nat.beq k d with
 |true=>
  rw[c] at hk;cases hk;exact⟨v,f,b.get k v (by grind[lk])⟩
 |false=>
  rw[c] at hk;obtain⟨u,g,i⟩:=h.get k y hk;refine⟨u,g,b.get k u ?_⟩;grind[lk,aRL]⟩
theorem iC.app(h:iC n B e a)(B':Bl):iC n (B++B') e a:=⟨h.d,h.size,λk x hk=>by
 obtain⟨v,c,b⟩:=h.get k x hk;grind[y7]⟩
theorem a8V(h:bEZ m=some x):fS B x=some (.int .u8 (m:Int))/\tF x=some (.u8,(m:Int)):=by grind[bEZ,y5,UInt8.toNat_ofNat',fS,gV,bT,tF]
theorem bP6{v:Value}(h:one? v=some x):fS B x=some v:=by grind[one?,fS,gV,bT]
theorem bP7{v:Value}(h:ofC v=some x):fS B x=some v:=by
 unfold ofC at h;split at h
 .exact(a8V h).1
 .cases h;rfl
 .cases h;rfl
 .cases h;rename_i s;cases s;simp[fS,gV,bT]
 .cases h;rfl
 .cases h
 .exact bP6 h
theorem eV(c:iC n B e a){o:Operand}(h:jA e o=some x):∃v,fS B x=some v/\ev (vE B e) o=some v:=by
 cases o with
 |tmp t=>
  obtain⟨v,b,_⟩:=c.get t x h;exact⟨v,b,by simp only[ev];rw[aRL h,b];rfl⟩
 |const v=>exact⟨v,bP7 h,rfl⟩
 |global g=>cases h
 |func f=>cases h;exact⟨_,rfl,rfl⟩
theorem a57{v:Value}(h:tF x=some (k,i))(b:fS B x=some v):v=.int k i:=by
 cases x<;>simp only[tF] at h<;>cases h
 .cases b;rfl
 .cases b;rfl
theorem a8W{c:Bool}{v:Value}(h:a8T x=some c)(b:fS B x=some v):v=.bool c:=by
 cases x<;>simp only[a8T] at h<;>cases h
 .cases b;rfl
 .cases b;rfl
theorem bP8{k':IntKind}(h:jA e (.const (.int k' j))=some x)(b:tF x=some (k,i)):j=i:=by
 simp only[jA] at h;unfold ofC at h;split at h
 .rename_i heq;cases heq;have:=(a8V (B:=[]) h).2;rw[this] at b;cases b;rfl
 .rename_i heq;cases heq;cases h;cases b;rfl
 all_goals (rename_i heq;first|(cases heq;done)|skip)
 rename_i g b f d c;exact absurd rfl (b _ _)
end
structure IC (P:Program) (T:TT):Prop where
 und:∀t i,zS T t=some i->∃d,P.underlying t=some d/\match i.d with
  |.i k=>d=.int k
  |.b=>d=.bool
  |.st fs=>∃Fs:Array Field,d=.struct Fs/\Fs.toList.map (·.offset)=fs.map (·.1)/\(∀(j:Nat) F,Fs[j]?=some F->∃m,fs[j]?=some (F.offset,m)/\∀w,(sizeOf F.type).run P w=.ok m w)/\∀w,(Fs.mapM λf=>(do pure (f.offset,<-sizeOf f.type):Sem (Nat×Nat))).run P w=.ok fs.toArray w
  |.s=>d=.string
  |.sl el=>d=.slice el
  |.x=>True
 agg:∀t i,zS T t=some i->∀w,(isAgg t).run P w=.ok i.a w
 size:∀t i,zS T t=some i->∀w,(sizeOf t).run P w=.ok i.n w
 zero:∀t i,zS T t=some i->∃z,(∀w,(zeroValue t).run P w=.ok z w)/\aV (bT []) i.z=some z.cells.toList
section
variable {P:Program} {T:TT} {n:Nat} {B:Bl} {e:SE} {E:Env} {o:Oper} {w:World} {x y:Operand}
theorem bK5{yv r:SV}(ho:o.op=.binOp op t x y z)(b:ev E x=some (.int k i))(a:ev E y=some (.int k j))(g:jA e y=some yv)(f:tF yv=some (k,j))(h:bK1 op k i j y=some r):∃v,fS B r=some v/\fH P o E w v w:=by
 have d:∀k' m,y=.const (.int k' (.ofNat (m+1)))->j≠0:=λk' m l=>by grind[bP8]
 have c:∀k' m,y=.const (.int k' (.negSucc m))->j≠0:=λk' m l=>by grind[bP8]
 cases op with
 |add=>cases h;exact⟨_,rfl,bPD ho b a⟩
 |sub=>cases h;exact⟨_,rfl,bPE ho b a⟩
 |mul=>cases h;exact⟨_,rfl,bPF ho b a⟩
 |lss=>cases h;exact⟨_,rfl,bPG ho b a⟩
 |leq=>cases h;exact⟨_,rfl,bPH ho b a⟩
 |gtr=>cases h;exact⟨_,rfl,bPI ho b a⟩
 |geq=>cases h;exact⟨_,rfl,bPJ ho b a⟩
 |eql=>cases h;exact⟨_,rfl,bPK ho b a⟩
 |neq=>cases h;exact⟨_,rfl,bPL ho b a⟩
 |and=>cases h;exact⟨_,rfl,bPM ho b a⟩
 |or=>cases h;exact⟨_,rfl,bSM ho b a⟩
 |xor=>cases h;exact⟨_,rfl,bPN ho b a⟩
 |andNot=>cases h;exact⟨_,rfl,bBG ho b a⟩
 |quo=>
  simp only[bK1] at h;split at h
  .cases h;exact⟨_,rfl,a5W ho b a (d _ _ rfl)⟩
  .cases h;exact⟨_,rfl,a5W ho b a (c _ _ rfl)⟩
  .cases h
 |rem=>
  simp only[bK1] at h;split at h
  .cases h;exact⟨_,rfl,a5X ho b a (d _ _ rfl)⟩
  .cases h;exact⟨_,rfl,a5X ho b a (c _ _ rfl)⟩
  .cases h
 |_=>cases h
theorem bE7{k':IntKind}{yv r:SV}(ho:o.op=.binOp op t x y z)(b:ev E x=some (.int k i))(a:ev E y=some (.int k' j))(f:jA e y=some yv)(d:tF yv=some (k',j))(h:shI op k i j y=some r):∃v,fS B r=some v/\fH P o E w v w:=by
 have c:∀k' m,y=.const (.int k' (.ofNat m))->¬j<0:=λk' m g=>by grind[bP8]
 cases op<;>simp only[shI] at h<;>try (cases h;done)
 .split at h
  .cases h;exact⟨_,rfl,bD3 ho b a (c _ _ rfl)⟩
  .cases h
 .split at h
  .cases h;exact⟨_,rfl,bPO ho b a (c _ _ rfl)⟩
  .cases h
theorem bP9(hT:IC P T){a c r:SV}{A vc:Value}(ho:o.op=.binOp op t x y z)(g:ev E x=some A)(f:ev E y=some vc)(p:fS B a=some A)(hc:fS B c=some vc)(b:jA e y=some c)(h:bin T op t a c y=some r):∃v,fS B r=some v/\fH P o E w v w:=by
 unfold bin at h;split at h
 .rename_i k i k' j q l;have u:=a57 q p;have s:=a57 l hc;subst u;subst s;split at h
  .exact bE7 ho g f b l h
  .exact bE7 ho g f b l h
  .split at h
   .rename_i hk _;subst hk;exact bK5 ho g f b l h
   .cases h
 .split at h
  .cases p;cases hc;split at h
   .cases h;exact⟨_,rfl,bKH ho g f⟩
   .cases h;exact⟨_,rfl,bKI ho g f⟩
   .cases h
  .split at h
   .rename_i q l D;have u:=a8W q p;have s:=a8W l hc;subst u;subst s;obtain⟨d,C,m⟩:=hT.und _ _ D;simp only at m;subst m;split at h
    .cases h;exact⟨_,rfl,bKF C ho g f⟩
    .cases h;exact⟨_,rfl,bKG C ho g f⟩
    .cases h
   .cases h
theorem bK6(hT:IC P T){s:TypeId}{a r:SV}{j:Value}(ho:o.op=.convert s t x)(c:ev E x=some j)(k:fS B a=some j)(h:conv T s t a=some r):∃v,fS B r=some v/\fH P o E w v w:=by
 unfold conv at h
 split at h
 .rename_i i k' _ _ _ m l;obtain⟨p,f,_⟩:=hT.und _ _ m;obtain⟨d,g,b⟩:=hT.und _ _ l;simp only at b;subst b;split at h
  .cases k;split at h
   .cases h;exact⟨_,rfl,bD7 f g ho c⟩
   .cases h;exact⟨_,rfl,aZR f g ho c⟩
  .cases k;split at h
   .cases h;exact⟨_,rfl,bD8 f g ho c⟩
   .cases h
  .cases h
 .cases h
theorem a8X(hT:IC P T){t ix k:Nat}(h:bK2 T t ix=some k):∃(fs:Array Field) (f:Field) (m:Nat),P.underlying t=some (.struct fs)/\fs[ix]?=some f/\f.offset=k/\∀w,(sizeOf f.type).run P w=.ok (m+1) w:=by
 unfold bK2 at h;split at h
 .rename_i fs _ _ _ q;obtain⟨d,j,Fs,rfl,a,b,_⟩:=hT.und _ _ q;split at h
  .rename_i k' m p;cases h;have g:Fs.size=fs.length:=by have:=cS List.length a;grind
   have c:ix<Fs.size:=aj
   obtain⟨m',i,l⟩:=b ix Fs[ix] (by simp[c]);rw[p] at i;cases i;exact⟨Fs,Fs[ix],m,j,by simp[c],rfl,l⟩
  .cases h
 .cases h
theorem bE8(hT:IC P T){t ix:Nat}{a r:SV}{j:Value}(ho:o.op=.fieldAddr t x ix)(l:ev E x=some j)(c:fS B a=some j)(h:bE0 T t a ix=some r):∃v,fS B r=some v/\fH P o E w v w:=by
 unfold bE0 at h;split at h
 .split at h
  .rename_i q p k hk;cases h;obtain⟨fs,f,m,i,g,s,d⟩:=a8X hT hk;simp only[fS,gV,bT] at c ⊢;split at c
   .rename_i b z A;cases c;exact⟨_,rfl,bD6 i ho g d l aa⟩
   .cases c
  .cases h
 .split at h
  .rename_i s0 q u p k hk;cases h;obtain⟨fs,f,m,i,g,s,d⟩:=a8X hT hk;cases c;exact⟨_,rfl,bD6 i ho g d l aa⟩
  .cases h
 .cases h
end
def Y3(B:Bl)(n:Nat)(cs:au):Chunk where
 P:=λw F=>∃b z vs,B[n]?=some (b,z)/\aV (bT B) cs=some vs/\(cAt b z vs).P w F
 keep:=λ⟨b,z,vs,f,e,a⟩ hk d=>⟨b,z,vs,f,e,(cAt b z vs).keep a hk d⟩
 lt:=λ⟨b,z,vs,_,_,a⟩ c=>(cAt b z vs).lt a c
def l5(B:Bl):Ch->Chunk
 |.box n cs=>Y3 B n cs
 |.o c=>c
 |_=>QD
def roF(B:Bl)(R:bs):Ch->Prop
 |.ro n cs=>∃b z vs,B[n]?=some (b,z)/\aV (bT B) cs=some vs/\fAt b z vs∈R
 |.f f=>f∈R
 |.w n b z=>B[n]?=some (b,z)
 |_=>True
structure lS (c:Ctx) (w:World) (B:Bl) (L:ao):Prop where
 ex:∃R,St c w (L.map (l5 B)) R/\∀x∈L,roF B R x
 s0:∀b o,c.S0 b o->b<c.w0.heap.size
inductive kC (w:World):bj->bj->Prop where
 |nil:kC w [] []
 |cons {a b:Chunk} {A B:bj} (h:∀F,a.P w F->b.P w F) (t:kC w A B):kC w (a::A) (b::B)
def Sep.imp{w:World}:∀{A B:bj} {F:cW},kC w A B->Sep w A F->Sep w B F
 |_,_,_,.nil,h=>h
 |_,_,_,.cons h t,⟨a,f,e,d,b,c⟩=>⟨a,f,h a e,Sep.imp t d,b,c⟩
def St.imp{A B:bj}(h:St c w A R)(b:kC w A B):St c w B R:=by obtain⟨F,S,a,rest⟩:=h.sep;exact⟨h.keep,⟨F,S,Sep.imp b a,rest⟩,h.apart⟩
theorem kC.refl{w:World}:∀(A:bj),kC w A A
 |[]=>.nil
 |_::A=>.cons (λ_ h=>h) (kC.refl A)
theorem kC.append{w:World}:∀{A B A' B':bj},kC w A B->kC w A' B'->kC w (A++A') (B++B')
 |_,_,_,_,.nil,h=>h
 |_,_,_,_,.cons h t,a=>.cons h (kC.append t a)
def kC.set{w:World}{a b:Chunk}:∀{A B:bj} (i:Nat),kC w A B->(∀F,a.P w F->b.P w F)->kC w (A.set i a) (B.set i b)
 |_,_,_,.nil,_=>.nil
 |_,_,0,.cons _ t,h=>.cons h t
 |_,_,i+1,.cons g t,h=>.cons g (kC.set i t h)
theorem kC.put{w:World}{a b:Chunk}:∀{A:bj} (i:Nat),A[i]?=some a->(∀F,a.P w F->b.P w F)->kC w A (A.set i b)
 |[],_,h,_=>by simp at h
 |x::A,0,h,g=>by simp at h;subst h;exact .cons g (kC.refl A)
 |x::A,i+1,h,g=>.cons (λ_ h=>h) (kC.put i aj g)
def bE9(B':Bl){cs:au}(h:(Y3 B n cs).P w F):(Y3 (B++B') n cs).P w F:=by obtain⟨b,z,vs,d,c,a⟩:=h;exact⟨b,z,vs,Bl.app B' d,fL (λ_ _=>gR B') c,a⟩
def bK7(B':Bl){x:Ch}(h:(l5 B x).P w F):(l5 (B++B') x).P w F:=by cases x<;>first|exact bE9 B' h|exact h
def aEX{B:Bl}(B':Bl){w:World}:∀(L:ao),kC w (L.map (l5 B)) (L.map (l5 (B++B')))
 |[]=>.nil
 |_::L=>.cons (λ_ h=>bK7 B' h) (aEX B' L)
theorem aZX(B':Bl){x:Ch}(h:roF B R x):roF (B++B') R x:=by
 cases x<;>try exact h
 .obtain⟨b,z,vs,d,c,a⟩:=h;exact⟨b,z,vs,Bl.app B' d,fL (λ_ _=>gR B') c,a⟩
 .exact Bl.app B' h
theorem aIU{c:bs}(a:∀f∈R,f∈c){x:Ch}(h:roF B R x):roF B c x:=by
 cases x<;>try exact h
 .obtain⟨b,z,vs,g,e,d⟩:=h;exact⟨b,z,vs,g,e,a _ d⟩
 .exact a _ h
section
variable {P:Program} {T:TT} {n:Nat} {B:Bl} {e:SE} {E:Env} {o:Oper} {w w':World} {x y:Operand} {c:Ctx} {L:ao}
theorem lS.app(h:lS c w B L)(B':Bl):lS c w (B++B') L:=by obtain⟨⟨R,f,d⟩,b⟩:=h;exact⟨⟨R,f.imp (aEX B' L),λx a=>aZX B' (d x a)⟩,b⟩
theorem aX8{n:Nat}{cs:au}:∀{L:ao},LO n L=some cs->Ch.box n cs∈L\/Ch.ro n cs∈L
 |[],h=>by cases h
 |x::L,h=>by
  have a:LO n L=some cs->Ch.box n cs∈x::L\/Ch.ro n cs∈x::L:=λh=>by
   obtain h|h:=aX8 h
   .exact .inl (lZ _ h)
   .exact .inr (lZ _ h)
  cases x<;>simp only[LO] at h<;>try exact a h
  .split at h
   .rename_i b;cases h;rw[qN b];exact .inl (aF7 ..)
   .exact a h
  .split at h
   .rename_i b;cases h;rw[qN b];exact .inr (aF7 ..)
   .exact a h
theorem lS.cells(h:lS c w B L){n:Nat}{cs:au}(k:LO n L=some cs):∃b z vs,B[n]?=some (b,z)/\aV (bT B) cs=some vs/\bG w b z vs:=by
 obtain⟨⟨R,j,l⟩,_⟩:=h;obtain hm|hm:=aX8 k
 .obtain⟨i,a⟩:=aMZ hm;obtain⟨F,b,z,vs,g,f,d⟩:=j.chunk (ch:=Y3 B n cs) i (by rw[D0,a];rfl);exact⟨b,z,vs,g,f,d.1⟩
 .obtain⟨b,z,vs,g,f,d⟩:=l _ hm;obtain⟨i,a⟩:=aMZ d;exact⟨b,z,vs,g,f,j.fat i a⟩
theorem aIV{b z o:Nat}(h:bG w b z vs)(d:o+m<=vs.length):bG w b (z+o) ((vs.drop o).take m):=by
 intro q u a;rw[aIJ] at a;split at a
 .rw[aMY] at a;have:=h (o+q) u a;grind
 .cases a
theorem a8Y:∀(cs:au) (o:Nat) (v:SV) (vs:au),o<cs.length->ovw cs o (v::vs)=ovw (cs.set o v) (o+1) vs
 |[],o,v,vs,h=>by simp at h
 |c::cs,0,v,vs,_=>by simp[ovw]
 |c::cs,o + 1,v,vs,h=>by simp only[ovw,List.set_cons_succ];rw[a8Y cs o v vs aj]
theorem aZY:∀(cs:au) (o:Nat),ovw cs o []=cs
 |[],o=>by simp[ovw]
 |c::cs,0=>by simp[ovw]
 |c::cs,o+1=>by simp[ovw,aZY cs o]
theorem aRM:∀(vs cs:au) (o:Nat),o+vs.length<=cs.length->ovw cs o vs=bE1 cs o vs
 |[],cs,o,_=>by rw[aZY];rfl
 |v::vs,cs,o,h=>by simp at h;rw[a8Y cs o v vs aa,aRM vs _ _ ah];rfl
theorem Y4{O:Type}:∀{l r:List O},frc l=some r->r=l
 |[],r,h=>by cases h;rfl
 |x::l,r,h=>by
  simp only[frc] at h;split at h
  .rename_i s a;cases h;rw[Y4 a]
  .cases h
theorem a2R(hT:IC P T){a r:SV}(A:lS c w B L)(ho:o.op=.load t x)(u:ev E x=some s)(f:fS B a=some s)(h:aX7 T t a L=some r):∃v,fS B r=some v/\fH P o E w v w:=by
 unfold aX7 at h;split at h
 .rename_i F j;split at h
  .rename_i cs _ m _ k hl;split at h
   .rename_i d;split at h
    case h_2=>cases h
    rename_i G i;cases h;have:=Y4 i;subst this;obtain⟨b,z,vs,p,g,l⟩:=A.cells k;have q:=mE g;have d:=XF d;simp only[fS,gV,bT,p] at f;cases f;have C:=XO m (XN j g);refine⟨_,by grind[fS,gV],bD5 (cs:=(vs.drop j).take m) ho u (hT.agg _ _ hl) (hT.size _ _ hl) ah (aIV l aa)⟩
   .cases h
  .rename_i cs _ _ _ k hl;obtain⟨b,z,vs,p,g,l⟩:=A.cells k;simp only[fS,gV,bT,p] at f;cases f;obtain⟨v,C,D⟩:=XM g h;exact⟨v,a8U C,bD4 ho u (hT.agg _ _ hl) (l j v D)⟩
  .cases h
 .cases h
theorem XP{a:SV}{v:Value}(b:fS B a=some v)(h:aV (bT B) (pN a)=some vs):v.cells.toList=vs:=by
 cases a
 case g cs=>
  simp only[pN] at h;simp only[fS,gV,h] at b;cases b;rfl
 all_goals
  simp only[pN,aV] at h;split at h
  .cases h
  .rename_i u hu;cases h;have d:=a8U hu;rw[b] at d;cases d;have:=aRK hu;cases v<;>first|rfl|cases this
end
def bSS{a:SV}{v:Value}(h:bT B a=some v)(hc:pN a=[a]):∃vs,aV (bT B) (pN a)=some vs:=⟨[v],by grind[aV]⟩
def aHC{a:SV}{v:Value}(h:isCells a=true)(b:fS B a=some v):∃vs,aV (bT B) (pN a)=some vs:=by
 cases a
 case g cs=>
  simp only[fS,gV] at b;split at b
  .rename_i vs c;exact⟨vs,c⟩
  .cases b
 case t=>cases h
 case f=>cases h
 case u=>cases h
 all_goals exact bSS b rfl
def bOI(off:Nat):∀(vs:ar) (k:Nat) (cells:bw),((vs.zipIdx k).foldl (λcs (q:Value×Nat)=>cs.setIfInBounds (off+q.2) q.1) cells).toList=aIP cells.toList (off+k) vs
 |[],k,cells=>rfl
 |v::vs,k,cells=>by simp only[List.zipIdx_cons,List.foldl_cons,aIP];rw[bOI off vs (k+1)];grind
def aX9{n:Nat}{B:Bl}{e:SE}{a:Act}(d:iC n B e a){fs:b6}:∀(ps:cw) {cs r:au} {cells:bw},aV (bT B) cs=some cells.toList->aZT e fs ps cs=some r ->
  ∃vs rs,evs (vE B e) (ps.map (·.2))=some vs/\aV (bT B) r=some rs/\Instr.fill (fs.toArray[·]?) cells ((ps.map (·.1)).zip vs)=some rs.toArray
 |[],cs,r,cells,hc,h=>by cases h;exact⟨[],cells.toList,rfl,hc,by simp[Instr.fill]⟩
 |(ix,o)::ps,cs,r,cells,hc,h=>by
  simp only[aZT] at h;split at h
  .rename_i f m v A t;split at h
   .rename_i s k j;split at h
    case h_2=>cases h
    rename_i F b;have k:=qN k;have j:=XF j;have:=Y4 b;rw[aRM _ _ _ aa] at this;subst this;obtain⟨u,i,z⟩:=eV d t;obtain⟨w,g⟩:=aHC s i;have y:=XP i g;have hl:=mE g;have l:=mE hc;have x:u.cells.size=m:=aj
    have p:cells.size=cs.length:=aa
    have c:aV (bT B) (bE1 cs f (pN v))=some ((u.cells.zipIdx.foldl (λcs (q:Value×Nat)=>cs.setIfInBounds (f+q.2) q.1) cells).toList):=by have:=bOI f u.cells.toList 0 cells;grind[Array.toList_zipIdx,aIT]
    obtain⟨vs,rs,E,D,C⟩:=aX9 d ps c h;simp_all[evs,Instr.fill]
   .cases h
  .cases h
section
variable {P:Program} {T:TT} {n:Nat} {B:Bl} {e:SE} {a:Act} {o:Oper} {w w':World} {x y:Operand} {c:Ctx} {L:ao}
theorem bBS(hT:IC P T)(m:iC n B e a){ps:Array (Nat×Operand)}{r:SV}(ho:o.op=.build t ps)(h:a55 T e t ps.toList=some r):∃v,fS B r=some v/\fH P o (vE B e) w v w:=by
 unfold a55 at h;split at h
 .rename_i fs _ z i;split at h
  .rename_i cs p;cases h;obtain⟨d,l,Fs,rfl,_,_,k⟩:=hT.und _ _ i;obtain⟨j,hz,f⟩:=hT.zero _ _ i;have b:aV (bT B) z=some j.cells.toList:=by have:=fL (g:=bT B) (λx v h=>by simpa using gR (B:=[]) B h) f;exact this
   obtain⟨vs,u,s,A,q⟩:=aX9 m ps.toList b p;exact⟨_,by grind[fS,gV],bD9 (ps:=ps.toList) aa hz l k s q⟩
  .cases h
 .cases h
theorem aZZ(hT:IC P T)(g:iC n B e a)(s:lS c w B L){r:SV}(h:ev1 T e L o.op=some r):∃v,fS B r=some v/\fH P o (vE B e) w v w:=by
 generalize ho:o.op=op at h;unfold ev1 at h;split at h
 .grind[eV,bKE]
 .grind[eV,bBD]
 .grind[eV,fS,gV,bT,bPB,bKN]
 .split at h
  .rename_i heq;obtain⟨v,b,i⟩:=eV g heq;cases b;grind[eV,bBE]
  .rename_i heq;obtain⟨v,b,i⟩:=eV g heq;cases b;grind[eV,bBF]
  .cases h
 .split at h
  .rename_i heq;cases h;obtain⟨v,b,i⟩:=eV g heq;cases b;exact⟨_,rfl,bD2 ho i⟩
  .rename_i heq;cases h;obtain⟨v,b,i⟩:=eV g heq;cases b;exact⟨_,rfl,bD2 ho i⟩
  .cases h
 .split at h
  .rename_i heq;cases h;obtain⟨v,b,i⟩:=eV g heq;cases b;exact⟨_,rfl,bPC ho i⟩
  .cases h
 .split at h
  .rename_i b i;obtain⟨v,f,k⟩:=eV g b;obtain⟨u,q,p⟩:=eV g i;exact bP9 hT ho k p f q i h
  .cases h
 .split at h
  .rename_i b;obtain⟨v,f,k⟩:=eV g b;exact bK6 hT ho k f h
  .cases h
 .split at h
  .rename_i b;obtain⟨v,f,k⟩:=eV g b;simp only[fS] at f;split at f
   .rename_i xs _ vs m;cases f;obtain⟨u,z,t⟩:=XM m h;grind[bSR,a5Y]
   .cases f
  .cases h
 .split at h
  .rename_i b;obtain⟨v,f,k⟩:=eV g b;exact bE8 hT ho k f h
  .cases h
 .grind[eV,a2R]
 .exact bBS hT g ho h
 .split at h
  .rename_i b i;obtain⟨v,f,k⟩:=eV g b;obtain⟨d,l,j⟩:=hT.und _ _ i;unfold bSQ at h;split at h
   .split at h
    .cases h;cases f;simp only at j;subst j;exact⟨_,rfl,bPQ l ho k⟩
    .cases h
   .split at h
    .cases h;cases f;simp only at j;subst j;exact⟨_,rfl,bKJ l ho k⟩
    .cases h
   .cases h
  .cases h
 .cases h
end
def qQ(n:Nat)(c:Ctx)(B0:Bl)(m:Nat)(e:SE)(L:ao)(a:Act)(w:World):Prop:=∃B,(B0++B).length=m/\iC n (B0++B) e a/\lS c w (B0++B) L
section
variable {m:Nat} {e:SE} {L:ao}
theorem aRN{m:Nat}{v:Value}(a:bT B x=some v)(h:∀n o,x=.p n o->n<m):bT (B.take m) x=some v:=by
 cases x<;>simp only[bT] at a ⊢<;>try exact a
 grind
theorem E9{B:Bl}{m:Nat}:∀{cs:au} {vs:ar},BZ.okC m cs=true->aV (bT B) cs=some vs->aV (bT (B.take m)) cs=some vs
 |[],vs,_,h=>h
 |x::cs,vs,ho,h=>by
  simp only[aV] at h;split at h
  .cases h
  .rename_i c;split at h
   .cases h
   .rename_i b;cases h;have a:(∀n o,x=.p n o->n<m)/\BZ.okC m cs=true:=by simp only[BZ.okC] at ho;grind[y5]
    simp[aV,aRN c a.1,E9 a.2 b]
theorem a8Z{B:Bl}{m:Nat}:∀{cs:au} {vs:ar},BZ.okT m cs=true->aV (gV B) cs=some vs->aV (gV (B.take m)) cs=some vs
 |[],vs,_,h=>h
 |x::cs,vs,ho,h=>by
  simp only[aV] at h;split at h
  .cases h
  .rename_i b d;split at h
   .cases h
   .rename_i c;cases h;have a:gV (B.take m) x=some b/\BZ.okT m cs=true:=by simp only[BZ.okT] at ho;grind[aRN,y5,gV,E9]
    simp[aV,a.1,a8Z a.2 c]
theorem a80{B:Bl}{m:Nat}:∀{cs:av} {vs:ar},BZ.okF m cs=true->aV (aB2 B) cs=some vs->aV (aB2 (B.take m)) cs=some vs
 |[],vs,_,h=>h
 |x::cs,vs,ho,h=>by
  simp only[aV] at h;split at h
  .cases h
  .rename_i y0 d;split at h
   .cases h
   .rename_i b;cases h;simp only[BZ.okF] at ho;split at ho
    .rename_i c;have a:aB2 (B.take m) x=some y0:=by simp_all[aB2]
     simp[aV,a,a80 ho b]
    .cases ho
theorem Y5{m:Nat}{v:Value}(h:BZ m x=true)(a:fS B x=some v):fS (B.take m) x=some v:=by
 cases x
 case p n o=>exact aRN (x:=.p n o) a (λd c i=>by grind[BZ,y5])
 case g cs=>
  simp only[fS,gV] at a ⊢;split at a
  .rename_i b;rw[E9 h b];exact a
  .cases a
 case t cs=>
  simp only[fS] at a ⊢;split at a
  .rename_i b;rw[a8Z h b];exact a
  .cases a
 case f f cs=>
  simp only[fS] at a ⊢;split at a
  .rename_i b;rw[a80 h b];exact a
  .cases a
 all_goals exact a
theorem bFA{z:SV}:bT B (re1 z x)=bT B x:=by cases z<;>cases x<;>rfl
theorem bK8{z:SV}:fS B (re1 z x)=fS B x:=by cases z<;>cases x<;>rfl
theorem a81{B:Bl}:∀{cs ds:au},aV (bT B) (reC cs ds)=aV (bT B) ds
 |[],[]=>rfl
 |[],_::_=>rfl
 |_::_,[]=>rfl
 |c::cs,d::ds=>by simp only[reC,aV,bFA,a81]
theorem bFB:bT B (nb1 x)=bT B x:=by cases x<;>rfl
theorem UB{B:Bl}:∀{cs:au},aV (bT B) (nbL cs)=aV (bT B) cs
 |[]=>rfl
 |c::cs=>by simp only[nbL,aV,bFB,UB]
theorem bQA:gV B (nbG x)=gV B x:=by
 cases x<;>try rfl
 grind[nbG,gV,UB]
theorem a82{B:Bl}:∀{cs:au},aV (gV B) (nbT cs)=aV (gV B) cs
 |[]=>rfl
 |c::cs=>by simp only[nbT,aV,bQA,a82]
theorem aZ0:fS B (nbG x)=fS B x:=by
 cases x<;>try rfl
 grind[nbG,fS,gV,UB]
theorem aP2:fS B (nbS x)=fS B x:=by
 cases x with
 |g cs=>exact aZ0 (x:=.g cs)
 |t xs=>grind[nbS,fS,a82]
 |_=>rfl
theorem a83{B:Bl}:∀{cs:au},aV (fS B) (nbT cs)=aV (fS B) cs
 |[]=>rfl
 |c::cs=>by simp only[nbT,aV,aZ0,a83]
theorem UC{B:Bl}:∀{cs:au},aV (fS B) (nbA cs)=aV (fS B) cs
 |[]=>rfl
 |c::cs=>by
  simp only[nbA];split
  .simp only[aV,UC];rfl
  .simp only[aV,aZ0,UC]
theorem bFC{e:SE}:∀{e' s:SE} {k:Nat} {x:SV},reE e e'=some s->GK s k=some x->∃y,GK e k=some y/\∀B,fS B x=fS B y
 |[],s,k,x,h,hk=>by cases h;cases hk
 |(j,y)::r,s,k,x,h,hk=>by
  simp only[reE] at h;split at h
  .rename_i z hz;split at h
   .rename_i c a;cases h;simp only[GK] at hk;cases b:Nat.beq k j with
    |true=>grind[qN,bK8]
    |false=>rw[b] at hk;exact bFC a hk
   .cases h
  .cases h
theorem aZ1{B:Bl}{w:World}{R:bs}:∀(M L:ao),kC w (L.map (l5 B)) ((reL M L).map (l5 B))/\((∀x∈L,roF B R x)->∀x∈reL M L,roF B R x)
 |[],L=>by grind[reL,kC.refl]
 |x::M,[]=>by cases x<;>exact⟨.nil,λh=>h⟩
 |x::M,y::L=>by
  obtain⟨a,i⟩:=aZ1 (B:=B) (w:=w) (R:=R) M L;have gen:reL (x::M) (y::L)=y::reL M L->kC w ((y::L).map (l5 B)) ((reL (x::M) (y::L)).map (l5 B))/\((∀x∈y::L,roF B R x)->∀z∈reL (x::M) (y::L),roF B R z):=λf=>by rw[f];refine⟨.cons (λ_ h=>h) a,λh z hz=>?_⟩;grind
  cases x with
  |box n cs=>
   cases y with
   |box k j=>
    simp only[reL];refine⟨.cons (λF ⟨b,z,vs,d,g,c⟩=>⟨b,z,vs,d,by grind[a81],c⟩) a,λh z hz=>?_⟩;obtain hz|hz:=lO.1 hz
    .subst hz;trivial
    grind
   |_=>exact gen rfl
  |_=>exact gen (by cases y<;>rfl)
theorem bFD{m:Nat}:∀{s:SE} {k:Nat} {x:SV},okE m s=true->GK s k=some x->BZ m x=true
 |[],k,x,h,hk=>by cases hk
 |(j,y)::r,k,x,h,hk=>by
  simp only[okE] at h;split at h
  .rename_i ho;simp only[GK] at hk;cases a:Nat.beq k j with
   |true=>grind
   |false=>rw[a] at hk;exact bFD h hk
  .cases h
theorem aZ2{m:Nat}:∀{L:ao} {x:Ch},okL m L=true->x∈L->(∀n cs,x=.box n cs\/x=.ro n cs->n<m/\BZ.okC m cs=true)
 |y::L,x,h,a,n,cs,d=>by
  have key:(∀n cs,y=.box n cs\/y=.ro n cs->n<m/\BZ.okC m cs=true)/\okL m L=true:=by
   cases y with
   |box k c=>
    grind[okL,y5]
   |ro k c=>
    grind[okL,y5]
   |o c=>exact⟨λn cs d=>aj,h⟩
   |f c=>exact⟨λn cs d=>aj,h⟩
   |no=>exact⟨λn cs d=>aj,h⟩
   |w k b z=>
    grind[okL]
  obtain a|a:=lO.1 a
  .grind
  .exact aZ2 key.2 a n cs d
theorem bOJ{m n b z:Nat}:∀{L:ao},okL m L=true->Ch.w n b z∈L->n<m
 |y::L,h,d=>by
  have key:(y=.w n b z->n<m)/\okL m L=true:=by
   cases y with
   |box k c=>
    grind[okL]
   |ro k c=>
    grind[okL]
   |w k b z=>
    grind[okL,y5]
   |o c=>exact⟨λa=>(by cases a),h⟩
   |f c=>exact⟨λa=>(by cases a),h⟩
   |no=>exact⟨λa=>(by cases a),h⟩
  obtain d|d:=lO.1 d
  .grind
  .exact bOJ key.2 d
theorem aRO{L:ao}:∀{is:av} {x:Ch},x∈kl L is->x∈L
 |i::is,x,h=>by
  simp only[kl] at h;split at h
  .rename_i y a;obtain h|h:=lO.1 h
   .grind
   .exact aRO h
  .exact aRO h
theorem a84{B:Bl}{w:World}{L:ao}:∀(is:av),∃a,(∀j∈a,j∈is)/\(dV is=true->dV a=true)/\kC w (pick (L.map (l5 B)) a) ((kl L is).map (l5 B))
 |[]=>⟨[],ae,λh=>h,.nil⟩
 |i::is=>by
  obtain⟨a,g,f,d⟩:=a84 (B:=B) (w:=w) (L:=L) is;cases c:L[i]? with
  |none=>
   refine⟨a,λj b=>lZ _ (g j b),λh=>f ?_,?_⟩
   .simp only[dV,yV] at h;exact h.2
   .simp only[kl,c];exact d
  |some x=>
   refine⟨i::a,λj b=>?_,λh=>?_,?_⟩
   .grind
   .simp_all[dV]
   .simp only[kl,c,pick,D0,Option.map_some,aIO,LM];exact .cons (λ_ h=>h) d
theorem bFE(h:lS c w B L)(is:av)(f:dV is=true):lS c w B (kl L is):=by obtain⟨⟨R,s1,b⟩,s0⟩:=h;obtain⟨a,_,i,g⟩:=a84 (B:=B) (w:=w) (L:=L) is;exact⟨⟨R,(s1.sel a (i f)).imp g,λx d=>b x (aRO d)⟩,s0⟩
theorem aIW{m:Nat}{L:ao}(h:lS c w B L)(ho:okL m L=true):lS c w (B.take m) L:=by
 obtain⟨⟨R,s1,l⟩,s0⟩:=h;have key:∀x∈L,∀F,(l5 B x).P w F->(l5 (B.take m) x).P w F:=by
  intro x a F k;cases x with
  |box n cs=>
   obtain⟨i,g⟩:=aZ2 ho a n cs (.inl rfl);obtain⟨b,z,vs,o,f,d⟩:=k;exact⟨b,z,vs,aj,E9 g f,d⟩
  |_=>exact k
 have imp:∀(M:ao),(∀x∈M,x∈L)->kC w (M.map (l5 B)) (M.map (l5 (B.take m))):=by
  intro M;induction M with
  |nil=>exact λ_=>.nil
  |cons x M p=>exact λj=>.cons (key x (j x ae)) (p λy q=>j y (lZ _ q))
 refine⟨⟨R,s1.imp (imp L λ_ h=>h),λx a=>?_⟩,s0⟩;have:=l x a;cases x with
 |ro n cs=>
  obtain⟨i,g⟩:=aZ2 ho a n cs (.inr rfl);obtain⟨b,z,vs,o,f,d⟩:=this;exact⟨b,z,vs,aj,E9 g f,d⟩
 |w n b z=>
  have i:=bOJ ho a;exact(by rw[aIJ,aM i];exact this:(List.take m B)[n]?=some (b,z))
 |_=>exact this
theorem bQB{L:ao}(h:lS c w B L)(M:ao):lS c w B (reL M L):=by obtain⟨⟨R,s1,a⟩,s0⟩:=h;exact⟨⟨R,s1.imp (aZ1 (R:=R) M L).1,(aZ1 (w:=w) M L).2 a⟩,s0⟩
theorem Rel.as{B0:Bl}{m':Nat}{e':SE}{L':ao}{a:Act}(i:qQ n c B0 m e L a w)(is:av)(t:dV is=true){f:SE}{M:ao}(h:asS e L is m' f M=some (e',L'))(r:m'<=m)(l:B0.length<=m'):qQ n c B0 m' e' L' a w:=by
 unfold asS at h;split at h
 .rename_i s g;split at h
  .rename_i A z;cases h;obtain⟨B,hl,b,u⟩:=i;have j:(B0++B).take m'=B0++B.take (m'-B0.length):=by rw[List.take_append,aM1 l]
   refine⟨B.take (m'-B0.length),aj,?_,?_⟩
   .rw[<-j];exact⟨b.d,b.size,λk x hk=>by
     obtain⟨y,d,o⟩:=bFC g hk;obtain⟨v,q,p⟩:=b.get k y d;grind[Y5,bFD]⟩
   grind[aIW,bQB,bFE]
  .cases h
 .cases h
theorem qQ.asT{B0:Bl}{m':Nat}{e':SE}{L':ao}{a:Act}(b:qQ n c B0 m e L a w)(is:av){f:SE}{M:ao}(h:asT B0.length m e L is m' f M=some (e',L')):qQ n c B0 m' e' L' a w:=by grind[Go.Gv.asT,Rel.as,XF]
end
end Go.Gv
end
