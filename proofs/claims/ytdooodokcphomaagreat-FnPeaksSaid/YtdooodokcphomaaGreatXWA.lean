import Derived.WalkKit
import Derived.OrdersHeld
import Derived.LoopN
import Derived.Laws.BytesString
import Derived.Deep.Slices
import Derived.ProofKit
import Derived.OpenShut
import Derived.ShutString
import Derived.ChangeOld
import Derived.Below
import Derived.Carry
set_option linter.unusedVariables false
set_option linter.unusedSimpArgs false
set_option linter.unusedSectionVars false
set_option linter.constructorNameAsVariable false
set_option linter.unnecessarySimpa false
set_option linter.defProp false
noncomputable section
namespace Go.Gv
abbrev al:=List Int
abbrev ao:=List Value
abbrev ar:=List Nat
abbrev ay:=Option Bool
abbrev az:=List Bool
abbrev aF:=List UInt8
abbrev bj:=Array Oper
abbrev bu:=Option Int
abbrev b4:=Array Value
abbrev b5:=List (Nat×Nat)
abbrev cj:=List Oper
abbrev ck:=Option (List Int)
abbrev cm:=Option Nat
abbrev cr:=List (Nat×Operand)
abbrev ct:=Option (Int×Int)
variable{fs:Array Field}{c:IntKind}{l q:aF}{cc ec vs:ao}{d i id j k m n:Nat}{P:Program}{p:Prop}{O ρ σ:Type}{ds:TypeDesc}{t:TypeId}{s z:Value}{w w':World}
def aa(h:p:=by omega):p:=h
def ae(h:p:=by simp):p:=h
def ah(h:p:=by simp;omega):p:=h
def ai(h:p:=by decide):p:=h
def aj(h:p:=by grind):p:=h
def ak(h:p:=by rfl):p:=h
def aE{β:Type}(a:O)(f:O->Option β):(some a).bind f=f a:=rfl
def aU:(false=true)=False:=ae
def cB[a:Decidable p](h:p):decide p=true:=by simp[h]
def dV[a:Decidable p](h:¬p):decide p=false:=by simp[h]
def eP:(!true)=false:=rfl
def oH:(!false)=true:=rfl
def aM:type_of% @if_pos:=@if_pos
def aO:type_of% @if_neg:=@if_neg
def aT:type_of% @if_false:=@if_false
def aS:type_of% @if_true:=@if_true
def dL:type_of% @congrArg:=@congrArg
def ET:type_of% @Bool.and_eq_true:=@Bool.and_eq_true
def XA:type_of% @Bool.eq_iff_iff:=@Bool.eq_iff_iff
def bF9:type_of% @Int.eq_ofNat_of_zero_le:=@Int.eq_ofNat_of_zero_le
def MK:type_of% @Int.toNat_natCast:=@Int.toNat_natCast
def aT3:type_of% @List.all_cons:=@List.all_cons
def aT4:type_of% @List.all_eq_true:=@List.all_eq_true
def QX:type_of% @List.append_assoc:=@List.append_assoc
def ML:type_of% @List.append_nil:=@List.append_nil
def aCN:type_of% @List.cons_append:=@List.cons_append
theorem EU:type_of% @List.drop_eq_getElem_cons:=@List.drop_eq_getElem_cons
def QL:type_of% @List.drop_zero:=@List.drop_zero
def AX:type_of% @List.eq_nil_of_length_eq_zero:=@List.eq_nil_of_length_eq_zero
def aV3:type_of% @List.eq_nil_or_concat:=@List.eq_nil_or_concat
def aFF:type_of% @List.ext_getElem?:=@List.ext_getElem?
def MQ:type_of% @List.getD_eq_getElem?_getD:=@List.getD_eq_getElem?_getD
def aLX:type_of% @List.getElem?_append:=@List.getElem?_append
def aV4:type_of% @List.getElem?_append_right:=@List.getElem?_append_right
def mA:type_of% @List.getElem?_eq_getElem:=@List.getElem?_eq_getElem
def I8:type_of% @List.getElem?_eq_some_iff:=@List.getElem?_eq_some_iff
def D0:type_of% @List.getElem?_map:=@List.getElem?_map
def aLY:type_of% @List.getElem?_of_mem:=@List.getElem?_of_mem
def aLZ:type_of% @List.getElem?_take:=@List.getElem?_take
theorem dO:type_of% @List.getElem_mem:=@List.getElem_mem
theorem aPX:type_of% @List.getElem_of_mem:=@List.getElem_of_mem
def O0:type_of% @List.length_append:=@List.length_append
def UQ:type_of% @List.length_cons:=@List.length_cons
def aHG:type_of% @List.length_drop:=@List.length_drop
def bI:type_of% @List.length_set:=@List.length_set
def XB:type_of% @List.length_take:=@List.length_take
def D1:type_of% @List.map_append:=@List.map_append
def aFG:type_of% @List.map_cons:=@List.map_cons
def MR:type_of% @List.map_set:=@List.map_set
def j4:type_of% @List.mem_append:=@List.mem_append
def qM:type_of% @List.mem_cons:=@List.mem_cons
def uI:type_of% @List.mem_cons_of_mem:=@List.mem_cons_of_mem
def aFH:type_of% @List.mem_cons_self:=@List.mem_cons_self
def aL0:type_of% @List.mem_flatMap:=@List.mem_flatMap
theorem aFI:type_of% @List.mem_iff_getElem:=@List.mem_iff_getElem
def aL1:type_of% @List.mem_map:=@List.mem_map
def O1:type_of% @List.mem_of_getElem?:=@List.mem_of_getElem?
def aHH:type_of% @List.mem_of_mem_drop:=@List.mem_of_mem_drop
def nM:type_of% @List.mem_or_eq_of_mem_set:=@List.mem_or_eq_of_mem_set
def aHI:type_of% @List.nil_append:=@List.nil_append
def bAW:type_of% @List.not_mem_nil:=@List.not_mem_nil
theorem a6D:type_of% @List.pairwise_cons:=@List.pairwise_cons
theorem aPY:type_of% @List.set_getElem_self:=@List.set_getElem_self
def O2:type_of% @List.set_set:=@List.set_set
theorem aL2:type_of% @List.take_append_drop:=@List.take_append_drop
theorem aHJ:type_of% @List.take_of_length_le:=@List.take_of_length_le
theorem UR:type_of% @List.take_succ_eq_append_getElem:=@List.take_succ_eq_append_getElem
def aCO:type_of% @Nat.add_assoc:=@Nat.add_assoc
theorem pP:type_of% @Nat.add_mul:=@Nat.add_mul
def aFJ:type_of% @Nat.add_zero:=@Nat.add_zero
theorem AA:type_of% @Nat.blt_eq:=@Nat.blt_eq
theorem rR:type_of% @Nat.eq_of_beq_eq_true:=@Nat.eq_of_beq_eq_true
theorem XC:type_of% @Nat.le_of_ble_eq_true:=@Nat.le_of_ble_eq_true
def QM:type_of% @Nat.le_of_eq:=@Nat.le_of_eq
def jR:type_of% @Nat.le_refl:=@Nat.le_refl
def j5:type_of% @Nat.le_succ:=@Nat.le_succ
def wI:type_of% @Nat.le_trans:=@Nat.le_trans
def SS:type_of% @Nat.lt_of_lt_of_le:=@Nat.lt_of_lt_of_le
theorem xX:type_of% @Nat.mul_le_mul_right:=@Nat.mul_le_mul_right
def aAQ:type_of% @Nat.zero_add:=@Nat.zero_add
def lR:type_of% @Nat.zero_le:=@Nat.zero_le
def aPZ:type_of% @Option.isSome_iff_exists:=@Option.isSome_iff_exists
abbrev dA:=Nat->Nat->Prop
def dA.I9(F G:dA):Prop:=∀b o,F b o->G b o->False
variable{F:dA}
def F0:dA:=λ_ _=>False
def dA.a8F{G:dA}(h:F.I9 G):G.I9 F:=λb o a c=>h b o c a
structure fN (F:dA) (w w':World):Prop where
 os:w'.os=w.os
 tape:w'.tape=w.tape
 output:w'.output=w.output
 size:w.heap.size<=w'.heap.size
 block:∀b,b<w.heap.size->(∀o,¬F b o)->w'.heap[b]?=w.heap[b]?
 cell:∀b o,b<w.heap.size->¬F b o->w'.cell? ⟨b,o,none⟩=w.cell? ⟨b,o,none⟩
 AV:∀b o,b<w.heap.size->w'.frozen? ⟨b,o,none⟩=w.frozen? ⟨b,o,none⟩
 stay:∀b o,(w.cell? ⟨b,o,none⟩).isSome=true->(w'.cell? ⟨b,o,none⟩).isSome=true
theorem lF{b o:Nat}(h:(w.cell? ⟨b,o,none⟩).isSome=true):b<w.heap.size:=by obtain⟨v,a⟩:=aPZ.1 h;exact World.block_lt_of_cell? w ⟨b,o,none⟩ a
theorem fN.refl(F:dA)(w:World):fN F w w:=⟨rfl,rfl,rfl,jR _,λ_ _ _=>rfl,λ_ _ _ _=>rfl,λ_ _ _=>rfl,λ_ _ h=>h⟩
theorem fN.mono{G:dA}(h:fN F w w')(e:∀b o,b<w.heap.size->F b o->G b o):fN G w w':=⟨h.os,h.tape,h.output,h.size,λb a c=>h.block b a λo d=>c o (e b o a d),λb o a c=>h.cell b o a λd=>c (e b o a d),h.AV,h.stay⟩
def fN.trans{G:dA}{e w2:World}(h:fN F w e)(k:fN G e w2)(f:∀b o,b<w.heap.size->G b o->F b o):fN F w w2:=
  ⟨k.os.trans h.os,k.tape.trans h.tape,k.output.trans h.output,wI h.size k.size,
   λb a c=>(k.block b (SS a h.size) λo d=>c o (f b o a d)).trans (h.block b a c),
   λb o a c=>(k.cell b o (SS a h.size) λd=>c (f b o a d)).trans (h.cell b o a c),
   λb o a=>(k.AV b o (SS a h.size)).trans (h.AV b o a),λb o g=>k.stay b o (h.stay b o g)⟩
def fN.drew(F:dA)(w:World):fN F w w.drew:=⟨rfl,rfl,rfl,jR _,λ_ _ _=>rfl,λ_ _ _ _=>rfl,λ_ _ _=>rfl,λ_ _ h=>h⟩
def fN.alloc(F:dA)(w:World)(c:Obj):fN F w (w.alloc c):=by
 have a:∀b,b<w.heap.size->(w.alloc c).heap[b]?=w.heap[b]?:=λb a=>by grind[heap_alloc_old]
 have d:∀b o,b<w.heap.size->(w.alloc c).cell? ⟨b,o,none⟩=w.cell? ⟨b,o,none⟩:=λb o h=>World.cell?_of_block (a b h);exact⟨rfl,rfl,rfl,ae,λb h _=>a b h,λb o h _=>d b o h,λb o h=>World.frozen?_of_block (a b h),
  λb o h=>by grind[lF]⟩
def fN.setCell(F:dA)(w:World)(a:Addr)(v:Value)(d:F a.block a.off)(i:a.spot=none):fN F w (w.setCell a v):=by
 have f:(w.setCell a v).heap.size=w.heap.size:=ae
 refine⟨rfl,rfl,rfl,ae,λb _ c=>?_,λb o _ c=>?_,λb o _=>ae,λb o h=>?_⟩
 .exact heap_setCell_other w a b v (λe=>c a.off (e ▸ d))
 .refine World.cell?_setCell_other (h:=λe=>c ?_) ..;rw[e] at d;exact d
 .by_cases e:a=⟨b,o,none⟩
  .subst e;obtain⟨u,g⟩:=aPZ.1 h;rw[World.cell?_setCell_same (h:=g)];rfl
  .rw[World.cell?_setCell_other (h:=e)];exact h
def bU(w:World)(b off:Nat)(cs:ao):Prop:=∀j v,cs[j]?=some v->w.cell? ⟨b,off+j,none⟩=some v
class aN (O:Type) where
 n:Nat
 rd:dA->World->ao->O->Prop
 own:World->ao->O->dA->Prop
 nY:∀{S w cs d},rd S w cs d->cs.length=n
 rd_one:∀{S w cs d},rd S w cs d->∀v∈cs,v.oneCell'=true
 rd_agree:∀{S w w' cs d},rd S w cs d->(∀b o,S b o->w'.cell? ⟨b,o,none⟩=w.cell? ⟨b,o,none⟩)->rd S w' cs d
 rd_mono:∀{S S' w cs d},rd S w cs d->(∀b o,S b o->S' b o)->rd S' w cs d
 own_rd:∀{w cs d F},own w cs d F->rd F w cs d
 own_keep:∀{w w' cs d F G},own w cs d F->fN G w w'->F.I9 G->own w' cs d F
 own_lt:∀{w cs d F b o},own w cs d F->F b o->b<w.heap.size
@[reducible] def aN.flat {O : Type} (f : O -> Value) (a : ∀ x, (f x).oneCell' = true) : aN O where
 n:=1
 rd:=λ_ _ cs x=>cs=[f x]
 own:=λ_ cs x F=>cs=[f x]/\∀b o,¬F b o
 nY:=λh=>by simp[h]
 rd_one:=λh v c=>aj
 rd_agree:=λh _=>h
 rd_mono:=λh _=>h
 own_rd:=λh=>h.1
 own_keep:=λh _ _=>h
 own_lt:=λh a=>(h.2 _ _ a).elim
instance:aN Int:=aN.flat (λx=>.int .i64 x) λ_=>rfl
instance:aN Bool:=aN.flat (λx=>.bool x) λ_=>rfl
instance:aN UInt8:=aN.flat (λx=>.int .u8 (x.toNat:Int)) λ_=>rfl
structure bJ3 where
 b:aF
 deriving DecidableEq,Inhabited
instance:aN bJ3:=aN.flat (λx=>.string ⟨x.b.toArray⟩) λ_=>rfl
instance {O β:Type} [aN O] [aN β]:aN (O×β) where
 n:=aN.n O+aN.n β
 rd:=λS w cs d=>∃c1 c2,cs=c1++c2/\aN.rd S w c1 d.1/\aN.rd S w c2 d.2
 own:=λw cs d F=>∃c1 c2 F1 F2,cs=c1++c2/\aN.own w c1 d.1 F1/\aN.own w c2 d.2 F2/\dA.I9 F1 F2/\∀b o,F b o↔F1 b o\/F2 b o
 nY:=by grind[aN.nY]
 rd_one:=by grind[aN.rd_one]
 rd_agree:=by grind[aN.rd_agree]
 rd_mono:=by grind[aN.rd_mono]
 own_rd:=by rintro w cs d F ⟨c1,c2,F1,F2,rfl,h1,h2,_,hF⟩;exact⟨c1,c2,rfl,aN.rd_mono (aN.own_rd h1) λb o h=>(hF b o).2 (.inl h),aN.rd_mono (aN.own_rd h2) λb o h=>(hF b o).2 (.inr h)⟩
 own_keep:=by rintro w w' cs d F G ⟨c1,c2,F1,F2,rfl,h1,h2,hd,hF⟩ hk hdj;exact⟨c1,c2,F1,F2,rfl,aN.own_keep h1 hk λb o h g=>hdj b o ((hF b o).2 (.inl h)) g,aN.own_keep h2 hk λb o h g=>hdj b o ((hF b o).2 (.inr h)) g,hd,hF⟩
 own_lt:=by
  rintro w cs d F b o ⟨c1,c2,F1,F2,rfl,h1,h2,hd,hF⟩ hf;rcases(hF b o).1 hf with h|h
  .exact aN.own_lt h1 h
  .exact aN.own_lt h2 h
@[reducible] def aN.via {σ τ : Type} [aN τ] (f : σ -> τ) : aN σ where
 n:=aN.n τ
 rd:=λS w cs d=>aN.rd S w cs (f d)
 own:=λw cs d F=>aN.own w cs (f d) F
 nY:=λh=>aN.nY h
 rd_one:=λh=>aN.rd_one h
 rd_agree:=λh a=>aN.rd_agree h a
 rd_mono:=λh a=>aN.rd_mono h a
 own_rd:=λh=>aN.own_rd h
 own_keep:=λh b e=>aN.own_keep h b e
 own_lt:=λh c=>aN.own_lt h c
def bU.agree{b off:Nat}{cs:ao}(h:bU w b off cs)(d:∀o,off<=o->o<off+cs.length->w'.cell? ⟨b,o,none⟩=w.cell? ⟨b,o,none⟩):bU w' b off cs:=by intro j v a;have c:=(I8.1 a).1;rw[d _ aa aa];exact h j v a
def bU.lt{b off:Nat}{cs:ao}(h:bU w b off cs)(a:cs≠[]):b<w.heap.size:=by
 cases cs with
 |nil=>grind
 |cons v r=>exact World.block_lt_of_cell? w ⟨b,off+0,none⟩ (h 0 v rfl)
def fQ(b off n:Nat):dA:=λa o=>a=b/\off<=o/\o<off+n
def AB{O:Type}[aN O](S:dA)(w:World)(cs:ao)(l:List O):Prop:=
 ∃a c,cs=[.slice a l.length c]/\l.length<=c/\c<=maxLen /\
  (l=[]\/∃b off,a=some ⟨b,off,none⟩/\∀i (h:i<l.length),∃ec,bU w b (off+i*aN.n O) ec/\(∀o,fQ b (off+i*aN.n O) ec.length b o->S b o)/\aN.rd S w ec l[i])
def O3{O:Type}[aN O](w:World)(cs:ao)(l:List O)(F:dA):Prop:=
  ∃a c,cs=[.slice a l.length c]/\l.length<=c/\c<=maxLen /\
    ((a = none /\ c = 0 /\ ∀ b o,¬ F b o) \/
     ∃b off,∃Fs:Nat->dA,a=some ⟨b,off,none⟩/\(∀o,fQ b off (c*aN.n O) b o->(w.cell? ⟨b,o,none⟩).isSome=true/\w.frozen? ⟨b,o,none⟩=false) /\
       (∀i (h:i<l.length),∃ec,bU w b (off+i*aN.n O) ec/\aN.own w ec l[i] (Fs i)) /\
       (∀i j,i<l.length->j<l.length->i≠j->dA.I9 (Fs i) (Fs j))/\(∀i,i<l.length->dA.I9 (Fs i) (fQ b off (c*aN.n O))) /\
       ∀d o,F d o↔fQ b off (c*aN.n O) d o\/∃i,i<l.length/\Fs i d o)
def bJC{len c:Nat}(b:i<len)(d:len<=c)(a:j<n):i*n+j<c*n:=by have:(i+1)*n<=c*n:=xX n aa;grind
instance bJD {O:Type} [aN O]:aN (List O) where
 n:=1
 rd:=AB
 own:=O3
 nY:=by rintro S w cs d ⟨a,c,rfl,_⟩;rfl
 rd_one:=by rintro S w cs d ⟨a,c,rfl,_⟩ v hv;simp at hv;subst hv;rfl
 rd_agree:=by
  rintro S w w' cs l ⟨a,c,rfl,h1,h2,h3⟩ ha;refine⟨a,c,rfl,h1,h2,?_⟩;obtain h|⟨b,off,rfl,h⟩:=h3
  .exact .inl h
  .refine .inr ⟨b,off,rfl,λi hi=>?_⟩;obtain⟨ec,hc,hr,hd⟩:=h i hi;exact⟨ec,hc.agree λo a1 a2=>ha b o (hr o ⟨rfl,a1,a2⟩),hr,aN.rd_agree hd ha⟩
 rd_mono:=by rintro S S' w cs l ⟨a,c,rfl,h1,h2,h3⟩ ha;refine⟨a,c,rfl,h1,h2,?_⟩;grind[aN.rd_mono]
 own_rd:=by
  rintro w cs l F ⟨a,c,rfl,h1,h2,h3⟩;refine⟨a,c,rfl,h1,h2,?_⟩;obtain⟨rfl,hc,_⟩|⟨b,off,Fs,rfl,hrow,hel,_,_,hF⟩:=h3
  .simp_all
  .refine .inr ⟨b,off,rfl,λi hi=>?_⟩;obtain⟨ec,hc,ho⟩:=hel i hi;refine⟨ec,hc,λo h4=>(hF b o).2 (.inl ⟨rfl,?_,?_⟩),aN.rd_mono (aN.own_rd ho) λb' o hf=>(hF b' o).2 (.inr ⟨i,hi,hf⟩)⟩
   .have:=h4.2.1;omega
   .have hl:=aN.nY (aN.own_rd ho);obtain⟨_,h5,h6⟩:=h4;rw[hl] at h6;have:=bJC (j:=o-(off+i*aN.n O)) (n:=aN.n O) hi h1 aa;omega
 own_keep:=by
  rintro w w' cs l F G ⟨a,c,rfl,h1,h2,h3⟩ hk hd;refine⟨a,c,rfl,h1,h2,?_⟩;obtain h|⟨b,off,Fs,rfl,hrow,hel,h4,h5,hF⟩:=h3
  .exact .inl h
  .refine .inr ⟨b,off,Fs,rfl,λo ho=>?_,λi hi=>?_,h4,h5,hF⟩
   .have hs:=hrow o ho;exact⟨hk.stay b o hs.1,(hk.AV b o (lF hs.1)).trans hs.2⟩
   .obtain⟨ec,hc,ho⟩:=hel i hi;refine⟨ec,hc.agree λo h6 h7=>?_,aN.own_keep ho hk λb' o hf hg=>hd b' o ((hF b' o).2 (.inr ⟨i,hi,hf⟩)) hg⟩;have hin:fQ b off (c*aN.n O) b o:=by refine⟨rfl,aa,?_⟩;have hl:=aN.nY (aN.own_rd ho);rw[hl] at h7;have:=bJC (j:=o-(off+i*aN.n O)) (n:=aN.n O) hi h1 aa;omega
    exact hk.cell b o (lF (hrow o hin).1) λhg=>hd b o ((hF b o).2 (.inl hin)) hg
 own_lt:=by
  rintro w cs l F b' o ⟨a,c,rfl,h1,h2,h3⟩ hf;obtain⟨_,_,h⟩|⟨b,off,Fs,rfl,hrow,hel,h4,h5,hF⟩:=h3
  .grind
  .rcases(hF b' o).1 hf with h|⟨i,hi,h⟩
   .have e:b'=b:=h.1;subst e;exact lF (hrow o h).1
   .obtain⟨ec,hc,ho⟩:=hel i hi;exact aN.own_lt ho h
structure Chunk where
 P:World->dA->Prop
 keep:∀{w w' F G},P w F->fN G w w'->F.I9 G->P w' F
 lt:∀{w F b o},P w F->F b o->b<w.heap.size
abbrev bc:=List Chunk
variable{ch:Chunk}{A A' B:bc}
def QY:Chunk:=⟨λ_ F=>∀b o,¬F b o,λh _ _=>h,λh a=>(h _ _ a).elim⟩
def cAt(b off:Nat)(cs:ao):Chunk where
 P:=λw F=>bU w b off cs/\(∀o,fQ b off cs.length b o->w.frozen? ⟨b,o,none⟩=false)/\∀g o,F g o↔fQ b off cs.length g o
 keep:=by
  rintro w w' F G ⟨f,k,e⟩ j n;have a:∀o,fQ b off cs.length b o->b<w.heap.size:=λo d=>by obtain⟨_,i,h⟩:=d;exact World.block_lt_of_cell? w _ (f (o-off) cs[o-off] (mA aa))
  refine⟨f.agree λo i h=>?_,λo d=>(j.AV b o (a o d)).trans (k o d),e⟩;have c:fQ b off cs.length b o:=⟨rfl,i,h⟩;exact j.cell b o (a o c) λl=>n b o ((e b o).2 c) l
 lt:=by rintro w F g o ⟨f,k,e⟩ m;obtain⟨rfl,i,h⟩:=(e g o).1 m;exact World.block_lt_of_cell? w _ (f (o-off) cs[o-off] (mA aa))
def dF{O:Type}[aN O](cs:ao)(d:O):Chunk:=⟨λw F=>aN.own w cs d F,λh a c=>aN.own_keep h a c,λh b=>aN.own_lt h b⟩
def Sep(w:World):bc->dA->Prop
 |[],F=>∀b o,¬F b o
 |c::L,F=>∃d a,c.P w d/\Sep w L a/\d.I9 a/\∀b o,F b o↔d b o\/a b o
def Sep.keep{w w':World}{G:dA}(e:fN G w w'):∀{L:bc} {F:dA},Sep w L F->F.I9 G->Sep w' L F
 |[],_,h,_=>h
 |c::_,_,⟨l,k,j,i,f,d⟩,a=>
  ⟨l,k,c.keep j e λb o h g=>a b o ((d b o).2 (.inl h)) g,Sep.keep e i λb o h g=>a b o ((d b o).2 (.inr h)) g,f,d⟩
def Sep.lt{w:World}:∀{L:bc} {F:dA} {b o:Nat},Sep w L F->F b o->b<w.heap.size
 |[],_,_,_,h,a=>(h _ _ a).elim
 |c::L,F,b,o,⟨j,i,f,e,g,d⟩,a=>by
  rcases(d b o).1 a with h|h
  .exact c.lt f h
  .exact Sep.lt e h
def Sep.congr{L:bc}{G:dA}(h:Sep w L F)(a:∀b o,F b o↔G b o):Sep w L G:=by
 have:F=G:=aj
 grind
theorem Sep.append{w:World}:∀{A B:bc} {F:dA},Sep w (A++B) F↔∃d a,Sep w A d/\Sep w B a/\d.I9 a/\∀b o,F b o↔d b o\/a b o
 |[],B,F=>by
  constructor
  .intro h;exact⟨F0,F,λ_ _ h=>h,h,λ_ _ h _=>h,λb o=>by simp[F0]⟩
  .rintro⟨d,a,m,i,_,l⟩;exact Sep.congr i λb o=>by rw[l];exact⟨.inr,λh=>h.elim (λh=>(m _ _ h).elim) id⟩
 |c::A,B,F=>by
  constructor
  .rintro⟨d,a,m,i,e,l⟩;obtain⟨k,j,q,p,n,f⟩:=Sep.append.1 i;exact⟨λb o=>d b o\/k b o,j,⟨d,k,m,q,λb o h g=>e b o h ((f b o).2 (.inl g)),λ_ _=>Iff.rfl⟩,p,
    λb o h g=>h.elim (λh=>e b o h ((f b o).2 (.inr g))) (λh=>n b o h g),λb o=>aj⟩
  .rintro⟨d,a,⟨k,j,q,p,n,f⟩,i,e,l⟩;exact⟨k,λb o=>j b o\/a b o,q,Sep.append.2 ⟨j,a,p,i,λb o h g=>e b o ((f b o).2 (.inr h)) g,λ_ _=>Iff.rfl⟩,
    λb o h g=>g.elim (λg=>n b o h g) (λg=>e b o ((f b o).2 (.inl h)) g),λb o=>aj⟩
def Sep.swap(h:Sep w (A++B) F):Sep w (B++A) F:=by obtain⟨f,e,d,c,a,g⟩:=Sep.append.1 h;exact Sep.append.2 ⟨e,f,c,d,dA.a8F a,λb o=>aj⟩
theorem Sep.take{w:World}{c:Chunk}:∀{L:bc} {i:Nat} {F:dA},L[i]?=some c->(Sep w L F↔Sep w (c::L.set i QY) F)
 |[],i,F,h=>by simp at h
 |d::L,0,F,h=>by
  simp at h;subst h;show(∃a f,_)↔∃a f,d.P w a/\(∃k e,QY.P w k/\Sep w L e/\k.I9 e/\_)/\_;constructor
  .rintro⟨a,f,l,s,j,n⟩;exact⟨a,f,l,⟨F0,f,λ_ _ h=>h,s,λ_ _ h _=>h,λb o=>by simp[F0]⟩,j,n⟩
  .rintro⟨a,f,l,⟨k,e,q,p,_,m⟩,j,n⟩;exact⟨a,e,l,p,λb o h g=>j b o h ((m b o).2 (.inr g)),λb o=>by
    rw[n,m];constructor
    .rintro(h|h|h)
     .exact .inl h
     .exact(q _ _ h).elim
     grind
    grind⟩
 |d::L,i + 1,F,h=>by
  have u:L[i]?=some c:=aj
  show(∃a f,d.P w a/\Sep w L f/\_)↔Sep w (c::d::L.set i QY) F;have step:∀G,Sep w L G↔Sep w (c::L.set i QY) G:=λG=>Sep.take u;constructor
  .rintro⟨a,f,l,s,j,n⟩;obtain⟨k,e,q,p,r,m⟩:=(step f).1 s;exact⟨k,λb o=>a b o\/e b o,q,⟨a,e,l,p,λb o h g=>j b o h ((m b o).2 (.inr g)),λ_ _=>Iff.rfl⟩,
    λb o g h=>h.elim (λh=>j b o h ((m b o).2 (.inl g))) (λh=>r b o g h),λb o=>aj⟩
  .rintro⟨k,H,q,⟨a,e,l,p,j,t⟩,r,n⟩;exact⟨a,λb o=>k b o\/e b o,l,(step _).2 ⟨k,e,q,p,λb o g h=>r b o g ((t b o).2 (.inr h)),λ_ _=>Iff.rfl⟩,
    λb o h g=>g.elim (λg=>r b o g ((t b o).2 (.inl h))) (λg=>j b o h g),λb o=>aj⟩
structure Ctx where
 w0:World
 W:dA
 S0:dA
structure Fact where
 P:dA->World->Prop
 agree:∀{S w w'},P S w->(∀b o,S b o->w'.cell? ⟨b,o,none⟩=w.cell? ⟨b,o,none⟩)->P S w'
 mono:∀{S S' w},P S w->(∀b o,S b o->S' b o)->P S' w
abbrev bn:=List Fact
def fRd{O:Type}[aN O](cs:ao)(d:O):Fact:=⟨λS w=>aN.rd S w cs d,λh a=>aN.rd_agree h a,λh a=>aN.rd_mono h a⟩
def All(w:World):dA:=λb _=>b<w.heap.size
structure St (c:Ctx) (w:World) (L:bc) (R:bn):Prop where
 keep:fN c.W c.w0 w
 sep:∃F S,Sep w L F/\F.I9 S/\(∀b o,F b o->c.W b o\/c.w0.heap.size<=b)/\(∀b o,S b o->c.S0 b o\/c.W b o\/c.w0.heap.size<=b) /\
  (∀b o,S b o->b<w.heap.size)/\∀f∈R,f.P S w
 apart:c.W.I9 c.S0
section
variable {c:Ctx} {w w':World} {L:bc} {R:bn}
theorem St.fact(h:St c w L R){f:Fact}(i:Nat)(a:R[i]?=some f):f.P (All w) w:=by obtain⟨F,S,_,_,_,_,d,b⟩:=h.sep;exact f.mono (b f (O1 a)) d
theorem St.rd[aN O]{cs:ao}{d:O}(h:St c w L R)(i:Nat)(a:R[i]?=some (fRd cs d)):aN.rd (All w) w cs d:=h.fact i a
theorem St.chunk(h:St c w L R)(i:Nat)(b:L[i]?=some ch):∃F,ch.P w F:=by obtain⟨F,S,a,_⟩:=h.sep;obtain⟨f,e,d,_⟩:=(Sep.take b).1 a;grind
theorem St.a6E[aN O]{cs:ao}{d:O}(h:St c w L R)(i:Nat)(e:L[i]?=some (dF cs d)):aN.rd (All w) w cs d:=by obtain⟨F,a⟩:=h.chunk i e;have a:aN.own w cs d F:=a;exact aN.rd_mono (aN.own_rd a) λb o f=>aN.own_lt a f
theorem St.step(h:St c w (A++B) R)(C:∀F,Sep w A F->∃l G,fN G w w'/\(∀b o,G b o->F b o)/\Sep w' A' l/\∀b o,l b o->F b o\/w.heap.size<=b) :
  St c w' (A'++B) R:=by
 obtain⟨F,S,k,e,z,n,d,D⟩:=h.sep;obtain⟨H,y,E,v,t,r⟩:=Sep.append.1 k;obtain⟨l,G,m,u,q,i⟩:=C H E;have p:∀b o,b<c.w0.heap.size->G b o->c.W b o:=λb o I g=>aj
 refine⟨h.keep.trans m p,⟨λb o=>l b o\/y b o,S,Sep.append.2 ⟨l,y,q,Sep.keep m v λb o a g=>t b o (u b o g) a,?_,λ_ _=>Iff.rfl⟩,?_,?_,n,λb o j=>SS (d b o j) m.size,?_⟩,h.apart⟩
 .intro b o a s;obtain h|h:=i b o a
  .exact t b o h s
  .have:=Sep.lt v s;omega
 .rintro b o (a|a) j
  .obtain h|h:=i b o a
   .exact e b o ((r b o).2 (.inl h)) j
   grind
  .exact e b o ((r b o).2 (.inr a)) j
 .rintro b o (a|a)
  .obtain x|x:=i b o a
   .grind
   .exact .inr (wI h.keep.size x)
  grind
 .intro f a;exact f.agree (D f a) λb o j=>m.cell b o (d b o j) λg=>e b o ((r b o).2 (.inl (u b o g))) j
theorem St.rot(h:St c w (A++B) R):St c w (B++A) R:=by obtain⟨F,S,a,rest⟩:=h.sep;exact⟨h.keep,⟨F,S,a.swap,rest⟩,h.apart⟩
theorem St.take(h:St c w L R)(i:Nat)(b:L[i]?=some ch):St c w (ch::L.set i QY) R:=by obtain⟨F,S,a,rest⟩:=h.sep;exact⟨h.keep,⟨F,S,(Sep.take b).1 a,rest⟩,h.apart⟩
theorem Sep.put{w:World}:∀{L:bc} {i:Nat} {F:dA},i<L.length->Sep w (ch::L.set i QY) F->Sep w (L.set i ch) F
 |L,i,F,a,h=>(Sep.take (c:=ch) (L:=L.set i ch) (i:=i) (by simp[a])).2 (by simp_all)
theorem St.put(h:St c w (ch::L.set i QY) R)(b:i<L.length):St c w (L.set i ch) R:=by obtain⟨F,S,a,rest⟩:=h.sep;exact⟨h.keep,⟨F,S,Sep.put b a,rest⟩,h.apart⟩
theorem St.aHK(h:St c w L R){ch':Chunk}(i:Nat)(m:L[i]?=some ch)(j:∀F,ch.P w F->∃a G,fN G w w'/\(∀b o,G b o->F b o)/\ch'.P w' a/\∀b o,a b o->F b o\/w.heap.size<=b) :
  St c w' (L.set i ch') R:=by
 have q:St c w ([ch]++L.set i QY) R:=h.take i m;have v:St c w' ([ch']++L.set i QY) R:=q.step λF p=>by obtain⟨r,x,f,t,s,e⟩:=p;obtain⟨a,G,l,n,k,d⟩:=j r f;refine⟨a,G,l,λb o g=>(e b o).2 (.inl (n b o g)),⟨a,F0,k,λ_ _ h=>h,λ_ _ _ h=>h,λb o=>by simp[F0]⟩,λb o u=>?_⟩;grind
 grind[St.put]
theorem St.more(h:St c w L R)(d:fN F0 w w')(a:∃F,ch.P w' F/\∀b o,F b o->w.heap.size<=b):St c w' (L++[ch]) R:=by obtain⟨F,a,f⟩:=a;have g:St c w' ([ch]++L) R:=St.step (A:=[]) aj λG _=>⟨F,F0,d,λ_ _ h=>h.elim,⟨F,F0,a,λ_ _ h=>h,λ_ _ _ h=>h,λb o=>by simp[F0]⟩,λb o e=>.inr (f b o e)⟩;exact St.rot g
theorem St.same(h:St c w L R)(a:fN F0 w w'):St c w' L R:=St.step (A:=[]) (A':=[]) (B:=L) h λ_ _=>⟨F0,F0,a,λ_ _ h=>h.elim,λ_ _ h=>h,λ_ _ h=>h.elim⟩
theorem St.weaken(h:St c w L R){R':bn}(a:∀f∈R',f∈R):St c w L R':=by obtain⟨F,S,k,j,i,g,e,d⟩:=h.sep;exact⟨h.keep,⟨F,S,k,j,i,g,e,λf b=>d f (a f b)⟩,h.apart⟩
theorem St.drop(h:St c w (A++L) R):St c w L R:=St.step (A:=A) (A':=[]) h λ_ _=>⟨F0,F0,fN.refl _ _,λ_ _ h=>h.elim,λ_ _ h=>h,λ_ _ h=>h.elim⟩
theorem St.derive(h:St c w L R){f:Fact}{Gs:bn}(i:Nat)(l:R[i]?=some f)(a:∀S,f.P S w->∀g∈Gs,g.P S w):St c w L (R++Gs):=by obtain⟨F,S,k,j,e,d,b,n⟩:=h.sep;refine⟨h.keep,⟨F,S,k,j,e,d,b,λg m=>?_⟩,h.apart⟩;grind
def fT(w:World):Ctx:=⟨w,F0,All w⟩
theorem St.enter{RA:bn}(a:∀f∈RA,f.P (All w) w):St (fT w) w [] RA:=⟨fN.refl _ _,⟨F0,All w,λ_ _ h=>h,λ_ _ h=>h.elim,λ_ _ h=>h.elim,λ_ _ h=>.inl h,λ_ _ h=>h,a⟩,λ_ _ h=>h.elim⟩
theorem St.after{g:bn}(h:St c w L R)(k:St (fT w) w' A' g):St c w' (L++A') R:=by obtain⟨F,S,f,m,e,l,j,i⟩:=k.sep;have d:St c w' (A'++L) R:=St.step (w:=w) (A:=[]) aj λG _=>⟨F,F0,k.keep,λ_ _ h=>h.elim,f,λb o a=>(e b o a).elim (λh=>h.elim) .inr⟩;exact St.rot d
theorem St.call{z:bn}(h:St c w (A++L) R)(p:∀f∈z,f∈R) :
  ∃c',c'.w0=w/\St c' w A z/\∀w' A' u,St c' w' A' u->St c w' (L++A') (R++u):=by
 obtain⟨F,S,m,e,E,D,i,x⟩:=h.sep;obtain⟨v,B,H,s,r,j⟩:=Sep.append.1 m;refine⟨⟨w,v,S⟩,rfl,⟨fN.refl _ _,⟨v,S,H,λb o a=>e b o ((j b o).2 (.inl a)),λ_ _ h=>.inl h,λ_ _ h=>.inl h,i,λf a=>x f (p f a)⟩,λb o a=>e b o ((j b o).2 (.inl a))⟩,?_⟩;intro w' A' u k;obtain⟨C,S',K,J,t,y,N,I⟩:=k.sep;have n:=k.keep;have q:∀b o,b<c.w0.heap.size->v b o->c.W b o:=λb o M g=>aj
 refine⟨h.keep.trans n q,⟨λb o=>B b o\/C b o,λb o=>S b o/\True\/S' b o,Sep.append.2 ⟨B,C,Sep.keep n s λb o a g=>r b o g a,K,?_,λ_ _=>Iff.rfl⟩,?_,?_,?_,?_,?_⟩,h.apart⟩
 .intro b o a G;obtain h|h:=t b o G
  .exact r b o h a
  .have h:w.heap.size<=b:=h;have:=Sep.lt s a;omega
 .rintro b o (a|a) (⟨d,_⟩|d)
  .exact e b o ((j b o).2 (.inr a)) d
  .obtain h|h|h:=y b o d
   .exact e b o ((j b o).2 (.inr a)) h
   .exact r b o h a
   .have h:w.heap.size<=b:=h;have:=Sep.lt s a;omega
  .obtain h|h:=t b o a
   .exact e b o ((j b o).2 (.inl h)) d
   grind
  .exact J b o a d
 .rintro b o (a|a)
  .grind
  .obtain l|l:=t b o a
   .grind
   .exact .inr (wI h.keep.size l)
 .rintro b o (⟨d,_⟩|d)
  .grind
  .obtain l|l|l:=y b o d
   .grind
   .grind
   .exact .inr (.inr (wI h.keep.size l))
 .rintro b o (⟨d,_⟩|d)
  .exact SS (i b o d) n.size
  grind
 .intro f a;obtain a|a:=j4.1 a
  .exact f.mono (f.agree (x f a) λb o d=>n.cell b o (i b o d) λg=>e b o ((j b o).2 (.inl g)) d) λb o d=>.inl ⟨d,trivial⟩
  .exact f.mono (I f a) λb o d=>.inr d
end
abbrev Env:=List (Nat×Value)
variable{e:Env}
def lk:Env->Nat->Option Value
 |[],_=>none
 |(k,v)::e,n=>match Nat.beq n k with
  |true=>some v
  |false=>lk e n
structure PL (n:Nat) (e:Env) (a:Act):Prop where
 d:a.defers=[]
 size:a.tmps.size=n
 get:∀k v,lk e k=some v->a.tmps[k]?=some v
def ev(e:Env):Operand->Option Value
 |.tmp t=>lk e t
 |.const v=>some v
 |.global g=>some (.pointer (some ⟨g,0,none⟩))
 |.func f=>some (.func (.func f) #[] #[])
theorem PL.eval{a:Act}{x:Operand}{v:Value}(h:PL n e a)(b:ev e x=some v):a.eval x=v:=by
 cases x with
 |tmp t=>
  have:=h.get t v b;show a.tmps.getD t undef=v;simp_all
 |const u=>grind[ev,Act.eval]
 |global g=>grind[ev,Act.eval]
 |func f=>grind[ev,Act.eval]
theorem PL.put{a:Act}(h:PL n e a)(f:d<n)(v:Value):PL n ((d,v)::e) (a.put (some d) v):=by
 refine⟨h.d,by simp[Act.put,h.size],λk u b=>?_⟩;simp only[lk] at b;show(a.tmps.setIfInBounds d v)[k]?=some u;by_cases c:k=d
 .subst c;have:Nat.beq k k=true:=ae
  rw[this] at b;simp at b;rw[Array.getElem?_setIfInBounds_self_of_lt (by rw[h.size];exact f),b]
 .have:Nat.beq k d=false:=by grind[rR]
  rw[this] at b;rw[Array.getElem?_setIfInBounds_ne (Ne.symm c)];exact h.get k u b
def Has(e:Env):Env->Prop
 |[]=>True
 |(k,v)::r=>lk e k=some v/\Has e r
def Has.get{e:Env}:∀{e':Env} {k:Nat} {v:Value},Has e e'->lk e' k=some v->lk e k=some v
 |[],_,_,_,h=>by simp[lk] at h
 |(a,d)::r,k,v,⟨f,c⟩,h=>by
  simp only[lk] at h;cases b:Nat.beq k a with
  |true=>simp_all
  |false=>rw[b] at h;exact Has.get c h
def PL.part{e':Env}{a:Act}(h:PL n e a)(hh:Has e e'):PL n e' a:=⟨h.d,h.size,λk v b=>h.get k v (hh.get b)⟩
def a0I:Nat->ao->Env
 |_,[]=>[]
 |k,v::r=>(k,v)::a0I (k+1) r
def bAX(l:ao):∀(b k:Nat) (v:Value),lk (a0I b l) k=some v->b<=k/\l[k-b]?=some v:=by
 induction l with
 |nil=>grind[a0I,lk]
 |cons x r a=>
  intro b k v h;simp only[a0I,lk] at h;cases c:Nat.beq k b with
  |true=>
   simp_all
  |false=>
   grind
def bM3(l:ao)(n:Nat)(hn:l.length<=n):PL n (a0I 0 l) {tmps:=l.toArray++Array.replicate (n-l.toArray.size) undef,defers:=[]}:=by refine⟨rfl,ah,λk v a=>?_⟩;obtain⟨_,b⟩:=bAX l 0 k v a;grind
def mkQ(N:Act->World->Prop)(X:Nat->Act->World->Prop)(T:Act->World->Prop):Exit->Act->World->Prop
 |.normal,a,w=>N a w
 |.exit i,a,w=>X i a w
 |.ret,a,w=>T a w
 |_,_,_=>False
def CW(P:Program)(c:Code)(N:Act->World->Prop)(X:Nat->Act->World->Prop)(T:Act->World->Prop)(a:Act)(w:World):Prop:=c.wp P (mkQ N X T) a w
def aV5(id:Nat)(N:Act->World->Prop)(X:Nat->Act->World->Prop):Nat->Act->World->Prop:=λi a w=>if i=id then N a w else X i a w
section
variable {P:Program} {c x y:Code} {N:Act->World->Prop} {X:Nat->Act->World->Prop} {T:Act->World->Prop} {a:Act} {w:World}
theorem CW.mono{f:Act->World->Prop}{b:Nat->Act->World->Prop}{d:Act->World->Prop}(h:CW P c N X T a w)(j:∀a w,N a w->f a w)(g:∀i a w,X i a w->b i a w)(hT:∀a w,T a w->d a w):CW P c f b d a w:=
 wp_mono h λe a w q=>by cases e<;>first|exact j _ _ q|exact g _ _ _ q|exact hT _ _ q|exact q
theorem bJ4(h:CW P x (λa w=>CW P y N X T a w) X T a w):CW P (.seq x y) N X T a w:=wp_seq (wp_mono h λe a w q=>by cases e<;>exact q)
theorem bGA(h:N a w):CW P .skip N X T a w:=wp_skip h
theorem bGB(h:X id a w):CW P (.exit id) N X T a w:=wp_exit h
theorem bJ5(h:T a w):CW P .ret N X T a w:=wp_ret h
theorem a0J(h:CW P c N (aV5 id N X) T a w):CW P (.block id c) N X T a w:=wp_block (wp_mono h λe a w q=>by cases e<;>exact q)
theorem aO6{o:Operand}{t:Bool}(g:PL n e a)(d:ev e o=some (.bool t))(b:t=true->CW P x N X T a w)(f:t=false->CW P y N X T a w):CW P (.cond o x y) N X T a w:=wp_cond_split (g.eval d) b f
theorem bJ6{o:Operand}{t:Bool}(d:PL n e a)(b:ev e o=some (.bool t))(f:t=true)(h:CW P x N X T a w):CW P (.cond o x y) N X T a w:=aO6 d b (λ_=>h) (λg=>aj)
theorem bM4{o:Operand}{t:Bool}(d:PL n e a)(b:ev e o=some (.bool t))(f:t=false)(h:CW P y N X T a w):CW P (.cond o x y) N X T a w:=aO6 d b (λg=>aj) (λ_=>h)
theorem a8G{ops:bj}(h:wpList P ops (mkQ N X T) ops.toList a w):CW P (.region id ops false) N X T a w:=wp_region_list h
end
inductive Step (σ ρ:Type) where
 |next (s:σ)
 |stop (r:ρ)
inductive Out (β ρ:Type) where
 |brk (s:β)
 |ret (r:ρ)
def iter{σ ρ:Type}(body:σ->Option (Step σ ρ)):Nat->σ->Option ρ
 |0,_=>none
 |n + 1,s=>match body s with
  |none=>none
  |some (.next a)=>iter body n a
  |some (.stop r)=>some r
theorem a0K{σ ρ:Type}{body:σ->Option (Step σ ρ)}:∀{n m:Nat} {s:σ} {r a:ρ},iter body n s=some r->iter body m s=some a->r=a
 |0,_,_,_,_,h,_=>by grind[iter]
 |_+1,0,_,_,_,_,h=>by grind[iter]
 |n + 1,m + 1,s,r,a,h,b=>by
  simp only[iter] at h b;cases c:body s with
  |none=>grind
  |some o=>cases o with
   |next d=>rw[c] at h b;exact a0K h b
   |stop q=>grind
open Classical in
def loop{σ ρ:Type}(body:σ->Option (Step σ ρ))(s:σ):Option ρ:=if h:∃r,∃n,iter body n s=some r then some (Classical.choose h) else none
theorem XD{body:σ->Option (Step σ ρ)}{s:σ}{r:ρ}:loop body s=some r↔∃n,iter body n s=some r:=by
 unfold loop;by_cases h:∃r,∃n,iter body n s=some r
 .rw[dif_pos h];grind[a0K]
 grind
theorem bR{body:σ->Option (Step σ ρ)}{s:σ}{r:ρ}(h:body s=some (.stop r)):loop body s=some r:=XD.2 ⟨1,by simp[iter,h]⟩
theorem bO{body:σ->Option (Step σ ρ)}{s s':σ}(h:body s=some (.next s')):loop body s=loop body s':=by
 cases b:loop body s' with
 |some r=>
  obtain⟨n,a⟩:=XD.1 b;exact XD.2 ⟨n+1,by grind[iter]⟩
 |none=>
  cases c:loop body s with
  |none=>rfl
  |some r=>
   obtain⟨n,a⟩:=XD.1 c;cases n with
   |zero=>grind[iter]
   |succ n=>grind[iter,XD]
def bGC{c:Code}{N:Act->World->Prop}{X:Nat->Act->World->Prop}{T:Act->World->Prop}{body:σ->Option (Step σ ρ)}{r:ρ}(d:σ->Act->World->Prop)
  (b:∀s a w o,d s a w->body s=some o->(∀q,o=.stop q->q=r)->CW P c (λj w'=>∃s',o=.next s'/\d s' j w') X T a w)
  {s:σ} (g:loop body s=some r) {a:Act}  (h:d s a w):CW P (.loop c) N X T a w:=by
 obtain⟨n,f⟩:=XD.1 g;refine wp_loop_rounds n ?_;clear g;induction n generalizing s a w with
 |zero=>grind[iter]
 |succ n k=>
  simp only[iter] at f;rw[rounds_succ];cases i:body s with
  |none=>grind
  |some o=>
   have l:∀q,o=.stop q->q=r:=λq e=>aj
   refine wp_mono (b s a w o h i l) λe j w' q=>?_;cases e with
   |normal=>obtain⟨s',e,m⟩:=q;subst e;rw[i] at f;exact k m f
   |_=>exact q
abbrev bB(n:Int):Int:=IntKind.i64.wrap n
def gD(P:Program)(o:Oper)(e:Env)(w:World)(v:Value)(w':World):Prop:=∀n a,PL n e a->(execOp a.eval o).run P w=.ok (.value v) w'
def bM5(P:Program)(o:Oper)(e:Env)(w:World)(w':World):Prop:=∀n a,PL n e a->(execOp a.eval o).run P w=.ok .skip w'
def bJ7(P:Program)(o:Oper)(e:Env)(w:World)(f:FuncId)(args:b4):Prop:=∀n a,PL n e a->(execOp a.eval o).run P w=.ok (.enter f args) w
def mY(P:Program)(ops:bj)(Q:Exit->Act->World->Prop)(rest:cj)(n:Nat)(e:Env)(w:World):Prop:=∀a,PL n e a->wpList P ops Q rest a w
section
variable {P:Program} {a':Act} {ops:bj} {Q:Exit->Act->World->Prop} {o:Oper} {rest:cj} {n d:Nat} {e:Env} {w w':World}
def Want(ops:bj)(o:Oper)(e:Env)(b:Bool):Prop:=∀n a,PL n e a->Region.wanted o (yielded ops a.tmps)=b
theorem a0L(a:o.guard=none):Want ops o e true:=λ_ _ _=>by grind[Region.wanted]
theorem a6F{t c b:Bool}{s:Tmp}(i:o.guard=some (j,t))(h:(ops[j]?).bind (·.dst)=some s)(f:lk e s=some (.bool c))(k:Bool.xor c t=!b):Want ops o e b:=λ_ a g=>by
 have:yielded ops a.tmps j=some c:=by have l:=g.get s _ f;grind[yielded]
 grind[Region.wanted]
theorem bJE{v:Value}(f:gD P o e w v w')(c:Want ops o e true)(g:o.dst=some d)(hn:Nat.blt d n=true)(k:mY P ops Q rest n ((d,v)::e) w'):mY P ops Q (o::rest) n e w:=λa b=>by refine wpList_step λK h=>?_;rw[c n a b,aM rfl];unfold Oper.wp;rw[f n a b,Oper.upon_value,g];exact h _ _ (k _ (b.put (by simp_all) v))
theorem bGD(c:Want ops o e false)(f:o.dst=some d)(hn:Nat.blt d n=true)(k:mY P ops Q rest n ((d,undef)::e) w):mY P ops Q (o::rest) n e w:=λa b=>by refine wpList_step λK g=>?_;rw[c n a b,aO ae,f];exact g _ _ (k _ (b.put (by simp_all) undef))
def Ret(K:Value->World->Prop):Ending->World->Prop:=λen w'=>∃v,en=.returned v/\K v w'
variable {x y z:Operand} {v u:Value} {k:IntKind} {i j:Int} {t z':TypeId}
theorem bGE(c:o.op=.move x)(b:ev e x=some v):gD P o e w v w:=λ_ a f=>by simp[execOp,c,f.eval b]
theorem a8H(c:o.op=.assign x)(b:ev e x=some v):gD P o e w v w:=λ_ a f=>by simp[execOp,c,f.eval b]
theorem bJ8(c:o.op=.nilCheck x){p:Addr}(b:ev e x=some (.pointer (some p))):gD P o e w (.pointer (some p)) w:=λ_ a f=>by simp[execOp,c,f.eval b]
theorem a8I{c:Bool}(h:o.op=.pick x y z)(g:ev e x=some (.bool c))(l:c=true)(f:ev e y=some v):gD P o e w v w:=λ_ a b=>by simp[execOp,h,b.eval g,b.eval f,l,asBool]
theorem a8J{c:Bool}(h:o.op=.pick x y z)(g:ev e x=some (.bool c))(l:c=false)(f:ev e z=some v):gD P o e w v w:=λ_ a b=>by simp[execOp,h,b.eval g,b.eval f,l,asBool]
theorem bAY{b:Bool}(f:o.op=.unOp .not t x)(c:ev e x=some (.bool b)):gD P o e w (.bool (!b)) w:=λ_ a g=>by simp[execOp,f,g.eval c,Op.unary]
theorem bJ9(c:o.op=.unOp .neg t x)(b:ev e x=some (.int k i)):gD P o e w (.int k (k.wrap (0-i))) w:=λ_ a f=>by simp[execOp,c,f.eval b,Op.unary,Op.intArith]
theorem bKA(g:o.op=.binOp .add t x y z')(f:ev e x=some (.int k i))(c:ev e y=some (.int k j)):gD P o e w (.int k (k.wrap (i+j))) w:=λ_ a b=>by simp[execOp,g,b.eval f,b.eval c,eqGuard,binOp,Op.intArith]
theorem bKB(g:o.op=.binOp .sub t x y z')(f:ev e x=some (.int k i))(c:ev e y=some (.int k j)):gD P o e w (.int k (k.wrap (i-j))) w:=λ_ a b=>by simp[execOp,g,b.eval f,b.eval c,eqGuard,binOp,Op.intArith]
theorem bKC(g:o.op=.binOp .mul t x y z')(f:ev e x=some (.int k i))(c:ev e y=some (.int k j)):gD P o e w (.int k (k.wrap (i*j))) w:=λ_ a b=>by simp[execOp,g,b.eval f,b.eval c,eqGuard,binOp,Op.intArith]
theorem a3S(g:o.op=.binOp .quo t x y z')(f:ev e x=some (.int k i))(c:ev e y=some (.int k j))(h:j≠0):gD P o e w (.int k (k.wrap (i.tdiv j))) w:=λ_ a b=>by simp[execOp,g,b.eval f,b.eval c,eqGuard,binOp,Op.intDiv,h]
theorem a3T(g:o.op=.binOp .rem t x y z')(f:ev e x=some (.int k i))(c:ev e y=some (.int k j))(h:j≠0):gD P o e w (.int k (i.tmod j)) w:=λ_ a b=>by simp[execOp,g,b.eval f,b.eval c,eqGuard,binOp,Op.intDiv,h]
theorem bKD(g:o.op=.binOp .lss t x y z')(f:ev e x=some (.int k i))(c:ev e y=some (.int k j)):gD P o e w (.bool (decide (i<j))) w:=λ_ a b=>by simp[execOp,g,b.eval f,b.eval c,eqGuard,binOp,Op.intCmp]
theorem bKE(g:o.op=.binOp .leq t x y z')(f:ev e x=some (.int k i))(c:ev e y=some (.int k j)):gD P o e w (.bool (decide (i<=j))) w:=λ_ a b=>by simp[execOp,g,b.eval f,b.eval c,eqGuard,binOp,Op.intCmp]
theorem bKF(g:o.op=.binOp .gtr t x y z')(f:ev e x=some (.int k i))(c:ev e y=some (.int k j)):gD P o e w (.bool (decide (j<i))) w:=λ_ a b=>by simp[execOp,g,b.eval f,b.eval c,eqGuard,binOp,Op.intCmp]
theorem bKG(g:o.op=.binOp .geq t x y z')(f:ev e x=some (.int k i))(c:ev e y=some (.int k j)):gD P o e w (.bool (decide (j<=i))) w:=λ_ a b=>by simp[execOp,g,b.eval f,b.eval c,eqGuard,binOp,Op.intCmp]
theorem bKH(g:o.op=.binOp .eql t x y z')(f:ev e x=some (.int k i))(c:ev e y=some (.int k j)):gD P o e w (.bool (i == j)) w:=λ_ a b=>by simp[execOp,g,b.eval f,b.eval c,eqGuard,binOp,Op.intCmp]
theorem bKI(g:o.op=.binOp .neq t x y z')(f:ev e x=some (.int k i))(c:ev e y=some (.int k j)):gD P o e w (.bool (i != j)) w:=λ_ a b=>by simp[execOp,g,b.eval f,b.eval c,eqGuard,binOp,Op.intCmp]
def jG(op:BinOp)(k:IntKind)(i j:Int):Int:=
 match op with
 |.and=>k.wrap ((BitVec.ofInt k.bits i &&& BitVec.ofInt k.bits j).toNat:Int)
 |.or=>k.wrap ((BitVec.ofInt k.bits i ||| BitVec.ofInt k.bits j).toNat:Int)
 |.xor=>k.wrap ((BitVec.ofInt k.bits i ^^^ BitVec.ofInt k.bits j).toNat:Int)
 |_=>k.wrap ((BitVec.ofInt k.bits i &&& ~~~ (BitVec.ofInt k.bits j)).toNat:Int)
theorem bKJ(g:o.op=.binOp .and t x y z')(f:ev e x=some (.int k i))(c:ev e y=some (.int k j)):gD P o e w (.int k (jG .and k i j)) w:=λ_ a b=>by simp[execOp,g,b.eval f,b.eval c,eqGuard,binOp,Op.intBits,jG]
theorem bM6(g:o.op=.binOp .or t x y z')(f:ev e x=some (.int k i))(c:ev e y=some (.int k j)):gD P o e w (.int k (jG .or k i j)) w:=λ_ a b=>by simp[execOp,g,b.eval f,b.eval c,eqGuard,binOp,Op.intBits,jG]
theorem bKK(g:o.op=.binOp .xor t x y z')(f:ev e x=some (.int k i))(c:ev e y=some (.int k j)):gD P o e w (.int k (jG .xor k i j)) w:=λ_ a b=>by simp[execOp,g,b.eval f,b.eval c,eqGuard,binOp,Op.intBits,jG]
theorem a8K(g:o.op=.binOp .andNot t x y z')(f:ev e x=some (.int k i))(c:ev e y=some (.int k j)):gD P o e w (.int k (jG .andNot k i j)) w:=λ_ a b=>by simp[execOp,g,b.eval f,b.eval c,eqGuard,binOp,Op.intBits,jG]
def aP0(k:IntKind)(i j:Int):Int:=k.wrap (i*2 ^ min j.toNat k.bits)
def rS(k:IntKind)(i j:Int):Int:=i.fdiv (2 ^ min j.toNat k.bits)
theorem bAZ(h:o.op=.binOp .shl t x y z')(g:ev e x=some (.int k i))(f:ev e y=some (.int c j))(l:¬j<0):gD P o e w (.int k (aP0 k i j)) w:=λ_ a b=>by simp[execOp,h,b.eval g,b.eval f,eqGuard,binOp,Op.shift,l,aP0]
theorem bKL(h:o.op=.binOp .shr t x y z')(g:ev e x=some (.int k i))(f:ev e y=some (.int c j))(l:¬j<0):gD P o e w (.int k (rS k i j)) w:=λ_ a b=>by simp[execOp,h,b.eval g,b.eval f,eqGuard,binOp,Op.shift,l,rS]
theorem bGF{p q:Bool}(g:P.underlying t=some .bool)(h:o.op=.binOp .eql t x y z')(f:ev e x=some (.bool p))(c:ev e y=some (.bool q)):gD P o e w (.bool (p == q)) w:=λ_ a b=>by have l:binOp .eql t (.bool p) (.bool q)=(do pure (.bool (<-Op.equal t (.bool p) (.bool q)))):=rfl;simp[execOp,h,b.eval f,b.eval c,eqGuard,l,Op.equal,Op.maxDepth,run_equalIn_bool' _ _ _ _ _ g]
theorem bGG{p q:Bool}(g:P.underlying t=some .bool)(h:o.op=.binOp .neq t x y z')(f:ev e x=some (.bool p))(c:ev e y=some (.bool q)):gD P o e w (.bool (!(p == q))) w:=λ_ a b=>by have l:binOp .neq t (.bool p) (.bool q)=(do pure (.bool (!(<-Op.equal t (.bool p) (.bool q))))):=rfl;simp[execOp,h,b.eval f,b.eval c,eqGuard,l,Op.equal,Op.maxDepth,run_equalIn_bool' _ _ _ _ _ g]
abbrev sv(l:aF):Value:=.string ⟨l.toArray⟩
theorem bGH{p:aF}(g:o.op=.binOp .eql t x y z')(f:ev e x=some (sv p))(c:ev e y=some (sv q)):gD P o e w (.bool (p == q)) w:=λ_ a b=>by simp[execOp,g,b.eval f,b.eval c,eqGuard,binOp,Op.stringOp]
theorem bGI{p:aF}(g:o.op=.binOp .neq t x y z')(f:ev e x=some (sv p))(c:ev e y=some (sv q)):gD P o e w (.bool (!(p == q))) w:=λ_ a b=>by simp[execOp,g,b.eval f,b.eval c,eqGuard,binOp,Op.stringOp]
theorem bKM{p:aF}(g:o.op=.binOp .add t x y z')(f:ev e x=some (sv p))(c:ev e y=some (sv q))(r:p.length+q.length<=9223372036854775807):gD P o e w (sv (p++q)) w:=λ_ a b=>by
 have m:(⟨p.toArray⟩:ByteArray)++⟨q.toArray⟩=⟨(p++q).toArray⟩:=by apply ByteArray.ext;simp
 have l:(⟨p.toArray⟩:ByteArray).size=p.length:=by simp[ByteArray.size]
 have h:(⟨q.toArray⟩:ByteArray).size=q.length:=by simp[ByteArray.size]
 simp[execOp,g,b.eval f,b.eval c,eqGuard,binOp,Op.stringOp,l,h,m];omega
theorem aXE{b:IntKind}{s t:TypeId}(g:P.underlying s=some ds)(f:P.underlying t=some (.int b))(h:o.op=.convert s t x)(c:ev e x=some (.int k i)):gD P o e w (.int b (b.wrap i)) w:=λ_ a l=>by simp[execOp,h,l.eval c,convert,run_underlying g,run_underlying f,Conv.intToInt]
theorem a3U{vs:b4}{ix:Nat}(f:o.op=.extract x ix)(b:ev e x=some (.tuple vs))(c:vs[ix]?=some v):gD P o e w v w:=λ_ a g=>by simp[execOp,f,g.eval b,Instr.extract,c]
theorem bKN{l:Option Addr}{c:Nat}{el:TypeId}(f:P.underlying t=some (.slice el))(g:o.op=.call {callee:=.builtin .len,args:=#[x],argTypes:=#[t]})(b:ev e x=some (.slice l m c)):gD P o e w (.int .i64 (m:Int)) w:=λ_ a h=>by simp[execOp,g,resolve,invoke,builtin,Builtin.len_,h.eval b,run_underlying f,goInt]
theorem bGJ(c:P.underlying t=some .string)(f:o.op=.call {callee:=.builtin .len,args:=#[x],argTypes:=#[t]})(b:ev e x=some (sv l)):gD P o e w (.int .i64 (l.length:Int)) w:=λ_ a g=>by
 have h:(⟨l.toArray⟩:ByteArray).size=l.length:=by simp[ByteArray.size]
 simp[execOp,f,resolve,invoke,builtin,Builtin.len_,g.eval b,run_underlying c,goInt,h]
theorem bGK{c:Fn}{fs cs:Array Operand}{vf vc:ao}(g:o.op=.makeFunc c fs cs)(m:fs.toList.map (ev e)=vf.map some)(p:cs.toList.map (ev e)=vc.map some):gD P o e w (.func c vf.toArray vc.toArray) w:=λ_ a q=>by
 have b:∀(xs:Array Operand) (vs:ao),xs.toList.map (ev e)=vs.map some->xs.map a.eval=vs.toArray:=by
  intro xs vs h;apply Array.toList_inj.1;simp
  revert vs
  generalize xs.toList=l;induction l with
  |nil=>simp
  |cons y r f=>
   intro vs h;cases vs with
   |nil=>simp at h
   |cons v vs=>simp at h ⊢;exact⟨q.eval h.1,f vs h.2⟩
 simp[execOp,g,b _ _ m,b _ _ p,Instr.makeFunc]
variable {c:Ctx} {L:bc} {R:bn}
abbrev bGL(b:Nat)(cs:ao):Chunk:=cAt b 0 cs
theorem St.cell(h:St c w L R){b:Nat}{cs:ao}(i:Nat){j:Nat}(f:L[i]?=some (bGL b cs))(a:cs[j]?=some v):w.cell? ⟨b,j,none⟩=some v:=by obtain⟨F,g,_⟩:=h.chunk i f;have:=g j v a;grind
theorem St.cells(h:St c w L R){b:Nat}{cs cs':ao}(i j:Nat)(g:L[i]?=some (bGL b cs))(l:(cs.drop j).take cs'.length=cs'):bU w b j cs':=by intro m u f;have a:=(I8.1 f).1;refine h.cell i g ?_;grind
theorem uJ{b j:Nat}{cs:ao}(h:bU w b j cs)(P:Program):(loadCells ⟨b,j,none⟩ cs.length).run P w=.ok cs.toArray w:=by
 refine run_loadCells_list w ⟨b,j,none⟩ cs λm u a=>?_;have:(⟨b,j,none⟩:Addr).add m=⟨b,j+m,none⟩:=by grind[Addr.add]
 rw[this];exact h m u a
theorem bA0{p:Addr}(f:o.op=.load t x)(b:ev e x=some (.pointer (some p)))(h:∀w,(isAgg t).run P w=.ok false w)(g:w.cell? p=some v):gD P o e w v w:=λ_ a l=>by simp[execOp,f,Instr.loadAt,Instr.sureAddr,l.eval b,loadVar,h,load,Sem.run,g]
theorem bA1{b j:Nat}{cs:ao}(h:o.op=.load t x)(g:ev e x=some (.pointer (some ⟨b,j,none⟩)))(q:∀w,(isAgg t).run P w=.ok true w)(f:∀w,(sizeOf t).run P w=.ok m w)(l:cs.length=m)(p:bU w b j cs):gD P o e w (.agg cs.toArray) w:=λ_ a r=>by subst l;simp[execOp,h,Instr.loadAt,Instr.sureAddr,r.eval g,loadVar,q,f,uJ p P]
theorem St.alloc(h:St c w L R)(cs:ao)(t:TypeId):St c (w.alloc (.cells cs.toArray t)) (L++[bGL w.heap.size cs]) R:=by
 refine h.more (fN.alloc _ _ _) ⟨fQ w.heap.size 0 cs.length,⟨λj u l=>?_,λa g=>?_,λ_ _=>?_⟩,λb a f=>?_⟩
 .simp_all
 .simp
 .simp
 .exact QM f.1.symm
theorem bA2{f:Field}{ix b j g:Nat}(p:P.underlying t=some (.struct fs))(q:o.op=.fieldAddr t x ix)(r:fs[ix]?=some f)(h:∀w,(sizeOf f.type).run P w=.ok (m+1) w)(l:ev e x=some (.pointer (some ⟨b,j,none⟩)))(B:j+f.offset=g):gD P o e w (.pointer (some ⟨b,g,none⟩)) w:=λ_ a s=>by
 have A:(⟨b,j,none⟩:Addr).add f.offset=⟨b,g,none⟩:=by grind[Addr.add]
 simp[execOp,q,Instr.fieldAt,s.eval l,run_underlying p,r,Instr.sureAddr,fieldPlace,h,A]
def elB:Value->Nat
 |.slice (some a) _ _=>a.block
 |_=>0
def Y5(n k:Nat):Value->Nat
 |.slice (some a) _ _=>a.off+k*n
 |_=>0
theorem nY[aN O]{S:dA}{l:List O}(h:aN.rd S w [s] l):∃a m,s=.slice a l.length m:=by obtain⟨a,m,b,_⟩:=(show AB S w [s] l from h);grind
def idx{O:Type}(l:List O)(i:Int):Option O:=if 0<=i then l[i.toNat]? else none
theorem EV{l:List O}{i:Int}{x:O}(h:idx l i=some x):0<=i/\i<l.length/\l[i.toNat]?=some x:=by grind[idx]
theorem bKO[aN O]{S:dA}{l:List O}{el:Nat}{q:O}(h:aN.rd S w [s] l)(A:aN.n O=m)(F:idx l i=some q)(E:P.underlying t=some (.slice el))(B:∀w,(sizeOf el).run P w=.ok m w)(G:o.op=.indexAddr t x y)(D:ev e x=some s)(C:ev e y=some (.int k i)):gD P o e w (.pointer (some ⟨elB s,Y5 m i.toNat s,none⟩)) w:=by
 obtain⟨J,I,K⟩:=EV F;obtain⟨N,c,rfl⟩:=nY h;obtain⟨r,M,p,_,_,g⟩:=(show AB S w [_] l from h);simp at p;obtain⟨rfl,rfl⟩:=p;obtain g|⟨b,off,rfl,_⟩:=g
 .grind
 .intro _ a f;have H:(⟨b,off,none⟩:Addr).add (i.toNat*m)=⟨b,off+i.toNat*m,none⟩:=by grind[Addr.add]
  simp[execOp,G,Instr.indexAt,f.eval D,f.eval C,asIntOf,run_underlying E,J,I,B,H,elB,Y5]
theorem rT{b:Nat}(P:Program):∀(vs:ao) (w:World) (j m:Nat),(∀v∈vs,v.oneCell'=true)->(∀q,m<=q->q<m+vs.length->(w.cell? ⟨b,j+q,none⟩).isSome=true/\w.frozen? ⟨b,j+q,none⟩=false) ->
  ∃w',(storeCells ⟨b,j,none⟩ vs m).run P w=.ok () w'/\fN (fQ b (j+m) vs.length) w w'/\w'.heap.size=w.heap.size/\bU w' b (j+m) vs
 |[],w,j,m,_,_=>⟨w,rfl,fN.refl _ _,rfl,λq v h=>by simp at h⟩
 |v::vs,w,j,m,D,r=>by
  have f:(⟨b,j,none⟩:Addr).add m=⟨b,j+m,none⟩:=by grind[Addr.add]
  obtain⟨g,I⟩:=r m (jR _) ae;obtain⟨u,G⟩:=aPZ.1 g;have a:fN (fQ b (j+m) (v::vs).length) w (w.setCell ⟨b,j+m,none⟩ v):=fN.setCell _ _ _ _ ⟨rfl,jR _,ae⟩ rfl;obtain⟨w',H,p,s,C⟩:=rT P vs (w.setCell ⟨b,j+m,none⟩ v) j (m+1) (λv h=>D v (uI _ h)) (λq O N=>by
   obtain⟨F,K⟩:=r q aa ah;exact⟨a.stay _ _ F,by simp_all⟩)
  refine⟨w',?_,a.trans p λM o _ hh=>?_,by simp_all,?_⟩
  .simp_all[run_store,storeCells]
  .obtain⟨c1,E,J⟩:=hh;exact⟨c1,aa,ah⟩
  .intro q B l;cases q with
   |zero=>
    simp at l;subst l;have A:b<w.heap.size:=lF g;rw[aFJ,p.cell b (j+m) (by simp_all) (λhh=>by obtain⟨_,E,_⟩:=hh;omega)];grind[World.cell?_setCell_same]
   |succ q=>
    have:=C q B aj;grind
def aHL(cs:ao)(j:Nat):ao->ao
 |[]=>cs
 |v::vs=>aHL (cs.set j v) (j+1) vs
theorem aL3:∀(vs cs:ao) (j:Nat),(aHL cs j vs).length=cs.length
 |[],_,_=>rfl
 |v::vs,cs,j=>by simp[aHL,aL3 vs]
theorem a0M:∀(vs cs:ao) (j q:Nat),j+vs.length<=cs.length->(aHL cs j vs)[q]?=if j<=q/\q<j+vs.length then vs[q-j]? else cs[q]?
 |[],cs,j,q,_=>by simp[aHL,aO]
 |v::vs,cs,j,q,h=>by simp only[aHL];rw[a0M vs (cs.set j v) (j+1) q aj];grind
def evs(e:Env):List Operand->Option ao
 |[]=>some []
 |x::r=>match ev e x,evs e r with
  |some v,some vs=>some (v::vs)
  |_,_=>none
theorem Y6{e:Env}{a:Act}{n:Nat}(b:PL n e a):∀{xs:List Operand} {vs:ao},evs e xs=some vs->xs.map a.eval=vs
 |[],vs,h=>by grind[evs]
 |x::r,vs,h=>by
  simp only[evs] at h;split at h
  .rename_i v f l g;simp at h;subst h;simp[b.eval l,Y6 b g]
  .cases h
theorem a0N{f:FuncId}{xs:List Operand}{h:Array TypeId}{cap:ao}(b:∀args w,(callFunc f args).run P w=.ok (.enter f args) w)(p:o.op=.call {callee:=.value x,args:=xs.toArray,argTypes:=h})(l:ev e x=some (.func (.func f) #[] cap.toArray))(m:evs e xs=some vs):bJ7 P o e w f (vs++cap).toArray:=λ_ a g=>by simp[execOp,p,resolve,g.eval l,Deferred.ofValue,invoke,b,Y6 g m]
def aJ6(tmps:b4):ResultVar->Sem Value
 |.tmp t=>pure (tmps.getD t undef)
 |.cell p t=>do loadVar t (<-asAddr (tmps.getD p undef))
def Fin(P:Program)(b:Func)(K:Value->World->Prop)(a:Act)(w:World):Prop:=a.defers=[]/\∃v,(results b a.tmps).run P w=.ok v w/\K v w
theorem a3V{b:Func}{a:List ResultVar}(f:b.results=a.toArray)(tmps:b4):results b tmps=(do let vs <-a.toArray.mapM (aJ6 tmps);pure (if h:vs.size=1 then vs[0] else .tuple vs)):=by unfold results;rw[f];rfl
theorem a8L{f:FuncId}{b:Func}{r:Code}{args:ao}{K:Value->World->Prop}(B:P.funcs[f]?=some b)(C:b.body=some r)(s:b.ntmps=m)(A:Nat.ble args.length m=true)
  (h:∀a,PL m (a0I 0 args) a->CW P r (Fin P b K) (λ_ _ _=>False) (Fin P b K) a w):Calls P f args.toArray w (Ret K):=by
 refine calls_of_wp B C ?_;subst s;refine wp_mono (h _ (bM3 args b.ntmps (XC A))) λex a w q=>?_;cases ex with
 |ret=>obtain⟨p,v,l,g⟩:=q;exact⟨p,v,l,v,rfl,g⟩
 |normal=>obtain⟨p,v,l,g⟩:=q;exact⟨p,v,l,v,rfl,g⟩
 |_=>exact q.elim
end
def need(p:Prop)[Decidable p]{O:Type}(k:Option O):Option O:=if p then k else none
theorem mZ[Decidable p]{k:Option O}{q:O}(h:need p k=some q):p/\k=some q:=by grind[need]
def bGM{ops:bj}{o:Oper}{s:Nat}{t:Bool}(f:o.guard=some (j,t))(d:(ops[j]?).bind (·.dst)=some s)(b:lk e s=some undef):Want ops o e false:=λ_ a c=>by
 have:yielded ops a.tmps j=none:=by have g:=c.get s _ b;grind[yielded,undef]
 grind[Region.wanted]
def u8(z:Int):UInt8:=UInt8.ofNat (z % 256).toNat
theorem bKP(z:Int):((u8 z).toNat:Int)=IntKind.u8.wrap z:=by unfold u8;simp[IntKind.wrap,IntKind.bits,IntKind.signed];omega
section
variable {P:Program} {o:Oper} {e:Env} {w w':World} {c:Ctx} {L:bc} {R:bn} {x:Operand} {v:Value} {k:IntKind} {i:Int} {t:TypeId}
theorem bA3{s:TypeId}(d:P.underlying s=some ds)(b:P.underlying t=some (.int .u8))(f:o.op=.convert s t x)(a:ev e x=some (.int k i)):gD P o e w (.int .u8 ((u8 i).toNat:Int)) w:=by grind[bKP,aXE]
theorem bA4{s:TypeId}{b:UInt8}(f:P.underlying s=some ds)(d:P.underlying t=some (.int .i64))(g:o.op=.convert s t x)(a:ev e x=some (.int .u8 (b.toNat:Int))):gD P o e w (.int .i64 (b.toNat:Int)) w:=by have h:=aXE (w:=w) f d g a;have j:=b.toNat_lt;grind[IntKind.wrap,IntKind.bits]
theorem bGN{b:Fn}{fs cs:b4}(g:o.op=.nilCheck x)(h:∀n,b≠.method n)(d:ev e x=some (.func b fs cs)):gD P o e w (.func b fs cs) w:=λ_ a f=>by cases b<;>simp_all[execOp,f.eval d]
theorem bU.sub{b:Nat}{cs cs':ao}(h:bU w b j cs)(k:Nat)(g:(cs.drop k).take cs'.length=cs')(f:j+k=m):bU w b m cs':=by subst f;intro q u a;have d:=(I8.1 a).1;rw[<-g] at a;rw[aLZ,aM aa,List.getElem?_drop] at a;have:=h (k+q) u a;grind
theorem eX[aN O]{S:dA}{cs:ao}{d:List O}(h:aN.rd S w cs d):∃v,cs=[v]:=by obtain⟨a,c,h,_⟩:=(show AB S w cs d from h);grind
theorem bJF{f:Fact}(h:f.P (All w) w)(d:fN F0 w w'):f.P (All w') w':=f.mono (f.agree h λb o a=>d.cell b o a λh=>h) λ_ _ a=>SS a d.size
def pick(L:bc):ar->bc
 |[]=>[]
 |i::r=>(L[i]?).getD QY::pick L r
def eA:ar->Bool
 |[]=>true
 |i::r=>(r.all λj=>!Nat.beq i j) && eA r
theorem aP1{L:bc}{i:Nat}:∀{is:ar},(is.all λj=>!Nat.beq i j)=true->pick (L.set i QY) is=pick L is
 |[],_=>rfl
 |j::r,h=>by
  simp only[aT3,ET,Bool.not_eq_true'] at h;have a:i≠j:=λe=>by simp_all
  simp only[pick,aP1 h.2,List.getElem?_set_ne a]
theorem Sep.pick{w:World}:∀{is:ar} {L:bc} {F:dA},eA is=true->Sep w L F->∃a f,Sep w (pick L is) a/\a.I9 f/\∀b o,F b o↔a b o\/f b o
 |[],L,F,_,_=>⟨F0,F,λ_ _ h=>h,λ_ _ h _=>h,λb o=>by simp[F0]⟩
 |i::r,L,F,d,h=>by
  simp only[eA,ET] at d;have u:Sep w ((L[i]?).getD QY::L.set i QY) F:=by
   cases p:L[i]? with
   |some B=>grind[Sep.take]
   |none=>
    rw[List.set_eq_of_length_le (List.getElem?_eq_none_iff.1 p)];exact⟨F0,F,λ_ _ h=>h,h,λ_ _ h _=>h,λb o=>by simp[F0]⟩
  obtain⟨a,f,s,q,j,A⟩:=u;obtain⟨n,z,m,y,l⟩:=Sep.pick d.2 q;rw[aP1 d.1] at m;exact⟨λb o=>a b o\/n b o,z,⟨a,n,s,m,λb o h g=>j b o h ((l b o).2 (.inl g)),λ_ _=>Iff.rfl⟩,
   λb o h g=>h.elim (λh=>j b o h ((l b o).2 (.inr g))) (λh=>y b o h g),λb o=>aj⟩
theorem St.sel(h:St c w L R)(is:ar)(f:eA is=true):St c w (pick L is) R:=by obtain⟨F,S,q,p,n,m,l,j⟩:=h.sep;obtain⟨r,u,g,s,d⟩:=Sep.pick f q;exact⟨h.keep,⟨r,S,g,λb o a=>p b o ((d b o).2 (.inl a)),λb o a=>n b o ((d b o).2 (.inl a)),m,l,j⟩,h.apart⟩
theorem bA5{b:Array (Nat×Nat)}{ps:cr}{cells:b4}(j:o.op=.build t ps.toArray)(d:∀w,(zeroValue t).run P w=.ok z w)(h:P.underlying t=some (.struct fs))
  (m:∀w,(fs.mapM λf=>(do pure (f.offset,<-sizeOf f.type):Sem (Nat×Nat))).run P w=.ok b w) (g:evs e (ps.map (·.2))=some vs) (n:Instr.fill (b[·]?) z.cells ((ps.map (·.1)).zip vs)=some cells):gD P o e w (.agg cells) w:=λ_ a l=>by
 have q:ps.map (λp=>(p.1,a.eval p.2))=(ps.map (·.1)).zip vs:=by rw[<-Y6 l g];grind
 simp[execOp,j,Instr.build,d,run_underlying h];simp_all
end
def bGO(d:Nat)(xs a:b4):(Op.eqFields d xs a []).run P w=.ok true w:=by simp[Op.eqFields]
def aHM(d:Nat)(xs a:b4)(f:Field)(fs:List Field){p q:Value}{b c:Bool}(hn:(f.name == "_")=false)(g:(part f.type xs f.offset).run P w=.ok p w)(e:(part f.type a f.offset).run P w=.ok q w)(i:(Op.equalIn d f.type p q).run P w=.ok b w)(h:(Op.eqFields d xs a fs).run P w=.ok c w) :
  (Op.eqFields d xs a (f::fs)).run P w=.ok (b && c) w:=by simp only[beq_eq_false_iff_ne,ne_eq] at hn;cases b<;>simp[Op.eqFields,hn,g,e,i,h]
def aL4{cs:b4}{v:Value}(b:∀w,(isAgg t).run P w=.ok false w)(a:cs[j]?=some v):(part t cs j).run P w=.ok v w:=by simp_all[part]
def bGP{o:Oper}{x y:Operand}{h:TypeId}{xs c:b4}{b:Bool}(m:P.eqGuardType P.depth t=false)(d:P.stoodInHeld t=false)(k:P.underlying t=some (.struct fs))(f:∀w,(Op.eqFields 9999 xs c (match P.underlying t with|some (.struct fs)=>fs|_=>#[]).toList).run P w=.ok b w)(l:o.op=.binOp .neq t x y h)(j:ev e x=some (.agg xs))(i:ev e y=some (.agg c)):gD P o e w (.bool (!b)) w:=λ_ a g=>by
 have n:P.fieldsOf t=fs:=by grind[Program.fieldsOf]
 rw[k] at f;have p:binOp .neq t (.agg xs) (.agg c)=(do pure (.bool (!(<-Op.equal t (.agg xs) (.agg c))))):=rfl;simp[execOp,l,g.eval j,g.eval i,run_eqGuard_agg _ _ _ _ _ _ _ m,p,Op.equal,Op.maxDepth,run_equalIn_struct _ _ _ _ _ aj d,n,f]
def bA6{k:IntKind}{a b:Int}(h:P.underlying t=some (.int c)):(Op.equalIn (d+1) t (.int k a) (.int k b)).run P w=.ok (a == b) w:=run_equalIn_int w d t k c a b h
def a6G{a b:Bool}(h:P.underlying t=some .bool):(Op.equalIn (d+1) t (.bool a) (.bool b)).run P w=.ok (a == b) w:=run_equalIn_bool' w d t a b h
def bGQ(P:Program)(ops:bj)(Q:Exit->Act->World->Prop)(S:World->Prop)(b:Nat)(qW:Array Bool)(n:Nat)(e:Env)(w:World):Prop:=∀a,PL n e a->wpAnyH P .any ops Q S b qW a w
abbrev bA7(c:Ctx)(L:bc)(R:bn):World->Prop:=λw=>∃a,St c w (L++a) R
section
variable {P:Program} {ops:bj} {N:Act->World->Prop} {X:Nat->Act->World->Prop} {T:Act->World->Prop} {S:World->Prop} {fuel n d i:Nat} {qW:Array Bool} {e:Env} {w w':World} {o:Oper} {v:Value}
theorem bM7(i:Nat)(j:Region.noSelect ops=true)(m:ops[i]?=some o)(p:Region.free .any ops qW i=true)(l:(Region.ready .any ops qW).contains i=true)(r:S w)(g:∀w',S w'->gD P o e w' v w')(f:Want ops o e true)(q:o.dst=some d)(hn:Nat.blt d n=true)
  (k:bGQ P ops (mkQ N X T) S fuel (qW.setIfInBounds i true) n ((d,v)::e) w):bGQ P ops (mkQ N X T) S (fuel+1) qW n e w:=λa c=>by
 refine wpAnyH_take (v:=v) m j p l (λ_ _ _ h=>h.elim) (.inl ⟨f n a c,λw' b=>g w' b n a c⟩) r ?_;rw[q];exact k _ (c.put (by simp_all) v)
end
class Flat (O:Type) [aN O]:Prop where
 own_of:∀{S:dA} {w w':World} {cs:ao} {d:O},aN.rd S w cs d->aN.own w' cs d F0
 no:∀{w:World} {cs:ao} {d:O} {F:dA},aN.own w cs d F->∀b o,¬F b o
instance:Flat Int:=⟨λh=>⟨h,λ_ _ h=>h⟩,λh=>h.2⟩
instance:Flat Bool:=⟨λh=>⟨h,λ_ _ h=>h⟩,λh=>h.2⟩
instance:Flat UInt8:=⟨λh=>⟨h,λ_ _ h=>h⟩,λh=>h.2⟩
instance:Flat bJ3:=⟨λh=>⟨h,λ_ _ h=>h⟩,λh=>h.2⟩
instance {O β:Type} [aN O] [aN β] [Flat O] [Flat β]:Flat (O×β):=⟨by
 rintro S w w' cs d ⟨c1,c2,rfl,h1,h2⟩;exact⟨c1,c2,F0,F0,rfl,Flat.own_of h1,Flat.own_of h2,λ_ _ h _=>h,λ_ _=>by simp[F0]⟩,by
 rintro w cs d F ⟨c1,c2,F1,F2,_,h1,h2,_,hF⟩ b o h;exact((hF b o).1 h).elim (Flat.no h1 b o) (Flat.no h2 b o)⟩
def bA8[aN O][Flat O]{cs:ao}{d:O}(h:aN.own w cs d F):aN.own w' cs d F0:=Flat.own_of (aN.own_rd h)
def PM(cc:ao)(n i:Nat):ao:=(cc.drop (i*n)).take n
theorem wU(a:j<n):(PM cc n i)[j]?=cc[i*n+j]?:=by simp_all[PM]
def aP2{len:Nat}(a:cc.length=len*n)(b:i<len):(PM cc n i).length=n:=by unfold PM;rw[XB,aHG,a];have:(i+1)*n<=len*n:=xX n aa;grind
def aP3{w:World}{b off:Nat}:∀(k:Nat),(∀j,j<k->(w.cell? ⟨b,off+j,none⟩).isSome=true)->∃cc:ao,cc.length=k/\bU w b off cc
 |0,_=>⟨[],rfl,λj v h=>by simp at h⟩
 |k + 1,h=>by
  obtain⟨cc,d,c⟩:=aP3 k λj a=>h j aa;obtain⟨v,e⟩:=aPZ.1 (h k aa);refine⟨cc++[v],by simp[d],λj u a=>?_⟩;rw[aLX] at a;split at a
  .exact c j u a
  grind
theorem bA9{b off:Nat}(h:bU w b off cc)(d:bU w b (off+i*n) ec)(e:ec.length=n)(c:(i+1)*n<=cc.length):PM cc n i=ec:=by
 rw[pP] at c;apply aFF;intro j;by_cases a:j<n
 .rw[wU a];have g:=h (i*n+j) cc[i*n+j] (mA aa);have f:=d j ec[j] (mA aa);grind
 grind[PM]
def SU[aN O]{S:dA}{l:List O}(h:aN.rd S w [s] l):∃d c cc,s=.slice d l.length c/\cc.length=l.length*aN.n O/\(l=[]\/∃b off,d=some ⟨b,off,none⟩/\bU w b off cc)/\∀i x,l[i]?=some x->aN.rd S w (PM cc (aN.n O) i) x:=by
 obtain⟨d,c,f,t,r,a⟩:=(show AB S w [s] l from h);simp at f;subst f;obtain a|⟨b,off,rfl,a⟩:=a
 .simp_all
 .have g:∀j,j<l.length*aN.n O->(w.cell? ⟨b,off+j,none⟩).isSome=true:=λj k=>by
   have e:0<aN.n O:=aj
   have m:j/aN.n O<l.length:=(Nat.div_lt_iff_lt_mul e).2 k;obtain⟨ec,o,_,n⟩:=a _ m;have p:=Nat.mod_lt j e;have q:=aN.nY n;have:=o (j % aN.n O) ec[j % aN.n O] (mA aa);grind[Nat.div_add_mod]
  obtain⟨cc,c1,u⟩:=aP3 _ g;grind[bA9,aN.nY,xX]
section
variable {P:Program} {o:Oper} {e:Env} {w w':World} {c:Ctx} {L:bc} {R:bn} {x y:Operand} {t el:TypeId}
theorem aO7[aN O]{S:dA}{l:List O}(k:cc.length=l.length*aN.n O)(h:∀i x,l[i]?=some x->aN.rd S w (PM cc (aN.n O) i) x):∀v∈cc,v.oneCell'=true:=by
 intro v b;obtain⟨j,g,rfl⟩:=aPX b;have a:0<aN.n O:=aj
 have d:j/aN.n O<l.length:=(Nat.div_lt_iff_lt_mul a).2 aa;have f:=Nat.mod_lt j a;refine aN.rd_one (h _ _ (mA d)) _ (O1 (i:=j % aN.n O) ?_);grind[wU,Nat.div_add_mod]
theorem a6H[aN O][Flat O]{S:dA}{w w0:World}{b off cap:Nat}{l:List O}(q:bU w b off cc)(k:cc.length=l.length*aN.n O)(p:∀i x,l[i]?=some x->aN.rd S w0 (PM cc (aN.n O) i) x)(f:l.length<=cap)(d:cap<=maxLen)
  (a:∀o,fQ b off (cap*aN.n O) b o->(w.cell? ⟨b,o,none⟩).isSome=true/\w.frozen? ⟨b,o,none⟩=false):aN.own w [.slice (some ⟨b,off,none⟩) l.length cap] l (fQ b off (cap*aN.n O)):=by refine⟨_,cap,rfl,f,d,.inr ⟨b,off,λ_=>F0,rfl,a,λi n=>⟨PM cc (aN.n O) i,?_,Flat.own_of (p i l[i] (mA n))⟩,λ_ _ _ _ _ _ _ h _=>h,λ_ _ _ _ h _=>h,λr o=>by simp[F0]⟩⟩;intro j v m;have g:=(I8.1 m).1;rw[aP2 k n] at g;rw[wU g] at m;have:=q _ v m;grind
theorem a6I[aN O][Flat O]{S:dA}(w0:World)(r:St c w L R)(cells:ao)(rest:ao)(l:List O)(cap:Nat)(h:TypeId)(p:cells.length=l.length*aN.n O)(m:∀i x,l[i]?=some x->aN.rd S w0 (PM cells (aN.n O) i) x)(g:(cells++rest).length=cap*aN.n O)(d:l.length<=cap)(a:cap<=maxLen) :
  St c (w.alloc (.cells (cells++rest).toArray h)) (L++[dF [.slice (some ⟨w.heap.size,0,none⟩) l.length cap] l]) R:=by
 have f:∀j,(w.alloc (.cells (cells++rest).toArray h)).cell? ⟨w.heap.size,j,none⟩=(cells++rest)[j]?:=λj=>ae
 refine r.more (fN.alloc _ _ _) ⟨_,a6H (w0:=w0) (cc:=cells) (λj v s=>?_) p m d a (λk n=>?_),λb k q=>QM q.1.symm⟩
 .grind
 .obtain⟨_,_,u⟩:=n;simp_all
def XE(P:Program)(el:TypeId)(m:Nat)(z:Value):Prop:=∃a,P.info? el=some a/\a.zero=some z/\a.size=m/\a.bytes<=65536
theorem tC{el b:Nat}(h:(P.info? el).map (λi=>(i.zero,i.size,i.bytes))=some (some z,m,b))(f:Nat.ble b 65536=true):XE P el m z:=by
 cases a:P.info? el with
 |none=>grind
 |some d=>
  rw[a] at h;simp at h;exact⟨d,a,h.1,h.2.1,by simp_all⟩
theorem bBA(b:z.cells.size=m)(d:i<k):PM (madeCells z.cells (k*m)).toList m i=z.cells.toList:=by
 apply aFF;intro j;by_cases a:j<m
 .rw[wU a];have f:i*m+j<k*m:=by have:(i+1)*m<=k*m:=xX m aa;grind
  simp_all[Nat.mod_eq_of_lt,madeCells]
 grind[PM]
theorem MX[aN O]{a:Option Addr}(d:cc.length=n*m)(h:n=0\/∃b off,a=some ⟨b,off,none⟩/\bU w b off cc):(Builtin.firstCells m n (.slice a n k)).run P w=.ok cc.toArray w:=by
 obtain h|⟨b,off,rfl,h⟩:=h
 .subst h;have:cc=[]:=AX aa;subst this;cases a<;>simp[Builtin.firstCells,loadCells,loadCellsFrom]
 grind[uJ,Builtin.firstCells]
theorem a8M[aN O][Flat O]{s2:Value}{l xs:List O}(i:Nat)(hS:St c w L R)(hi:L[i]?=some (dF [s] l))(hsrc:aN.rd (All w) w [s2] xs)(hn:aN.n O=m)(hu:P.underlying t=some (.slice el))(hinf:XE P el m z)(hzs:z.cells.size=m)
  (hb:l.length+xs.length<=1073741824) (ho:o.op=.call {callee:=.builtin .append,args:=#[x,y],argTypes:=#[t,t]}) (hx:ev e x=some s) (hy:ev e y=some s2) :
  ∃v w',gD P o e w v w'/\St c w' (L.set i (dF [v] (l++xs))) R:=by
 subst hn;obtain⟨ti,T,hz,U,hby⟩:=hinf;obtain⟨D,c2,cc2,rfl,X,hc2,hr2⟩:=SU hsrc;obtain⟨F,Y⟩:=hS.chunk i hi;have Y:aN.own w [s] l F:=Y;obtain⟨ad,d,cc,rfl,hl1,hc1,hr1⟩:=SU (aN.own_rd Y);obtain⟨ad',cap',he,hlc,hcm,M⟩:=(show O3 w [_] l F from Y);simp at he;obtain⟨rfl,rfl⟩:=he;have N:=aO7 X hr2;have B:∀j q,(l++xs)[j]?=some q->aN.rd (λb o=>True) w (PM (cc++cc2) (aN.n O) j) q:=by
  intro j q E;rw[aLX] at E;split at E
  .rename_i hlt;have:PM (cc++cc2) (aN.n O) j=PM cc (aN.n O) j:=by
    have W:(j+1)*aN.n O<=l.length*aN.n O:=xX _ aa;rw[pP] at W;apply aFF;intro p;by_cases hp:p<aN.n O
    .rw[wU hp,wU hp,List.getElem?_append_left aa]
    .rw[List.getElem?_eq_none (by unfold PM;simp;omega),List.getElem?_eq_none (by unfold PM;simp;omega)]
   rw[this];exact aN.rd_mono (hr1 j q E) λ_ _ _=>trivial
  .rename_i hge;have:PM (cc++cc2) (aN.n O) j=PM cc2 (aN.n O) (j-l.length):=by
    apply aFF;intro p;by_cases hp:p<aN.n O
    .have hj2:j*aN.n O=l.length*aN.n O+(j-l.length)*aN.n O:=by rw[<-pP];grind
     rw[wU hp,wU hp,aV4 aa];congr 1;omega
    grind[PM]
   rw[this];exact aN.rd_mono (hr2 _ q E) λ_ _ _=>trivial
 have C:(cc++cc2).length=(l++xs).length*aN.n O:=aj
 have A:xs.length=0\/∃b off,D=some ⟨b,off,none⟩/\bU w b off cc2:=hc2.imp (λh=>by simp[h]) id;have r:=MX (P:=P) (O:=O) (k:=c2) X A;have g:∀(v:Value) (w':World),(Builtin.append_ #[t,t] o.type #[.slice ad l.length d,.slice D xs.length c2]).run P w=.ok v w'->gD P o e w v w':=by intro v w' h _ a hA;simp[execOp,ho,resolve,invoke,builtin,hA.eval hx,hA.eval hy,h]
 by_cases f:l.length+xs.length<=d
 ·
  obtain⟨rfl,rfl,_⟩|⟨b,off,Fs,rfl,n,hel,hd1,hd2,hFF⟩:=M
  .have hl0:l=[]:=AX aa;have hx0:xs=[]:=AX aa;subst hl0;subst hx0;refine⟨.slice none 0 0,w,g _ _ ?_,?_⟩
   .have r:(Builtin.firstCells (aN.n O) 0 (.slice D 0 c2)).run P w=.ok cc2.toArray w:=r;simp[Builtin.append_,run_underlying hu,sizeOf,typeInfo,T,Builtin.lenOf,U,r]
   .rw[ML];refine hS.aHK i hi λF Y=>⟨F,F0,fN.refl _ _,λ_ _ h=>h.elim,Y,λ_ _ h=>.inl h⟩
  .have hcc:bU w b off cc:=by
    obtain h|⟨K,Z,h,hc⟩:=hc1
    .subst h;have:cc=[]:=AX aj;subst this;intro j v E;simp at E
    grind
   have hmul:(l.length+xs.length)*aN.n O<=d*aN.n O:=xX _ f;rw[pP] at hmul;obtain⟨w',hst,hk,hws,Q⟩:=rT (b:=b) P cc2 w (off+l.length*aN.n O) 0 N (λq _ hq=>n _ ⟨rfl,aa,aa⟩);refine⟨_,w',g _ _ (by
    have hadd:(⟨b,off,none⟩:Addr).add (l.length*aN.n O)=⟨b,off+l.length*aN.n O,none⟩:=by simp[Addr.add]
    simp[Builtin.append_,run_underlying hu,sizeOf,typeInfo,T,Builtin.lenOf,U,r,f,hadd,hst];rfl),?_⟩
   refine hS.aHK i hi λF2 H=>?_;have H:O3 w [_] l F2:=H;obtain⟨_,_,he2,_,_,hr⟩:=H;simp at he2;obtain⟨rfl,rfl⟩:=he2;obtain⟨h,_,_⟩|⟨K,Z,Fs',h,_,_,_,_,J⟩:=hr
   .cases h
   simp at h;obtain⟨rfl,rfl⟩:=h;refine⟨fQ b off (d*aN.n O),_,hk,λK u h=>(J K u).2 (.inl ?_),?_,λK u h=>.inl ((J K u).2 (.inl h))⟩
   .obtain⟨e1,e2,e3⟩:=h;exact⟨e1,aa,aa⟩
   .have hcc':bU w' b off (cc++cc2):=by
     intro j v E;rw[aLX] at E;split at E
     .rename_i hlt;have hc:=hcc j v E;rw[hk.cell b (off+j) (World.block_lt_of_cell? w _ hc) (λhh=>by obtain⟨_,e2,_⟩:=hh;omega)];exact hc
     .rename_i hge;have:=Q _ v E;rw[show off+l.length*aN.n O+0+(j-cc.length)=off+j from by omega] at this;exact this
    have hll:l.length+xs.length=(l++xs).length:=ae
    rw[hll];exact a6H hcc' C B ah hcm (λu V=>⟨hk.stay b u (n u V).1,(hk.AV b u (lF (n u V).1)).trans (n u V).2⟩)
 ·
  have G:(l.length+xs.length)*ti.bytes<=140737488355328:=by have:(l.length+xs.length)*ti.bytes<=1073741824*65536:=Nat.mul_le_mul hb hby;omega
  have hfit:=growslice_fits (need:=l.length+xs.length) (old:=d) (bytes:=ti.bytes) aa G;obtain⟨hge,W⟩:l.length+xs.length<=grownCap w (l.length+xs.length) d el/\grownCap w (l.length+xs.length) d el<=maxLen:=⟨grownCap_ge _ _ _ _,grownCap_le_maxLen _ _ _ _ (by grind[maxLen])⟩;have hrun:(Builtin.append_ #[t,t] o.type #[.slice ad l.length d,.slice D xs.length c2]).run P w=.ok (.slice (some ⟨w.heap.size,0,none⟩) (l.length+xs.length) (grownCap w (l.length+xs.length) d el)) (w.drew.alloc (.cells (cc.toArray++cc2.toArray++Builtin.zeroCells z.cells (grownCap w (l.length+xs.length) d el-(l.length+xs.length))) el)):=by
   have hn1:¬(l.length+xs.length<=d):=f;have h63':¬(9223372036854775807<((l.length:Int)+(xs.length:Int))):=aa
   have h48':¬(281474976710656<Builtin.nextslicecap (l.length+xs.length) d*ti.bytes):=aa
   have hf1:(Builtin.firstCells (aN.n O) l.length (.slice ad l.length d)).run P w.drew=.ok cc.toArray w.drew:=MX (O:=O) hl1 (hc1.imp (λh=>by simp[h]) id);have r:(Builtin.firstCells (aN.n O) xs.length (.slice D xs.length c2)).run P w.drew=.ok cc2.toArray w.drew:=MX (O:=O) X A;simp[Builtin.append_,run_underlying hu,sizeOf,typeInfo,zeroValue,T,hz,U,Builtin.lenOf,hn1,h63',h48',Question.forced,hf1,r,newRow,grownCap];grind
  refine⟨_,_,g _ _ hrun,?_⟩;refine hS.aHK i hi λF2 H=>?_;have hz2:(Builtin.zeroCells z.cells (grownCap w (l.length+xs.length) d el-(l.length+xs.length))).size=(grownCap w (l.length+xs.length) d el-(l.length+xs.length))*aN.n O:=by grind[size_zeroCells]
  have htot:((cc++cc2)++(Builtin.zeroCells z.cells (grownCap w (l.length+xs.length) d el-(l.length+xs.length))).toList).length=grownCap w (l.length+xs.length) d el*aN.n O:=by
   have hz3:(Builtin.zeroCells z.cells (grownCap w (l.length+xs.length) d el-(l.length+xs.length))).toList.length=(grownCap w (l.length+xs.length) d el-(l.length+xs.length))*aN.n O:=aa
   rw[O0,C,hz3,O0,<-pP];grind
  have hst0:St (fT w) w [] []:=St.enter ae;have I:=a6I (S:=λb o=>True) w (hst0.same (fN.drew F0 w)) (cc++cc2) (Builtin.zeroCells z.cells (grownCap w (l.length+xs.length) d el-(l.length+xs.length))).toList (l++xs) (grownCap w (l.length+xs.length) d el) el C B htot ah W;obtain⟨Fn,hFn⟩:=I.chunk 0 rfl;obtain⟨Ft,St',⟨Fa,Fb,ha,_,_,hFab⟩,_,hFt,_⟩:=I.sep;have heq:((cc++cc2)++(Builtin.zeroCells z.cells (grownCap w (l.length+xs.length) d el-(l.length+xs.length))).toList).toArray=cc.toArray++cc2.toArray++Builtin.zeroCells z.cells (grownCap w (l.length+xs.length) d el-(l.length+xs.length)):=ae
  rw[heq] at ha;have hll:l.length+xs.length=(l++xs).length:=ae
  refine⟨Fa,F0,(fN.drew F0 w).trans (fN.alloc F0 _ _) (λ_ _ _ h=>h),λ_ _ h=>h.elim,?_,λK u h=>.inr ?_⟩
  .have ha:aN.own _ _ (l++xs) Fa:=ha;have hsz2:w.drew.heap.size=w.heap.size:=rfl;grind
  .rcases hFt K u ((hFab K u).2 (.inl h)) with h|h
   .exact h.elim
   .exact h
def aV6{O:Type}[aN O](m:Nat):ao->List O->Prop
 |cs,[]=>cs=[]
 |cs,x::r=>aN.rd F0 default (cs.take m) x/\aV6 m (cs.drop m) r
theorem aV6.get{O:Type}[aN O]{m:Nat}(hn:aN.n O=m):∀{l:List O} {cs:ao},aV6 m cs l->cs.length=l.length*m/\∀i x,l[i]?=some x->aN.rd F0 default (PM cs m i) x
 |[],cs,h=>by have h:cs=[]:=h;grind
 |y::r,cs,⟨f,d⟩=>by
  obtain⟨b,j⟩:=aV6.get hn d;have a:=aN.nY f;rw[XB,hn] at a;rw[aHG] at b;refine⟨by simp[pP];omega,λi x g=>?_⟩;cases i with
  |zero=>grind[PM]
  |succ i=>
   grind[PM,List.drop_drop]
theorem bBB[aN O][Flat O]{len:Nat}{ps:cr}{cells:ao}(l:List O)(H:St c w L R)(hn:aN.n O=m)(r:P.underlying t=some (.slice el))(f:XE P el m z)(G:l.length=len)(F:Nat.ble 1 m=true)(j:Nat.ble (len*m) 16777216=true)(q:aV6 m cells l)
  (s:o.op=.buildSlice t len ps.toArray) (E:evs e (ps.map (·.2))=some vs) (A:Instr.fill (λi=>some (i*m,m)) ((Array.range (len*m)).map (λi=>(if len*m=0 then #[] else z.cells)[i % (if len*m=0 then #[] else z.cells).size]!)) ((ps.map (·.1)).zip vs)=some cells.toArray) :
  ∃v w',gD P o e w v w'/\St c w' (L++[dF [v] l]) R:=by
 subst G;obtain⟨J,u,D,g,C⟩:=f;obtain⟨M,K⟩:=q.get hn;have n:¬l.length*m > 2 ^ 24:=by simp_all
 have B:l.length<=16777216:=by have:=Nat.le_mul_of_pos_right l.length (XC F);omega
 have d:l.length<=maxLen:=by grind[maxLen]
 have b:=a6I (S:=F0) default H cells [] l l.length el aj aj aj (jR _) d;rw[ML] at b;refine⟨_,_,λ_ a I=>?_,b⟩;have h:ps.map (λp=>(p.1,a.eval p.2))=(ps.map (·.1)).zip vs:=by rw[<-Y6 I E];grind
 by_cases k:l.length*m=0
 .simp only[k,aS] at A;simp[execOp,s,Instr.buildSlice,run_underlying r,sizeOf,typeInfo,u,g,k,h];simp_all[newRow]
 .simp only[k,aT] at A;simp[execOp,s,Instr.buildSlice,run_underlying r,sizeOf,typeInfo,zeroValue,u,D,g,k,n,h];simp_all[newRow]
end
def dQ{O:Type}[aN O](w:World):ao->List O->dA->Prop
 |cs,[],F=>cs=[]/\∀b o,¬F b o
 |cs,x::r,F=>∃c1 d c a,cs=c1++d/\aN.own w c1 x c/\dQ w d r a/\dA.I9 c a/\∀b o,F b o↔c b o\/a b o
def dQ.congr[aN O]{cs:ao}{l:List O}{G:dA}(h:dQ w cs l F)(a:∀b o,F b o↔G b o):dQ w cs l G:=by
 have:F=G:=aj
 grind
def dQ.length{O:Type}[aN O]{w:World}:∀{l:List O} {cs:ao} {F:dA},dQ w cs l F->cs.length=l.length*aN.n O
 |[],cs,F,h=>by simp[h.1]
 |x::r,cs,F,⟨c1,f,i,g,e,d,c,_,_⟩=>by have a:=aN.nY (aN.own_rd d);have b:=dQ.length c;grind
def dQ.keep{O:Type}[aN O]{w w':World}{G:dA}(c:fN G w w'):∀{l:List O} {cs:ao} {F:dA},dQ w cs l F->F.I9 G->dQ w' cs l F
 |[],cs,F,h,_=>h
 |x::r,cs,F,⟨c1,k,n,m,e,j,i,f,a⟩,d=>
  ⟨c1,k,n,m,e,aN.own_keep j c λb o h g=>d b o ((a b o).2 (.inl h)) g,dQ.keep c i λb o h g=>d b o ((a b o).2 (.inr h)) g,f,a⟩
def dQ.lt{O:Type}[aN O]{w:World}:∀{l:List O} {cs:ao} {F:dA} {b o:Nat},dQ w cs l F->F b o->b<w.heap.size
 |[],_,_,b,o,h,a=>(h.2 b o a).elim
 |x::r,cs,F,b,o,⟨c1,i,k,j,e,f,d,g,c⟩,a=>by
  rcases(c b o).1 a with h|h
  .exact aN.own_lt f h
  .exact dQ.lt d h
theorem dQ.app{O:Type}[aN O]{w:World}:∀{l m:List O} {cs ds:ao} {F G H:dA},dQ w cs l F->dQ w ds m G->F.I9 G->(∀b o,H b o↔F b o\/G b o)->dQ w (cs++ds) (l++m) H
 |[],m,cs,ds,F,G,H,h,k,_,c=>by rw[h.1];exact dQ.congr k λb o=>by rw[c];exact⟨.inr,λq=>q.elim (λq=>(h.2 b o q).elim) id⟩
 |x::r,m,cs,ds,F,G,H,⟨c1,j,s,n,e,i,g,f,d⟩,k,a,c=>by
  subst e;refine⟨c1,j++ds,s,λb o=>n b o\/G b o,ae,i,dQ.app g k (λb o p q=>a b o ((d b o).2 (.inr p)) q) λ_ _=>Iff.rfl,?_,λb o=>aj⟩;rintro b o p (q|q)
  .exact f b o p q
  .exact a b o ((d b o).2 (.inl p)) q
def dQ.split{O:Type}[aN O]{w:World}:∀{l m:List O} {cs:ao} {H:dA},dQ w cs (l++m) H->∃c1 a F G,cs=c1++a/\dQ w c1 l F/\dQ w a m G/\F.I9 G/\∀b o,H b o↔F b o\/G b o
 |[],m,cs,H,h=>⟨[],cs,F0,H,rfl,⟨rfl,λ_ _ h=>h⟩,h,λ_ _ h=>h.elim,λb o=>by simp[F0]⟩
 |x::r,m,cs,H,⟨c1,a,i,A,e,t,s,d,z⟩=>by
  obtain⟨f,v,g,y,u,n,k,j,c⟩:=dQ.split s;subst e;subst u;refine⟨c1++f,v,λb o=>i b o\/g b o,y,ae,⟨c1,f,i,g,rfl,t,n,λb o p q=>d b o p ((c b o).2 (.inl q)),λ_ _=>Iff.rfl⟩,k,?_,λb o=>aj⟩;rintro b o (p|p) q
  .exact d b o p ((c b o).2 (.inr q))
  .exact j b o p q
theorem dQ.one[aN O]{c:ao}{x:O}:dQ w c [x] F↔aN.own w c x F:=by
 constructor
 .rintro⟨c1,j,F1,k,e,i,⟨a,g⟩,d,f⟩;subst e;subst a;have:F=F1:=aj
  grind
 .intro h;exact⟨c,[],F,F0,ae,h,⟨rfl,λ_ _ h=>h⟩,λ_ _ _ h=>h,λb o=>by simp[F0]⟩
def dQ.rd{O:Type}[aN O]{w:World}:∀{l:List O} {cs:ao} {F:dA},dQ w cs l F->∀i x,l[i]?=some x->aN.rd F w (PM cs (aN.n O) i) x
 |[],cs,F,_,i,x,h=>by simp at h
 |y::r,cs,F,⟨c1,c,m,k,e,f,g,j,d⟩,i,x,h=>by
  have a:=aN.nY (aN.own_rd f);subst e;cases i with
  |zero=>
   simp at h;subst h;have:PM (c1++c) (aN.n O) 0=c1:=by grind[PM]
   rw[this];exact aN.rd_mono (aN.own_rd f) λb o q=>(d b o).2 (.inl q)
  |succ i=>
   have:PM (c1++c) (aN.n O) (i+1)=PM c (aN.n O) i:=by grind[PM,pP,List.drop_drop,List.drop_left]
   rw[this];exact aN.rd_mono (dQ.rd g i x aj) λb o q=>(d b o).2 (.inr q)
def Row(w:World)(b off n:Nat):Prop:=∀o,fQ b off n b o->(w.cell? ⟨b,o,none⟩).isSome=true/\w.frozen? ⟨b,o,none⟩=false
def a6J{O:Type}[aN O]{w:World}{b:Nat}:∀{l:List O} {off:Nat} {Fs:Nat->dA},(∀i (h:i<l.length),∃ec,bU w b (off+i*aN.n O) ec/\aN.own w ec l[i] (Fs i)) ->
  (∀i j,i<l.length->j<l.length->i≠j->dA.I9 (Fs i) (Fs j))->∃cc,bU w b off cc/\dQ w cc l (λc o=>∃i,i<l.length/\Fs i c o)
 |[],off,Fs,_,_=>⟨[],λj v h=>by simp at h,rfl,λb o ⟨i,h,_⟩=>by simp at h⟩
 |x::r,off,Fs,h,e=>by
  obtain⟨ec,s,n⟩:=h 0 ae;obtain⟨cc,m,k⟩:=a6J (l:=r) (off:=off+aN.n O) (Fs:=λi=>Fs (i+1)) (λi d=>by
   obtain⟨ec,g,t⟩:=h (i+1) ah;exact⟨ec,by rw[show off+aN.n O+i*aN.n O=off+(i+1)*aN.n O by grind];exact g,aj⟩)
   λi j d a f=>e (i+1) (j+1) ah ah aa
  have u:=aN.nY (aN.own_rd n);refine⟨ec++cc,λj v a=>?_,ec,cc,Fs 0,_,rfl,aj,k,?_,λc o=>?_⟩
  .rw[aLX] at a;split at a
   .have:=s j v a;grind
   .have:=m _ v a;grind
  .rintro c o p ⟨i,d,q⟩;exact e 0 (i+1) ae ah aa c o p q
  .constructor
   .rintro⟨i,d,q⟩;cases i with
    |zero=>exact .inl q
    |succ i=>grind
   grind
def a6K{O:Type}[aN O]{w:World}{b:Nat}:∀{l:List O} {off:Nat} {cc:ao} {F:dA},bU w b off cc->dQ w cc l F ->
  ∃Fs:Nat->dA,(∀i (h:i<l.length),∃ec,bU w b (off+i*aN.n O) ec/\aN.own w ec l[i] (Fs i))/\(∀i j,i<l.length->j<l.length->i≠j->dA.I9 (Fs i) (Fs j))/\∀c o,F c o↔∃i,i<l.length/\Fs i c o
 |[],off,cc,F,_,h=>⟨λ_=>F0,λi h=>by simp at h,λi j h=>by simp at h,λb o=>⟨λq=>(h.2 b o q).elim,λ⟨i,h,_⟩=>by simp at h⟩⟩
 |x::r,off,cc,F,k,⟨c1,c2,z,G,e,u,t,g,s⟩=>by
  have D:=aN.nY (aN.own_rd u);subst e;have C:bU w b off c1:=λj v f=>k j v aj;have n:bU w b (off+aN.n O) c2:=λj v f=>by have:=k (c1.length+j) v aj;grind
  obtain⟨Fs,y,E,d⟩:=a6K n t;refine⟨λi=>match i with|0=>z|i+1=>Fs i,λi a=>?_,λi j a f m=>?_,λc o=>?_⟩
  .cases i with
   |zero=>grind
   |succ i=>
    obtain⟨ec,B,A⟩:=y i aj;grind
  .cases i with
   |zero=>
    cases j with
    |zero=>omega
    |succ j=>exact λb o p q=>g b o p ((d b o).2 ⟨j,aj,q⟩)
   |succ i=>
    cases j with
    |zero=>exact λb o p q=>g b o q ((d b o).2 ⟨i,aj,p⟩)
    |succ j=>grind
  .rw[s,d];constructor
   .rintro(q|⟨i,a,q⟩)
    .exact⟨0,ae,q⟩
    .exact⟨i+1,ah,q⟩
   .rintro⟨i,a,q⟩;cases i with
    |zero=>exact .inl q
    |succ i=>grind
theorem nN[aN O]{l:List O}:aN.own w [s] l F↔∃a c,s=.slice a l.length c/\l.length<=c/\c<=maxLen /\
  ((a=none/\c=0/\∀b o,¬F b o)\/∃b off cc Fe,a=some ⟨b,off,none⟩/\Row w b off (c*aN.n O)/\bU w b off cc/\dQ w cc l Fe/\dA.I9 Fe (fQ b off (c*aN.n O))/\∀d o,F d o↔fQ b off (c*aN.n O) d o\/Fe d o):=by
 show O3 w [s] l F↔_;constructor
 .rintro⟨a,c,e,u,t,r⟩;simp at e;refine⟨a,c,e,u,t,r.imp id ?_⟩;rintro⟨b,off,Fs,v,k,y,g,f,n⟩;obtain⟨cc,j,h⟩:=a6J y g;exact⟨b,off,cc,_,v,k,j,h,λb o ⟨i,m,q⟩ p=>f i m b o q p,n⟩
 .rintro⟨a,c,e,u,t,r⟩;refine⟨a,c,by rw[e],u,t,r.imp id ?_⟩;rintro⟨b,off,cc,Fe,v,k,j,h,z,n⟩;obtain⟨Fs,B,A,x⟩:=a6K j h;exact⟨b,off,Fs,v,k,B,A,λi m b o q p=>z b o ((x b o).2 ⟨i,m,q⟩) p,λd o=>by rw[n,x]⟩
def blank(L:bc):ar->bc
 |[]=>L
 |i::r=>blank (L.set i QY) r
def Sep.blank{w:World}:∀{is:ar} {L:bc} {F:dA},eA is=true->Sep w L F->Sep w (Gv.pick L is++Gv.blank L is) F
 |[],L,F,_,h=>h
 |i::r,L,F,a,h=>by
  simp only[eA,ET] at a;have c:=aP1 (L:=L) a.1;show Sep w ((L[i]?).getD QY::(Gv.pick L r++Gv.blank (L.set i QY) r)) F;cases d:L[i]? with
  |none=>
   have:L.set i QY=L:=List.set_eq_of_length_le aj;rw[this];exact⟨F0,F,λ_ _ h=>h,Sep.blank a.2 h,λ_ _ h=>h.elim,λb o=>by simp[F0]⟩
  |some m=>
   obtain⟨l,k,j,g,e,f⟩:=(Sep.take d).1 h;exact⟨l,k,j,by rw[<-c];exact Sep.blank a.2 g,e,f⟩
section
variable {c:Ctx} {w w':World} {L:bc} {R:bn}
theorem St.front(h:St c w L R)(is:ar)(b:eA is=true):St c w (pick L is++blank L is) R:=by obtain⟨F,S,a,rest⟩:=h.sep;exact⟨h.keep,⟨F,S,Sep.blank b a,rest⟩,h.apart⟩
theorem St.bBC(h:St c w L R)(is:ar)(e:eA is=true)(d:∀F,Sep w (pick L is) F->∃a G,fN G w w'/\(∀b o,G b o->F b o)/\Sep w' A' a/\∀b o,a b o->F b o\/w.heap.size<=b) :
  St c w' (blank L is++A') R:=St.rot (St.step (h.front is e) d)
theorem St.shift(h:St c w L R)(is:ar)(b:eA is=true)(a:∀F,Sep w (pick L is) F->Sep w A' F):St c w (blank L is++A') R:=h.bBC is b λF d=>⟨F,F0,fN.refl _ _,λ_ _ h=>h.elim,a F d,λ_ _ h=>.inl h⟩
end
theorem Sep.one:Sep w [ch] F↔ch.P w F:=by
 constructor
 .rintro⟨F1,e,d,c,_,a⟩;have:F=F1:=by funext b o;exact propext ((a b o).trans ⟨λq=>q.elim id λq=>(c b o q).elim,.inl⟩)
  grind
 .intro h;exact⟨F,F0,h,λ_ _ h=>h,λ_ _ _ h=>h,λb o=>by simp[F0]⟩
def qN{O:Type}[aN O](s:Value)(l:List O)(k:Nat):Chunk where
 P:=λw F=>∃a c b off c1 r m i,s=.slice a l.length c/\l.length<=c/\c<=maxLen/\k<l.length/\a=some ⟨b,off,none⟩ /\
  (∀o,fQ b off (c*aN.n O) b o->¬fQ b (off+k*aN.n O) (aN.n O) b o->(w.cell? ⟨b,o,none⟩).isSome=true/\w.frozen? ⟨b,o,none⟩=false) /\
  bU w b off c1/\bU w b (off+(k+1)*aN.n O) r/\dQ w c1 (l.take k) m/\dQ w r (l.drop (k+1)) i/\m.I9 i/\m.I9 (fQ b off (c*aN.n O))/\i.I9 (fQ b off (c*aN.n O)) /\
  ∀f o,F f o↔(fQ b off (c*aN.n O) f o/\¬fQ b (off+k*aN.n O) (aN.n O) f o)\/m f o\/i f o
 keep:=by
  rintro w w' F G ⟨a,c,b,off,c1,r,m,i,e,I,H,E,J,C,B,z,y,x,d1,d2,d3,n⟩ t D;have d:∀o,fQ b off (c*aN.n O) b o->¬fQ b (off+k*aN.n O) (aN.n O) b o->b<w.heap.size->w'.cell? ⟨b,o,none⟩=w.cell? ⟨b,o,none⟩:=λo p q Q=>t.cell b o Q λg=>D b o ((n b o).2 (.inl ⟨p,q⟩)) g;have M:(k+1)*aN.n O<=c*aN.n O:=xX _ aa;rw[pP] at M;have L:=y.length;have K:=x.length;rw[XB,Nat.min_eq_left aa] at L;rw[aHG] at K;have A:(l.length-(k+1))*aN.n O+(k+1)*aN.n O<=c*aN.n O:=by rw[<-pP];exact xX _ aa
  refine⟨a,c,b,off,c1,r,m,i,e,I,H,E,J,λo p q=>?_,?_,?_,y.keep t λb o p g=>D b o ((n b o).2 (.inr (.inl p))) g,x.keep t λb o p g=>D b o ((n b o).2 (.inr (.inr p))) g,d1,d2,d3,n⟩
  .have:=C o p q;exact⟨t.stay b o this.1,(t.AV b o (lF this.1)).trans this.2⟩
  .by_cases u:c1=[]
   .subst u;intro j v h;simp at h
   .refine B.agree λo p q=>d o ⟨rfl,p,aa⟩ (λ⟨_,S,_⟩=>aa) (B.lt u)
  .by_cases u:r=[]
   .subst u;intro j v h;simp at h
   .rw[pP] at z A;refine bU.agree (by rw[pP];exact z) λo p q=>?_;rw[pP] at p q;exact d o ⟨rfl,aa,aa⟩ (λ⟨_,_,R⟩=>aa) (z.lt u)
 lt:=by
  rintro w F f o ⟨a,c,b,off,c1,r,m,i,e,I,H,E,J,C,B,z,y,x,d1,d2,d3,n⟩ N;rcases(n f o).1 N with ⟨p,q⟩|p|p
  .have:f=b:=p.1;subst this;exact lF (C o p q).1
  .exact y.lt p
  .exact x.lt p
def IH{b off:Nat}{c1 c2:ao}(h:bU w b off (c1++c2)):bU w b off c1/\bU w b (off+c1.length) c2:=
 ⟨λj v a=>h j v aj,λj v a=>by
  have:=h (c1.length+j) v aj;grind⟩
theorem Y7{b off:Nat}{c1 c:ao}(e:bU w b off c1)(d:bU w b (off+c1.length) c):bU w b off (c1++c):=λj v a=>by
 rw[aLX] at a;split at a
 .exact e j v a
 .have:=d _ v a;grind
def bBD{l:List O}{x:O}(h:l[k]?=some x):l=l.take k++([x]++l.drop (k+1)):=by obtain⟨a,rfl⟩:=I8.1 h;simp
def bBE{l:List O}{x:O}(h:k<l.length):l.set k x=l.take k++([x]++l.drop (k+1)):=by rw[List.set_eq_take_append_cons_drop,aM h];simp
def bBF[aN O]{l:List O}{x:O}(h:aN.own w [s] l F)(E:l[k]?=some x) :
  ∃ec:ao,Sep w [qN s l k,cAt (elB s) (Y5 (aN.n O) k s) ec,dF ec x] F:=by
 obtain⟨a,c,e,U,T,I⟩:=nN.1 h;obtain⟨R,_⟩:=I8.1 E;obtain⟨_,I,_⟩|⟨b,off,cc,Fe,rfl,G,S,H,f,Z⟩:=I
 .omega
 rw[bBD E] at H;obtain⟨c1,L,Y,M,rfl,A,j,J,i⟩:=H.split;obtain⟨ec,W,K,X,rfl,z,y,V,g⟩:=j.split;have B:=A.length;have r:=z.length;have N:=y.length;rw[XB,Nat.min_eq_left aa] at B;rw[aHG] at N;simp only[UQ,List.length_nil,aAQ,Nat.one_mul] at r;obtain⟨P,m⟩:=IH S;obtain⟨D,C⟩:=IH m;rw[B] at D C;rw[r] at C;have Q:(k+1)*aN.n O<=c*aN.n O:=xX _ aa;have n:=Q;rw[pP] at n;subst e;refine⟨ec,_,λd o=>fQ b (off+k*aN.n O) (aN.n O) d o\/K d o,⟨some ⟨b,off,none⟩,c,b,off,c1,W,Y,X,rfl,U,T,R,rfl,λo p q=>G o p,P,?_,A,y,?_,?_,?_,λ_ _=>Iff.rfl⟩,?_⟩
 .grind
 .exact λb o p q=>J b o p ((g b o).2 (.inr q))
 .exact λb o p q=>f b o ((i b o).2 (.inl p)) q
 .exact λb o p q=>f b o ((i b o).2 (.inr ((g b o).2 (.inr p)))) q
 .refine⟨⟨fQ b (off+k*aN.n O) (aN.n O),K,⟨D,λo p=>(G o ?_).2,λd o=>by grind[elB,Y5]⟩,Sep.one.2 (dQ.one.1 z),?_,λ_ _=>Iff.rfl⟩,?_,λd o=>?_⟩
  .obtain⟨_,v,t⟩:=p;simp only[Y5,r] at v t;exact⟨rfl,aa,aa⟩
  .rintro d o ⟨rfl,v,t⟩ q;exact f d o ((i d o).2 (.inr ((g d o).2 (.inl q)))) ⟨rfl,aa,aa⟩
  .rintro d o (⟨p,q⟩|p|p) (u|u)
   .exact q u
   .exact f d o ((i d o).2 (.inr ((g d o).2 (.inl u)))) p
   .obtain⟨rfl,u1,u2⟩:=u;exact f d o ((i d o).2 (.inl p)) ⟨rfl,aa,aa⟩
   .exact J d o p ((g d o).2 (.inl u))
   .obtain⟨rfl,u1,u2⟩:=u;exact f d o ((i d o).2 (.inr ((g d o).2 (.inr p)))) ⟨rfl,aa,aa⟩
   .exact V d o u p
  grind[fQ]
def aV7[aN O]{l:List O}{x:O}(h:Sep w [qN s l k,cAt (elB s) (Y5 (aN.n O) k s) ec,dF ec x] F):aN.own w [s] (l.set k x) F:=by
 obtain⟨Y,X,⟨a,c,b,off,c1,K,M,L,e,V,E,D,rfl,T,S,R,r,n,J,I,H,i⟩,⟨W,H2,⟨t,v,f⟩,B,G,g⟩,m,U⟩:=h;have y:aN.own w ec x H2:=Sep.one.1 B;subst e;simp only[elB,Y5] at t v f;have A:=r.length;have z:=aN.nY (aN.own_rd y);have Q:=n.length;rw[XB,Nat.min_eq_left aa] at A;have C:(k+1)*aN.n O<=c*aN.n O:=xX _ aa;have j:=C;rw[pP] at j;rw[z] at f;refine nN.2 ⟨some ⟨b,off,none⟩,c,ae,aj,E,.inr ⟨b,off,c1++(ec++K),λd o=>M d o\/(H2 d o\/L d o),rfl,λo p=>?_,?_,?_,?_,λd o=>?_⟩⟩
 .by_cases q:fQ b (off+k*aN.n O) (aN.n O) b o
  .refine⟨?_,v o aj⟩;obtain⟨_,P,N⟩:=q;have:=t (o-(off+k*aN.n O)) _ (mA aa);grind
  grind
 .grind[Y7]
 .rw[bBE D];refine dQ.app r (dQ.app (dQ.one.2 y) n ?_ λ_ _=>Iff.rfl) ?_ λ_ _=>Iff.rfl
  .exact λd o p q=>m d o ((i d o).2 (.inr (.inr q))) ((g d o).2 (.inr p))
  .rintro d o p (q|q)
   .exact m d o ((i d o).2 (.inr (.inl p))) ((g d o).2 (.inr q))
   .exact J d o p q
 .rintro d o (p|p|p) q
  .exact I d o p q
  .by_cases u:fQ b (off+k*aN.n O) (aN.n O) d o
   .exact G d o ((f d o).2 u) p
   .exact m d o ((i d o).2 (.inl ⟨q,u⟩)) ((g d o).2 (.inr p))
  .exact H d o p q
 grind[fQ]
def OP{O:Type}[aN O](cs:ao)(d:O)(A:bc):Prop:=∀w F,aN.own w cs d F↔Sep w A F
def cW[aN O][Flat O]{cs:ao}{d:O}(h:aN.rd F0 default cs d):OP cs d []:=λw F=>by
 constructor
 .intro k;exact Flat.no k
 .intro k;have:F=F0:=by funext b o;exact propext ⟨λq=>(k b o q).elim,λq=>q.elim⟩
  grind[Flat.own_of]
def oW[aN O]{cs:ao}{d:O}:OP cs d [dF cs d]:=λw F=>(Sep.one (ch:=dF cs d)).symm
def cO{β:Type}[aN O][aN β]{c1 i:ao}{d:O×β}(l:OP c1 d.1 A)(j:OP i d.2 B)(n:c1.length=aN.n O):OP (c1++i) d (A++B):=λw F=>by
 constructor
 .rintro⟨p,o,b,a,e,c,f,g,h⟩;have m:=aN.nY (aN.own_rd c);obtain⟨rfl,rfl⟩:=List.append_inj e aa;exact Sep.append.2 ⟨b,a,(l w b).1 c,(j w a).1 f,g,h⟩
 .intro k;obtain⟨b,a,c,f,g,h⟩:=Sep.append.1 k;exact⟨c1,i,b,a,rfl,(l w b).2 c,(j w a).2 f,g,h⟩
section
variable {P:Program} {o:Oper} {e:Env} {w w':World} {c:Ctx} {L:bc} {R:bn} {x y:Operand} {t el:TypeId}
theorem St.open(h:St c w L R)[aN O]{l:List O}{q:O}(i:Nat)(g:L[i]?=some (dF [s] l))(f:l[k]?=some q) :
  ∃ec,St c w (L.set i QY++[qN s l k,cAt (elB s) (Y5 (aN.n O) k s) ec,dF ec q]) R:=by have d:St c w ([dF [s] l]++L.set i QY) R:=h.take i g;obtain⟨F,S,a,rest⟩:=d.sep;obtain⟨u,r,p,n,j,m⟩:=Sep.append.1 a;obtain⟨ec,b⟩:=bBF (Sep.one.1 p) f;exact⟨ec,St.rot ⟨d.keep,⟨F,S,Sep.append.2 ⟨u,r,b,n,j,m⟩,rest⟩,d.apart⟩⟩
theorem St.unpack(h:St c w L R)[aN O]{cs:ao}{d:O}(i:Nat)(j:L[i]?=some (dF cs d))(g:OP cs d A'):St c w (L.set i QY++A') R:=by have b:St c w ([dF cs d]++L.set i QY) R:=h.take i j;obtain⟨F,S,a,rest⟩:=b.sep;obtain⟨f,p,n,m,k,l⟩:=Sep.append.1 a;exact St.rot ⟨b.keep,⟨F,S,Sep.append.2 ⟨f,p,(g w f).1 (Sep.one.1 n),m,k,l⟩,rest⟩,b.apart⟩
theorem St.close(h:St c w L R)[aN O]{l:List O}{q:O}(is:ar)(b:eA is=true)(a:pick L is=[qN s l k,cAt (elB s) (Y5 (aN.n O) k s) ec,dF ec q]):St c w (blank L is++[dF [s] (l.set k q)]) R:=h.shift is b λF d=>Sep.one.2 (aV7 (a ▸ d))
theorem aGI{b off:Nat}{c1 c2:ao}(g:bU w b off c1)(f:bU w b off c2)(h:c1.length=c2.length):c1=c2:=by
 apply aFF;intro j;by_cases d:j<c1.length
 .have a:=g j _ (mA d);have b:=f j _ (mA aa);grind
 grind
theorem MY[aN O]{b off cap:Nat}{l:List O}{Fe:dA}(g:Row w b off (cap*aN.n O))(j:bU w b off cc)(h:dQ w cc l Fe)(i:Fe.I9 (fQ b off (cap*aN.n O)))(d:l.length<=cap)(a:cap<=maxLen) :
  aN.own w [.slice (some ⟨b,off,none⟩) l.length cap] l (λf o=>fQ b off (cap*aN.n O) f o\/Fe f o):=nN.2 ⟨_,cap,rfl,d,a,.inr ⟨b,off,cc,Fe,rfl,g,j,h,i,λ_ _=>Iff.rfl⟩⟩
theorem aHN[aN O](z:St c w L R)(is:ar)(u:eA is=true)(r:pick L is=A)(cells rest:ao)(l:List O)(cap:Nat)(g:TypeId)
  (C:∀F,Sep w A F->∃Fe,dQ w cells l Fe/\∀b o,Fe b o->F b o) (i:(cells++rest).length=cap*aN.n O) (d:l.length<=cap) (a:cap<=maxLen) :
  St c (w.alloc (.cells (cells++rest).toArray g)) (blank L is++[dF [.slice (some ⟨w.heap.size,0,none⟩) l.length cap] l]) R:=by
 have f:∀j,(w.alloc (.cells (cells++rest).toArray g)).cell? ⟨w.heap.size,j,none⟩=(cells++rest)[j]?:=λj=>ae
 refine z.bBC is u λF B=>?_;obtain⟨Fe,n,G⟩:=C F (r ▸ B);have m:=fN.alloc F0 w (.cells (cells++rest).toArray g);refine⟨_,F0,m,λ_ _ h=>h.elim,Sep.one.2 (MY (λk s=>?_) (λj v D=>?_) (n.keep m λ_ _ _ h=>h) (λb k p q=>?_) d a),?_⟩
 .obtain⟨_,_,E⟩:=s;simp_all
 .grind
 .have:=n.lt p;obtain⟨rfl,_⟩:=q;omega
 .rintro b k (p|p)
  .exact .inr (QM p.1.symm)
  grind
theorem bBG[aN O]{i:Int}(g:O)(Q:St c w L R)(hn:aN.n O=m)(I:P.underlying t=some (.slice el))(f:XE P el m z)(l:z.cells.size=m)(B:∀w,aN.own w z.cells.toList g F0)
  (p:0<=i/\i<=4294967296) (K:o.op=.makeSlice t x y) (H:ev e x=some (.int .i64 i)) (G:ev e y=some (.int .i64 i)) :
  ∃v w',gD P o e w v w'/\St c w' (L++[dF [v] (List.replicate i.toNat g)]) R:=by
 obtain⟨A,S⟩:=p;subst hn;obtain⟨q,M,E,n,C⟩:=f;have N:(q.bytes:Int)*i<=281474976710656:=by have:(q.bytes:Int)*i<=65536*4294967296:=Int.mul_le_mul aa S A aa;omega
 have r:=run_make (P:=P) w t el q z I M E .i64 .i64 i i A (Int.le_refl _) N aa;rw[n] at r;refine⟨.slice (some ⟨w.heap.size,0,none⟩) i.toNat i.toNat,w.alloc (.cells (madeCells z.cells (i.toNat*aN.n O)) el),λ_ a u=>?_,?_⟩
 rotate_left 1
 .have all:∀(k:Nat) (d:ao),d.length=k*aN.n O->(∀j,j<k->PM d (aN.n O) j=z.cells.toList)->dQ w d (List.replicate k g) F0:=by
   intro k;induction k with
   |zero=>intro d h _;exact⟨AX aa,λ_ _ h=>h⟩
   |succ k D=>
    intro d h J;rw[pP] at h;refine⟨d.take (aN.n O),d.drop (aN.n O),F0,F0,ae,?_,D _ aj λj s=>?_,λ_ _ h _=>h,λb o=>by simp[F0]⟩
    .have:=J 0 aa;grind[PM]
    grind[PM,List.drop_drop]
  have h:=aHN Q [] rfl rfl (madeCells z.cells (i.toNat*aN.n O)).toList [] (List.replicate i.toNat g) i.toNat el (λF _=>⟨F0,all _ _ (by simp[size_madeCells]) λj s=>bBA l s,λ_ _ h=>h.elim⟩) (by simp[size_madeCells]) ae (by grind[maxLen]);simp only[ML,List.length_replicate] at h;exact h
 .simp[execOp,K,u.eval H,u.eval G,r]
def OPs{O:Type}[aN O](m:Nat):ao->List O->bc->Prop
 |cs,[],A=>cs=[]/\A=[]
 |cs,x::r,A=>∃B,A=dF (cs.take m) x::B/\(cs.take m).length=m/\OPs m (cs.drop m) r B
theorem OPs.all{O:Type}[aN O]{m:Nat}(hn:aN.n O=m):∀{l:List O} {cs:ao} {A:bc} {F:dA},OPs m cs l A->Sep w A F->dQ w cs l F
 |[],cs,A,F,⟨b,a⟩,h=>by subst b;subst a;exact⟨rfl,h⟩
 |x::r,cs,A,F,⟨B,b,_,a⟩,h=>by subst b;obtain⟨k,j,i,g,d,f⟩:=h;exact⟨cs.take m,cs.drop m,k,j,ae,i,OPs.all hn a g,d,f⟩
theorem OPs.len{O:Type}[aN O]{m:Nat}:∀{l:List O} {cs:ao} {A:bc},OPs m cs l A->cs.length=l.length*m
 |[],cs,A,⟨b,a⟩=>by simp[b]
 |x::r,cs,A,⟨B,b,d,a⟩=>by have:=OPs.len a;grind[pP]
theorem bGR[aN O]{len:Nat}{ps:cr}{cells:ao}(l:List O)(K:St c w L R)(is:ar)(J:eA is=true)(j:OPs m cells l (pick L is))(hn:aN.n O=m)(s:P.underlying t=some (.slice el))(f:XE P el m z)(I:l.length=len)(H:Nat.ble 1 m=true)(n:Nat.ble (len*m) 16777216=true)
  (u:o.op=.buildSlice t len ps.toArray) (G:evs e (ps.map (·.2))=some vs) (B:Instr.fill (λi=>some (i*m,m)) ((Array.range (len*m)).map (λi=>(if len*m=0 then #[] else z.cells)[i % (if len*m=0 then #[] else z.cells).size]!)) ((ps.map (·.1)).zip vs)=some cells.toArray) :
  ∃v w',gD P o e w v w'/\St c w' (blank L is++[dF [v] l]) R:=by
 subst I;obtain⟨Q,A,E,g,D⟩:=f;have S:=j.len;have r:¬l.length*m > 2 ^ 24:=by simp_all
 have C:l.length<=16777216:=by have:=Nat.le_mul_of_pos_right l.length (XC H);omega
 have d:l.length<=maxLen:=by grind[maxLen]
 have b:=aHN K is J rfl cells [] l l.length el (λF M=>⟨F,j.all hn M,λ_ _ h=>h⟩) aj (jR _) d;rw[ML] at b;refine⟨_,_,λ_ a N=>?_,b⟩;have k:ps.map (λp=>(p.1,a.eval p.2))=(ps.map (·.1)).zip vs:=by rw[<-Y6 N G];grind
 by_cases q:l.length*m=0
 .simp only[q,aS] at B;simp[execOp,u,Instr.buildSlice,run_underlying s,sizeOf,typeInfo,A,g,q,k];simp_all[newRow]
 .simp only[q,aT] at B;simp[execOp,u,Instr.buildSlice,run_underlying s,sizeOf,typeInfo,zeroValue,A,E,g,q,r,k];simp_all[newRow]
theorem bGS[aN O]{s2:Value}{l xs:List O}(is:ar)(hS:St c w L R)(ha:eA is=true)(hp:pick L is=[dF [s] l,dF [s2] xs])(hn:aN.n O=m)(hu:P.underlying t=some (.slice el))(hinf:XE P el m z)(hzs:z.cells.size=m)
  (hb:l.length+xs.length<=1073741824) (ho:o.op=.call {callee:=.builtin .append,args:=#[x,y],argTypes:=#[t,t]}) (hx:ev e x=some s) (hy:ev e y=some s2) :
  ∃v w',gD P o e w v w'/\St c w' (blank L is++[dF [v] (l++xs)]) R:=by
 subst hn;obtain⟨ti,W,hz,X,hby⟩:=hinf;have h12:St c w ([dF [s] l,dF [s2] xs]++blank L is) R:=hp ▸ hS.front is ha;obtain⟨F,T⟩:=h12.chunk 0 rfl;obtain⟨G,hG⟩:=h12.chunk 1 rfl;have T:aN.own w [s] l F:=T;have hG:aN.own w [s2] xs G:=hG;obtain⟨H,c2,cc2,rfl,E,hc2,hr2⟩:=SU (aN.own_rd hG);obtain⟨ad,d,cc,rfl,Z,hc1,hr1⟩:=SU (aN.own_rd T);have U:=aO7 E hr2;have hlen:(cc++cc2).length=(l++xs).length*aN.n O:=aj
 have B:xs.length=0\/∃b off,H=some ⟨b,off,none⟩/\bU w b off cc2:=hc2.imp (λh=>by simp[h]) id;have A:=MX (P:=P) (O:=O) (k:=c2) E B;have r:∀(v:Value) (w':World),(Builtin.append_ #[t,t] o.type #[.slice ad l.length d,.slice H xs.length c2]).run P w=.ok v w'->gD P o e w v w':=by intro v w' h _ a hA;simp[execOp,ho,resolve,invoke,builtin,hA.eval hx,hA.eval hy,h]
 have C:∀{s:Value} {l:List O} {F:dA} {ad:Option Addr} {d:Nat} {cc:ao},s=.slice ad l.length d->aN.own w [s] l F->cc.length=l.length*aN.n O->(l=[]\/∃b off,ad=some ⟨b,off,none⟩/\bU w b off cc)->∃Fe,dQ w cc l Fe/\∀b o,Fe b o->F b o:=by
  intro s l F ad d cc e h hl N;obtain⟨a',c',e',_,_,h3⟩:=nN.1 h;rw[e] at e';simp at e';obtain⟨rfl,rfl⟩:=e';obtain N|⟨b,off,rfl,N⟩:=N
  .subst N;exact⟨F0,⟨AX aj,λ_ _ h=>h⟩,λ_ _ h=>h.elim⟩
  .obtain⟨h,_⟩|⟨i,Q,cc',Fe,h,_,k1,k2,_,T⟩:=h3
   .cases h
   simp at h;obtain⟨rfl,rfl⟩:=h;have:cc'=cc:=aGI k1 N (by rw[k2.length,hl]);grind
 by_cases n:l.length+xs.length<=d
 ·
  obtain⟨a',cap',e',hlc,hcm,h3⟩:=nN.1 T;simp at e';obtain⟨rfl,rfl⟩:=e';obtain⟨rfl,h0,_⟩|⟨b,off,cc',Fe0,rfl,u,hcc',hoA,hdj0,hFF0⟩:=h3
  .have hl0:l=[]:=AX aa;have hx0:xs=[]:=AX aa;subst hl0;subst hx0;refine⟨.slice none 0 0,w,r _ _ ?_,?_⟩
   .have A:(Builtin.firstCells (aN.n O) 0 (.slice H 0 c2)).run P w=.ok cc2.toArray w:=A;simp[h0,Builtin.append_,run_underlying hu,sizeOf,typeInfo,W,Builtin.lenOf,X,A]
   .rw[ML];refine hS.bBC is ha λF T=>?_;rw[hp] at T;obtain⟨F1,F2,k1,k2,kd,kF⟩:=T;subst h0;exact⟨F1,F0,fN.refl _ _,λ_ _ h=>h.elim,Sep.one.2 k1,λb o h=>.inl ((kF b o).2 (.inl h))⟩
  .have hcc:bU w b off cc:=by
    obtain h|⟨i,Q,h,N⟩:=hc1
    .subst h;have:cc=[]:=AX aj;subst this;intro j v hj;simp at hj
    grind
   have hmul:(l.length+xs.length)*aN.n O<=d*aN.n O:=xX _ n;rw[pP] at hmul;obtain⟨w',hst,M,hws,V⟩:=rT (b:=b) P cc2 w (off+l.length*aN.n O) 0 U (λq _ hq=>u _ ⟨rfl,aa,aa⟩);refine⟨_,w',r _ _ (by
    have hadd:(⟨b,off,none⟩:Addr).add (l.length*aN.n O)=⟨b,off+l.length*aN.n O,none⟩:=by simp[Addr.add]
    simp[Builtin.append_,run_underlying hu,sizeOf,typeInfo,W,Builtin.lenOf,X,A,n,hadd,hst];rfl),?_⟩
   refine hS.bBC is ha λF2 K=>?_;rw[hp] at K;obtain⟨Fa,Fb,ka,kb,kd,kF⟩:=K;have ka:aN.own w [_] l Fa:=ka;have kb:aN.own w [_] xs Fb:=Sep.one.1 kb;obtain⟨_,_,he2,_,_,hr⟩:=nN.1 ka;simp at he2;obtain⟨rfl,rfl⟩:=he2;obtain⟨h,_,_⟩|⟨i,Q,S,Fe,h,hrow2,k1,k2,hdj,J⟩:=hr
   .cases h
   simp at h;obtain⟨rfl,rfl⟩:=h;have ecc:S=cc:=aGI k1 hcc (by rw[k2.length,Z]);subst ecc;obtain⟨Fe2,o2,D⟩:=C rfl kb E hc2;have hkd:∀{G:dA},(∀i f,G i f->¬fQ b off (d*aN.n O) i f)->G.I9 (λi f=>i=b/\off+l.length*aN.n O+0<=f/\f<off+l.length*aN.n O+0+cc2.length):=by rintro G hG i f g ⟨e1,e2,e3⟩;exact hG i f g ⟨e1,aa,aa⟩
   have hcc2:bU w' b off (S++cc2):=by
    intro j v hj;rw[aLX] at hj;split at hj
    .rename_i hlt;have N:=hcc j v hj;rw[M.cell b (off+j) (World.block_lt_of_cell? w _ N) (λhh=>by obtain⟨_,e2,_⟩:=hh;omega)];exact N
    .rename_i hge;have:=V _ v hj;grind
   refine⟨λi f=>fQ b off (d*aN.n O) i f\/(Fe i f\/Fe2 i f),_,M,?_,Sep.one.2 ?_,?_⟩
   .rintro i f ⟨e1,e2,e3⟩;exact(kF i f).2 (.inl ((J i f).2 (.inl ⟨e1,aa,aa⟩)))
   .have hll:l.length+xs.length=(l++xs).length:=ae
    rw[hll];refine MY (λf Y=>⟨M.stay b f (u f Y).1,(M.AV b f (lF (u f Y).1)).trans (u f Y).2⟩) hcc2 (dQ.app (k2.keep M (hkd λi f g q=>hdj i f g q)) (o2.keep M (hkd λi f g q=>?_)) (λi f p q=>?_) λ_ _=>Iff.rfl) ?_ ah hcm
    .exact kd i f ((J i f).2 (.inl q)) (D i f g)
    .exact kd i f ((J i f).2 (.inr p)) (D i f q)
    .rintro i f (p|p) q
     .exact hdj i f p q
     .exact kd i f ((J i f).2 (.inl q)) (D i f p)
   grind
 ·
  have I:(l.length+xs.length)*ti.bytes<=140737488355328:=by have:(l.length+xs.length)*ti.bytes<=1073741824*65536:=Nat.mul_le_mul hb hby;omega
  have hfit:=growslice_fits (need:=l.length+xs.length) (old:=d) (bytes:=ti.bytes) aa I;obtain⟨hge,hle⟩:l.length+xs.length<=grownCap w (l.length+xs.length) d el/\grownCap w (l.length+xs.length) d el<=maxLen:=⟨grownCap_ge _ _ _ _,grownCap_le_maxLen _ _ _ _ (by grind[maxLen])⟩;have hrun:(Builtin.append_ #[t,t] o.type #[.slice ad l.length d,.slice H xs.length c2]).run P w=.ok (.slice (some ⟨w.heap.size,0,none⟩) (l.length+xs.length) (grownCap w (l.length+xs.length) d el)) (w.drew.alloc (.cells (cc.toArray++cc2.toArray++Builtin.zeroCells z.cells (grownCap w (l.length+xs.length) d el-(l.length+xs.length))) el)):=by
   have hn1:¬(l.length+xs.length<=d):=n;have h63':¬(9223372036854775807<((l.length:Int)+(xs.length:Int))):=aa
   have h48':¬(281474976710656<Builtin.nextslicecap (l.length+xs.length) d*ti.bytes):=aa
   have hf1:(Builtin.firstCells (aN.n O) l.length (.slice ad l.length d)).run P w.drew=.ok cc.toArray w.drew:=MX (O:=O) Z (hc1.imp (λh=>by simp[h]) id);have A:(Builtin.firstCells (aN.n O) xs.length (.slice H xs.length c2)).run P w.drew=.ok cc2.toArray w.drew:=MX (O:=O) E B;simp[Builtin.append_,run_underlying hu,sizeOf,typeInfo,zeroValue,W,hz,X,Builtin.lenOf,hn1,h63',h48',Question.forced,hf1,A,newRow,grownCap];grind
  refine⟨_,_,r _ _ hrun,?_⟩;have hz3:(Builtin.zeroCells z.cells (grownCap w (l.length+xs.length) d el-(l.length+xs.length))).toList.length=(grownCap w (l.length+xs.length) d el-(l.length+xs.length))*aN.n O:=by grind[size_zeroCells]
  have htot:((cc++cc2)++(Builtin.zeroCells z.cells (grownCap w (l.length+xs.length) d el-(l.length+xs.length))).toList).length=grownCap w (l.length+xs.length) d el*aN.n O:=by rw[O0,hlen,hz3,O0,<-pP];grind
  have hS':St c w.drew L R:=hS.same (fN.drew F0 w);have hnew:=aHN hS' is ha hp (cc++cc2) (Builtin.zeroCells z.cells (grownCap w (l.length+xs.length) d el-(l.length+xs.length))).toList (l++xs) (grownCap w (l.length+xs.length) d el) el (λF2 K=>by
   obtain⟨Fa,Fb,ka,kb,kd,kF⟩:=K;have ka:aN.own w.drew [_] l Fa:=ka;have kb:aN.own w.drew [_] xs Fb:=Sep.one.1 kb;have drop:fN F0 w.drew w:=⟨rfl,rfl,rfl,jR _,λ_ _ _=>rfl,λ_ _ _ _=>rfl,λ_ _ _=>rfl,λ_ _ h=>h⟩;obtain⟨Fe,o1,h1⟩:=C rfl (aN.own_keep ka drop λ_ _ _ h=>h) Z hc1;obtain⟨Fe2,o2,h2⟩:=C rfl (aN.own_keep kb drop λ_ _ _ h=>h) E hc2;have M:=fN.drew F0 w;exact⟨_,dQ.app (o1.keep M λ_ _ _ h=>h) (o2.keep M λ_ _ _ h=>h) (λb o p q=>kd b o (h1 b o p) (h2 b o q)) λ_ _=>Iff.rfl,λb o p=>(kF b o).2 (p.imp (h1 b o) (h2 b o))⟩) htot ah hle
  have heq:((cc++cc2)++(Builtin.zeroCells z.cells (grownCap w (l.length+xs.length) d el-(l.length+xs.length))).toList).toArray=cc.toArray++cc2.toArray++Builtin.zeroCells z.cells (grownCap w (l.length+xs.length) d el-(l.length+xs.length)):=ae
  rw[heq] at hnew;simp_all
end
section
variable {v:Value} {k:IntKind} {i:Int} {P:Program} {o:Oper} {e:Env} {w w':World} {c:Ctx} {L:bc} {R:bn} {x y:Operand} {t el:TypeId}
theorem bM8{b q i:Nat}{cs:ao}(J:St c w L R)(I:L[i]?=some (cAt b q cs))(X:o.op=.store t x y)(W:ev e x=some (.pointer (some ⟨b,q+j,none⟩)))(V:ev e y=some v)(N:v.cells.toList=vs)(U:∀w,(sizeOf t).run P w=.ok m w)(Y:vs.length=m)(Z:Nat.ble (j+m) cs.length=true)(h1:vs.all Value.oneCell'=true) :
  ∃w',bM5 P o e w w'/\St c w' (L.set i (cAt b q (aHL cs j vs))) R:=by
 subst Y;have Q:j+vs.length<=cs.length:=XC Z;have C:∀v∈vs,v.oneCell'=true:=λv hv=>aj
 obtain⟨F,hF⟩:=J.chunk i I;obtain⟨hc,A,_⟩:=hF;obtain⟨w',hr,D,O,g⟩:=rT (b:=b) P vs w (q+j) 0 C (λp _ r=>by
  refine⟨?_,A (q+j+p) ⟨rfl,aa,aa⟩⟩;have:=hc (j+p) _ (mA aa);grind)
 refine⟨w',λ_ a K=>?_,?_⟩
 .have f:v.cells.size=vs.length:=aj
  have z:(storeCells ⟨b,q+j,none⟩ v.cells.toList).run P w=.ok () w':=aj
  simp[execOp,X,Instr.storeAt,Instr.sureAddr,K.eval W,K.eval V,storeVar,U,f,z]
 .refine J.aHK i I λF2 B=>?_;obtain⟨H,T,S⟩:=B;have l:(aHL cs j vs).length=cs.length:=aL3 vs cs j;refine⟨F2,_,D,?_,⟨?_,λd n=>?_,λM d=>aj⟩,λ_ _ h=>.inl h⟩
  .rintro M d ⟨e1,G,E⟩;exact(S M d).2 ⟨e1,aa,aa⟩
  .intro p u r;rw[a0M vs cs j p aa] at r;split at r
   .have:=g _ u r;grind
   .have s:=H p u r;rw[D.cell b (q+p) (World.block_lt_of_cell? w _ s) (λhh=>by obtain⟨_,G,E⟩:=hh;omega)];exact s
  .rw[l] at n;obtain⟨_,G,E⟩:=n;have s:=H (d-q) _ (mA aa);rw[show q+(d-q)=d by omega] at s;exact(D.AV b d (World.block_lt_of_cell? w _ s)).trans (T d ⟨rfl,G,E⟩)
theorem bGT(h:St c w L R)[aN O]{l:List O}{k:Nat}(i:Nat)(d:L[i]?=some (qN s l k)):∃b off m,s=.slice (some ⟨b,off,none⟩) l.length m/\l.length<=maxLen:=by obtain⟨F,a,n,b,off,c1,p,r,q,e,j,g,f,rfl,_⟩:=h.chunk i d;grind
theorem bGU[aN O]{l:List O}{el:Nat}{q:O}(h:∃b off m,s=.slice (some ⟨b,off,none⟩) l.length m/\l.length<=maxLen)(f:aN.n O=m)(r:idx l i=some q)(p:P.underlying t=some (.slice el))(g:∀w,(sizeOf el).run P w=.ok m w)(u:o.op=.indexAddr t x y)(n:ev e x=some s)(j:ev e y=some (.int k i)):gD P o e w (.pointer (some ⟨elB s,Y5 m i.toNat s,none⟩)) w:=by
 obtain⟨B,A,C⟩:=EV r;obtain⟨b,off,D,rfl,_⟩:=h;intro _ a d;have z:(⟨b,off,none⟩:Addr).add (i.toNat*m)=⟨b,off+i.toNat*m,none⟩:=by grind[Addr.add]
 simp[execOp,u,Instr.indexAt,d.eval n,d.eval j,asIntOf,run_underlying p,B,A,g,z,elB,Y5]
theorem bBH[aN O]{w:World}:aN.own w [.slice none 0 0] ([]:List O) F0:=⟨none,0,rfl,jR _,lR _,.inl ⟨rfl,rfl,λ_ _ h=>h⟩⟩
theorem aMS{w:World}:∀ch∈([]:bc),ch.P w F0:=λ_ h=>nomatch h
theorem AD{w:World}[aN O](h:∀ch∈A,ch.P w F0):∀ch∈dF [.slice none 0 0] ([]:List O)::A,ch.P w F0:=λch a=>by
 obtain rfl|a:=qM.1 a
 .exact bBH
 grind
theorem F6{w:World}[aN O]{cs:ao}{d:O}(h:OP cs d A)(f:∀ch∈A,ch.P w F0):aN.own w cs d F0:=by
 refine(h w F0).2 ?_;clear h;induction A with
 |nil=>exact λ_ _ h=>h
 |cons a A g=>exact⟨F0,F0,f a ae,g λch j=>f ch (by simp[j]),λ_ _ h=>h.elim,λb o=>by simp[F0]⟩
theorem aJ7:∀{is:ar} {L:bc} {j:Nat},(is.all λi=>!Nat.beq i j)=true->(blank L is)[j]?=L[j]?
 |[],L,j,_=>rfl
 |i::r,L,j,h=>by
  simp only[aT3,ET,Bool.not_eq_true'] at h;have a:i≠j:=λe=>by simp_all
  show(blank (L.set i QY) r)[j]?=_;rw[aJ7 h.2,List.getElem?_set_ne a]
theorem all_cons{Q:Fact->Prop}{f:Fact}{l:bn}(h:Q f)(a:∀f∈l,Q f):∀g∈f::l,Q g:=aj
theorem a8N{b q:Nat}{A B C:ao}(h:(cAt b q (A++(B++C))).P w F):Sep w [cAt b q A,cAt b (q+A.length) B,cAt b (q+A.length+B.length) C] F:=by
 obtain⟨E,g,n⟩:=h;obtain⟨D,j⟩:=IH E;obtain⟨z,u⟩:=IH j;simp only[O0] at g n;refine⟨fQ b q A.length,λf o=>fQ b (q+A.length) B.length f o\/fQ b (q+A.length+B.length) C.length f o,⟨D,λo p=>g o ⟨rfl,by have:=p.2;omega,by have:=p.2;omega⟩,λ_ _=>Iff.rfl⟩,
  ⟨fQ b (q+A.length) B.length,fQ b (q+A.length+B.length) C.length,⟨z,λo p=>g o ⟨rfl,by have:=p.2;omega,by have:=p.2;omega⟩,λ_ _=>Iff.rfl⟩,Sep.one.2 ⟨u,λo p=>g o ⟨rfl,by have:=p.2;omega,by have:=p.2;omega⟩,λ_ _=>Iff.rfl⟩,?_,λ_ _=>Iff.rfl⟩,?_,λf o=>?_⟩
 .rintro f o ⟨_,a,d⟩ ⟨_,m,l⟩;omega
 .rintro f o ⟨_,a,d⟩ (⟨_,m,l⟩|⟨_,m,l⟩)<;>omega
 .rw[n];constructor
  .rintro⟨e,a,d⟩;by_cases s:o<q+A.length
   .exact .inl ⟨e,a,s⟩
   .by_cases r:o<q+A.length+B.length
    .exact .inr (.inl ⟨e,aa,r⟩)
    .exact .inr (.inr ⟨e,aa,aa⟩)
  .rintro(⟨e,a,d⟩|⟨e,a,d⟩|⟨e,a,d⟩)<;>exact⟨e,aa,aa⟩
theorem bBI{b q:Nat}{A B C:ao}(h:Sep w [cAt b q A,cAt b (q+A.length) B,cAt b (q+A.length+B.length) C] F):(cAt b q (A++(B++C))).P w F:=by
 obtain⟨M,m,⟨H,G,E⟩,⟨K,J,⟨D,z,u⟩,n,_,g⟩,_,f⟩:=h;obtain⟨c1,s,r⟩:=Sep.one.1 n;refine⟨Y7 H (Y7 D c1),λo p=>?_,λI o=>?_⟩
 .obtain⟨_,a,d⟩:=p;simp only[O0] at d;by_cases l:o<q+A.length
  .exact G o ⟨rfl,a,l⟩
  .by_cases j:o<q+A.length+B.length
   .exact z o ⟨rfl,aa,j⟩
   .exact s o ⟨rfl,aa,aa⟩
 .rw[f,g,E,u,r];simp only[O0];constructor
  .rintro(⟨e,a,d⟩|⟨e,a,d⟩|⟨e,a,d⟩)<;>exact⟨e,aa,aa⟩
  .rintro⟨e,a,d⟩;by_cases l:o<q+A.length
   .exact .inl ⟨e,a,l⟩
   .by_cases j:o<q+A.length+B.length
    .exact .inr (.inl ⟨e,aa,j⟩)
    .exact .inr (.inr ⟨e,aa,aa⟩)
end
def jT(n l h:Nat):Value->Value
 |.slice a _ cap=>.slice (if cap=l then a else a.map (·.add (l*n))) (h-l) (cap-l)
 |v=>v
def wV{l:List O}{a b:Nat}(d:a<=b)(c:b<=l.length):((l.take b).drop a).length=b-a:=ah
def bGV{l:List O}{a b:Nat}(d:b<=l.length)(c:i<b-a):((l.take b).drop a)[i]?=l[a+i]?:=aj
def a3W[aN O]{S:dA}{l:List O}{a b:Nat}(hn:aN.n O=n)(h:aN.rd S w [s] l)(p:a<=b)(k:b<=l.length):aN.rd S w [jT n a b s] ((l.take b).drop a):=by
 subst hn;obtain⟨m,c,e,r,q,d⟩:=(show AB S w [s] l from h);simp at e;subst e;have o:=wV p k;refine⟨if c=a then m else m.map (·.add (a*aN.n O)),c-a,by grind[jT],aa,aa,?_⟩;by_cases u:b=a
 .grind
 .right;obtain d|⟨f,off,rfl,d⟩:=d
  .grind
  .have g:(⟨f,off,none⟩:Addr).add (a*aN.n O)=⟨f,off+a*aN.n O,none⟩:=by grind[Addr.add]
   refine⟨f,off+a*aN.n O,aj,λi j=>?_⟩;rw[o] at j;have t:=bGV k j;grind
def a6L[aN O]{l:List O}{a b:Nat}(hn:aN.n O=n)(h:aN.own w [s] l F)(T:a<=b)(S:b<=l.length):∃D,aN.own w [jT n a b s] ((l.take b).drop a) D/\∀b o,D b o->F b o:=by
 subst hn;obtain⟨ad,c,e,k1,k2,J⟩:=nN.1 h;subst e;have M:=wV T S;obtain⟨rfl,rfl,C⟩|⟨f,off,cc,Fe,rfl,L,P,B,N,C⟩:=J
 .have:l=[]:=AX aa;subst this;have R:a=0:=aa
  have Q:b=0:=aa
  subst R;subst Q;exact⟨F0,⟨none,0,rfl,jR _,lR _,.inl ⟨rfl,rfl,λ_ _ h=>h⟩⟩,λ_ _ h=>h.elim⟩
 .have X:l=l.take a++((l.take b).drop a++l.drop b):=by grind[aL2]
  rw[X] at B;obtain⟨c1,E,F1,G,rfl,I,m,d1,V⟩:=B.split;obtain⟨c2,c3,Y,F3,rfl,H,o3,d2,U⟩:=m.split;have A:=I.length;rw[XB,Nat.min_eq_left aa] at A;obtain⟨q1,k⟩:=IH P;obtain⟨z,Z⟩:=IH k;rw[A] at z;by_cases i:c=a
  .have r:b=a:=aa
   have K:(l.take b).drop a=[]:=aj
   refine⟨F0,?_,λ_ _ h=>h.elim⟩;rw[K];simp only[jT,i,r,Nat.sub_self,aS];exact nN.2 ⟨some ⟨f,off,none⟩,0,rfl,jR _,lR _,.inr ⟨f,off,[],F0,rfl,λo p=>by obtain⟨_,u,t⟩:=p;omega,λj v h=>by simp at h,⟨rfl,λ_ _ h=>h⟩,λ_ _ h=>h.elim,λd o=>by
    simp[F0,fQ]⟩⟩
  .have y:a*aN.n O+(c-a)*aN.n O=c*aN.n O:=by rw[<-pP];grind
   refine⟨λd o=>fQ f (off+a*aN.n O) ((c-a)*aN.n O) d o\/Y d o,?_,?_⟩
   .have W:jT (aN.n O) a b (.slice (some ⟨f,off,none⟩) l.length c)=.slice (some ⟨f,off+a*aN.n O,none⟩) ((l.take b).drop a).length (c-a):=by
     have g:(⟨f,off,none⟩:Addr).add (a*aN.n O)=⟨f,off+a*aN.n O,none⟩:=by simp[Addr.add]
     simp only[jT,M,aO i,Option.map_some,g]
    rw[W];refine MY (λo p=>L o ?_) z H (λd o p q=>N d o ((V d o).2 (.inr ((U d o).2 (.inl p)))) ?_) aa aa
    .obtain⟨_,u,t⟩:=p;exact⟨rfl,aa,aa⟩
    .obtain⟨x,u,t⟩:=q;exact⟨x,aa,aa⟩
   .rintro d o (p|p)
    .obtain⟨x,u,t⟩:=p;exact(C d o).2 (.inl ⟨x,aa,aa⟩)
    grind
section
variable {v:Value} {k k2:IntKind} {i j:Int} {P:Program} {o:Oper} {e:Env} {w w':World} {c:Ctx} {L:bc} {R:bn} {x y z:Operand} {t el:TypeId}
theorem St.gZ(h:St c w L R)[aN O]{l:List O}{a b:Nat}(m:Nat)(f:R[m]?=some (fRd [s] l))(hn:aN.n O=n)(r:a<=b)(q:b<=l.length):St c w L (R++[fRd [jT n a b s] ((l.take b).drop a)]):=h.derive m f λS p g d=>by simp at d;subst d;exact a3W hn p r q
theorem aP4[aN O]{S:dA}{l:List O}(h:aN.rd S w [s] l):∃a cp,s=.slice a l.length cp/\l.length<=cp:=by obtain⟨a,cp,e,b,_⟩:=(show AB S w [s] l from h);grind
theorem a8O[aN O]{S:dA}{l:List O}(h:aN.rd S w [s] l)(hn:aN.n O=n)(p:P.underlying t=some (.slice el))(d:∀w,(sizeOf el).run P w=.ok n w)(r:0<=i/\i<=j/\j<=l.length)(q:o.op=.slice t x (some y) (some z) none)(g:ev e x=some s)(f:ev e y=some (.int k i))(m:ev e z=some (.int k2 j)):gD P o e w (jT n i.toNat j.toNat s) w:=λ_ a b=>by
 obtain⟨H,C,rfl,F⟩:=aP4 h;obtain⟨E,D,G⟩:=r;have B:j<=(C:Int):=aa
 have u:0<=j:=aa
 have A:max j 0=j:=aa
 simp[execOp,q,Instr.sliceAt,Instr.slice,run_underlying p,Instr.sliceBounds,b.eval g,b.eval f,b.eval m,Instr.sliceBound,asIntOf,d,E,D,B,A,u,jT]
theorem bBJ[aN O]{S:dA}{l:List O}(h:aN.rd S w [s] l)(hn:aN.n O=n)(m:P.underlying t=some (.slice el))(d:∀w,(sizeOf el).run P w=.ok n w)(q:0<=j/\j<=l.length)(p:o.op=.slice t x none (some z) none)(f:ev e x=some s)(g:ev e z=some (.int k2 j)):gD P o e w (jT n 0 j.toNat s) w:=λ_ a b=>by
 obtain⟨D,u,rfl,B⟩:=aP4 h;obtain⟨A,C⟩:=q;have r:j<=(u:Int):=aa
 simp[execOp,p,Instr.sliceAt,Instr.slice,run_underlying m,Instr.sliceBounds,b.eval f,b.eval g,Instr.sliceBound,asIntOf,d,A,r,jT]
theorem bGW{q:UInt8}(h:P.underlying t=some .string)(m:idx l i=some q)(n:o.op=.index t x y)(g:ev e x=some (sv l))(f:ev e y=some (.int k i)):gD P o e w (.int .u8 (q.toNat:Int)) w:=λ_ a d=>by
 obtain⟨r,s,b⟩:=EV m;have p:(⟨l.toArray⟩:ByteArray)[i.toNat]?=some q:=by rw[getElem?_pos _ _ (by simp[ByteArray.size];omega)];rw[mA aa] at b;simp only[Option.some.injEq] at b;rw[<-b];rfl
 simp[execOp,n,Instr.index,run_underlying h,d.eval g,d.eval f,asIntOf,r,p]
theorem bKQ(g:o.op=.call {callee:=.builtin .min,args:=#[x,y],argTypes:=#[t,el]})(f:ev e x=some (.int .i64 i))(d:ev e y=some (.int k j)):gD P o e w (.int .i64 (if j<i then j else i)) w:=λ_ a b=>by simp[execOp,g,resolve,invoke,builtin,Builtin.min_,Builtin.min2,b.eval f,b.eval d]
theorem bKR(g:o.op=.call {callee:=.builtin .max,args:=#[x,y],argTypes:=#[t,el]})(f:ev e x=some (.int .i64 i))(d:ev e y=some (.int k j)):gD P o e w (.int .i64 (if i<j then j else i)) w:=λ_ a b=>by simp[execOp,g,resolve,invoke,builtin,Builtin.max_,Builtin.max2,b.eval f,b.eval d]
theorem aP5:∀(l:aF) (s:ByteArray),(l.map λq=>(q.toNat:Int)).foldl (λr n=>r.push (UInt8.ofNat n.toNat)) s=⟨s.data++l.toArray⟩
 |[],s=>ae
 |q::l,s=>by rw[aFG,List.foldl_cons,aP5 l];simp
theorem bKS{S:dA}{u:TypeId}(h:aN.rd S w [s] l)(C:P.underlying t=some (.slice el))(F:P.underlying el=some (.int .u8))(n:P.underlying u=some .string)(D:o.op=.convert t u x)(B:ev e x=some s):gD P o e w (sv l) w:=λ_ a G=>by
 obtain⟨A,r,d,rfl,g,f,H⟩:=SU h;have p:d=(l.map λq=>(q.toNat:Int)).map (Value.int .u8):=by
  have g:d.length=l.length*1:=g;apply aFF;intro i;by_cases E:i<l.length
  .have:=H i l[i] (mA E);have:PM d 1 i=[.int .u8 (l[i].toNat:Int)]:=this;have I:(PM d 1 i)[0]?=d[i*1+0]?:=wU aa;grind
  grind
 have m:(Conv.bytesToString (.slice A l.length r)).run P w=.ok (sv l) w:=by
  obtain f|⟨b,off,rfl,f⟩:=f
  .subst f;cases A with
   |none=>rfl
   |some a=>
    rw[show([]:aF).length=0 from rfl,run_bytesToString w a 0 r [] (by simp[loadCells,loadCellsFrom])];rfl
  .rw[run_bytesToString w _ _ r _ (by
    have:=uJ f P;have g:d.length=l.length*1:=g;rw[g,Nat.mul_one] at this;rw[<-p];exact this),aP5]
   simp[sv]
 simp[execOp,D,convert,run_underlying C,run_underlying n,run_underlying F,G.eval B,m]
theorem bKT(f:O->Value){l:List O}{q:O}{cs:b4}(r:P.underlying t=some (.array n el))(h:∀w,(sizeOf el).run P w=.ok 1 w)(A:∀w,(isAgg el).run P w=.ok false w)(s:idx l i=some q)(hn:l.length=n)(b:cs=(l.map f).toArray)(u:o.op=.index t x y)(p:ev e x=some (.agg cs))(m:ev e y=some (.int k i)):gD P o e w (f q) w:=λ_ a g=>by obtain⟨D,C,B⟩:=EV s;subst hn;subst b;have d:=B;rw[mA aa] at d;simp only[Option.some.injEq] at d;simp[execOp,u,Instr.index,run_underlying r,g.eval p,g.eval m,asIntOf,D,C,h,part,A,d]
theorem a8P{b:Value}{ps:cr}{cells:b4}(q:o.op=.build t ps.toArray)(g:∀w,(zeroValue t).run P w=.ok b w)(h:P.underlying t=some (.array n el))
  (l:∀w,(sizeOf el).run P w=.ok m w) (d:evs e (ps.map (·.2))=some vs) (r:Instr.fill (λi=>some (i*m,m)) b.cells ((ps.map (·.1)).zip vs)=some cells):gD P o e w (.agg cells) w:=λ_ a f=>by
 have s:ps.map (λp=>(p.1,a.eval p.2))=(ps.map (·.1)).zip vs:=by rw[<-Y6 f d];grind
 simp_all[execOp,Instr.build,run_underlying]
theorem bGX[aN O]{l:Value}(n:St c w L R)(hn:aN.n O=m)(r:P.underlying t=some (.slice el))(d:XE P el m l)(s:o.op=.buildSlice t 0 #[]) :
  ∃v w',gD P o e w v w'/\St c w' (L++[dF [v] ([]:List O)]) R:=by obtain⟨p,u,q,f,g⟩:=d;have b:=aHN (O:=O) n [] rfl rfl [] [] [] 0 el (λF _=>⟨F0,⟨rfl,λ_ _ h=>h⟩,λ_ _ h=>h.elim⟩) ae (jR _) (lR _);refine⟨_,_,λ_ a A=>?_,b⟩;simp_all[Array.eq_empty_of_size_eq_zero,execOp,Instr.buildSlice,run_underlying,sizeOf,typeInfo,Instr.fill,newRow]
theorem bBK{a v c0:Value}(b:v.cells=#[c0]):Instr.fill (λi=>some (i*1,1)) ((Array.range (1*1)).map (λi=>(if 1*1=0 then #[] else a.cells)[i % (if 1*1=0 then #[] else a.cells).size]!)) [(0,v)]=some #[c0]:=by have d:Array.range 1=#[0]:=rfl;simp_all[Instr.fill]
theorem bGY[aN O][Flat O](q:O){x:Operand}{v c0 d:Value}(m:St c w L R)(hn:aN.n O=1)(g:P.underlying t=some (.slice el))(a:XE P el 1 d)(b:aN.rd F0 default [c0] q)
  (h:o.op=.buildSlice t 1 #[(0,x)]) (f:ev e x=some v) (l:v.cells=#[c0]) :
  ∃v w',gD P o e w v w'/\St c w' (L++[dF [v] [q]]) R:=by refine bBB (ps:=[(0,x)]) (vs:=[v]) (cells:=[c0]) [q] m hn g a rfl ak ak ⟨b,rfl⟩ h (by simp[evs,f]) ?_;exact bBK l
theorem bBL{D:Nat}(a:P.underlying t=some (.slice el)):(Op.equalIn (D+1) t (.slice none n m) (.slice none 0 0)).run P w=.ok true w:=by simp[Op.equalIn,run_underlying a]
theorem bBM{D:Nat}{b:Addr}(a:P.underlying t=some (.slice el)):(Op.equalIn (D+1) t (.slice (some b) n m) (.slice none 0 0)).run P w=.ok false w:=by simp[Op.equalIn,run_underlying a]
theorem a3X{d:TypeId}(l:P.underlying t=some (.slice el))(h:∃n m,s=.slice none n m)(p:o.op=.binOp .eql t x y d)(g:ev e x=some s)(f:ev e y=some (.slice none 0 0)):gD P o e w (.bool true) w:=λ_ a b=>by obtain⟨n,m,rfl⟩:=h;have r:binOp .eql t (.slice none n m) (.slice none 0 0)=(do pure (.bool (<-Op.equal t (.slice none n m) (.slice none 0 0)))):=rfl;have q:(Op.equal t (.slice none n m) (.slice none 0 0)).run P w=.ok true w:=bBL (D:=9999) l;simp[execOp,p,b.eval g,b.eval f,eqGuard,r,q]
theorem a3Y{f:TypeId}(p:P.underlying t=some (.slice el))(h:∃a n m,s=.slice (some a) n m)(q:o.op=.binOp .eql t x y f)(l:ev e x=some s)(g:ev e y=some (.slice none 0 0)):gD P o e w (.bool false) w:=λ_ a d=>by obtain⟨b,n,m,rfl⟩:=h;have u:binOp .eql t (.slice (some b) n m) (.slice none 0 0)=(do pure (.bool (<-Op.equal t (.slice (some b) n m) (.slice none 0 0)))):=rfl;have r:(Op.equal t (.slice (some b) n m) (.slice none 0 0)).run P w=.ok false w:=bBM (D:=9999) p;simp[execOp,q,d.eval l,d.eval g,eqGuard,u,r]
end
structure Raw where
 v:Value
abbrev cd:=List Raw
abbrev cu:=List (List Raw)
instance:Inhabited Raw:=⟨⟨.slice none 0 0⟩⟩
instance:aN Raw where
 n:=1
 rd:=λ_ _ cs x=>cs=[x.v]/\x.v.oneCell'=true
 own:=λ_ cs x F=>(cs=[x.v]/\x.v.oneCell'=true)/\∀b o,¬F b o
 nY:=λh=>by simp[h.1]
 rd_one:=λh v hv=>aj
 rd_agree:=λh _=>h
 rd_mono:=λh _=>h
 own_rd:=λh=>h.1
 own_keep:=λh _ _=>h
 own_lt:=λh hf=>(h.2 _ _ hf).elim
instance:Flat Raw:=⟨λh=>⟨h,λ_ _ h=>h⟩,λh=>h.2⟩
def aCP{O:Type}[aN O](S:dA)(w:World)(us:cd)(l:List O):Prop:=us.length=l.length/\∀(i:Nat) (u:Raw) (x:O),us[i]?=some u->l[i]?=some x->aN.rd S w [u.v] x
theorem aCP.append[aN O]{S:dA}{us vs:cd}{l m:List O}(h:aCP S w us l)(k:aCP S w vs m):aCP S w (us++vs) (l++m):=by
 refine⟨by simp[h.1,k.1],λi u x c b=>?_⟩;rw[aLX] at c b;rw[h.1] at c;split at c
 .rename_i a;rw[aM a] at b;exact h.2 i u x c b
 .rename_i a;rw[aO a] at b;exact k.2 _ u x c b
def bKU[aN O](hn:aN.n O=1){S:dA}{l:List O}(h:aN.rd S w [s] l):∃us:cd,aN.rd S w [s] us/\aCP S w us l:=by
 obtain⟨z,c,e,y,m,d⟩:=(show AB S w [s] l from h);obtain d|⟨b,off,rfl,d⟩:=d
 .subst d;exact⟨[],⟨z,c,e,y,m,.inl rfl⟩,rfl,λi u x j=>by simp at j⟩
 .have r:∀i,i<l.length->∃v:Value,bU w b (off+i*1) [v]/\(∀o,fQ b (off+i*1) 1 b o->S b o)/\v.oneCell'=true/\∀x,l[i]?=some x->aN.rd S w [v] x:=λi k=>by obtain⟨ec,q,p,n⟩:=d i k;have t:=aN.nY n;rw[hn] at t q p;grind[List.length_eq_one_iff,aN.rd_one]
  obtain⟨f,g⟩:=Go.Deep.choose_lt (α:=Value) r;refine⟨(List.range l.length).map λi=>⟨f i⟩,⟨_,c,by rw[e];simp,aj,m,.inr ⟨b,off,rfl,λi k=>?_⟩⟩,ae,λi u x j A=>?_⟩
  .have a:i<l.length:=aj
   refine⟨[f i],(g i a).1,(g i a).2.1,?_⟩;simp only[List.getElem_map,List.getElem_range];exact⟨rfl,(g i a).2.2.1⟩
  grind
def bBN[aN O](hn:aN.n O=1){S:dA}{us:cd}{l:List O}(h:aN.rd S w [s] us)(f:aCP S w us l):aN.rd S w [s] l:=by
 obtain⟨p,c,e,o,n,a⟩:=(show AB S w [s] us from h);have g:us.length=l.length:=f.1;refine⟨p,c,by rw[e,g],g ▸ o,n,?_⟩;obtain a|⟨b,off,rfl,a⟩:=a
 .grind
 .right;refine⟨b,off,rfl,λi m=>?_⟩;obtain⟨ec,k,j,d⟩:=a i aa;have d:ec=[(us[i]' aa).v]/\_:=d;refine⟨ec,by rw[hn];exact k,by rw[hn];exact j,?_⟩;rw[d.1];exact f.2 i _ _ (mA _) (mA m)
def bBO(s:Value)(n:Nat):Chunk where
 P:=λw F=>∃b off len c,s=.slice (some ⟨b,off,none⟩) len c/\c<=maxLen/\Row w b off (c*n)/\∀d o,F d o↔fQ b off (c*n) d o
 keep:=by rintro w w' F G ⟨b,off,len,c,e,h,a,f⟩ g j;exact⟨b,off,len,c,e,h,λo p=>⟨g.stay b o (a o p).1,(g.AV b o (lF (a o p).1)).trans (a o p).2⟩,f⟩
 lt:=by rintro w F d o ⟨b,off,len,c,e,h,a,f⟩ i;have p:=(f d o).1 i;obtain rfl:d=b:=p.1;exact lF (a o p).1
section
variable {v:Value} {k k2:IntKind} {i j:Int} {P:Program} {o:Oper} {e:Env} {w w':World} {c:Ctx} {L:bc} {R:bn} {x y z:Operand} {t t2 el:TypeId}
theorem St.bKV(h:St c w L R)[aN O](m:Nat)(g:L[m]?=some (bBO s n))(hn:aN.n O=n):St c w (L.set m (dF [jT n 0 0 s] ([]:List O))) R:=
 h.aHK m g λF f=>by
  obtain⟨b,off,len,cp,rfl,r,p,f⟩:=f;have e:jT n 0 0 (.slice (some ⟨b,off,none⟩) len cp)=.slice (some ⟨b,off,none⟩) 0 cp:=by simp[jT,Addr.add]
  subst hn;refine⟨λd a=>fQ b off (cp*aN.n O) d a\/F0 d a,F0,fN.refl _ _,λ_ _ h=>h.elim,?_,λd a q=>.inl ((f d a).2 (q.elim id λq=>q.elim))⟩;show aN.own w [_] ([]:List O) _;rw[e];exact MY (l:=([]:List O)) (cc:=[]) (Fe:=F0) p (λj v h=>by simp at h) ⟨rfl,λ_ _ h=>h⟩ (λ_ _ h=>h.elim) (lR _) r
theorem a8Q(d:P.underlying t=some (.slice el))(f:o.op=.call {callee:=.builtin .cap,args:=#[x],argTypes:=#[t]})(b:ev e x=some (.slice none 0 0)):gD P o e w (.int .i64 0) w:=λ_ a g=>by simp[execOp,f,resolve,invoke,builtin,Builtin.cap_,g.eval b,run_underlying d,goInt]
theorem bGZ{z:Value}(hS:St c w L R)(W:P.underlying t=some (.slice el))(u:P.underlying t2=some (.int k))(l:XE P el m z)(s:z.cells.size=m)(Y:Nat.ble 1 m=true)
  (hb:1<=i/\i<=1073741824) (X:o.op=.call {callee:=.builtin .append,args:=#[x,y],argTypes:=#[t,t2]}) (U:ev e x=some (.slice none 0 0)) (T:ev e y=some (.int .i64 i)) :
  ∃v w',gD P o e w v w'/\St c w' (L++[bBO v m]) R/\∃ad cp,v=.slice ad i.toNat cp:=by
 obtain⟨r,A,S,B,H⟩:=l;obtain⟨b0,b1⟩:=hb;have V:IntKind.i64.wrap i=i:=by grind[IntKind.wrap,IntKind.bits]
 have E:¬(i.toNat<=0):=aa
 have f:i.toNat*r.bytes<=140737488355328:=by have:i.toNat*r.bytes<=1073741824*65536:=Nat.mul_le_mul aa H;omega
 have K:=growslice_fits (need:=i.toNat) (old:=0) (bytes:=r.bytes) aa f;obtain⟨O,F⟩:i.toNat<=grownCap w i.toNat 0 el/\grownCap w i.toNat 0 el<=maxLen:=⟨grownCap_ge _ _ _ _,grownCap_le_maxLen _ _ _ _ (by grind[maxLen])⟩;have d:∃cs:b4,cs.size=grownCap w i.toNat 0 el*m/\(Builtin.append_ #[t,t2] o.type #[.slice none 0 0,.int .i64 i]).run P w=.ok (.slice (some ⟨w.heap.size,0,none⟩) i.toNat (grownCap w i.toNat 0 el)) (w.drew.alloc (.cells cs el)):=by
  have D:¬(i<=0):=aa
  have Z:(i.toNat:Int)=i:=aa
  have n:¬(9223372036854775807<i):=aa
  have q:¬(281474976710656<Builtin.nextslicecap i.toNat 0*r.bytes):=aa
  have I:¬(281474976710656<i*(r.bytes:Int)):=aj
  have g:¬(i<0):=aa
  have h:max i 0=i:=aa
  have N:=XC Y;have C:¬(i.toNat*m=0):=by grind[Nat.mul_eq_zero]
  refine⟨Builtin.zeroCells z.cells i.toNat++Builtin.zeroCells z.cells (grownCap w i.toNat 0 el-i.toNat),?_,?_⟩
  rotate_left 1
  .have G:(Builtin.firstCells m 0 (.slice none 0 0)).run P w.drew=.ok #[] w.drew:=rfl;simp[Builtin.append_,run_underlying W,run_underlying u,sizeOf,typeInfo,zeroValue,A,S,B,Builtin.lenOf,asInt,asIntOf,V,g,I,E,n,q,Question.forced,newRow,grownCap,G,C,Z,D,h]
  .rw[Array.size_append,size_zeroCells,size_zeroCells,s,<-pP];grind
 obtain⟨cs,Q,d⟩:=d;refine⟨.slice (some ⟨w.heap.size,0,none⟩) i.toNat (grownCap w i.toNat 0 el),w.drew.alloc (.cells cs el),λ_ a M=>?_,?_,_,_,rfl⟩
 rotate_left 1
 .refine(hS.same (fN.drew F0 w)).more (fN.alloc _ _ _) ⟨fQ w.heap.size 0 (grownCap w i.toNat 0 el*m),⟨_,_,_,_,rfl,F,λJ p=>?_,λ_ _=>Iff.rfl⟩,λb J p=>QM p.1.symm⟩;obtain⟨_,_,h3⟩:=p;refine⟨?_,World.frozen?_alloc_at (hn:=rfl) ..⟩;have h4:(w.drew.alloc (.cells cs el)).cell? ⟨w.drew.heap.size,J,none⟩=cs[J]?:=by grind[World.cell?_alloc_at]
  simp_all
 .simp[execOp,X,resolve,invoke,builtin,M.eval U,M.eval T,d]
theorem a6M(h:∃f len d,s=.slice f len d)(p:P.underlying t=some (.slice el))(g:∀w,(sizeOf el).run P w=.ok n w)(q:o.op=.slice t x none (some z) none)(l:ev e x=some s)(m:ev e z=some (.int k2 0)):gD P o e w (jT n 0 0 s) w:=λ_ a b=>by obtain⟨f,len,d,rfl⟩:=h;simp[execOp,q,Instr.sliceAt,Instr.slice,run_underlying p,Instr.sliceBounds,b.eval l,b.eval m,Instr.sliceBound,asIntOf,g,jT]
end
open Go.ChangeShapes Go.WideShapes Go.ChangeAt Go.RowKit
class Fits (O:Type) where
 fit:O->Prop
abbrev fit{O:Type}[Fits O](x:O):Prop:=Fits.fit x
instance:Fits Int:=⟨λx=>-9223372036854775808<=x/\x<=9223372036854775807⟩
instance:Fits Bool:=⟨λ_=>True⟩
instance:Fits UInt8:=⟨λ_=>True⟩
instance:Fits bJ3:=⟨λs=>s.b.length<=maxLen⟩
instance {O β:Type} [Fits O] [Fits β]:Fits (O×β):=⟨λp=>fit p.1/\fit p.2⟩
instance {O:Type} [Fits O]:Fits (List O):=⟨λl=>l.length<=maxLen/\∀x∈l,fit x⟩
@[reducible] def Fits.via {O β : Type} [Fits β] (f : O -> β) : Fits O := ⟨λx => fit (f x)⟩
def aEE(P:Program)(t:TypeId)(O:Type)[aN O][Fits O]:Prop:=
 ∀{H:Type} {enc:TypeId×Value->H} {w:World} {spare:Nat->Bool} {held:Bool} {fuel:Nat} {cs:ao} {x:DataW H×List MemPlace},
  DataW.trod enc P w 0 spare held fuel t cs=some x->∃d:O,aN.rd (All w) w cs d/\fit d
def bBP(a:P.underlying t=some (.int .u8)):aEE P t UInt8:=λh=>by
 obtain⟨n,rfl,_,b⟩:=DataW.trod_int a h;have c:0<=n/\n<=255:=by simpa[Lit.wf,show IntKind.u8.min=0 by decide,show IntKind.u8.max=255 by decide] using b
 refine⟨UInt8.ofNat n.toNat,?_,trivial⟩;show [Value.int .u8 n]=[Value.int .u8 ((UInt8.ofNat n.toNat).toNat:Int)]
 (simp_all;omega)
def a0O{e:TypeId}[aN O][Fits O](E:P.underlying t=some (.slice e))(J:P.cellsOf e=aN.n O)(hn:0<aN.n O)(I:aEE P e O):aEE P t (List O):=λ{H enc w spare held fuel cs x} h=>by
 obtain⟨rfl,_⟩|⟨a,len,cap,m,n,D,N,rfl,_,M,hm,A,_,k⟩:=Go.Deep.open_slice E h
 .exact⟨[],⟨none,0,rfl,jR _,lR _,.inl rfl⟩,lR _,λ_ h=>nomatch h⟩
 .have B:len<=m:=aj
  rw[J] at k;by_cases K:len=0
  .subst K;exact⟨[],⟨some a,cap,rfl,lR _,hm,.inl rfl⟩,lR _,λ_ h=>nomatch h⟩
  have one:∀i,i<len->∃d:O,(∃ec,w.cells? 0 (a.add (i*aN.n O)) (aN.n O)=some ec/\aN.rd (All w) w ec d)/\fit d:=λi F=>by obtain⟨ec,l,s⟩:=k i aa;obtain⟨d,r,g⟩:=I s;grind
  obtain⟨L,_⟩:=one 0 aa;haveI:Inhabited O:=⟨L⟩;obtain⟨f,G⟩:=Go.Deep.choose_lt one;obtain⟨b,off,u⟩:=a;refine⟨(List.range len).map f,⟨some ⟨b,off,u⟩,cap,ae,aj,hm,?_⟩,ah,λx k=>by
   grind⟩
  right;have p:u=none:=by obtain⟨ec,l,_⟩:=k 0 aa;obtain⟨_,s,r⟩:=World.cells?_some l;have g:=r 0 hn;rw[mA aa] at g;have z:=World.cell?_spot g;grind[Addr.add]
  subst p;refine⟨b,off,rfl,λi F=>?_⟩;have q:i<len:=aj
  obtain⟨ec,l,s⟩:=(G i q).1;obtain⟨_,r,g⟩:=World.cells?_some l;have c:bU w b (off+i*aN.n O) ec:=λj v y=>by
   obtain⟨C,_⟩:=I8.1 y;have z:=g j aa;rw[y] at z;have e:((⟨b,off,none⟩:Addr).add (i*aN.n O)).add j=⟨b,off+i*aN.n O+j,none⟩:=by rw[Go.Deep.add_add];grind[Addr.add]
   grind
  refine⟨ec,c,λo _=>?_,aj⟩;exact c.lt (λe=>aj)
def Trod.opens{H:Type}{b:TypeId×Value->H}{a:Nat->Bool}{held:Bool}{v:Value}{x:DataW H}{ps:List MemPlace}[aN O][Fits O](e:aEE P t O)(h:DataW.Trod b P w 0 a held t v x ps) :
  ∃d:O,aN.rd (All w) w v.cells.toList d/\fit d:=by obtain⟨c,f⟩:=h;exact e f
def St.below{w0:World}{L:bc}{R:bn}(h:St (fT w0) w' L R):Below w0.heap.size w0 w':=⟨h.keep.os,h.keep.tape,h.keep.output,h.keep.size,λk a=>h.keep.block k a λ_ b=>b⟩
end Go.Gv
end
noncomputable section
namespace Go.Gv
variable{op:BinOp}{c:Ctx}{i j:Int}{k:IntKind}{R:bn}{vs:ao}{m n:Nat}{O:Type}{t z:TypeId}{s:Value}{w:World}{F:dA}
section
variable {P:Program} {op:Op} {ty:TypeId} {ps:String} {af:Array Edge} {ops:bj} {rest:cj} {Q:Exit->Act->World->Prop} {n d:Nat} {e:Env} {v:Value} {w w':World} {c:Ctx} {L:bc} {R:bn}
theorem ey{N:Act->World->Prop}{X:Nat->Act->World->Prop}{T:Act->World->Prop}{a:Nat}{qW:Array Bool}(i:Nat)(g:ops[i]?=some ⟨some d,op,ty,ps,af,none⟩)
  (b:(Region.noSelect ops && (Region.free .any ops qW i && (Region.ready .any ops qW).contains i))=true) (h:bA7 c L R w) (f:∀(L':bc) (w':World),St c w' (L++L') R->gD P ⟨some d,op,ty,ps,af,none⟩ e w' v w') (hn:Nat.blt d n=true)
  (k:bGQ P ops (mkQ N X T) (bA7 c L R) a (qW.setIfInBounds i true) n ((d,v)::e) w):bGQ P ops (mkQ N X T) (bA7 c L R) (a+1) qW n e w:=by rw[ET,ET] at b;grind[bM7,a0L]
end
def fAt(b off:Nat)(cs:ao):Fact where
 P:=λS w=>bU w b off cs/\∀o,fQ b off cs.length b o->S b o
 agree:=λ⟨d,a⟩ c=>⟨d.agree λo f e=>c b o (a o ⟨rfl,f,e⟩),a⟩
 mono:=λ⟨d,a⟩ c=>⟨d,λo h=>c b o (a o h)⟩
def bKW[aN O]{S:dA}{l:List O}(h:aN.rd S w [s] l){k:Nat}{x:O}(i:l[k]?=some x):∃ec,(fAt (elB s) (Y5 (aN.n O) k s) ec).P S w/\aN.rd S w ec x:=by
 obtain⟨t,m,d,r,q,a⟩:=(show AB S w [s] l from h);obtain⟨c,f⟩:=I8.1 i;simp at d;subst d;obtain a|⟨b,off,rfl,a⟩:=a
 .grind
 .obtain⟨ec,j,n,e⟩:=a k c;have p:ec.length=aN.n O:=aN.nY e;exact⟨ec,⟨j,λo g=>n o g⟩,f ▸ e⟩
def St.fat{L:bc}{b off:Nat}{cs:ao}(h:St c w L R)(j:Nat)(a:R[j]?=some (fAt b off cs)):bU w b off cs:=(h.fact j a).1
def bM9(off:Nat):∀(l:ao) (k:Nat) (cells:b4),off+k+l.length<=cells.size ->
  ((l.zipIdx k).foldl (λcs (q:Value×Nat)=>cs.setIfInBounds (off+q.2) q.1) cells).toList=cells.toList.take (off+k)++l++cells.toList.drop (off+k+l.length)
 |[],k,cells,h=>ae
 |c::r,k,cells,h=>by
  have a:off+k<cells.size:=aj
  rw[List.zipIdx_cons,List.foldl_cons,bM9 off r (k+1) _ aj];simp only[Array.toList_setIfInBounds];have d:(cells.toList.set (off+k) c).take (off+(k+1))=cells.toList.take (off+k)++[c]:=by rw[show off+(k+1)=(off+k)+1 by omega,UR aj,List.take_set_of_le (jR _),List.getElem_set_self]
  have b:(cells.toList.set (off+k) c).drop (off+(k+1)+r.length)=cells.toList.drop (off+k+(c::r).length):=by rw[List.drop_set_of_lt aa];grind
  grind
def a0P(n:Nat):∀(vs:ao) (i:Nat) (cells:b4),(∀v∈vs,v.cells.size=n)->cells.size=(i+vs.length)*n ->
  Instr.fill (λi=>some (i*n,n)) cells ((List.range' i vs.length).zip vs)=some (cells.toList.take (i*n)++vs.flatMap λv=>v.cells.toList).toArray
 |[],i,cells,_,h=>by simp_all[aHJ,Instr.fill]
 |v::r,i,cells,c,h=>by
  have j:=c v aFH;have b:(i+(r.length+1))*n=i*n+n+r.length*n:=aj
  have f:i*n+n<=cells.size:=aj
  have d:=bM9 (i*n) v.cells.toList 0 cells ah;have k:v.cells.zipIdx.foldl (λcs (q:Value×Nat)=>cs.setIfInBounds (i*n+q.2) q.1) cells=(v.cells.toList.zipIdx 0).foldl (λcs (q:Value×Nat)=>cs.setIfInBounds (i*n+q.2) q.1) cells:=by grind[Array.toList_zipIdx]
  rw[<-k] at d;simp only[UQ,List.range'_succ,List.zip_cons_cons,Instr.fill,j];rw[aO ah];have a:(v.cells.zipIdx.foldl (λcs (q:Value×Nat)=>cs.setIfInBounds (i*n+q.2) q.1) cells).size=cells.size:=by grind[Array.length_toList]
  rw[a0P n r (i+1) _ (λx g=>c x (uI _ g)) aj,d];congr 2;have e:(i+1)*n=i*n+n:=aj
  rw[e,aFJ,List.take_append_of_le_length ah];grind
def aP6{ps:cr}{cells:ao}{len:Nat}{F:Nat->Value}(d:ps.map (·.1)=List.range' 0 len)(a:vs.length=len)(c:vs.all (λv=>v.cells.size == m)=true)(b:(vs.flatMap λv=>v.cells.toList)=cells) :
  Instr.fill (λi=>some (i*m,m)) ((Array.range (len*m)).map F) ((ps.map (·.1)).zip vs)=some cells.toArray:=by subst a;simp_all[a0P]
def bG0(n a b m:Nat):Value->Value
 |.slice c _ _=>.slice (if m=a then c else c.map (·.add (a*n))) (b-a) (m-a)
 |v=>v
def bG1[aN O]{k:Option Addr}{l:List O}{c:Nat}(h:aN.own w [.slice k l.length c] l F)(z:l.length<=m)(y:m<=c)(E:0<m):∃n,aN.own w [.slice k l.length m] l n/\∀b o,n b o->F b o:=by
 obtain⟨r,H,e,D,C,s⟩:=nN.1 h;simp at e;obtain⟨rfl,rfl⟩:=e;obtain⟨_,j,_⟩|⟨A,off,G,B,rfl,t,j,u,v,x⟩:=s
 .omega
 .have g:m*aN.n O<=c*aN.n O:=xX _ y;refine⟨λa o=>fQ A off (m*aN.n O) a o\/B a o,MY (λo p=>t o ?_) j u (λa o p q=>v a o p ?_) z aa,?_⟩
  .obtain⟨f,d,i⟩:=p;exact⟨f,d,aa⟩
  .obtain⟨f,d,i⟩:=q;exact⟨f,d,aa⟩
  .rintro a o (p|p)
   .obtain⟨f,d,i⟩:=p;exact(x a o).2 (.inl ⟨f,d,aa⟩)
   grind
def SQ[aN O]{l:List O}(h:aN.own w [s] l F):∃a c,s=.slice a l.length c/\l.length<=c:=by grind[nN]
def bBQ[aN O]{l:List O}{a b:Nat}(hn:aN.n O=n)(h:aN.own w [s] l F)(q:a<=b)(k:b<=m)(i:m<=l.length):∃u,aN.own w [bG0 n a b m s] ((l.take b).drop a) u/\∀b o,u b o->F b o:=by
 have I:=wV q (wI k i);obtain⟨t,c,rfl,J⟩:=SQ h;by_cases hm:m=a
 .have C:b=a:=aa
  have B:(l.take b).drop a=[]:=aj
  rw[B];simp only[bG0,hm,C,Nat.sub_self,aS];refine⟨F0,?_,λ_ _ h=>h.elim⟩;obtain⟨z,L,e,d,g,f⟩:=nN.1 h;simp at e;obtain⟨rfl,rfl⟩:=e;obtain⟨rfl,y,_⟩|⟨r,off,K,M,rfl,_⟩:=f
  .exact⟨none,0,rfl,jR _,lR _,.inl ⟨rfl,rfl,λ_ _ h=>h⟩⟩
  .exact nN.2 ⟨some ⟨r,off,none⟩,0,rfl,jR _,lR _,.inr ⟨r,off,[],F0,rfl,λo p=>by obtain⟨_,H,G⟩:=p;omega,λj v h=>by simp at h,⟨rfl,λ_ _ h=>h⟩,λ_ _ h=>h.elim,λD o=>by
    simp[F0,fQ]⟩⟩
 .obtain⟨N,d,g⟩:=a6L hn h q (wI k i);have x:c≠a:=aa
  have e:jT n a b (.slice t l.length c)=.slice (t.map (·.add (a*n))) ((l.take b).drop a).length (c-a):=by simp_all[jT]
  rw[e] at d;obtain⟨E,f,A⟩:=bG1 (m:=m-a) d aa aa aa;refine⟨E,?_,λD o p=>g _ _ (A _ _ p)⟩;simp_all[bG0]
def dM{O:Type}(l:List O)(a:Nat)(xs:List O):List O:=l.take a++(xs.take (l.length-a)++l.drop (a+xs.length))
theorem gG{l:List O}{a:Nat}{xs:List O}(h:a<=l.length):(dM l a xs).length=l.length:=by grind[dM]
theorem aEF{l:List O}{a:Nat}{xs:List O}(h:a<=l.length){i:Nat}{x:O}(b:(dM l a xs)[i]?=some x) :
  (a<=i/\i<a+min xs.length (l.length-a)/\xs[i-a]?=some x)\/((i<a\/a+min xs.length (l.length-a)<=i)/\l[i]?=some x):=by unfold dM at b;rw[aLX] at b;grind
def XF[aN O][Flat O](P:Program){w0:World}{S:dA}{b off cap a k:Nat}{l l':List O}{f:ao}(h:aN.own w [.slice (some ⟨b,off,none⟩) l.length cap] l F)(V:l'.length=l.length)(M:f.length=k*aN.n O)(J:a+k<=cap)(u:∀v∈f,v.oneCell'=true)
  (hr:∀i x,l'[i]?=some x->(a<=i/\i<a+k/\aN.rd S w0 (PM f (aN.n O) (i-a)) x)\/((i<a\/a+k<=i)/\l[i]?=some x)) :
  ∃w' G T,(storeCells ⟨b,off+a*aN.n O,none⟩ f).run P w=.ok () w'/\fN G w w'/\(∀b o,G b o->F b o)/\aN.own w' [.slice (some ⟨b,off,none⟩) l'.length cap] l' T/\∀b o,T b o->F b o:=by
 obtain⟨ad,c,e,k1,Z,Y⟩:=(show O3 w [_] l F from h);simp at e;obtain⟨rfl,rfl⟩:=e;obtain⟨B,_,_⟩|⟨b2,K,Fs,B,d,I,X,W,z⟩:=Y
 .cases B
 simp at B;obtain⟨rfl,rfl⟩:=B;have L:a*aN.n O+k*aN.n O<=cap*aN.n O:=by rw[<-pP];exact xX _ J
 obtain⟨w',D,g,U,n⟩:=rT (b:=b) P f w (off+a*aN.n O) 0 u (λq _ hq=>d _ ⟨rfl,aa,aa⟩);refine⟨w',_,fQ b off (cap*aN.n O),D,g,λC m p=>(z C m).2 (.inl ?_),?_,λC m p=>(z C m).2 (.inl p)⟩
 .obtain⟨e1,e2,R⟩:=p;exact⟨e1,aa,aa⟩
 .refine⟨_,cap,rfl,aa,Z,.inr ⟨b,off,λ_=>F0,rfl,λm r=>⟨g.stay b m (d m r).1,(g.AV b m (lF (d m r).1)).trans (d m r).2⟩,λi hi=>?_,λ_ _ _ _ _ _ _ h _=>h,λ_ _ _ _ h _=>h,λC o=>by simp[F0]⟩⟩;rcases hr i l'[i] (mA hi) with ⟨A,Q,g3⟩|⟨A,Q⟩
  .refine⟨PM f (aN.n O) (i-a),?_,Flat.own_of g3⟩;intro j v t;have s:=(I8.1 t).1;rw[aP2 M aa] at s;rw[wU s] at t;have:=n _ v t;have E:i*aN.n O=a*aN.n O+(i-a)*aN.n O:=by rw[<-pP];grind
   rw[show off+i*aN.n O+j=off+a*aN.n O+0+((i-a)*aN.n O+j) from by omega];exact this
  .obtain⟨H,hx⟩:=I8.1 Q;obtain⟨ec,c1,c2⟩:=I i H;have y:=aN.own_rd c2;have hn:=aN.nY y;refine⟨ec,?_,hx ▸ Flat.own_of y⟩;intro j v t;have s:=(I8.1 t).1;have N:=c1 j v t;have E:(i+1)*aN.n O=i*aN.n O+aN.n O:=aj
   rw[g.cell b (off+i*aN.n O+j) (World.block_lt_of_cell? w _ N) (λhh=>by
    obtain⟨_,e2,R⟩:=hh;rw[M] at R;obtain A|A:=A
    .have:(i+1)*aN.n O<=a*aN.n O:=xX _ aa;omega
    .have:(a+k)*aN.n O<=i*aN.n O:=xX _ A;grind)]
   exact N
section
variable {v:Value} {i j:Int} {P:Program} {o:Oper} {e:Env} {w w':World} {c:Ctx} {L:bc} {R:bn} {x y z:Operand} {t t2 el:TypeId}
theorem a6N[aN O][Flat O]{s2:Value}{l xs:List O}{a:Nat}(m:Nat)(hS:St c w L R)(hm:L[m]?=some (dF [s] l))(M:aN.rd (All w) w [s2] xs)(hn:aN.n O=n)(Z:a<=l.length)(hu:P.underlying t=some (.slice el))(hz:∀w,(sizeOf el).run P w=.ok n w)
  (ho:o.op=.call {callee:=.builtin .copy,args:=#[x,y],argTypes:=#[t,t2]}) (X:ev e x=some (jT n a l.length s)) (hy:ev e y=some s2) :
  ∃v w',gD P o e w v w'/\(v=.int .i64 ((min xs.length (l.length-a):Nat):Int)/\St c w' (L.set m (dF [s] (dM l a xs))) R):=by
 subst hn;obtain⟨J,c2,f,rfl,hl2,hc2,hr2⟩:=SU M;obtain⟨F,K⟩:=hS.chunk m hm;have K:aN.own w [s] l F:=K;obtain⟨ad,B,rfl,hlc⟩:=SQ K;have hk:(f.take (min xs.length (l.length-a)*aN.n O)).length=min xs.length (l.length-a)*aN.n O:=by simp_all
 have d:(Builtin.firstCells (aN.n O) (min xs.length (l.length-a)) (.slice J xs.length c2)).run P w=.ok (f.take (min xs.length (l.length-a)*aN.n O)).toArray w:=by
  obtain h|⟨b,off,rfl,h⟩:=hc2
  .subst h;have h0:f=[]:=AX aj;subst h0;cases J<;>simp[Builtin.firstCells,loadCells,loadCellsFrom]
  grind[bU,uJ,Builtin.firstCells]
 have D:∀v∈f.take (min xs.length (l.length-a)*aN.n O),v.oneCell'=true:=λv hv=>aO7 hl2 hr2 v (List.mem_of_mem_take hv);have r:∀(w':World),(Builtin.copy_ #[t,t2] o.type #[jT (aN.n O) a l.length (.slice ad l.length B),.slice J xs.length c2]).run P w=.ok (.int .i64 ((min xs.length (l.length-a):Nat):Int)) w'->gD P o e w (.int .i64 ((min xs.length (l.length-a):Nat):Int)) w':=by intro w' h _ a' hA;simp[execOp,ho,resolve,invoke,builtin,hA.eval X,hA.eval hy,h]
 have hmn:Nat.min xs.length (l.length-a)=min xs.length (l.length-a):=rfl;obtain⟨ad',cap',he,_,_,H⟩:=(show O3 w [_] l F from K);simp at he;obtain⟨rfl,rfl⟩:=he;by_cases h0:min xs.length (l.length-a)=0
 ·
  have E:dM l a xs=l:=by
   unfold dM;by_cases h1:xs.length=0
   .simp_all
   .have h2:l.length=a:=aa
    rw[<-h2];simp
  rw[E];have hcz:f.take (min xs.length (l.length-a)*aN.n O)=[]:=aj
  rw[hcz] at d;refine⟨_,w,r _ ?_,rfl,?_⟩
  .rw[h0] at d ⊢;have u:Nat.min xs.length (l.length-a)=0:=h0;cases ad with
   |none=>simp[Builtin.copy_,run_underlying hu,jT,Builtin.lenOf,hz,u,d,goInt]
   |some a0=>
    by_cases A:B=a
    .simp[Builtin.copy_,run_underlying hu,jT,A,Builtin.lenOf,hz,u,d,goInt,storeCells]
    .simp[Builtin.copy_,run_underlying hu,jT,A,Builtin.lenOf,hz,u,d,goInt,storeCells]
  .refine hS.aHK m hm λF K=>⟨F,F0,fN.refl _ _,λ_ _ h=>h.elim,K,λ_ _ h=>.inl h⟩
 .have A:B≠a:=aa
  obtain⟨_,hc0,_⟩|⟨b,off,Fs,rfl,_⟩:=H
  .omega
  have T:(⟨b,off,none⟩:Addr).add (a*aN.n O)=⟨b,off+a*aN.n O,none⟩:=by grind[Addr.add]
  have hbl:=XF P (S:=All w) (w0:=w) (a:=a) (k:=min xs.length (l.length-a)) (l':=dM l a xs) K (gG Z) hk aa D (λi x X=>by
   obtain⟨g1,g2,g3⟩|g:=aEF Z X
   .refine .inl ⟨g1,g2,?_⟩;have hs:PM (f.take (min xs.length (l.length-a)*aN.n O)) (aN.n O) (i-a)=PM f (aN.n O) (i-a):=by
     apply aFF;intro p;by_cases Y:p<aN.n O
     .have:(i-a+1)*aN.n O<=min xs.length (l.length-a)*aN.n O:=xX _ aa;rw[pP] at this;rw[wU Y,wU Y,aLZ,aM aa]
     grind[PM]
    grind
   grind)
  obtain⟨w',G,F',W,hkp,hGF,hown,hFF⟩:=hbl;refine⟨_,w',r w' ?_,rfl,?_⟩
  .simp[Builtin.copy_,run_underlying hu,jT,A,Builtin.lenOf,hz,hmn,d,T,W,goInt]
  .refine hS.aHK m hm λF2 I=>?_;have I:aN.own w [.slice (some ⟨b,off,none⟩) l.length B] l F2:=I;have Q:=XF P (S:=All w) (w0:=w) (a:=a) (k:=min xs.length (l.length-a)) (l':=dM l a xs) I (gG Z) hk aa D (λi x X=>by
    obtain⟨g1,g2,g3⟩|g:=aEF Z X
    .refine .inl ⟨g1,g2,?_⟩;have hs:PM (f.take (min xs.length (l.length-a)*aN.n O)) (aN.n O) (i-a)=PM f (aN.n O) (i-a):=by
      apply aFF;intro p;by_cases Y:p<aN.n O
      .have:(i-a+1)*aN.n O<=min xs.length (l.length-a)*aN.n O:=xX _ aa;rw[pP] at this;rw[wU Y,wU Y,aLZ,aM aa]
      grind[PM]
     grind
    grind)
   obtain⟨w2,G2,F3,C,N,U,q,V⟩:=Q;rw[W] at C;cases C;rw[gG Z] at q;exact⟨F3,G2,N,U,q,λb' o' p=>.inl (V b' o' p)⟩
theorem bBR[aN O]{w:World}{l:List O}(h:aN.own w [s] l F):jT n 0 l.length s=s:=by obtain⟨a,c,rfl,_⟩:=SQ h;simp[jT,Addr.add]
theorem bBS[aN O][Flat O]{b:Value}{l xs:List O}(m:Nat)(f:St c w L R)(d:L[m]?=some (dF [s] l))(a:aN.rd (All w) w [b] xs)(hn:aN.n O=n)(p:P.underlying t=some (.slice el))(g:∀w,(sizeOf el).run P w=.ok n w)
  (q:o.op=.call {callee:=.builtin .copy,args:=#[x,y],argTypes:=#[t,t2]}) (k:ev e x=some s) (h:ev e y=some b) :
  ∃v w',gD P o e w v w'/\(v=.int .i64 ((min xs.length (l.length-0):Nat):Int)/\St c w' (L.set m (dF [s] (dM l 0 xs))) R):=by obtain⟨F,r⟩:=f.chunk m d;exact a6N m f d a hn (lR _) p g q (by rw[bBR (show aN.own w [s] l F from r)];exact k) h
end
def idx_eq{l:List O}(b:0<=i)(a:i<l.length):idx l i=some (l[i.toNat]' aa):=by simp_all[idx]
theorem aZ{l:List O}{k:Nat}(a:k<l.length):idx l (k:Int)=some l[k]:=by simp[idx]
theorem b7{p:Prop}[Decidable p](h:p)(k:Option O):need p k=k:=by simp_all[need]
theorem V4{x:Int}(h:-9223372036854775808<=x/\x<=9223372036854775807):bB x=x:=by grind[IntKind.wrap,IntKind.bits,IntKind.signed]
theorem lZ{x:Nat}(h:x<maxLen):bB ((x:Int)+1)=((x+1:Nat):Int):=by have a:x<9223372036854775807:=h;grind[V4]
def aXF{ρ:Type}{f:Int->Option (Step Int ρ)}(n:Nat)(g:Nat->ρ)
  (h:∀k:Nat,k<=n->f k=some (.stop (g k))\/(k<n/\f k=some (.next ((k+1:Nat):Int))/\g k=g (k+1))):∀k:Nat,k<=n->loop f (k:Int)=some (g k):=by
 intro k b;obtain⟨d,rfl⟩:∃d,n=k+d:=⟨n-k,aa⟩;induction d generalizing k with
 |zero=>
  grind[bR]
 |succ d c=>
  obtain a|⟨a,i,e⟩:=h k b
  .exact bR a
  grind[bO]
def MZ{l:List O}{k:Nat}(h:k<l.length)(a:l.length<=maxLen):k<maxLen:=aa
def a6O(O:Type)(n:Int):Option (List O):=need (0<=n/\n<=1073741824) (if decide (n<0)=true then none else if decide (0<bB (n-bB (0-0)))=true then some [] else some [])
section
variable {v:Value} {i j:Int} {P:Program} {o:Oper} {e:Env} {w w':World} {c:Ctx} {L:bc} {R:bn} {x y z:Operand} {t t2 el:TypeId}
theorem XG{b off:Nat}:(⟨b,off,none⟩:Addr).add n=⟨b,off+n,none⟩:=by grind[Addr.add]
theorem aJ8[aN O]{l:List O}(h:aN.own w [s] l F):∃a cap cc,s=.slice a l.length cap/\l.length<=cap/\cc.length=l.length*aN.n O/\((a=none/\cap=0/\l=[])\/∃b off,a=some ⟨b,off,none⟩/\bU w b off cc)/\∀i x,l[i]?=some x->aN.rd (All w) w (PM cc (aN.n O) i) x:=by
 have q:aN.rd (All w) w [s] l:=aN.rd_mono (aN.own_rd h) λb o u=>aN.own_lt h u;obtain⟨a,cap,cc,rfl,B,d,A⟩:=SU q;obtain⟨m,g,e,p,C,n⟩:=nN.1 h;simp at e;obtain⟨rfl,rfl⟩:=e;refine⟨a,cap,cc,rfl,p,B,?_,A⟩;obtain⟨rfl,rfl,_⟩|⟨b,off,k,G,rfl,_⟩:=n
 .grind
 .right;obtain d|⟨E,f,d,D⟩:=d
  .subst d;have:cc=[]:=AX aj;subst this;exact⟨b,off,rfl,λj v r=>by simp at r⟩
  grind
theorem a3Z[aN O][Flat O]{l:List O}{a b:Nat}(m:Nat)(hS:St c w L R)(Z:L[m]?=some (dF [s] l))(hn:aN.n O=n)(hab:a<=b)(hb:b<=l.length)(hu:P.underlying t=some (.slice el))(hz:∀w,(sizeOf el).run P w=.ok n w)
  (ho:o.op=.call {callee:=.builtin .append,args:=#[x,y],argTypes:=#[t,t]}) (hx:ev e x=some (jT n 0 a s)) (hy:ev e y=some (jT n b l.length s)) :
  ∃v w',gD P o e w v w'/\(v=jT n 0 (a+(l.length-b)) s/\St c w' (L.set m (dF [s] (dM l a (l.drop b)))) R):=by
 subst hn;obtain⟨F,H⟩:=hS.chunk m Z;have H:aN.own w [s] l F:=H;obtain⟨ad,cap,N,rfl,hlc,W,Y,V⟩:=aJ8 H;have r:∀(v:Value) (w':World),(Builtin.append_ #[t,t] o.type #[jT (aN.n O) 0 a (.slice ad l.length cap),jT (aN.n O) b l.length (.slice ad l.length cap)]).run P w=.ok v w'->gD P o e w v w':=by intro v w' h _ a' hA;simp[execOp,ho,resolve,invoke,builtin,hA.eval hx,hA.eval hy,h]
 obtain⟨rfl,rfl,rfl⟩|⟨f,off,rfl,A⟩:=Y
 .have ha:a=0:=aa
  have hb0:b=0:=aa
  subst ha;subst hb0;refine⟨_,w,r (jT (aN.n O) 0 0 (.slice none 0 0)) w ?_,rfl,?_⟩
  .simp[Builtin.append_,run_underlying hu,jT,Builtin.lenOf,hz,Builtin.firstCells]
  .have:dM ([]:List O) 0 (([]:List O).drop 0)=[]:=rfl;rw[this];exact hS.aHK m Z λF H=>⟨F,F0,fN.refl _ _,λ_ _ h=>h.elim,H,λ_ _ h=>.inl h⟩
 ·
  have hk:(N.drop (b*aN.n O)).length=(l.length-b)*aN.n O:=by grind[Nat.sub_mul]
  have u:∀q,(Builtin.firstCells (aN.n O) (l.length-b) (.slice (if cap=b then some ⟨f,off,none⟩ else some ⟨f,off+b*aN.n O,none⟩) (l.length-b) q)).run P w=.ok (N.drop (b*aN.n O)).toArray w:=by
   intro q;by_cases h0:l.length-b=0
   .have:N.drop (b*aN.n O)=[]:=AX aj;rw[this,h0];split<;>simp[Builtin.firstCells,loadCells,loadCellsFrom]
   .have X:cap≠b:=aa
    rw[aO X];refine MX (O:=O) hk (.inr ⟨f,off+b*aN.n O,rfl,λp v hp=>?_⟩);rw[List.getElem?_drop] at hp;have:=A _ v hp;grind
  have C:∀v∈N.drop (b*aN.n O),v.oneCell'=true:=λv hv=>aO7 W V v (aHH hv);have hdl:(l.drop b).length=l.length-b:=aHG;have D:∀i x,(dM l a (l.drop b))[i]?=some x->(a<=i/\i<a+(l.length-b)/\aN.rd (All w) w (PM (N.drop (b*aN.n O)) (aN.n O) (i-a)) x)\/((i<a\/a+(l.length-b)<=i)/\l[i]?=some x):=by
   intro i x hx;have hmin:min (l.drop b).length (l.length-a)=l.length-b:=aa
   grind[aEF,PM,List.drop_drop,pP]
  have d:a+(l.length-b)<=cap:=aa
  obtain⟨w',G,F',M,hkp,hGF,hown,hFF⟩:=XF P (S:=All w) (w0:=w) (a:=a) (k:=l.length-b) (l':=dM l a (l.drop b)) H (gG aa) hk d C D;have U:jT (aN.n O) 0 a (.slice (some ⟨f,off,none⟩) l.length cap)=.slice (some ⟨f,off,none⟩) a cap:=by simp[jT,XG]
  have T:jT (aN.n O) b l.length (.slice (some ⟨f,off,none⟩) l.length cap)=.slice (if cap=b then some ⟨f,off,none⟩ else some ⟨f,off+b*aN.n O,none⟩) (l.length-b) (cap-b):=by grind[jT,XG]
  have Q:jT (aN.n O) 0 (a+(l.length-b)) (.slice (some ⟨f,off,none⟩) l.length cap)=.slice (some ⟨f,off,none⟩) (a+(l.length-b)) cap:=by simp[jT,XG]
  refine⟨_,w',r (.slice (some ⟨f,off,none⟩) (a+(l.length-b)) cap) w' ?_,Q.symm,?_⟩
  .rw[U,T];simp[Builtin.append_,run_underlying hu,Builtin.lenOf,hz,u,d,XG,M]
  .refine hS.aHK m Z λF2 E=>?_;have E:aN.own w [.slice (some ⟨f,off,none⟩) l.length cap] l F2:=E;obtain⟨w2,G2,F3,B,I,J,g,K⟩:=XF P (S:=All w) (w0:=w) (a:=a) (k:=l.length-b) (l':=dM l a (l.drop b)) E (gG aa) hk d C D;rw[M] at B;cases B;rw[gG aa] at g;exact⟨F3,G2,I,J,g,λb' o' p=>.inl (K b' o' p)⟩
theorem bBT{a b k:Nat}(h:(∃len cap,s=.slice none len cap/\cap=0/\a=0)\/∃d off len cap,s=.slice (some ⟨d,off,none⟩) len cap):jT n a b (jT n 0 k s)=jT n a b s:=by
 obtain⟨len,cap,rfl,rfl,rfl⟩|⟨d,off,len,cap,rfl⟩:=h
 .simp[jT]
 .simp only[jT,Option.map_some,Nat.zero_mul,XG,aFJ,Nat.sub_zero,ite_self]
theorem bBU[aN O]{l:List O}{a b k:Nat}(h:aN.own w [s] l F)(d:a<=b)(f:b<=l.length):jT n a b (jT n 0 k s)=jT n a b s:=by grind[aJ8,bBT]
theorem a30[aN O]{l:List O}{f:Nat}{g:IntKind}(m:Nat)(D:St c w L R)(B:L[m]?=some (dF [s] l))(hn:aN.n O=n)(u:P.underlying t=some (.slice el))(h:∀w,(sizeOf el).run P w=.ok n w)(C:0<=i/\i<=j/\j<=l.length)(A:o.op=.slice t x (some y) (some z) none)(q:ev e x=some (jT n 0 f s))(p:ev e y=some (.int k i))(r:ev e z=some (.int g j)):gD P o e w (jT n i.toNat j.toNat s) w:=λ_ a d=>by
 obtain⟨F,b⟩:=D.chunk m B;have b:aN.own w [s] l F:=b;obtain⟨K,J,N⟩:=C;rw[<-bBU (k:=f) b (show i.toNat<=j.toNat by omega) aa];obtain⟨Q,I,rfl,M⟩:=SQ b;have H:j<=(I:Int):=aa
 have E:0<=j:=aa
 have G:max j 0=j:=aa
 simp[execOp,A,Instr.sliceAt,Instr.slice,run_underlying u,Instr.sliceBounds,d.eval q,d.eval p,d.eval r,Instr.sliceBound,asIntOf,h,K,J,H,G,E,jT]
theorem a0Q{b:b4}{k i:Nat}(d:b.size=n)(f:i<k):PM (Builtin.zeroCells b k).toList n i=b.toList:=by have a:(i+1)*n<=k*n:=xX n aa;rw[pP] at a;apply aFF;grind[Nat.mul_comm,Nat.mul_add_mod,Nat.mod_eq_of_lt,Builtin.zeroCells,PM]
theorem bBV[aN O][Flat O]{C:Value}{l:List O}{a b:Nat}(J:O)(m:Nat)(hS:St c w L R)(hm:L[m]?=some (dF [s] l))(hn:aN.n O=n)(hab:a<=b)(hb:b<=l.length)(hu:P.underlying t=some (.slice el))(Q:XE P el n C)(V:C.cells.size=n)(hzd:∀w,aN.rd F0 w C.cells.toList J)(M:∀v∈C.cells.toList,v.oneCell'=true)
  (ho:o.op=.call {callee:=.builtin .clear,args:=#[x],argTypes:=#[t]}) (hx:ev e x=some (jT n a b s)) :
  ∃v w',gD P o e w v w'/\(v=.tuple #[]/\St c w' (L.set m (dF [s] (dM l a (List.replicate (b-a) J)))) R):=by
 subst hn;obtain⟨ti,hti,hz,hsz,hby⟩:=Q;obtain⟨F,K⟩:=hS.chunk m hm;have K:aN.own w [s] l F:=K;obtain⟨ad,r,cc,rfl,hlc,hcc,W,hrd⟩:=aJ8 K;have g:∀(w':World),(Builtin.clear_ #[t] o.type #[jT (aN.n O) a b (.slice ad l.length r)]).run P w=.ok (.tuple #[]) w'->gD P o e w (.tuple #[]) w':=by intro w' h _ a' hA;simp[execOp,ho,resolve,invoke,builtin,hA.eval hx,h]
 by_cases h0:b-a=0
 .have D:dM l a (List.replicate (b-a) J)=l:=by simp_all[dM]
  rw[D];refine⟨_,w,g w ?_,rfl,hS.aHK m hm λF K=>⟨F,F0,fN.refl _ _,λ_ _ h=>h.elim,K,λ_ _ h=>.inl h⟩⟩;obtain⟨rfl,rfl,rfl⟩|⟨bl,off,rfl,_⟩:=W
  .simp_all[Builtin.clear_,run_underlying,jT]
  .by_cases H:r=a<;>simp[Builtin.clear_,run_underlying hu,jT,H,h0]
 .obtain⟨rfl,rfl,rfl⟩|⟨bl,off,rfl,X⟩:=W
  .omega
  have H:r≠a:=aa
  have Y:(Builtin.zeroCells C.cells (b-a)).toList.length=(b-a)*aN.n O:=by grind[size_zeroCells]
  have f:∀v∈(Builtin.zeroCells C.cells (b-a)).toList,v.oneCell'=true:=by
   intro v hv;obtain⟨p,hp,rfl⟩:=aFI.1 hv;have hn0:0<aN.n O:=by rcases Nat.eq_zero_or_pos (aN.n O) with h|h;rw[Y,h] at hp;omega;exact h
   have hp2:p<(b-a)*aN.n O:=by rw[<-Y];exact hp
   have hi:p/aN.n O<b-a:=Nat.div_lt_of_lt_mul (by rw[Nat.mul_comm];exact hp2);have hs:=a0Q (k:=b-a) V hi;have hpe:p/aN.n O*aN.n O+p % aN.n O=p:=by rw[Nat.mul_comm];exact Nat.div_add_mod p (aN.n O)
   have hg:=wU (cc:=(Builtin.zeroCells C.cells (b-a)).toList) (n:=aN.n O) (i:=p/aN.n O) (j:=p % aN.n O) (Nat.mod_lt _ hn0);rw[hs,hpe,mA hp] at hg;exact M _ (O1 hg)
  have B:∀i x,(dM l a (List.replicate (b-a) J))[i]?=some x->(a<=i/\i<a+(b-a)/\aN.rd F0 w (PM (Builtin.zeroCells C.cells (b-a)).toList (aN.n O) (i-a)) x)\/((i<a\/a+(b-a)<=i)/\l[i]?=some x):=by
   intro i x hx;have A:min (List.replicate (b-a) J).length (l.length-a)=b-a:=ah
   obtain⟨g1,Z,g3⟩|⟨g1,Z⟩:=aEF aa hx
   .rw[A] at Z;rw[List.getElem?_replicate,aM aa] at g3;simp at g3;subst g3;refine .inl ⟨g1,Z,?_⟩;rw[a0Q V aa];exact hzd w
   .rw[A] at g1;exact .inr ⟨g1,Z⟩
  obtain⟨w',G,F',E,hkp,hGF,hown,hFF⟩:=XF P (S:=F0) (w0:=w) (a:=a) (k:=b-a) (l':=dM l a (List.replicate (b-a) J)) K (gG aa) Y aa f B;refine⟨_,w',g w' ?_,rfl,?_⟩
  .obtain⟨q,hq⟩:∃q,b-a=q+1:=⟨b-a-1,aa⟩;rw[hq] at E;simp[Builtin.clear_,run_underlying hu,jT,H,hq,XG,zeroValue,typeInfo,hti,hz,E]
  .refine hS.aHK m hm λF2 I=>?_;have I:aN.own w [.slice (some ⟨bl,off,none⟩) l.length r] l F2:=I;obtain⟨w2,G2,F3,u,N,T,d,U⟩:=XF P (S:=F0) (w0:=w) (a:=a) (k:=b-a) (l':=dM l a (List.replicate (b-a) J)) I (gG aa) Y aa f B;rw[E] at u;cases u;rw[gG aa] at d;exact⟨F3,G2,N,T,d,λb' o' p=>.inl (U b' o' p)⟩
end
structure AC where
 a:Option Addr
 c:Nat
abbrev AC.v(s:AC)(n:Nat):Value:=.slice s.a n s.c
inductive SV where
 |i (k:IntKind) (x:Int)
 |y (b:UInt8)
 |b (c:Bool)
 |l (c:Bool)
 |s (l:aF)
 |p (n o:Nat)
 |h (s:AC) (n:Nat)
 |e (s:AC) (n i o:Nat)
 |k (x:Value)
 |g (cs:List SV)
 |t (cs:List SV)
 |f (f:FuncId) (cs:ar)
 |u
abbrev aq:=List SV
abbrev bz:=Option SV
abbrev bF:=List (List SV)
abbrev cn:=List (Nat×List SV)
variable{x:SV}
abbrev SE:=List (Nat×SV)
inductive Ch where
 |box (n:Nat) (cs:aq)
 |ro (n:Nat) (cs:aq)
 |o (c:Chunk)
 |f (f:Fact)
 |no
 |w (n b z:Nat)
abbrev an:=List Ch
inductive TK where
 |i (k:IntKind)
 |b
 |st (fs:b5)
 |s
 |sl (el:Nat)
 |x
structure TI where
 d:TK
 a:Bool
 n:Nat
 z:aq
abbrev TT:=List (Nat×TI)
def AY:TT->Nat->Option TI
 |[],_=>none
 |(k,v)::r,n=>match Nat.beq n k with
  |true=>some v
  |false=>AY r n
def HL:SE->Nat->bz
 |[],_=>none
 |(k,v)::r,n=>match Nat.beq n k with
  |true=>some v
  |false=>HL r n
def bE{O β:Type}(f:O->Option β):List O->Option (List β)
 |[]=>some []
 |x::r=>match f x with
  |none=>none
  |some y=>match bE f r with
   |none=>none
   |some a=>some (y::a)
def one?(v:Value):bz:=match v.oneCell' with
 |true=>some (.k v)
 |false=>none
def bBW(n:Nat):bz:=match Nat.blt n 256 with
 |true=>some (.y (UInt8.ofNat n))
 |false=>none
def ofC:Value->bz
 |.int .u8 (.ofNat n)=>bBW n
 |.int k n=>some (.i k n)
 |.bool c=>some (.l c)
 |.string s=>some (.s s.data.toList)
 |.slice a n c=>some (.h ⟨a,c⟩ n)
 |.agg _=>none
 |v=>one? v
def jS(e:SE):Operand->bz
 |.tmp t=>HL e t
 |.const v=>ofC v
 |.global _=>none
 |.func f=>some (.f f [])
def uK:SV->Option (IntKind×Int)
 |.i k x=>some (k,x)
 |.y b=>some (.u8,(b.toNat:Int))
 |_=>none
def bG2(op:BinOp)(k:IntKind)(x y:Int)(a:Operand):bz:=match op with
 |.add=>some (.i k (k.wrap (x+y)))
 |.sub=>some (.i k (k.wrap (x-y)))
 |.mul=>some (.i k (k.wrap (x*y)))
 |.lss=>some (.b (decide (x<y)))
 |.leq=>some (.b (decide (x<=y)))
 |.gtr=>some (.b (decide (y<x)))
 |.geq=>some (.b (decide (y<=x)))
 |.eql=>some (.b (x == y))
 |.neq=>some (.b (x != y))
 |.and=>some (.i k (jG .and k x y))
 |.or=>some (.i k (jG .or k x y))
 |.xor=>some (.i k (jG .xor k x y))
 |.andNot=>some (.i k (jG .andNot k x y))
 |.quo=>match a with
  |.const (.int _ (.ofNat (_+1)))=>some (.i k (k.wrap (x.tdiv y)))
  |.const (.int _ (.negSucc _))=>some (.i k (k.wrap (x.tdiv y)))
  |_=>none
 |.rem=>match a with
  |.const (.int _ (.ofNat (_+1)))=>some (.i k (x.tmod y))
  |.const (.int _ (.negSucc _))=>some (.i k (x.tmod y))
  |_=>none
 |_=>none
def shI(op:BinOp)(k:IntKind)(x y:Int)(a:Operand):bz:=match op with
 |.shl=>match a with
  |.const (.int _ (.ofNat _))=>some (.i k (aP0 k x y))
  |_=>none
 |.shr=>match a with
  |.const (.int _ (.ofNat _))=>some (.i k (rS k x y))
  |_=>none
 |_=>none
def a6P:SV->ay
 |.b c=>some c
 |.l c=>some c
 |_=>none
def bin(T:TT)(op:BinOp)(t:TypeId)(x y:SV)(b:Operand):bz:=
 match uK x,uK y with
 |some (k,a),some (d,c)=>match op with
  |.shl=>shI op k a c b
  |.shr=>shI op k a c b
  |_=>match decEq k d with
   |.isTrue _=>bG2 op k a c b
   |.isFalse _=>none
 |_,_=>match x,y with
  |.s a,.s c=>match op with
   |.eql=>some (.b (a == c))
   |.neq=>some (.b (!(a == c)))
   |_=>none
  |_,_=>match a6P x,a6P y,AY T t with
   |some a,some c,some ⟨.b,_,_,_⟩=>match op with
    |.eql=>some (.b (a == c))
    |.neq=>some (.b (!(a == c)))
    |_=>none
   |_,_,_=>none
def conv(T:TT)(s t:TypeId)(x:SV):bz:=match AY T s,AY T t with
 |some _,some ⟨.i c,_,_,_⟩=>match x with
  |.i _ a=>match c with
   |.u8=>some (.y (u8 a))
   |_=>some (.i c (c.wrap a))
  |.y b=>match c with
   |.i64=>some (.i .i64 (b.toNat:Int))
   |_=>none
  |_=>none
 |_,_=>none
def bG3(T:TT)(t:TypeId)(ix:Nat):cm:=match AY T t with
 |some ⟨.st fs,_,_,_⟩=>match fs[ix]? with
  |some (o,_+1)=>some o
  |_=>none
 |_=>none
def bBX(T:TT)(t:TypeId)(x:SV)(ix:Nat):bz:=match x with
 |.p n o=>match bG3 T t ix with
  |some k=>some (.p n (o+k))
  |none=>none
 |.e s n i o=>match bG3 T t ix with
  |some k=>some (.e s n i (o+k))
  |none=>none
 |_=>none
def MS(n:Nat):an->Option aq
 |[]=>none
 |.box k cs::L=>match Nat.beq n k with
  |true=>some cs
  |false=>MS n L
 |.ro k cs::L=>match Nat.beq n k with
  |true=>some cs
  |false=>MS n L
 |_::L=>MS n L
def frc{O:Type}:List O->Option (List O)
 |[]=>some []
 |x::r=>match frc r with
  |some s=>some (x::s)
  |none=>none
def qP:SV->aq
 |.g cs=>cs
 |x=>[x]
def isCells:SV->Bool
 |.t _=>false
 |.f _ _=>false
 |.u=>false
 |_=>true
def aV9(T:TT)(t:TypeId)(p:SV)(L:an):bz:=match p with
 |.p n o=>match MS n L,AY T t with
  |some cs,some ⟨_,true,m,_⟩=>match Nat.ble (o + m) cs.length with
   |true=>match frc ((cs.drop o).take m) with
    |some a=>some (.g a)
    |none=>none
   |false=>none
  |some cs,some ⟨_,false,_,_⟩=>cs[o]?
  |_,_=>none
 |_=>none
def bBY(cs:aq)(o:Nat):aq->aq
 |[]=>cs
 |v::vs=>bBY (cs.set o v) (o+1) vs
def ovw:aq->Nat->aq->aq
 |[],_,_=>[]
 |c::cs,n+1,vs=>c::ovw cs n vs
 |c::cs,0,vs=>match vs with
  |[]=>c::cs
  |v::vs=>v::ovw cs 0 vs
def aXG(e:SE)(fs:b5):cr->aq->Option aq
 |[],cs=>some cs
 |(ix,o)::r,cs=>match fs[ix]?,jS e o with
  |some (f,m),some v=>match isCells v,Nat.beq (qP v).length m,Nat.ble (f + m) cs.length with
   |true,true,true=>match frc (ovw cs f (qP v)) with
    |some a=>aXG e fs r a
    |none=>none
   |_,_,_=>none
  |_,_=>none
def a31(T:TT)(e:SE)(t:TypeId)(ps:cr):bz:=match AY T t with
 |some ⟨.st fs,true,_,z⟩=>match aXG e fs ps z with
  |some cs=>some (.g cs)
  |none=>none
 |_=>none
def bNA(k:TK)(x:SV):bz:=match x with
 |.h _ n=>match k with
  |.sl _=>some (.i .i64 (n:Int))
  |_=>none
 |.s l=>match k with
  |.s=>some (.i .i64 (l.length:Int))
  |_=>none
 |_=>none
def ev1(T:TT)(e:SE)(L:an):Op->bz
 |.move x=>jS e x
 |.assign x=>jS e x
 |.nilCheck x=>match jS e x with
  |some (.p n o)=>some (.p n o)
  |some (.e s n i o)=>some (.e s n i o)
  |some (.f f cs)=>some (.f f cs)
  |some (.k (.func (.func f) a b))=>some (.k (.func (.func f) a b))
  |_=>none
 |.pick c a b=>match jS e c with
  |some (.l true)=>jS e a
  |some (.l false)=>jS e b
  |_=>none
 |.unOp .not _ x=>match jS e x with
  |some (.b c)=>some (.b (!c))
  |some (.l c)=>some (.l (!c))
  |_=>none
 |.unOp .neg _ x=>match jS e x with
  |some (.i k a)=>some (.i k (k.wrap (0-a)))
  |_=>none
 |.binOp op t x y _=>match jS e x,jS e y with
  |some a,some b=>bin T op t a b y
  |_,_=>none
 |.convert s t x=>match jS e x with
  |some a=>conv T s t a
  |none=>none
 |.extract x ix=>match jS e x with
  |some (.t xs)=>xs[ix]?
  |_=>none
 |.fieldAddr t x ix=>match jS e x with
  |some a=>bBX T t a ix
  |none=>none
 |.load t p=>match jS e p with
  |some a=>aV9 T t a L
  |none=>none
 |.build t d=>a31 T e t d.toList
 |.call { callee:=.builtin .len,args:=⟨[x]⟩,argTypes:=⟨[t]⟩ } => match jS e x,AY T t with
  |some a,some ⟨k,_,_,_⟩=>bNA k a
  |_,_=>none
 |_=>none
abbrev Bl:=b5
variable{B:Bl}
inductive Fr where
 |s (y:Code)
 |k (id:Nat)
abbrev a8:=List Fr
inductive wJ where
 |n
 |c (x:Code)
 |r (ops:bj) (l:cj)
 |d (B1:Bl) (ops:bj) (l:az) (is:ar) (Lf Lv:an)
 |o (B1:Bl) (ops:bj) (l:az) (is:ar) (Lf Lv:an) (i:Nat)
def wJ.ext(a:an):wJ->wJ
 |.d B1 ops l is Lf Lv=>.d B1 ops l is Lf (Lv++a)
 |.o B1 ops l is Lf Lv i=>.o B1 ops l is Lf (Lv++a) i
 |x=>x
inductive Stop where
 |ret (m:Nat) (e:SE) (L:an)
 |fin (m:Nat) (e:SE) (L:an)
 |ex (id m:Nat) (e:SE) (L:an)
 |cond (o:Operand) (b:Bool) (x y:Code) (K:a8) (m:Nat) (e:SE) (L:an)
 |case (b:Bool) (cf:wJ) (K:a8) (m:Nat) (e:SE) (L:an)
 |loop (id:Nat) (x:Code) (K:a8) (m:Nat) (e:SE) (L:an)
 |idx (o:Oper) (d t:Nat) (s:AC) (n:Nat) (i:Int) (Lv:an) (cf cf':wJ) (K:a8) (m:Nat) (e:SE) (L:an)
 |call (o:Oper) (d:cm) (f:FuncId) (xs:aq) (cf cf':wJ) (K:a8) (m:Nat) (e:SE) (L:an)
 |callp (o:Oper) (d:cm) (f:FuncId) (xs:aq) (cf cf':wJ) (K:a8) (m:Nat) (e:SE) (L:an)
 |opp (o:Oper) (Lv:an) (cf cf':wJ) (K:a8) (m:Nat) (e:SE) (L:an)
 |op (o:Oper) (Lv:an) (cf cf':wJ) (K:a8) (m:Nat) (e:SE) (L:an)
 |rgn (id:Nat) (ops:bj) (K:a8) (m:Nat) (e:SE) (L:an)
 |alt (cf:wJ) (K:a8) (m:Nat) (e:SE) (L:an)
 |stuck
def pop:a8->Option (Code×List Fr)
 |[]=>none
 |.s y::K=>some (y,K)
 |.k _::K=>pop K
def xit(id:Nat):a8->Option a8
 |[]=>none
 |.s _::K=>xit id K
 |.k j::K=>match Nat.beq id j with
  |true=>some K
  |false=>xit id K
inductive Gd where
 |yes|no|ask (b:Bool)|bad
def HM (ops : bj) (e : SE) : Option (Nat × Bool) -> Gd
 |none=>.yes
 |some (j,w)=>match ops.toList[j]? with
  |some q=>match q.dst with
   |some s=>match HL e s with
    |some (.l c)=>match c,w with
     |true,true=>.yes
     |false,false=>.yes
     |_,_=>.no
    |some .u=>.no
    |some (.b c)=>.ask c
    |_=>.bad
   |none=>.bad
  |none=>.bad
def wW(n:Nat)(cs:aq):an->an
 |[]=>[]
 |.box k c::L=>match Nat.beq n k with
  |true=>.box k cs::L
  |false=>.box k c::wW n cs L
 |x::L=>x::wW n cs L
def XH(n:Nat):an->Bool
 |[]=>false
 |.box k _::L=>match Nat.beq n k with
  |true=>true
  |false=>XH n L
 |.ro k _::L=>match Nat.beq n k with
  |true=>false
  |false=>XH n L
 |_::L=>XH n L
def Y8 (T : TT) (t : TypeId) (p v : SV) (L : an) : Option (List Ch):=match p with
 |.p n o=>match XH n L with
  |true=>match MS n L,AY T t with
   |some cs,some ⟨_,_,m,_⟩=>match isCells v,Nat.beq (qP v).length m,Nat.ble (o + m) cs.length with
    |true,true,true=>match frc (ovw cs o (qP v)) with
     |some a=>match frc (wW n a L) with
      |some b=>some b
      |none=>none
     |none=>none
    |_,_,_=>none
   |_,_=>none
  |false=>none
 |_=>none
inductive Ef where
 |val (v:SV)
 |box (cs:aq)
 |st (L:an)
 |no
def eff(T:TT)(e:SE)(L:an)(o:Op):Ef:=match ev1 T e L o with
 |some v=>.val v
 |none=>match o with
  |.alloc t=>match AY T t with
   |some ⟨_,_,_,z⟩=>.box z
   |none=>.no
  |.box _ v=>match jS e v with
   |some a=>match isCells a with
    |true=>.box (qP a)
    |false=>.no
   |none=>.no
  |.store t p v=>match jS e p,jS e v with
   |some a,some b=>match Y8 T t a b L with
    |some c=>.st c
    |none=>.no
   |_,_=>.no
  |_=>.no
def CR(m:Nat):SV->Bool
 |.p n _=>Nat.blt n m
 |.g cs=>okC m cs
 |.t cs=>okT m cs
 |.f _ cs=>okF m cs
 |_=>true
where
 okC (m:Nat):aq->Bool
  |[]=>true
  |x::r=>match x with
   |.p n _=>match Nat.blt n m with
    |true=>okC m r
    |false=>false
   |.g _=>false
   |_=>okC m r
 okT (m:Nat):aq->Bool
  |[]=>true
  |x::r=>match x with
   |.p n _=>match Nat.blt n m with
    |true=>okT m r
    |false=>false
   |.g cs=>match okC m cs with
    |true=>okT m r
    |false=>false
   |_=>okT m r
 okF (m:Nat):ar->Bool
  |[]=>true
  |n::r=>match Nat.blt n m with
   |true=>okF m r
   |false=>false
def nb1:SV->SV
 |.l c=>.b c
 |x=>x
def nbL:aq->aq
 |[]=>[]
 |x::r=>nb1 x::nbL r
def nbG:SV->SV
 |.g cs=>.g (nbL cs)
 |x=>nb1 x
def nbT:aq->aq
 |[]=>[]
 |x::r=>nbG x::nbT r
def nbS:SV->SV
 |.t xs=>.t (nbT xs)
 |x=>nbG x
def nbA:aq->aq
 |[]=>[]
 |x::r=>match x with
  |.f g []=>.k (.func (.func g) #[] #[])::nbA r
  |y=>nbG y::nbA r
def okA:aq->Bool
 |[]=>true
 |x::r=>match CR 0 x with
  |true=>okA r
  |false=>false
def bG4(e:SE)(o:Oper)(Lv:an)(cf cf':wJ)(K:a8)(m:Nat)(L:an):Op->Stop
 |.pick c _ _=>match jS e c with
  |some (.b b)=>.case b cf K m e L
  |_=>.stuck
 |.indexAddr t x y=>match jS e x,jS e y,o.dst with
  |some (.h s n),some (.i .i64 i),some d=>.idx o d t s n i Lv cf cf' K m e L
  |_,_,_=>.op o Lv cf cf' K m e L
 |.call { callee:=.value f,args,.. } => match jS e f,bE (jS e) args.toList with
  |some (.f g []),some xs=>match okA (nbA xs) with
   |true=>.call o o.dst g (nbA xs) cf cf' K m e L
   |false=>.callp o o.dst g (nbA xs) cf cf' K m e L
  |_,_=>.op o Lv cf cf' K m e L
 |_=>.op o Lv cf cf' K m e L
def bKZ(e:SE)(o:Oper)(Lv:an)(cf cf':wJ)(K:a8)(m:Nat)(L:an):Op->Stop
 |.pick c _ _=>match jS e c with
  |some (.b b)=>.case b cf K m e L
  |_=>.stuck
 |.indexAddr t x y=>match jS e x,jS e y,o.dst with
  |some (.h s n),some (.i .i64 i),some d=>.idx o d t s n i Lv cf cf' K m e L
  |_,_,_=>.opp o Lv cf cf' K m e L
 |_=>.opp o Lv cf cf' K m e L
def opS:Stop->Option (Oper×List Ch×wJ×wJ×List Fr×Nat×SE×List Ch)
 |.op o Lv cf cf' K m e L=>some (o,Lv,cf,cf',K,m,e,L)
 |.opp o Lv cf cf' K m e L=>some (o,Lv,cf,cf',K,m,e,L)
 |_=>none
def tR(n:Nat):cm->Bool
 |none=>true
 |some d=>Nat.blt d n
def bB0:Ground->Bool
 |.textOnly _=>false
 |.gcOnly _=>false
 |_=>true
def V5(l:az):List Edge->Bool
 |[]=>true
 |⟨on,g⟩::r=>match bB0 g with
  |true=>match l[on]? with
   |some true=>V5 l r
   |_=>false
  |false=>V5 l r
def aL6(l:az)(i:Nat):cj->Nat->Bool
 |[],_=>true
 |o::r,j=>match l[j]? with
  |some false=>match Nat.beq j i with
   |true=>match V5 l o.after.toList with
    |true=>aL6 l i r (j+1)
    |false=>false
   |false=>match V5 l o.after.toList with
    |true=>false
    |false=>aL6 l i r (j+1)
  |some true=>aL6 l i r (j+1)
  |none=>false
def bJI:Op->Bool
 |.pick ..=>true
 |.indexAddr ..=>true
 |.index ..=>true
 |.binOp ..=>true
 |.slice ..=>true
 |.convert ..=>true
 |.call {callee:=.builtin .len,..}=>true
 |.call {callee:=.builtin .min,..}=>true
 |.call {callee:=.builtin .max,..}=>true
 |_=>false
inductive Ps where
 |fin (l:az) (e:SE) (q:List (Nat×Oper))
 |ask (b:Bool) (l:az) (e:SE)
 |pur (i:Nat) (o:Oper) (l:az) (e:SE)
 |bad
def pass (T : TT) (n : Nat) (ops : bj) (Lv : an) : cj -> Nat -> az -> SE -> List (Nat × Oper) -> Ps
 |[],_,l,e,q=>.fin l e q
 |o::r,i,l,e,q=>match l[i]? with
  |some true=>pass T n ops Lv r (i+1) l e q
  |some false=>match V5 l o.after.toList with
   |false=>pass T n ops Lv r (i+1) l e q
   |true=>match HM ops e o.guard with
    |.bad=>.bad
    |.ask c=>.ask c l e
    |.no=>match o.dst with
     |some d=>match Nat.blt d n with
      |true=>pass T n ops Lv r (i+1) (l.set i true) ((d,.u)::e) q
      |false=>.bad
     |none=>.bad
    |.yes=>match ev1 T e Lv o.op with
     |some v=>match o.dst with
      |some d=>match Nat.blt d n with
       |true=>pass T n ops Lv r (i+1) (l.set i true) ((d,v)::e) q
       |false=>.bad
      |none=>.bad
     |none=>match bJI o.op with
      |true=>.pur i o l e
      |false=>pass T n ops Lv r (i+1) l e ((i,o)::q)
  |none=>.bad
def AZ(l:az):cj->Nat->ar
 |[],_=>[]
 |o::r,j=>match l[j]? with
  |some false=>match V5 l o.after.toList with
   |true=>j::AZ l r (j+1)
   |false=>AZ l r (j+1)
  |_=>AZ l r (j+1)
def bG5:az->Bool
 |[]=>true
 |b::l=>match b with
  |true=>bG5 l
  |false=>false
def aXH(n:Nat):an->Nat->Nat
 |[],i=>i
 |.box k _::L,i=>match Nat.beq n k with
  |true=>i
  |false=>aXH n L (i+1)
 |_::L,i=>aXH n L (i+1)
def gO(i:Nat):ar->Bool
 |[]=>true
 |j::r=>match Nat.beq i j with
  |true=>false
  |false=>gO i r
def bK0(e:SE)(L:an)(is:ar):Op->Bool
 |.store _ p _=>match jS e p with
  |some (.p n _)=>gO (aXH n L 0) is
  |_=>false
 |_=>true
def stp(T:TT)(n:Nat):Nat->a8->wJ->Nat->SE->an->Stop
 |0,_,_,_,_,_=>.stuck
 |F + 1,K,.c x,m,e,L=>match x with
  |.skip=>match pop K with
   |some (y,j)=>stp T n F j (.c y) m e L
   |none=>.fin m e L
  |.seq a b=>stp T n F (.s b::K) (.c a) m e L
  |.block id b=>match b with
   |.loop y=>.loop id y K m e L
   |b=>stp T n F (.k id::K) (.c b) m e L
  |.exit id=>match xit id K with
   |some j=>match pop j with
    |some (y,q)=>stp T n F q (.c y) m e L
    |none=>.fin m e L
   |none=>.ex id m e L
  |.ret=>.ret m e L
  |.cond o x y=>match jS e o with
   |some (.l c)=>match c with
    |true=>stp T n F K (.c x) m e L
    |false=>stp T n F K (.c y) m e L
   |some (.b c)=>.cond o c x y K m e L
   |_=>.stuck
  |.region id ops d=>match d with
   |false=>stp T n F K (.r ops ops.toList) m e L
   |true=>.rgn id ops K m e L
  |_=>.stuck
 |F + 1,K,.n,m,e,L=>match pop K with
  |some (y,j)=>stp T n F j (.c y) m e L
  |none=>.fin m e L
 |F + 1,K,.r _ [],m,e,L=>match pop K with
  |some (y,j)=>stp T n F j (.c y) m e L
  |none=>.fin m e L
 |F + 1,K,.r ops (⟨dst,op,ty,p,k,h⟩::l),m,e,L=>match HM ops e h with
  |.bad=>.stuck
  |.ask c=>.case c (.r ops (⟨dst,op,ty,p,k,h⟩::l)) K m e L
  |.no=>match dst with
   |some d=>match Nat.blt d n with
    |true=>stp T n F K (.r ops l) m ((d,.u)::e) L
    |false=>.stuck
   |none=>.stuck
  |.yes=>match eff T e L op,dst with
   |.val v,some d=>match Nat.blt d n with
    |true=>stp T n F K (.r ops l) m ((d,v)::e) L
    |false=>.stuck
   |.box cs,some d=>match Nat.blt d n with
    |true=>stp T n F K (.r ops l) (m+1) ((d,.p m 0)::e) (L++[.box m cs])
    |false=>.stuck
   |.st r,none=>stp T n F K (.r ops l) m e r
   |.no,_=>match tR n dst with
    |true=>bG4 e ⟨dst,op,ty,p,k,h⟩ L (.r ops (⟨dst,op,ty,p,k,h⟩::l)) (.r ops l) K m L op
    |false=>.stuck
   |_,_=>.stuck
 |F + 1,K,.d B1 ops l is Lf Lv,m,e,L=>match pass T n ops Lv ops.toList 0 l e [] with
  |.bad=>.stuck
  |.ask c f g=>.case c (.d B1 ops f is Lf Lv) K m g L
  |.pur i o f g=>match tR n o.dst with
   |true=>bKZ g o Lv (.d B1 ops f is Lf Lv) (.d B1 ops (f.set i true) is Lf Lv) K m L o.op
   |false=>.stuck
  |.fin f g []=>match bG5 f with
   |true=>stp T n F K .n m g L
   |false=>.stuck
  |.fin f g [(i,_)]=>match aL6 f i ops.toList 0 with
   |true=>stp T n F K (.o B1 ops f is Lf Lv i) m g L
   |false=>.stuck
  |.fin f g _=>.alt (.d B1 ops f is Lf Lv) K m g L
 |F + 1,K,.o B1 ops l is Lf Lv i,m,e,L=>match ops.toList[i]? with
  |some ⟨dst,op,ty,p,k,h⟩=>match V5 l k.toList,l[i]?,HM ops e h with
   |true,some false,.yes=>match eff T e L op,dst with
    |.val v,some d=>match Nat.blt d n with
     |true=>stp T n F K (.d B1 ops (l.set i true) is Lf Lv) m ((d,v)::e) L
     |false=>.stuck
    |.box cs,some d=>match Nat.blt d n with
     |true=>stp T n F K (.d B1 ops (l.set i true) is Lf Lv) (m+1) ((d,.p m 0)::e) (L++[.box m cs])
     |false=>.stuck
    |.st r,none=>match bK0 e L is op with
     |true=>stp T n F K (.d B1 ops (l.set i true) is Lf Lv) m e r
     |false=>.stuck
    |.no,_=>match tR n dst with
     |true=>bG4 e ⟨dst,op,ty,p,k,h⟩ Lv (.o B1 ops l is Lf Lv i) (.d B1 ops (l.set i true) is Lf Lv) K m L op
     |false=>.stuck
    |_,_=>.stuck
   |_,_,_=>.stuck
  |none=>.stuck
def a8R:SE->Option SE
 |[]=>some []
 |(k,v)::r=>match a8R r with
  |some s=>some ((k,v)::s)
  |none=>none
def a8S:an->Option an
 |[]=>some []
 |x::r=>match a8S r with
  |some s=>match x with
   |.box n cs=>match frc cs with
    |some a=>some (.box n a::s)
    |none=>none
   |.ro n cs=>match frc cs with
    |some a=>some (.ro n a::s)
    |none=>none
   |y=>some (y::s)
  |none=>none
def j7(T:TT)(n:Nat)(K:a8)(cf:wJ)(m:Nat)(e:SE)(L:an):Stop:=match a8R e,a8S L with
 |some a,some b=>stp T n 9999 K cf m a b
 |_,_=>.stuck
def kp(e:SE):ar->SE
 |[]=>[]
 |k::a=>match HL e k with
  |some x=>(k,x)::kp e a
  |none=>kp e a
def kl(L:an):ar->an
 |[]=>[]
 |i::is=>match L[i]? with
  |some x=>x::kl L is
  |none=>kl L is
def re1:SV->SV->SV
 |.b _,.l c=>.b c
 |_,x=>x
def reC:aq->aq->aq
 |x::xs,y::a=>re1 x y::reC xs a
 |_,a=>a
def reE(e:SE):SE->Option SE
 |[]=>some []
 |(k,z)::r=>match HL e k with
  |some x=>match reE e r with
   |some s=>some ((k,re1 z x)::s)
   |none=>none
  |none=>none
def reL:an->an->an
 |.box _ cs::M,.box n a::L=>.box n (reC cs a)::reL M L
 |_::M,x::L=>x::reL M L
 |[],L=>L
 |_,[]=>[]
def okE(m:Nat):SE->Bool
 |[]=>true
 |(_,x)::e=>match CR m x with
  |true=>okE m e
  |false=>false
def okL(m:Nat):an->Bool
 |[]=>true
 |.box n cs::L=>match Nat.blt n m,CR.okC m cs with
  |true,true=>okL m L
  |_,_=>false
 |.ro n cs::L=>match Nat.blt n m,CR.okC m cs with
  |true,true=>okL m L
  |_,_=>false
 |.w n _ _::L=>match Nat.blt n m with
  |true=>okL m L
  |false=>false
 |_::L=>okL m L
def asS(e:SE)(L:an)(is:ar)(m:Nat)(e':SE)(L':an):Option (SE×List Ch):=match reE e e' with
 |some s=>match okE m s,okL m (reL L' (kl L is)) with
  |true,true=>some (s,reL L' (kl L is))
  |_,_=>none
 |none=>none
def asT(b m:Nat)(e:SE)(L:an)(is:ar)(m':Nat)(e':SE)(L':an):Option (SE×List Ch):=match Nat.ble b m',Nat.ble m' m,eA is with
 |true,true,true=>asS e L is m' e' L'
 |_,_,_=>none
def ovr(c:Bool)(e:SE):ar->SE
 |[]=>e
 |s::a=>(s,.l c)::ovr c e a
def V6:Stop->Option (List Fr×wJ×Nat×SE×List Ch)
 |.cond o _ x y K m e L=>some (K,.c (.cond o x y),m,e,L)
 |.case _ cf K m e L=>some (K,cf,m,e,L)
 |.loop id y K m e L=>some (K,.c (.block id (.loop y)),m,e,L)
 |.idx _ _ _ _ _ _ _ cf _ K m e L=>some (K,cf,m,e,L)
 |.call _ _ _ _ cf _ K m e L=>some (K,cf,m,e,L)
 |.callp _ _ _ _ cf _ K m e L=>some (K,cf,m,e,L)
 |.op _ _ cf _ K m e L=>some (K,cf,m,e,L)
 |.opp _ _ cf _ K m e L=>some (K,cf,m,e,L)
 |.rgn id ops K m e L=>some (K,.c (.region id ops true),m,e,L)
 |.alt cf K m e L=>some (K,cf,m,e,L)
 |_=>none
def aGJ(i:Nat):List Edge->Bool
 |[]=>false
 |⟨on,g⟩::r=>match bB0 g with
  |true=>match Nat.beq on i with
   |true=>true
   |false=>aGJ i r
  |false=>aGJ i r
def a0R(ops:bj):Bool:=Region.noSelect ops && ops.toList.zipIdx.all λp=>ops.toList.zipIdx.all λq=>Nat.beq p.2 q.2 || aGJ p.2 q.1.after.toList || aGJ q.2 p.1.after.toList || p.1.apart ops q.1
def bB1(T:TT)(e:SE)(L:an):ResultVar->bz
 |.tmp t=>HL e t
 |.cell t ty=>match HL e t with
  |some p=>aV9 T ty p L
  |none=>none
def a32(T:TT)(e:SE)(L:an)(r:ResultVar):bz:=match bB1 T e L r with
 |some x=>match isCells x with
  |true=>some x
  |false=>none
 |none=>none
def aXJ(T:TT)(e:SE)(L:an):List ResultVar->bz
 |[]=>some (.t [])
 |[r]=>bB1 T e L r
 |[r,s]=>match a32 T e L r,a32 T e L s with
  |some x,some y=>some (.t [x,y])
  |_,_=>none
 |[r,s,t]=>match a32 T e L r,a32 T e L s,a32 T e L t with
  |some x,some y,some z=>some (.t [x,y,z])
  |_,_,_=>none
 |_=>none
def cA(B:Bl):SV->Option Value
 |.i k x=>some (.int k x)
 |.y b=>some (.int .u8 (b.toNat:Int))
 |.b c=>some (.bool c)
 |.l c=>some (.bool c)
 |.s l=>some (sv l)
 |.p n o=>match B[n]? with
  |some (b,z)=>some (.pointer (some ⟨b,z+o,none⟩))
  |none=>none
 |.h s n=>some (s.v n)
 |.e s n i o=>some (.pointer (some ⟨elB (s.v 0),Y5 n i (s.v 0)+o,none⟩))
 |.k x=>match x.oneCell' with
  |true=>some x
  |false=>none
 |_=>none
def gV(B:Bl):SV->Option Value
 |.g cs=>match bE (cA B) cs with
  |some vs=>some (.agg vs.toArray)
  |none=>none
 |x=>cA B x
def aCD(B:Bl)(n:Nat):Option Value:=match B[n]? with
 |some (b,z)=>some (.pointer (some ⟨b,z,none⟩))
 |none=>none
def gT(B:Bl):SV->Option Value
 |.t xs=>match bE (gV B) xs with
  |some vs=>some (.tuple vs.toArray)
  |none=>none
 |.f f cs=>match bE (aCD B) cs with
  |some vs=>some (.func (.func f) #[] vs.toArray)
  |none=>none
 |.u=>some undef
 |x=>gV B x
theorem aP8{v:Value}(h:cA B x=some v):v.oneCell'=true:=by
 cases x<;>simp only[cA] at h<;>try (simp at h;done)
 all_goals try (cases h;rfl)
 .split at h<;>cases h;rfl
 grind
theorem m0{O β:Type}{f:O->Option β}:∀{l:List O} {r:List β},bE f l=some r->r.length=l.length
 |[],r,h=>by cases h;rfl
 |x::l,r,h=>by
  simp only[bE] at h;split at h
  .cases h
  .split at h
   .cases h
   .rename_i a;cases h;simp[m0 a]
def XI{O β:Type}{f:O->Option β}:∀{l:List O} {r:List β} {i:Nat} {x:O},bE f l=some r->l[i]?=some x->∃y,f x=some y/\r[i]?=some y
 |[],_,_,_,_,h=>by simp at h
 |x::l,r,i,z,h,a=>by
  simp only[bE] at h;split at h
  .cases h
  .rename_i e;split at h
   .cases h
   .rename_i b;cases h;cases i with
    |zero=>grind
    |succ i=>obtain⟨y,d,c⟩:=XI b (by simpa using a);grind
theorem XJ{O β:Type}{f:O->Option β}:∀{l:List O} {r:List β} (k:Nat),bE f l=some r->bE f (l.drop k)=some (r.drop k)
 |l,r,0,h=>h
 |[],r,k+1,h=>by cases h;rfl
 |x::l,r,k + 1,h=>by
  simp only[bE] at h;split at h
  .cases h
  .split at h
   .cases h
   .rename_i a;cases h;exact XJ k a
theorem XL{O β:Type}{f:O->Option β}:∀{l:List O} {r:List β} (k:Nat),bE f l=some r->bE f (l.take k)=some (r.take k)
 |l,r,0,h=>rfl
 |[],r,k+1,h=>by cases h;rfl
 |x::l,r,k + 1,h=>by
  simp only[bE] at h;split at h
  .cases h
  .rename_i b;split at h
   .cases h
   .rename_i a;cases h;simp[bE,b,XL k a]
theorem gH{O β:Type}{f g:O->Option β}(a:∀x y,f x=some y->g x=some y):∀{l:List O} {r:List β},bE f l=some r->bE g l=some r
 |[],r,h=>h
 |x::l,r,h=>by
  simp only[bE] at h;split at h
  .cases h
  .rename_i c;split at h
   .cases h
   .rename_i b;cases h;simp[bE,a _ _ c,gH a b]
def a0S{O β:Type}{f:O->Option β}:∀{l:List O} {r:List β} {x:O} {y:β} (k:Nat),bE f l=some r->f x=some y->bE f (l.set k x)=some (r.set k y)
 |[],r,_,_,k,h,_=>by cases h;rfl
 |z::l,r,x,y,k,h,a=>by
  simp only[bE] at h;split at h
  .cases h
  .rename_i c;split at h
   .cases h
   .rename_i b;cases h;cases k with
    |zero=>grind[bE]
    |succ k=>simp[bE,c,a0S k b a]
theorem aHP{f:SV->Option Value}:∀{ds:aq} {vs:ao} {cs:aq} {r:ao} (k:Nat),bE f cs=some r->bE f ds=some vs->bE f (bBY cs k ds)=some (aHL r k vs)
 |[],vs,cs,r,k,h,a=>by cases a;exact h
 |d::ds,vs,cs,r,k,h,a=>by
  simp only[bE] at a;split at a
  .cases a
  .rename_i c;split at a
   .cases a
   .rename_i b;cases a;exact aHP (k+1) (a0S k h c) b
def Bl.app(B':Bl){q:Nat×Nat}(h:B[n]?=some q):(B++B')[n]?=some q:=aj
theorem iI(B':Bl){v:Value}(h:cA B x=some v):cA (B++B') x=some v:=by
 cases x<;>simp only[cA] at h ⊢<;>try exact h
 grind
def bB2(B':Bl){v:Value}(h:gV B x=some v):gV (B++B') x=some v:=by
 cases x<;>simp only[gV] at h ⊢<;>try exact iI B' h
 grind[gH,iI]
def bB3(B':Bl){x:Nat}{v:Value}(h:aCD B x=some v):aCD (B++B') x=some v:=by grind[aCD]
theorem AE(B':Bl){v:Value}(h:gT B x=some v):gT (B++B') x=some v:=by
 cases x<;>simp only[gT] at h ⊢<;>try exact bB2 B' h
 .split at h
  .rename_i a;rw[gH (λ_ _=>bB2 B') a];exact h
  .cases h
 .split at h
  .rename_i a;rw[gH (λ_ _=>bB3 B') a];exact h
  .cases h
 .exact h
theorem bNB{v:Value}(h:gV B x=some v):gT B x=some v:=by cases x<;>first|exact h|grind[gV,cA]
def a6Q{v:Value}(h:cA B x=some v):gT B x=some v:=by cases x<;>first|exact h|grind[cA]
structure iW (n:Nat) (B:Bl) (e:SE) (a:Act):Prop where
 d:a.defers=[]
 size:a.tmps.size=n
 get:∀k x,HL e k=some x->∃v,gT B x=some v/\a.tmps[k]?=some v
def vE(B:Bl):SE->Env
 |[]=>[]
 |(k,x)::e=>(k,(gT B x).getD undef)::vE B e
def bB4{B:Bl}{k:Nat}{v:Value}:∀{e:SE},lk (vE B e) k=some v->∃x,HL e k=some x/\v=(gT B x).getD undef
 |[],h=>by simp[vE,lk] at h
 |(j,x)::e,h=>by
  simp only[vE,lk] at h;simp only[HL];cases a:Nat.beq k j with
  |true=>grind
  |false=>rw[a] at h;exact bB4 h
theorem aP9{B:Bl}{k:Nat}{x:SV}:∀{e:SE},HL e k=some x->lk (vE B e) k=some ((gT B x).getD undef)
 |[],h=>by simp[HL] at h
 |(j,y)::e,h=>by
  simp only[HL] at h;simp only[vE,lk];cases a:Nat.beq k j with
  |true=>grind
  |false=>rw[a] at h;exact aP9 h
section
variable {n:Nat} {B:Bl} {e:SE} {a:Act}
theorem iW.env(h:iW n B e a):PL n (vE B e) a:=⟨h.d,h.size,λk v b=>by
 obtain⟨x,c,g⟩:=bB4 b;obtain⟨u,f,d⟩:=h.get k x c;grind⟩
theorem iW.of{a':Act}(h:iW n B e a){d:Nat}{v:Value}(g:gT B x=some v)(c:PL n ((d,v)::vE B e) a'):iW n B ((d,x)::e) a':=⟨c.d,c.size,λk y b=>by
 simp only[HL] at b;cases f:Nat.beq k d with
 |true=>
  rw[f] at b;cases b;exact⟨v,g,c.get k v (by grind[lk])⟩
 |false=>
  rw[f] at b;obtain⟨u,i,j⟩:=h.get k y b;refine⟨u,i,c.get k u ?_⟩;grind[lk,aP9]⟩
theorem iW.app(h:iW n B e a)(B':Bl):iW n (B++B') e a:=⟨h.d,h.size,λk x b=>by
 obtain⟨v,d,c⟩:=h.get k x b;grind[AE]⟩
theorem a6R(h:bBW m=some x):gT B x=some (.int .u8 (m:Int))/\uK x=some (.u8,(m:Int)):=by grind[bBW,AA,UInt8.toNat_ofNat',gT,gV,cA,uK]
theorem bK1{v:Value}(h:one? v=some x):gT B x=some v:=by grind[one?,gT,gV,cA]
theorem bK2{v:Value}(h:ofC v=some x):gT B x=some v:=by
 unfold ofC at h;split at h
 .exact(a6R h).1
 .cases h;rfl
 .cases h;rfl
 .cases h;rename_i s;cases s;simp[gT,gV,cA]
 .cases h;rfl
 .cases h
 .exact bK1 h
theorem fL(c:iW n B e a){o:Operand}(h:jS e o=some x):∃v,gT B x=some v/\ev (vE B e) o=some v:=by
 cases o with
 |tmp t=>
  obtain⟨v,b,_⟩:=c.get t x h;exact⟨v,b,by simp only[ev];rw[aP9 h,b];rfl⟩
 |const v=>exact⟨v,bK2 h,rfl⟩
 |global g=>cases h
 |func f=>cases h;exact⟨_,rfl,rfl⟩
theorem a33{v:Value}(h:uK x=some (k,i))(b:gT B x=some v):v=.int k i:=by
 cases x<;>simp only[uK] at h<;>cases h
 .cases b;rfl
 .cases b;rfl
theorem a6S{c:Bool}{v:Value}(h:a6P x=some c)(b:gT B x=some v):v=.bool c:=by
 cases x<;>simp only[a6P] at h<;>cases h
 .cases b;rfl
 .cases b;rfl
theorem bK3{c:IntKind}(h:jS e (.const (.int c j))=some x)(b:uK x=some (k,i)):j=i:=by
 simp only[jS] at h;unfold ofC at h;split at h
 .rename_i heq;cases heq;have:=(a6R (B:=[]) h).2;rw[this] at b;cases b;rfl
 .rename_i heq;cases heq;cases h;cases b;rfl
 all_goals (rename_i heq;first|(cases heq;done)|skip)
 rename_i l b g f d;exact absurd rfl (b _ _)
end
structure I3 (P:Program) (T:TT):Prop where
 und:∀t i,AY T t=some i->∃d,P.underlying t=some d/\match i.d with
  |.i k=>d=.int k
  |.b=>d=.bool
  |.st fs=>∃Fs:Array Field,d=.struct Fs/\Fs.toList.map (·.offset)=fs.map (·.1)/\(∀(j:Nat) F,Fs[j]?=some F->∃m,fs[j]?=some (F.offset,m)/\∀w,(sizeOf F.type).run P w=.ok m w)/\∀w,(Fs.mapM λf=>(do pure (f.offset,<-sizeOf f.type):Sem (Nat×Nat))).run P w=.ok fs.toArray w
  |.s=>d=.string
  |.sl el=>d=.slice el
  |.x=>True
 agg:∀t i,AY T t=some i->∀w,(isAgg t).run P w=.ok i.a w
 size:∀t i,AY T t=some i->∀w,(sizeOf t).run P w=.ok i.n w
 zero:∀t i,AY T t=some i->∃z,(∀w,(zeroValue t).run P w=.ok z w)/\bE (cA []) i.z=some z.cells.toList
section
variable {P:Program} {T:TT} {n:Nat} {B:Bl} {e:SE} {E:Env} {o:Oper} {w:World} {x y:Operand}
theorem bG6{f r:SV}(c:o.op=.binOp op t x y z)(b:ev E x=some (.int k i))(a:ev E y=some (.int k j))(q:jS e y=some f)(p:uK f=some (k,j))(h:bG2 op k i j y=some r):∃v,gT B r=some v/\gD P o E w v w:=by
 have l:∀d m,y=.const (.int d (.ofNat (m+1)))->j≠0:=λd m s=>by grind[bK3]
 have g:∀d m,y=.const (.int d (.negSucc m))->j≠0:=λd m s=>by grind[bK3]
 cases op with
 |add=>cases h;exact⟨_,rfl,bKA c b a⟩
 |sub=>cases h;exact⟨_,rfl,bKB c b a⟩
 |mul=>cases h;exact⟨_,rfl,bKC c b a⟩
 |lss=>cases h;exact⟨_,rfl,bKD c b a⟩
 |leq=>cases h;exact⟨_,rfl,bKE c b a⟩
 |gtr=>cases h;exact⟨_,rfl,bKF c b a⟩
 |geq=>cases h;exact⟨_,rfl,bKG c b a⟩
 |eql=>cases h;exact⟨_,rfl,bKH c b a⟩
 |neq=>cases h;exact⟨_,rfl,bKI c b a⟩
 |and=>cases h;exact⟨_,rfl,bKJ c b a⟩
 |or=>cases h;exact⟨_,rfl,bM6 c b a⟩
 |xor=>cases h;exact⟨_,rfl,bKK c b a⟩
 |andNot=>cases h;exact⟨_,rfl,a8K c b a⟩
 |quo=>
  simp only[bG2] at h;split at h
  .cases h;exact⟨_,rfl,a3S c b a (l _ _ rfl)⟩
  .cases h;exact⟨_,rfl,a3S c b a (g _ _ rfl)⟩
  .cases h
 |rem=>
  simp only[bG2] at h;split at h
  .cases h;exact⟨_,rfl,a3T c b a (l _ _ rfl)⟩
  .cases h;exact⟨_,rfl,a3T c b a (g _ _ rfl)⟩
  .cases h
 |_=>cases h
theorem bB5{a:IntKind}{b r:SV}(f:o.op=.binOp op t x y z)(d:ev E x=some (.int k i))(c:ev E y=some (.int a j))(p:jS e y=some b)(l:uK b=some (a,j))(h:shI op k i j y=some r):∃v,gT B r=some v/\gD P o E w v w:=by
 have g:∀a m,y=.const (.int a (.ofNat m))->¬j<0:=λa m q=>by grind[bK3]
 cases op<;>simp only[shI] at h<;>try (cases h;done)
 .split at h
  .cases h;exact⟨_,rfl,bAZ f d c (g _ _ rfl)⟩
  .cases h
 .split at h
  .cases h;exact⟨_,rfl,bKL f d c (g _ _ rfl)⟩
  .cases h
theorem bK4(hT:I3 P T){a c r:SV}{D vc:Value}(l:o.op=.binOp op t x y z)(g:ev E x=some D)(f:ev E y=some vc)(s:gT B a=some D)(q:gT B c=some vc)(b:jS e y=some c)(h:bin T op t a c y=some r):∃v,gT B r=some v/\gD P o E w v w:=by
 unfold bin at h;split at h
 .rename_i k i I j u m;have C:=a33 u s;have A:=a33 m q;subst C;subst A;split at h
  .exact bB5 l g f b m h
  .exact bB5 l g f b m h
  .split at h
   .rename_i G _;subst G;exact bG6 l g f b m h
   .cases h
 .split at h
  .cases s;cases q;split at h
   .cases h;exact⟨_,rfl,bGH l g f⟩
   .cases h;exact⟨_,rfl,bGI l g f⟩
   .cases h
  .split at h
   .rename_i u m H;have C:=a6S u s;have A:=a6S m q;subst C;subst A;obtain⟨d,F,p⟩:=hT.und _ _ H;simp only at p;subst p;split at h
    .cases h;exact⟨_,rfl,bGF F l g f⟩
    .cases h;exact⟨_,rfl,bGG F l g f⟩
    .cases h
   .cases h
theorem bG7(hT:I3 P T){s:TypeId}{a r:SV}{k:Value}(g:o.op=.convert s t x)(c:ev E x=some k)(l:gT B a=some k)(h:conv T s t a=some r):∃v,gT B r=some v/\gD P o E w v w:=by
 unfold conv at h
 split at h
 .rename_i i q _ _ _ p m;obtain⟨u,f,_⟩:=hT.und _ _ p;obtain⟨d,j,b⟩:=hT.und _ _ m;simp only at b;subst b;split at h
  .cases l;split at h
   .cases h;exact⟨_,rfl,bA3 f j g c⟩
   .cases h;exact⟨_,rfl,aXE f j g c⟩
  .cases l;split at h
   .cases h;exact⟨_,rfl,bA4 f j g c⟩
   .cases h
  .cases h
 .cases h
theorem a6T(hT:I3 P T){t ix k:Nat}(h:bG3 T t ix=some k):∃(fs:Array Field) (f:Field) (m:Nat),P.underlying t=some (.struct fs)/\fs[ix]?=some f/\f.offset=k/\∀w,(sizeOf f.type).run P w=.ok (m+1) w:=by
 unfold bG3 at h;split at h
 .rename_i fs _ _ _ q;obtain⟨d,j,Fs,rfl,a,b,_⟩:=hT.und _ _ q;split at h
  .rename_i r m p;cases h;have g:Fs.size=fs.length:=by have:=dL List.length a;grind
   have c:ix<Fs.size:=aj
   obtain⟨m',i,l⟩:=b ix Fs[ix] (by simp[c]);rw[p] at i;cases i;exact⟨Fs,Fs[ix],m,j,by simp[c],rfl,l⟩
  .cases h
 .cases h
theorem bB6(hT:I3 P T){t ix:Nat}{a r:SV}{l:Value}(q:o.op=.fieldAddr t x ix)(p:ev E x=some l)(c:gT B a=some l)(h:bBX T t a ix=some r):∃v,gT B r=some v/\gD P o E w v w:=by
 unfold bBX at h;split at h
 .split at h
  .rename_i u s k d;cases h;obtain⟨fs,f,m,j,i,A,g⟩:=a6T hT d;simp only[gT,gV,cA] at c ⊢;split at c
   .rename_i b z D;cases c;exact⟨_,rfl,bA2 j q i g p aa⟩
   .cases c
  .cases h
 .split at h
  .rename_i s0 u C s k d;cases h;obtain⟨fs,f,m,j,i,A,g⟩:=a6T hT d;cases c;exact⟨_,rfl,bA2 j q i g p aa⟩
  .cases h
 .cases h
end
def XM(B:Bl)(n:Nat)(cs:aq):Chunk where
 P:=λw F=>∃b z vs,B[n]?=some (b,z)/\bE (cA B) cs=some vs/\(cAt b z vs).P w F
 keep:=λ⟨b,z,vs,g,f,a⟩ c e=>⟨b,z,vs,g,f,(cAt b z vs).keep a c e⟩
 lt:=λ⟨b,z,vs,_,_,a⟩ d=>(cAt b z vs).lt a d
def lS(B:Bl):Ch->Chunk
 |.box n cs=>XM B n cs
 |.o c=>c
 |_=>QY
def roF(B:Bl)(R:bn):Ch->Prop
 |.ro n cs=>∃b z vs,B[n]?=some (b,z)/\bE (cA B) cs=some vs/\fAt b z vs∈R
 |.f f=>f∈R
 |.w n b z=>B[n]?=some (b,z)
 |_=>True
structure nZ (c:Ctx) (w:World) (B:Bl) (L:an):Prop where
 ex:∃R,St c w (L.map (lS B)) R/\∀x∈L,roF B R x
 s0:∀b o,c.S0 b o->b<c.w0.heap.size
inductive kW (w:World):bc->bc->Prop where
 |nil:kW w [] []
 |cons {a b:Chunk} {A B:bc} (h:∀F,a.P w F->b.P w F) (t:kW w A B):kW w (a::A) (b::B)
def Sep.imp{w:World}:∀{A B:bc} {F:dA},kW w A B->Sep w A F->Sep w B F
 |_,_,_,.nil,h=>h
 |_,_,_,.cons h t,⟨a,f,e,d,b,c⟩=>⟨a,f,h a e,Sep.imp t d,b,c⟩
def St.imp{A B:bc}(h:St c w A R)(b:kW w A B):St c w B R:=by obtain⟨F,S,a,rest⟩:=h.sep;exact⟨h.keep,⟨F,S,Sep.imp b a,rest⟩,h.apart⟩
theorem kW.refl{w:World}:∀(A:bc),kW w A A
 |[]=>.nil
 |_::A=>.cons (λ_ h=>h) (kW.refl A)
theorem kW.append{w:World}:∀{A B A' B':bc},kW w A B->kW w A' B'->kW w (A++A') (B++B')
 |_,_,_,_,.nil,h=>h
 |_,_,_,_,.cons h t,a=>.cons h (kW.append t a)
def kW.set{w:World}{a b:Chunk}:∀{A B:bc} (i:Nat),kW w A B->(∀F,a.P w F->b.P w F)->kW w (A.set i a) (B.set i b)
 |_,_,_,.nil,_=>.nil
 |_,_,0,.cons _ t,h=>.cons h t
 |_,_,i+1,.cons g t,h=>.cons g (kW.set i t h)
theorem kW.put{w:World}{a b:Chunk}:∀{A:bc} (i:Nat),A[i]?=some a->(∀F,a.P w F->b.P w F)->kW w A (A.set i b)
 |[],_,h,_=>by simp at h
 |x::A,0,h,g=>by simp at h;subst h;exact .cons g (kW.refl A)
 |x::A,i+1,h,g=>.cons (λ_ h=>h) (kW.put i aj g)
def bB7(B':Bl){cs:aq}(h:(XM B n cs).P w F):(XM (B++B') n cs).P w F:=by obtain⟨b,z,vs,d,c,a⟩:=h;exact⟨b,z,vs,Bl.app B' d,gH (λ_ _=>iI B') c,a⟩
def bG8(B':Bl){x:Ch}(h:(lS B x).P w F):(lS (B++B') x).P w F:=by cases x<;>first|exact bB7 B' h|exact h
def aEH{B:Bl}(B':Bl){w:World}:∀(L:an),kW w (L.map (lS B)) (L.map (lS (B++B')))
 |[]=>.nil
 |_::L=>.cons (λ_ h=>bG8 B' h) (aEH B' L)
theorem aXK(B':Bl){x:Ch}(h:roF B R x):roF (B++B') R x:=by
 cases x<;>try exact h
 .obtain⟨b,z,vs,d,c,a⟩:=h;exact⟨b,z,vs,Bl.app B' d,gH (λ_ _=>iI B') c,a⟩
 .exact Bl.app B' h
theorem aHQ{c:bn}(a:∀f∈R,f∈c){x:Ch}(h:roF B R x):roF B c x:=by
 cases x<;>try exact h
 .obtain⟨b,z,vs,g,e,d⟩:=h;exact⟨b,z,vs,g,e,a _ d⟩
 .exact a _ h
section
variable {P:Program} {T:TT} {n:Nat} {B:Bl} {e:SE} {E:Env} {o:Oper} {w w':World} {x y:Operand} {c:Ctx} {L:an}
theorem nZ.app(h:nZ c w B L)(B':Bl):nZ c w (B++B') L:=by obtain⟨⟨R,f,d⟩,b⟩:=h;exact⟨⟨R,f.imp (aEH B' L),λx a=>aXK B' (d x a)⟩,b⟩
theorem aWA{n:Nat}{cs:aq}:∀{L:an},MS n L=some cs->Ch.box n cs∈L\/Ch.ro n cs∈L
 |[],h=>by cases h
 |x::L,h=>by
  have a:MS n L=some cs->Ch.box n cs∈x::L\/Ch.ro n cs∈x::L:=λh=>by
   obtain h|h:=aWA h
   .exact .inl (uI _ h)
   .exact .inr (uI _ h)
  cases x<;>simp only[MS] at h<;>try exact a h
  .split at h
   .rename_i b;cases h;rw[rR b];exact .inl (aFH ..)
   .exact a h
  .split at h
   .rename_i b;cases h;rw[rR b];exact .inr (aFH ..)
   .exact a h
theorem nZ.cells(h:nZ c w B L){n:Nat}{cs:aq}(k:MS n L=some cs):∃b z vs,B[n]?=some (b,z)/\bE (cA B) cs=some vs/\bU w b z vs:=by
 obtain⟨⟨R,j,l⟩,_⟩:=h;obtain hm|hm:=aWA k
 .obtain⟨i,a⟩:=aLY hm;obtain⟨F,b,z,vs,g,f,d⟩:=j.chunk (ch:=XM B n cs) i (by rw[D0,a];rfl);exact⟨b,z,vs,g,f,d.1⟩
 .obtain⟨b,z,vs,g,f,d⟩:=l _ hm;obtain⟨i,a⟩:=aLY d;exact⟨b,z,vs,g,f,j.fat i a⟩
theorem aHR{b z o:Nat}(h:bU w b z vs)(d:o+m<=vs.length):bU w b (z+o) ((vs.drop o).take m):=by
 intro q u a;rw[aLZ] at a;split at a
 .rw[List.getElem?_drop] at a;have:=h (o+q) u a;grind
 .cases a
theorem a6U:∀(cs:aq) (o:Nat) (v:SV) (vs:aq),o<cs.length->ovw cs o (v::vs)=ovw (cs.set o v) (o+1) vs
 |[],o,v,vs,h=>by simp at h
 |c::cs,0,v,vs,_=>by simp[ovw]
 |c::cs,o + 1,v,vs,h=>by simp only[ovw,List.set_cons_succ];rw[a6U cs o v vs aj]
theorem aXL:∀(cs:aq) (o:Nat),ovw cs o []=cs
 |[],o=>by simp[ovw]
 |c::cs,0=>by simp[ovw]
 |c::cs,o+1=>by simp[ovw,aXL cs o]
theorem aQA:∀(vs cs:aq) (o:Nat),o+vs.length<=cs.length->ovw cs o vs=bBY cs o vs
 |[],cs,o,_=>by rw[aXL];rfl
 |v::vs,cs,o,h=>by simp at h;rw[a6U cs o v vs aa,aQA vs _ _ ah];rfl
theorem Y9{O:Type}:∀{l r:List O},frc l=some r->r=l
 |[],r,h=>by cases h;rfl
 |x::l,r,h=>by
  simp only[frc] at h;split at h
  .rename_i s a;cases h;rw[Y9 a]
  .cases h
theorem a0T(hT:I3 P T){a r:SV}{u:Value}(D:nZ c w B L)(C:o.op=.load t x)(A:ev E x=some u)(g:gT B a=some u)(h:aV9 T t a L=some r):∃v,gT B r=some v/\gD P o E w v w:=by
 unfold aV9 at h;split at h
 .rename_i H k;split at h
  .rename_i cs _ m _ l f;split at h
   .rename_i d;split at h
    case h_2=>cases h
    rename_i I j;cases h;have:=Y9 j;subst this;obtain⟨b,z,vs,q,i,p⟩:=D.cells l;have s:=m0 i;have d:=XC d;simp only[gT,gV,cA,q] at g;cases g;have F:=XL m (XJ k i);refine⟨_,by grind[gT,gV],bA1 (cs:=(vs.drop k).take m) C A (hT.agg _ _ f) (hT.size _ _ f) ah (aHR p aa)⟩
   .cases h
  .rename_i cs _ _ _ l f;obtain⟨b,z,vs,q,i,p⟩:=D.cells l;simp only[gT,gV,cA,q] at g;cases g;obtain⟨v,F,G⟩:=XI i h;exact⟨v,a6Q F,bA0 C A (hT.agg _ _ f) (p k v G)⟩
  .cases h
 .cases h
theorem XN{a:SV}{v:Value}(b:gT B a=some v)(h:bE (cA B) (qP a)=some vs):v.cells.toList=vs:=by
 cases a
 case g cs=>
  simp only[qP] at h;simp only[gT,gV,h] at b;cases b;rfl
 all_goals
  simp only[qP,bE] at h;split at h
  .cases h
  .rename_i u hu;cases h;have d:=a6Q hu;rw[b] at d;cases d;have:=aP8 hu;cases v<;>first|rfl|cases this
end
def bNC{a:SV}{v:Value}(h:cA B a=some v)(b:qP a=[a]):∃vs,bE (cA B) (qP a)=some vs:=⟨[v],by grind[bE]⟩
def aGK{a:SV}{v:Value}(h:isCells a=true)(b:gT B a=some v):∃vs,bE (cA B) (qP a)=some vs:=by
 cases a
 case g cs=>
  simp only[gT,gV] at b;split at b
  .rename_i vs c;exact⟨vs,c⟩
  .cases b
 case t=>cases h
 case f=>cases h
 case u=>cases h
 all_goals exact bNC b rfl
def bJJ(off:Nat):∀(vs:ao) (k:Nat) (cells:b4),((vs.zipIdx k).foldl (λcs (q:Value×Nat)=>cs.setIfInBounds (off+q.2) q.1) cells).toList=aHL cells.toList (off+k) vs
 |[],k,cells=>rfl
 |v::vs,k,cells=>by simp only[List.zipIdx_cons,List.foldl_cons,aHL];rw[bJJ off vs (k+1)];grind
def aWB{n:Nat}{B:Bl}{e:SE}{a:Act}(g:iW n B e a){fs:b5}:∀(ps:cr) {cs r:aq} {cells:b4},bE (cA B) cs=some cells.toList->aXG e fs ps cs=some r ->
  ∃vs rs,evs (vE B e) (ps.map (·.2))=some vs/\bE (cA B) r=some rs/\Instr.fill (fs.toArray[·]?) cells ((ps.map (·.1)).zip vs)=some rs.toArray
 |[],cs,r,cells,d,h=>by cases h;exact⟨[],cells.toList,rfl,d,by simp[Instr.fill]⟩
 |(ix,o)::ps,cs,r,cells,d,h=>by
  simp only[aXG] at h;split at h
  .rename_i f m v D w;split at h
   .rename_i t l k;split at h
    case h_2=>cases h
    rename_i H b;have l:=rR l;have k:=XC k;have:=Y9 b;rw[aQA _ _ _ aa] at this;subst this;obtain⟨u,j,C⟩:=fL g w;obtain⟨x,i⟩:=aGK t j;have A:=XN j i;have z:=m0 i;have p:=m0 d;have y:u.cells.size=m:=aj
    have s:cells.size=cs.length:=aa
    have c:bE (cA B) (bBY cs f (qP v))=some ((u.cells.zipIdx.foldl (λcs (q:Value×Nat)=>cs.setIfInBounds (f+q.2) q.1) cells).toList):=by have:=bJJ f u.cells.toList 0 cells;grind[Array.toList_zipIdx,aHP]
    obtain⟨vs,rs,G,F,E⟩:=aWB g ps c h;simp_all[evs,Instr.fill]
   .cases h
  .cases h
section
variable {P:Program} {T:TT} {n:Nat} {B:Bl} {e:SE} {a:Act} {o:Oper} {w w':World} {x y:Operand} {c:Ctx} {L:an}
theorem a8U(hT:I3 P T)(p:iW n B e a){ps:Array (Nat×Operand)}{r:SV}(C:o.op=.build t ps)(h:a31 T e t ps.toList=some r):∃v,gT B r=some v/\gD P o (vE B e) w v w:=by
 unfold a31 at h;split at h
 .rename_i fs _ z i;split at h
  .rename_i cs q;cases h;obtain⟨d,m,Fs,rfl,_,_,l⟩:=hT.und _ _ i;obtain⟨j,k,f⟩:=hT.zero _ _ i;have b:bE (cA B) z=some j.cells.toList:=by have:=gH (g:=cA B) (λx v h=>by simpa using iI (B:=[]) B h) f;exact this
   obtain⟨vs,A,u,D,s⟩:=aWB p ps.toList b q;exact⟨_,by grind[gT,gV],bA5 (ps:=ps.toList) aa k m l u s⟩
  .cases h
 .cases h
theorem aXM(hT:I3 P T)(g:iW n B e a)(t:nZ c w B L){r:SV}(h:ev1 T e L o.op=some r):∃v,gT B r=some v/\gD P o (vE B e) w v w:=by
 generalize k:o.op=op at h;unfold ev1 at h;split at h
 .grind[fL,bGE]
 .grind[fL,a8H]
 .grind[fL,gT,gV,cA,bJ8,bGN]
 .split at h
  .rename_i heq;obtain⟨v,b,i⟩:=fL g heq;cases b;grind[fL,a8I]
  .rename_i heq;obtain⟨v,b,i⟩:=fL g heq;cases b;grind[fL,a8J]
  .cases h
 .split at h
  .rename_i heq;cases h;obtain⟨v,b,i⟩:=fL g heq;cases b;exact⟨_,rfl,bAY k i⟩
  .rename_i heq;cases h;obtain⟨v,b,i⟩:=fL g heq;cases b;exact⟨_,rfl,bAY k i⟩
  .cases h
 .split at h
  .rename_i heq;cases h;obtain⟨v,b,i⟩:=fL g heq;cases b;exact⟨_,rfl,bJ9 k i⟩
  .cases h
 .split at h
  .rename_i b i;obtain⟨v,f,l⟩:=fL g b;obtain⟨u,s,q⟩:=fL g i;exact bK4 hT k l q f s i h
  .cases h
 .split at h
  .rename_i b;obtain⟨v,f,l⟩:=fL g b;exact bG7 hT k l f h
  .cases h
 .split at h
  .rename_i b;obtain⟨v,f,l⟩:=fL g b;simp only[gT] at f;split at f
   .rename_i xs _ vs p;cases f;obtain⟨u,A,z⟩:=XI p h;grind[bNB,a3U]
   .cases f
  .cases h
 .split at h
  .rename_i b;obtain⟨v,f,l⟩:=fL g b;exact bB6 hT k l f h
  .cases h
 .grind[fL,a0T]
 .exact a8U hT g k h
 .split at h
  .rename_i b i;obtain⟨v,f,l⟩:=fL g b;obtain⟨d,m,j⟩:=hT.und _ _ i;unfold bNA at h;split at h
   .split at h
    .cases h;cases f;simp only at j;subst j;exact⟨_,rfl,bKN m k l⟩
    .cases h
   .split at h
    .cases h;cases f;simp only at j;subst j;exact⟨_,rfl,bGJ m k l⟩
    .cases h
   .cases h
  .cases h
 .cases h
end
def rU(n:Nat)(c:Ctx)(B0:Bl)(m:Nat)(e:SE)(L:an)(a:Act)(w:World):Prop:=∃B,(B0++B).length=m/\iW n (B0++B) e a/\nZ c w (B0++B) L
section
variable {m:Nat} {e:SE} {L:an}
theorem aQB{m:Nat}{v:Value}(a:cA B x=some v)(h:∀n o,x=.p n o->n<m):cA (B.take m) x=some v:=by
 cases x<;>simp only[cA] at a ⊢<;>try exact a
 grind
theorem F7{B:Bl}{m:Nat}:∀{cs:aq} {vs:ao},CR.okC m cs=true->bE (cA B) cs=some vs->bE (cA (B.take m)) cs=some vs
 |[],vs,_,h=>h
 |x::cs,vs,b,h=>by
  simp only[bE] at h;split at h
  .cases h
  .rename_i d;split at h
   .cases h
   .rename_i c;cases h;have a:(∀n o,x=.p n o->n<m)/\CR.okC m cs=true:=by simp only[CR.okC] at b;grind[AA]
    simp[bE,aQB d a.1,F7 a.2 c]
theorem a6V{B:Bl}{m:Nat}:∀{cs:aq} {vs:ao},CR.okT m cs=true->bE (gV B) cs=some vs->bE (gV (B.take m)) cs=some vs
 |[],vs,_,h=>h
 |x::cs,vs,c,h=>by
  simp only[bE] at h;split at h
  .cases h
  .rename_i b f;split at h
   .cases h
   .rename_i d;cases h;have a:gV (B.take m) x=some b/\CR.okT m cs=true:=by simp only[CR.okT] at c;grind[aQB,AA,gV,F7]
    simp[bE,a.1,a6V a.2 d]
theorem a6W{B:Bl}{m:Nat}:∀{cs:ar} {vs:ao},CR.okF m cs=true->bE (aCD B) cs=some vs->bE (aCD (B.take m)) cs=some vs
 |[],vs,_,h=>h
 |x::cs,vs,a,h=>by
  simp only[bE] at h;split at h
  .cases h
  .rename_i y0 f;split at h
   .cases h
   .rename_i c;cases h;simp only[CR.okF] at a;split at a
    .rename_i d;have b:aCD (B.take m) x=some y0:=by simp_all[aCD]
     simp[bE,b,a6W a c]
    .cases a
theorem ZA{m:Nat}{v:Value}(h:CR m x=true)(a:gT B x=some v):gT (B.take m) x=some v:=by
 cases x
 case p n o=>exact aQB (x:=.p n o) a (λd c i=>by grind[CR,AA])
 case g cs=>
  simp only[gT,gV] at a ⊢;split at a
  .rename_i b;rw[F7 h b];exact a
  .cases a
 case t cs=>
  simp only[gT] at a ⊢;split at a
  .rename_i b;rw[a6V h b];exact a
  .cases a
 case f f cs=>
  simp only[gT] at a ⊢;split at a
  .rename_i b;rw[a6W h b];exact a
  .cases a
 all_goals exact a
theorem bB8{z:SV}:cA B (re1 z x)=cA B x:=by cases z<;>cases x<;>rfl
theorem bG9{z:SV}:gT B (re1 z x)=gT B x:=by cases z<;>cases x<;>rfl
theorem a6X{B:Bl}:∀{cs ds:aq},bE (cA B) (reC cs ds)=bE (cA B) ds
 |[],[]=>rfl
 |[],_::_=>rfl
 |_::_,[]=>rfl
 |c::cs,d::ds=>by simp only[reC,bE,bB8,a6X]
theorem bB9:cA B (nb1 x)=cA B x:=by cases x<;>rfl
theorem QZ{B:Bl}:∀{cs:aq},bE (cA B) (nbL cs)=bE (cA B) cs
 |[]=>rfl
 |c::cs=>by simp only[nbL,bE,bB9,QZ]
theorem bK5:gV B (nbG x)=gV B x:=by
 cases x<;>try rfl
 grind[nbG,gV,QZ]
theorem a6Y{B:Bl}:∀{cs:aq},bE (gV B) (nbT cs)=bE (gV B) cs
 |[]=>rfl
 |c::cs=>by simp only[nbT,bE,bK5,a6Y]
theorem aXN:gT B (nbG x)=gT B x:=by
 cases x<;>try rfl
 grind[nbG,gT,gV,QZ]
theorem aO8:gT B (nbS x)=gT B x:=by
 cases x with
 |g cs=>exact aXN (x:=.g cs)
 |t xs=>grind[nbS,gT,a6Y]
 |_=>rfl
theorem a6Z{B:Bl}:∀{cs:aq},bE (gT B) (nbT cs)=bE (gT B) cs
 |[]=>rfl
 |c::cs=>by simp only[nbT,bE,aXN,a6Z]
theorem US{B:Bl}:∀{cs:aq},bE (gT B) (nbA cs)=bE (gT B) cs
 |[]=>rfl
 |c::cs=>by
  simp only[nbA];split
  .simp only[bE,US];rfl
  .simp only[bE,aXN,US]
theorem bCA{e:SE}:∀{e' s:SE} {k:Nat} {x:SV},reE e e'=some s->HL s k=some x->∃y,HL e k=some y/\∀B,gT B x=gT B y
 |[],s,k,x,h,a=>by cases h;cases a
 |(j,y)::r,s,k,x,h,a=>by
  simp only[reE] at h;split at h
  .rename_i z f;split at h
   .rename_i d b;cases h;simp only[HL] at a;cases c:Nat.beq k j with
    |true=>grind[rR,bG9]
    |false=>rw[c] at a;exact bCA b a
   .cases h
  .cases h
theorem aXO{B:Bl}{w:World}{R:bn}:∀(M L:an),kW w (L.map (lS B)) ((reL M L).map (lS B))/\((∀x∈L,roF B R x)->∀x∈reL M L,roF B R x)
 |[],L=>by grind[reL,kW.refl]
 |x::M,[]=>by cases x<;>exact⟨.nil,λh=>h⟩
 |x::M,y::L=>by
  obtain⟨c,j⟩:=aXO (B:=B) (w:=w) (R:=R) M L;have gen:reL (x::M) (y::L)=y::reL M L->kW w ((y::L).map (lS B)) ((reL (x::M) (y::L)).map (lS B))/\((∀x∈y::L,roF B R x)->∀z∈reL (x::M) (y::L),roF B R z):=λg=>by rw[g];refine⟨.cons (λ_ h=>h) c,λh z a=>?_⟩;grind
  cases x with
  |box n cs=>
   cases y with
   |box k l=>
    simp only[reL];refine⟨.cons (λF ⟨b,z,vs,f,i,d⟩=>⟨b,z,vs,f,by grind[a6X],d⟩) c,λh z a=>?_⟩;obtain a|a:=qM.1 a
    .subst a;trivial
    grind
   |_=>exact gen rfl
  |_=>exact gen (by cases y<;>rfl)
theorem bCB{m:Nat}:∀{s:SE} {k:Nat} {x:SV},okE m s=true->HL s k=some x->CR m x=true
 |[],k,x,h,a=>by cases a
 |(j,y)::r,k,x,h,a=>by
  simp only[okE] at h;split at h
  .rename_i c;simp only[HL] at a;cases b:Nat.beq k j with
   |true=>grind
   |false=>rw[b] at a;exact bCB h a
  .cases h
theorem aXP{m:Nat}:∀{L:an} {x:Ch},okL m L=true->x∈L->(∀n cs,x=.box n cs\/x=.ro n cs->n<m/\CR.okC m cs=true)
 |y::L,x,h,a,n,cs,d=>by
  have g:(∀n cs,y=.box n cs\/y=.ro n cs->n<m/\CR.okC m cs=true)/\okL m L=true:=by
   cases y with
   |box k c=>
    grind[okL,AA]
   |ro k c=>
    grind[okL,AA]
   |o c=>exact⟨λn cs d=>aj,h⟩
   |f c=>exact⟨λn cs d=>aj,h⟩
   |no=>exact⟨λn cs d=>aj,h⟩
   |w k b z=>
    grind[okL]
  obtain a|a:=qM.1 a
  .grind
  .exact aXP g.2 a n cs d
theorem bJK{m n b z:Nat}:∀{L:an},okL m L=true->Ch.w n b z∈L->n<m
 |y::L,h,d=>by
  have g:(y=.w n b z->n<m)/\okL m L=true:=by
   cases y with
   |box k c=>
    grind[okL]
   |ro k c=>
    grind[okL]
   |w k b z=>
    grind[okL,AA]
   |o c=>exact⟨λa=>(by cases a),h⟩
   |f c=>exact⟨λa=>(by cases a),h⟩
   |no=>exact⟨λa=>(by cases a),h⟩
  obtain d|d:=qM.1 d
  .grind
  .exact bJK g.2 d
theorem aQC{L:an}:∀{is:ar} {x:Ch},x∈kl L is->x∈L
 |i::is,x,h=>by
  simp only[kl] at h;split at h
  .rename_i y a;obtain h|h:=qM.1 h
   .grind
   .exact aQC h
  .exact aQC h
theorem a60{B:Bl}{w:World}{L:an}:∀(is:ar),∃a,(∀j∈a,j∈is)/\(eA is=true->eA a=true)/\kW w (pick (L.map (lS B)) a) ((kl L is).map (lS B))
 |[]=>⟨[],ae,λh=>h,.nil⟩
 |i::is=>by
  obtain⟨a,g,f,d⟩:=a60 (B:=B) (w:=w) (L:=L) is;cases c:L[i]? with
  |none=>
   refine⟨a,λj b=>uI _ (g j b),λh=>f ?_,?_⟩
   .simp only[eA,ET] at h;exact h.2
   .simp only[kl,c];exact d
  |some x=>
   refine⟨i::a,λj b=>?_,λh=>?_,?_⟩
   .grind
   .simp_all[eA]
   .simp only[kl,c,pick,D0,Option.map_some,Option.getD_some,aFG];exact .cons (λ_ h=>h) d
theorem bCC(h:nZ c w B L)(is:ar)(f:eA is=true):nZ c w B (kl L is):=by obtain⟨⟨R,s1,b⟩,s0⟩:=h;obtain⟨a,_,i,g⟩:=a60 (B:=B) (w:=w) (L:=L) is;exact⟨⟨R,(s1.sel a (i f)).imp g,λx d=>b x (aQC d)⟩,s0⟩
theorem aHS{m:Nat}{L:an}(h:nZ c w B L)(i:okL m L=true):nZ c w (B.take m) L:=by
 obtain⟨⟨R,s1,p⟩,s0⟩:=h;have d:∀x∈L,∀F,(lS B x).P w F->(lS (B.take m) x).P w F:=by
  intro x a F o;cases x with
  |box n cs=>
   obtain⟨k,j⟩:=aXP i a n cs (.inl rfl);obtain⟨b,z,vs,q,g,f⟩:=o;exact⟨b,z,vs,aj,F7 j g,f⟩
  |_=>exact o
 have imp:∀(M:an),(∀x∈M,x∈L)->kW w (M.map (lS B)) (M.map (lS (B.take m))):=by
  intro M;induction M with
  |nil=>exact λ_=>.nil
  |cons x M r=>exact λl=>.cons (d x (l x ae)) (r λy s=>l y (uI _ s))
 refine⟨⟨R,s1.imp (imp L λ_ h=>h),λx a=>?_⟩,s0⟩;have:=p x a;cases x with
 |ro n cs=>
  obtain⟨k,j⟩:=aXP i a n cs (.inr rfl);obtain⟨b,z,vs,q,g,f⟩:=this;exact⟨b,z,vs,aj,F7 j g,f⟩
 |w n b z=>
  have k:=bJK i a;exact(by rw[aLZ,aM k];exact this:(List.take m B)[n]?=some (b,z))
 |_=>exact this
theorem bK6{L:an}(h:nZ c w B L)(M:an):nZ c w B (reL M L):=by obtain⟨⟨R,s1,a⟩,s0⟩:=h;exact⟨⟨R,s1.imp (aXO (R:=R) M L).1,(aXO (w:=w) M L).2 a⟩,s0⟩
theorem Rel.as{B0:Bl}{m':Nat}{e':SE}{L':an}{a:Act}(i:rU n c B0 m e L a w)(is:ar)(z:eA is=true){f:SE}{M:an}(h:asS e L is m' f M=some (e',L'))(t:m'<=m)(o:B0.length<=m'):rU n c B0 m' e' L' a w:=by
 unfold asS at h;split at h
 .rename_i s g;split at h
  .rename_i D C;cases h;obtain⟨B,u,b,A⟩:=i;have l:(B0++B).take m'=B0++B.take (m'-B0.length):=by rw[List.take_append,aHJ o]
   refine⟨B.take (m'-B0.length),aj,?_,?_⟩
   .rw[<-l];exact⟨b.d,b.size,λk x j=>by
     obtain⟨y,d,p⟩:=bCA g j;obtain⟨v,r,q⟩:=b.get k y d;grind[ZA,bCB]⟩
   grind[aHS,bK6,bCC]
  .cases h
 .cases h
theorem rU.asT{B0:Bl}{m':Nat}{e':SE}{L':an}{a:Act}(b:rU n c B0 m e L a w)(is:ar){f:SE}{M:an}(h:asT B0.length m e L is m' f M=some (e',L')):rU n c B0 m' e' L' a w:=by grind[Go.Gv.asT,Rel.as,XC]
end
end Go.Gv
end
