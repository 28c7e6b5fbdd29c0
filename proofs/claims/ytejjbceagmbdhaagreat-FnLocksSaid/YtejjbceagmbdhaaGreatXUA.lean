import Derived.WalkKit
import Derived.OrdersHeld
import Derived.LoopN
import Derived.Laws.BytesString
import Derived.Deep.Slices
import Derived.ProofKit
import Derived.OpenShut
import Derived.ShutString
import Derived.ChangeOld
import Derived.Below
import Derived.Carry
set_option linter.unusedVariables false
set_option linter.unusedSimpArgs false
set_option linter.unusedSectionVars false
set_option linter.constructorNameAsVariable false
set_option linter.unnecessarySimpa false
noncomputable section
namespace Go.Gv
theorem aG{α β:Type}(a:α)(f:α->Option β):(some a).bind f=f a:=rfl
theorem bC:(false=true)=False:=by simp
theorem b9{p:Prop}[inst:Decidable p](h:p):decide p=true:=by simp [h]
theorem dP{p:Prop}[inst:Decidable p](h:¬p):decide p=false:=by simp [h]
theorem gY:(!true)=false:=rfl
theorem HB:(!false)=true:=rfl
theorem aS0:type_of% @Array.getD_eq_getD_getElem?:=@Array.getD_eq_getD_getElem?
theorem zP:type_of% @Bool.and_eq_true:=@Bool.and_eq_true
theorem FR:type_of% @Bool.eq_iff_iff:=@Bool.eq_iff_iff
theorem aXP:type_of% @Int.eq_ofNat_of_zero_le:=@Int.eq_ofNat_of_zero_le
theorem JZ:type_of% @Int.toNat_natCast:=@Int.toNat_natCast
theorem aCC:type_of% @List.all_cons:=@List.all_cons
theorem VN:type_of% @List.all_eq_true:=@List.all_eq_true
theorem tN:type_of% @List.append_assoc:=@List.append_assoc
theorem xG:type_of% @List.append_nil:=@List.append_nil
theorem TW:type_of% @List.cons_append:=@List.cons_append
theorem aHB:type_of% @List.drop_drop:=@List.drop_drop
theorem IJ:type_of% @List.drop_eq_getElem_cons:=@List.drop_eq_getElem_cons
theorem MP:type_of% @List.drop_zero:=@List.drop_zero
theorem lM:type_of% @List.eq_nil_of_length_eq_zero:=@List.eq_nil_of_length_eq_zero
theorem VO:type_of% @List.ext_getElem?:=@List.ext_getElem?
theorem VQ:type_of% @List.getD_eq_getElem?_getD:=@List.getD_eq_getElem?_getD
theorem VR:type_of% @List.getElem?_append:=@List.getElem?_append
theorem IK:type_of% @List.getElem?_append_left:=@List.getElem?_append_left
theorem DI:type_of% @List.getElem?_append_right:=@List.getElem?_append_right
theorem QY:type_of% @List.getElem?_drop:=@List.getElem?_drop
theorem fT:type_of% @List.getElem?_eq_getElem:=@List.getElem?_eq_getElem
theorem A7:type_of% @List.getElem?_eq_none:=@List.getElem?_eq_none
theorem iE:type_of% @List.getElem?_eq_some_iff:=@List.getElem?_eq_some_iff
theorem DJ:type_of% @List.getElem?_map:=@List.getElem?_map
theorem aCD:type_of% @List.getElem?_of_mem:=@List.getElem?_of_mem
theorem QZ:type_of% @List.getElem?_set_ne:=@List.getElem?_set_ne
theorem Y9:type_of% @List.getElem?_set_self:=@List.getElem?_set_self
theorem DK:type_of% @List.getElem?_take:=@List.getElem?_take
theorem dC:type_of% @List.getElem_mem:=@List.getElem_mem
theorem aCE:type_of% @List.getElem_of_mem:=@List.getElem_of_mem
theorem rD:type_of% @List.length_append:=@List.length_append
theorem GU:type_of% @List.length_cons:=@List.length_cons
theorem GV:type_of% @List.length_drop:=@List.length_drop
theorem aKM:type_of% @List.length_nil:=@List.length_nil
theorem cL:type_of% @List.length_set:=@List.length_set
theorem AL:type_of% @List.length_take:=@List.length_take
theorem wI:type_of% @List.map_append:=@List.map_append
theorem EZ:type_of% @List.map_cons:=@List.map_cons
theorem MQ:type_of% @List.map_set:=@List.map_set
theorem gC:type_of% @List.mem_append:=@List.mem_append
theorem ZA:type_of% @List.mem_append_left:=@List.mem_append_left
theorem gW:type_of% @List.mem_cons:=@List.mem_cons
theorem nF:type_of% @List.mem_cons_of_mem:=@List.mem_cons_of_mem
theorem aHC:type_of% @List.mem_flatMap:=@List.mem_flatMap
theorem TX:type_of% @List.mem_iff_getElem:=@List.mem_iff_getElem
theorem tP:type_of% @List.mem_of_getElem?:=@List.mem_of_getElem?
theorem aCF:type_of% @List.mem_of_mem_drop:=@List.mem_of_mem_drop
theorem sQ:type_of% @List.mem_or_eq_of_mem_set:=@List.mem_or_eq_of_mem_set
theorem aCG:type_of% @List.nil_append:=@List.nil_append
theorem MR:type_of% @List.not_mem_nil:=@List.not_mem_nil
theorem aHD:type_of% @List.set_getElem_self:=@List.set_getElem_self
theorem aHE:type_of% @List.set_set:=@List.set_set
theorem TY:type_of% @List.take_append_drop:=@List.take_append_drop
theorem ZB:type_of% @List.take_append_of_le_length:=@List.take_append_of_le_length
theorem Q0:type_of% @List.take_length:=@List.take_length
theorem aHF:type_of% @List.take_of_length_le:=@List.take_of_length_le
theorem TZ:type_of% @List.take_succ_eq_append_getElem:=@List.take_succ_eq_append_getElem
theorem VT:type_of% @List.take_zero:=@List.take_zero
theorem E0:type_of% @Nat.add_assoc:=@Nat.add_assoc
theorem fU:type_of% @Nat.add_mul:=@Nat.add_mul
theorem KB:type_of% @Nat.add_zero:=@Nat.add_zero
theorem mQ:type_of% @Nat.blt_eq:=@Nat.blt_eq
theorem jJ:type_of% @Nat.eq_of_beq_eq_true:=@Nat.eq_of_beq_eq_true
theorem tQ:type_of% @Nat.le_of_ble_eq_true:=@Nat.le_of_ble_eq_true
theorem PG:type_of% @Nat.le_of_eq:=@Nat.le_of_eq
theorem jA:type_of% @Nat.le_refl:=@Nat.le_refl
theorem sS:type_of% @Nat.le_trans:=@Nat.le_trans
theorem MS:type_of% @Nat.lt_of_lt_of_le:=@Nat.lt_of_lt_of_le
theorem oW:type_of% @Nat.mul_le_mul_right:=@Nat.mul_le_mul_right
theorem AM:type_of% @Nat.zero_add:=@Nat.zero_add
theorem jK:type_of% @Nat.zero_le:=@Nat.zero_le
theorem aCH:type_of% @Option.isSome_iff_exists:=@Option.isSome_iff_exists
theorem KC:type_of% @Option.map_some:=@Option.map_some
abbrev cB:=Nat->Nat->Prop
def cB.C9(F G:cB):Prop:=∀b o,F b o->G b o->False
def F0:cB:=fun _ _=>False
theorem cB.aRB{F G:cB}(h:F.C9 G):G.C9 F:=fun b o hg hf=>h b o hf hg
structure dL (F:cB) (w w':World):Prop where
 os:w'.os=w.os
 tape:w'.tape=w.tape
 output:w'.output=w.output
 size:w.heap.size<=w'.heap.size
 block:∀b,b < w.heap.size->(∀o,¬F b o)->w'.heap[b]?=w.heap[b]?
 cell:∀b o,b < w.heap.size->¬F b o->w'.cell? ⟨b,o,none⟩=w.cell? ⟨b,o,none⟩
 wR:∀b o,b < w.heap.size->w'.frozen? ⟨b,o,none⟩=w.frozen? ⟨b,o,none⟩
 stay:∀b o,(w.cell? ⟨b,o,none⟩).isSome=true->(w'.cell? ⟨b,o,none⟩).isSome=true
theorem iS{w:World}{b o:Nat}(h:(w.cell? ⟨b,o,none⟩).isSome=true):b < w.heap.size:=by
 obtain⟨v,hv⟩:=aCH.1 h
 exact World.block_lt_of_cell? w ⟨b,o,none⟩ hv
theorem dL.refl(F:cB)(w:World):dL F w w:=⟨rfl,rfl,rfl,jA _,fun _ _ _=>rfl,fun _ _ _ _=>rfl,fun _ _ _=>rfl,fun _ _ h=>h⟩
theorem dL.mono{F G:cB}{w w':World}(h:dL F w w')(hs:∀b o,b < w.heap.size->F b o->G b o):dL G w w':=
 ⟨h.os,h.tape,h.output,h.size,fun b hb hg=>h.block b hb fun o hf=>hg o (hs b o hb hf),fun b o hb hg=>h.cell b o hb fun hf=>hg (hs b o hb hf),h.wR,h.stay⟩
theorem dL.trans{F G:cB}{w w1 w2:World}(h:dL F w w1)(k:dL G w1 w2)(hs:∀b o,b < w.heap.size->G b o->F b o):dL F w w2:=
  ⟨k.os.trans h.os, k.tape.trans h.tape, k.output.trans h.output, sS h.size k.size,
   fun b hb hf=>(k.block b (MS hb h.size) fun o hg=>hf o (hs b o hb hg)).trans (h.block b hb hf),
   fun b o hb hf=>(k.cell b o (MS hb h.size) fun hg=>hf (hs b o hb hg)).trans (h.cell b o hb hf),
   fun b o hb=>(k.wR b o (MS hb h.size)).trans (h.wR b o hb),fun b o hc=>k.stay b o (h.stay b o hc)⟩
theorem dL.drew(F:cB)(w:World):dL F w w.drew:=⟨rfl,rfl,rfl,jA _,fun _ _ _=>rfl,fun _ _ _ _=>rfl,fun _ _ _=>rfl,fun _ _ h=>h⟩
theorem dL.alloc(F:cB)(w:World)(ob:Obj):dL F w (w.alloc ob):=by
 have hb:∀b,b < w.heap.size->(w.alloc ob).heap[b]?=w.heap[b]?:=fun b hb=>by apply heap_alloc_old;exact hb
 have hc:∀b o,b < w.heap.size->(w.alloc ob).cell? ⟨b,o,none⟩=w.cell? ⟨b,o,none⟩:=fun b o h=>World.cell?_of_block (hb b h)
 exact⟨rfl,rfl,rfl,by simp,fun b h _=>hb b h,fun b o h _=>hc b o h,fun b o h=>World.frozen?_of_block (hb b h),
  fun b o h=>by rw [hc b o (iS h)];exact h⟩
theorem dL.setCell(F:cB)(w:World)(a:Addr)(v:Value)(hf:F a.block a.off)(ha:a.spot=none):dL F w (w.setCell a v):=by
 have hsz:(w.setCell a v).heap.size=w.heap.size:=by simp
 refine⟨rfl,rfl,rfl,by simp,fun b _ hn=>?_,fun b o _ hn=>?_,fun b o _=>by simp,fun b o h=>?_⟩
 ·exact heap_setCell_other w a b v (fun e=>hn a.off (e ▸ hf))
 ·refine World.cell?_setCell_other (h:=fun e=>hn ?_) ..
  rw [e] at hf;exact hf
 ·by_cases e:a=⟨b,o,none⟩
  ·subst e
   obtain⟨u,hu⟩:=aCH.1 h
   rw [World.cell?_setCell_same (h:=hu)];rfl
  ·rw [World.cell?_setCell_other (h:=e)];exact h
def aV(w:World)(b off:Nat)(cs:List Value):Prop:=∀j v,cs[j]?=some v->w.cell? ⟨b,off+j,none⟩=some v
class aD (α:Type) where
 n:Nat
 rd:cB->World->List Value->α->Prop
 own:World->List Value->α->cB->Prop
 jM:∀{S w cs d},rd S w cs d->cs.length=n
 rd_one:∀{S w cs d},rd S w cs d->∀v∈cs,v.oneCell'=true
 rd_agree:∀{S w w' cs d},rd S w cs d->(∀b o,S b o->w'.cell? ⟨b,o,none⟩=w.cell? ⟨b,o,none⟩)->rd S w' cs d
 rd_mono:∀{S S' w cs d},rd S w cs d->(∀b o,S b o->S' b o)->rd S' w cs d
 own_rd:∀{w cs d F},own w cs d F->rd F w cs d
 own_keep:∀{w w' cs d F G},own w cs d F->dL G w w'->F.C9 G->own w' cs d F
 own_lt:∀{w cs d F b o},own w cs d F->F b o->b < w.heap.size
@[reducible] def aD.flat {α : Type} (f : α -> Value) (hf : ∀ x, (f x).oneCell' = true) : aD α where
 n:=1
 rd:=fun _ _ cs x=>cs=[f x]
 own:=fun _ cs x F=>cs=[f x]/\∀b o,¬F b o
 jM:=fun h=>by simp [h]
 rd_one:=fun h v hv=>by simp [h] at hv;rw [hv];exact hf _
 rd_agree:=fun h _=>h
 rd_mono:=fun h _=>h
 own_rd:=fun h=>h.1
 own_keep:=fun h _ _=>h
 own_lt:=fun h hf=>(h.2 _ _ hf).elim
instance:aD Int:=aD.flat (fun x=>.int .i64 x) fun _=>rfl
instance:aD Bool:=aD.flat (fun x=>.bool x) fun _=>rfl
instance:aD UInt8:=aD.flat (fun x=>.int .u8 (x.toNat:Int)) fun _=>rfl
structure a0S where
 b:List UInt8
 deriving DecidableEq,Inhabited
instance:aD a0S:=aD.flat (fun x=>.string ⟨x.b.toArray⟩) fun _=>rfl
instance {α β:Type} [aD α] [aD β]:aD (α×β) where
 n:=aD.n α+aD.n β
 rd:=fun S w cs d=>∃c1 c2,cs=c1++c2/\aD.rd S w c1 d.1/\aD.rd S w c2 d.2
 own:=fun w cs d F=>∃c1 c2 F1 F2,cs=c1++c2/\aD.own w c1 d.1 F1/\aD.own w c2 d.2 F2/\cB.C9 F1 F2/\∀b o,F b o↔F1 b o\/F2 b o
 jM:=by rintro S w cs d ⟨c1,c2,rfl,h1,h2⟩;simp [aD.jM h1,aD.jM h2]
 rd_one:=by
  rintro S w cs d ⟨c1,c2,rfl,h1,h2⟩ v hv
  rcases gC.1 hv with h | h
  ·exact aD.rd_one h1 v h
  ·exact aD.rd_one h2 v h
 rd_agree:=by rintro S w w' cs d ⟨c1,c2,rfl,h1,h2⟩ ha;exact⟨c1,c2,rfl,aD.rd_agree h1 ha,aD.rd_agree h2 ha⟩
 rd_mono:=by rintro S S' w cs d ⟨c1,c2,rfl,h1,h2⟩ ha;exact⟨c1,c2,rfl,aD.rd_mono h1 ha,aD.rd_mono h2 ha⟩
 own_rd:=by
  rintro w cs d F ⟨c1,c2,F1,F2,rfl,h1,h2,_,hF⟩
  exact⟨c1,c2,rfl,aD.rd_mono (aD.own_rd h1) fun b o h=>(hF b o).2 (.inl h),aD.rd_mono (aD.own_rd h2) fun b o h=>(hF b o).2 (.inr h)⟩
 own_keep:=by
  rintro w w' cs d F G ⟨c1,c2,F1,F2,rfl,h1,h2,hd,hF⟩ hk hdj
  exact⟨c1,c2,F1,F2,rfl,aD.own_keep h1 hk fun b o h g=>hdj b o ((hF b o).2 (.inl h)) g,aD.own_keep h2 hk fun b o h g=>hdj b o ((hF b o).2 (.inr h)) g,hd,hF⟩
 own_lt:=by
  rintro w cs d F b o ⟨c1,c2,F1,F2,rfl,h1,h2,hd,hF⟩ hf
  rcases(hF b o).1 hf with h | h
  ·exact aD.own_lt h1 h
  ·exact aD.own_lt h2 h
@[reducible] def aD.via {σ τ : Type} [aD τ] (f : σ -> τ) : aD σ where
 n:=aD.n τ
 rd:=fun S w cs d=>aD.rd S w cs (f d)
 own:=fun w cs d F=>aD.own w cs (f d) F
 jM:=fun h=>aD.jM h
 rd_one:=fun h=>aD.rd_one h
 rd_agree:=fun h ha=>aD.rd_agree h ha
 rd_mono:=fun h ha=>aD.rd_mono h ha
 own_rd:=fun h=>aD.own_rd h
 own_keep:=fun h hk hd=>aD.own_keep h hk hd
 own_lt:=fun h hf=>aD.own_lt h hf
theorem aV.agree{w w':World}{b off:Nat}{cs:List Value}(h:aV w b off cs)(ha:∀o,off<=o->o < off+cs.length->w'.cell? ⟨b,o,none⟩=w.cell? ⟨b,o,none⟩):aV w' b off cs:=by
 intro j v hj
 have hlt:=(iE.1 hj).1
 rw [ha _ (by omega) (by omega)]
 exact h j v hj
theorem aV.lt{w:World}{b off:Nat}{cs:List Value}(h:aV w b off cs)(hc:cs≠[]):b < w.heap.size:=by
 cases cs with
 | nil=>exact absurd rfl hc
 | cons v r=>exact World.block_lt_of_cell? w ⟨b,off+0,none⟩ (h 0 v rfl)
def dK(b off n:Nat):cB:=fun b' o=>b'=b/\off<=o/\o < off+n
def sU{α:Type}[aD α](S:cB)(w:World)(cs:List Value)(l:List α):Prop:=
 ∃a c,cs=[.slice a l.length c]/\l.length<=c/\c<=maxLen /\
  (l=[]\/∃b off,a=some ⟨b,off,none⟩/\∀i (h:i < l.length),∃ec,aV w b (off+i * aD.n α) ec/\(∀o,dK b (off+i * aD.n α) ec.length b o->S b o)/\aD.rd S w ec l[i])
def E1{α:Type}[aD α](w:World)(cs:List Value)(l:List α)(F:cB):Prop:=
  ∃a c,cs=[.slice a l.length c]/\l.length<=c/\c<=maxLen /\
    ((a = none /\ c = 0 /\ ∀ b o, ¬ F b o) \/
     ∃b off,∃Fs:Nat->cB,a=some ⟨b,off,none⟩/\(∀o,dK b off (c * aD.n α) b o->(w.cell? ⟨b,o,none⟩).isSome=true/\w.frozen? ⟨b,o,none⟩=false) /\
       (∀i (h:i < l.length),∃ec,aV w b (off+i * aD.n α) ec/\aD.own w ec l[i] (Fs i)) /\
       (∀i j,i < l.length->j < l.length->i≠j->cB.C9 (Fs i) (Fs j))/\(∀i,i < l.length->cB.C9 (Fs i) (dK b off (c * aD.n α))) /\
       ∀b' o,F b' o↔dK b off (c * aD.n α) b' o\/∃i,i < l.length/\Fs i b' o)
theorem aZ2{i len c n j:Nat}(hi:i < len)(hc:len<=c)(hj:j < n):i * n+j < c * n:=by
 have:(i+1) * n<=c * n:=oW n (by omega)
 rw [fU] at this
 omega
instance aZ3 {α:Type} [aD α]:aD (List α) where
 n:=1
 rd:=sU
 own:=E1
 jM:=by rintro S w cs d ⟨a,c,rfl,_⟩;rfl
 rd_one:=by rintro S w cs d ⟨a,c,rfl,_⟩ v hv;simp at hv;subst hv;rfl
 rd_agree:=by
  rintro S w w' cs l ⟨a,c,rfl,h1,h2,h3⟩ ha
  refine⟨a,c,rfl,h1,h2,?_⟩
  rcases h3 with h | ⟨b,off,rfl,h⟩
  ·exact .inl h
  ·refine .inr ⟨b,off,rfl,fun i hi=>?_⟩
   obtain⟨ec,hc,hr,hd⟩:=h i hi
   exact⟨ec,hc.agree fun o a1 a2=>ha b o (hr o ⟨rfl,a1,a2⟩),hr,aD.rd_agree hd ha⟩
 rd_mono:=by
  rintro S S' w cs l ⟨a,c,rfl,h1,h2,h3⟩ ha
  refine⟨a,c,rfl,h1,h2,?_⟩
  rcases h3 with h | ⟨b,off,rfl,h⟩
  ·exact .inl h
  ·refine .inr ⟨b,off,rfl,fun i hi=>?_⟩
   obtain⟨ec,hc,hr,hd⟩:=h i hi
   exact⟨ec,hc,fun o a1=>ha b o (hr o a1),aD.rd_mono hd ha⟩
 own_rd:=by
  rintro w cs l F ⟨a,c,rfl,h1,h2,h3⟩
  refine⟨a,c,rfl,h1,h2,?_⟩
  rcases h3 with ⟨rfl,hc,_⟩ | ⟨b,off,Fs,rfl,hrow,hel,_,_,hF⟩
  ·subst hc;exact .inl (lM (by omega))
  ·refine .inr ⟨b,off,rfl,fun i hi=>?_⟩
   obtain⟨ec,hc,ho⟩:=hel i hi
   refine⟨ec,hc,fun o h4=>(hF b o).2 (.inl ⟨rfl,?_,?_⟩),aD.rd_mono (aD.own_rd ho) fun b' o hf=>(hF b' o).2 (.inr ⟨i,hi,hf⟩)⟩
   ·have:=h4.2.1;omega
   ·have hl:=aD.jM (aD.own_rd ho)
    obtain⟨_,h5,h6⟩:=h4
    rw [hl] at h6
    have:=aZ2 (j:=o - (off+i * aD.n α)) (n:=aD.n α) hi h1 (by omega)
    omega
 own_keep:=by
  rintro w w' cs l F G ⟨a,c,rfl,h1,h2,h3⟩ hk hd
  refine⟨a,c,rfl,h1,h2,?_⟩
  rcases h3 with h | ⟨b,off,Fs,rfl,hrow,hel,h4,h5,hF⟩
  ·exact .inl h
  ·refine .inr ⟨b,off,Fs,rfl,fun o ho=>?_,fun i hi=>?_,h4,h5,hF⟩
   ·have hs:=hrow o ho
    exact⟨hk.stay b o hs.1,(hk.wR b o (iS hs.1)).trans hs.2⟩
   ·obtain⟨ec,hc,ho⟩:=hel i hi
    refine⟨ec,hc.agree fun o h6 h7=>?_,aD.own_keep ho hk fun b' o hf hg=>hd b' o ((hF b' o).2 (.inr ⟨i,hi,hf⟩)) hg⟩
    have hin:dK b off (c * aD.n α) b o:=by
     refine⟨rfl,by omega,?_⟩
     have hl:=aD.jM (aD.own_rd ho)
     rw [hl] at h7
     have:=aZ2 (j:=o - (off+i * aD.n α)) (n:=aD.n α) hi h1 (by omega)
     omega
    exact hk.cell b o (iS (hrow o hin).1) fun hg=>hd b o ((hF b o).2 (.inl hin)) hg
 own_lt:=by
  rintro w cs l F b' o ⟨a,c,rfl,h1,h2,h3⟩ hf
  rcases h3 with ⟨_,_,h⟩ | ⟨b,off,Fs,rfl,hrow,hel,h4,h5,hF⟩
  ·exact(h _ _ hf).elim
  ·rcases(hF b' o).1 hf with h | ⟨i,hi,h⟩
   ·have e:b'=b:=h.1
    subst e
    exact iS (hrow o h).1
   ·obtain⟨ec,hc,ho⟩:=hel i hi
    exact aD.own_lt ho h
structure Chunk where
 P:World->cB->Prop
 keep:∀{w w' F G},P w F->dL G w w'->F.C9 G->P w' F
 lt:∀{w F b o},P w F->F b o->b < w.heap.size
def FT:Chunk:=⟨fun _ F=>∀b o,¬F b o,fun h _ _=>h,fun h hf=>(h _ _ hf).elim⟩
def QV(b off:Nat)(cs:List Value):Chunk where
 P:=fun w F=>aV w b off cs/\(∀o,dK b off cs.length b o->w.frozen? ⟨b,o,none⟩=false)/\∀b' o,F b' o↔dK b off cs.length b' o
 keep:=by
  rintro w w' F G ⟨h1,h2,hF⟩ hk hd
  have hlt:∀o,dK b off cs.length b o->b < w.heap.size:=fun o ho=>by
   obtain⟨_,h3,h4⟩:=ho
   exact World.block_lt_of_cell? w _ (h1 (o - off) cs[o - off] (fT (by omega)))
  refine⟨h1.agree fun o h3 h4=>?_,fun o ho=>(hk.wR b o (hlt o ho)).trans (h2 o ho),hF⟩
  have hin:dK b off cs.length b o:=⟨rfl,h3,h4⟩
  exact hk.cell b o (hlt o hin) fun hg=>hd b o ((hF b o).2 hin) hg
 lt:=by
  rintro w F b' o ⟨h1,h2,hF⟩ hf
  obtain⟨rfl,h3,h4⟩:=(hF b' o).1 hf
  exact World.block_lt_of_cell? w _ (h1 (o - off) cs[o - off] (fT (by omega)))
def aZ{α:Type}[aD α](cs:List Value)(d:α):Chunk:=⟨fun w F=>aD.own w cs d F,fun h hk hd=>aD.own_keep h hk hd,fun h hf=>aD.own_lt h hf⟩
def Sep(w:World):List Chunk->cB->Prop
 | [],F=>∀b o,¬F b o
 | c :: L,F=>∃F1 F2,c.P w F1/\Sep w L F2/\F1.C9 F2/\∀b o,F b o↔F1 b o\/F2 b o
theorem Sep.keep{w w':World}{G:cB}(hk:dL G w w'):∀{L:List Chunk} {F:cB},Sep w L F->F.C9 G->Sep w' L F
 | [],_,h,_=>h
 | c :: _, _, ⟨F1, F2, h1, h2, hd, hF⟩, hdj =>
  ⟨F1,F2,c.keep h1 hk fun b o h g=>hdj b o ((hF b o).2 (.inl h)) g,Sep.keep hk h2 fun b o h g=>hdj b o ((hF b o).2 (.inr h)) g,hd,hF⟩
theorem Sep.lt{w:World}:∀{L:List Chunk} {F:cB} {b o:Nat},Sep w L F->F b o->b < w.heap.size
 | [],_,_,_,h,hf=>(h _ _ hf).elim
 | c :: L, F, b, o, ⟨F1, F2, h1, h2, hd, hF⟩, hf => by
  rcases(hF b o).1 hf with h | h
  ·exact c.lt h1 h
  ·exact Sep.lt h2 h
theorem Sep.congr{w:World}{L:List Chunk}{F G:cB}(h:Sep w L F)(hFG:∀b o,F b o↔G b o):Sep w L G:=by
 have:F=G:=by funext b o;exact propext (hFG b o)
 rw [<-this];exact h
theorem Sep.append{w:World}:∀{A B:List Chunk} {F:cB},Sep w (A++B) F↔∃F1 F2,Sep w A F1/\Sep w B F2/\F1.C9 F2/\∀b o,F b o↔F1 b o\/F2 b o
 | [], B, F => by
  constructor
  ·intro h;exact⟨F0,F,fun _ _ h=>h,h,fun _ _ h _=>h,fun b o=>by simp [F0]⟩
  ·rintro⟨F1,F2,h1,h2,_,hF⟩
   exact Sep.congr h2 fun b o=>by rw [hF];exact⟨.inr,fun h=>h.elim (fun h=>(h1 _ _ h).elim) id⟩
 | c :: A, B, F => by
  constructor
  ·rintro⟨F1,F2,h1,h2,hd,hF⟩
   obtain⟨G1,G2,g1,g2,gd,hG⟩:=Sep.append.1 h2
   exact⟨fun b o=>F1 b o\/G1 b o,G2,⟨F1,G1,h1,g1,fun b o h g=>hd b o h ((hG b o).2 (.inl g)),fun _ _=>Iff.rfl⟩,g2,
    fun b o h g=>h.elim (fun h=>hd b o h ((hG b o).2 (.inr g))) (fun h=>gd b o h g),fun b o=>by rw [hF,hG,or_assoc]⟩
  ·rintro⟨F1,F2,⟨G1,G2,g1,g2,gd,hG⟩,h2,hd,hF⟩
   exact⟨G1,fun b o=>G2 b o\/F2 b o,g1,Sep.append.2 ⟨G2,F2,g2,h2,fun b o h g=>hd b o ((hG b o).2 (.inr h)) g,fun _ _=>Iff.rfl⟩,
    fun b o h g=>g.elim (fun g=>gd b o h g) (fun g=>hd b o ((hG b o).2 (.inl h)) g),fun b o=>by rw [hF,hG,or_assoc]⟩
theorem Sep.swap{w:World}{A B:List Chunk}{F:cB}(h:Sep w (A++B) F):Sep w (B++A) F:=by
 obtain⟨F1,F2,h1,h2,hd,hF⟩:=Sep.append.1 h
 exact Sep.append.2 ⟨F2,F1,h2,h1,cB.aRB hd,fun b o=>by rw [hF,or_comm]⟩
theorem Sep.take{w:World}{c:Chunk}:∀{L:List Chunk} {i:Nat} {F:cB},L[i]?=some c->(Sep w L F↔Sep w (c :: L.set i FT) F)
 | [],i,F,h=>by simp at h
 | d :: L, 0, F, h => by
  simp at h;subst h
  show(∃F1 F2,_)↔∃F1 F2,d.P w F1/\(∃G1 G2,FT.P w G1/\Sep w L G2/\G1.C9 G2/\_)/\_
  constructor
  ·rintro⟨F1,F2,h1,h2,hd,hF⟩
   exact⟨F1,F2,h1,⟨F0,F2,fun _ _ h=>h,h2,fun _ _ h _=>h,fun b o=>by simp [F0]⟩,hd,hF⟩
  ·rintro⟨F1,F2,h1,⟨G1,G2,g1,g2,_,hG⟩,hd,hF⟩
   exact⟨F1,G2,h1,g2,fun b o h g=>hd b o h ((hG b o).2 (.inr g)),fun b o=>by
    rw [hF,hG]
    constructor
    ·rintro(h | h | h)
     ·exact .inl h
     ·exact(g1 _ _ h).elim
     ·exact .inr h
    ·rintro(h | h)
     ·exact .inl h
     ·exact .inr (.inr h)⟩
 | d :: L, i + 1, F, h => by
  have h':L[i]?=some c:=by simpa using h
  show(∃F1 F2,d.P w F1/\Sep w L F2/\_)↔Sep w (c :: d :: L.set i FT) F
  have step:∀G,Sep w L G↔Sep w (c :: L.set i FT) G:=fun G=>Sep.take h'
  constructor
  ·rintro⟨F1,F2,h1,h2,hd,hF⟩
   obtain⟨G1,G2,g1,g2,gd,hG⟩:=(step F2).1 h2
   exact⟨G1,fun b o=>F1 b o\/G2 b o,g1,⟨F1,G2,h1,g2,fun b o h g=>hd b o h ((hG b o).2 (.inr g)),fun _ _=>Iff.rfl⟩,
    fun b o g h=>h.elim (fun h=>hd b o h ((hG b o).2 (.inl g))) (fun h=>gd b o g h),fun b o=>by rw [hF,hG,or_left_comm]⟩
  ·rintro⟨G1,H,g1,⟨F1,G2,h1,g2,hd,hH⟩,gd,hF⟩
   exact⟨F1,fun b o=>G1 b o\/G2 b o,h1,(step _).2 ⟨G1,G2,g1,g2,fun b o g h=>gd b o g ((hH b o).2 (.inr h)),fun _ _=>Iff.rfl⟩,
    fun b o h g=>g.elim (fun g=>gd b o g ((hH b o).2 (.inl h))) (fun g=>hd b o h g),fun b o=>by rw [hF,hH,or_left_comm]⟩
structure Ctx where
 w0:World
 W:cB
 S0:cB
structure Fact where
 P:cB->World->Prop
 agree:∀{S w w'},P S w->(∀b o,S b o->w'.cell? ⟨b,o,none⟩=w.cell? ⟨b,o,none⟩)->P S w'
 mono:∀{S S' w},P S w->(∀b o,S b o->S' b o)->P S' w
def zQ{α:Type}[aD α](cs:List Value)(d:α):Fact:=⟨fun S w=>aD.rd S w cs d,fun h ha=>aD.rd_agree h ha,fun h ha=>aD.rd_mono h ha⟩
def MT(w:World):cB:=fun b _=>b < w.heap.size
structure St (c:Ctx) (w:World) (L:List Chunk) (R:List Fact):Prop where
 keep:dL c.W c.w0 w
 sep:∃F S,Sep w L F/\F.C9 S/\(∀b o,F b o->c.W b o\/c.w0.heap.size<=b)/\(∀b o,S b o->c.S0 b o\/c.W b o\/c.w0.heap.size<=b) /\
  (∀b o,S b o->b < w.heap.size)/\∀f∈R,f.P S w
 apart:c.W.C9 c.S0
noncomputable section
variable {c:Ctx} {w w':World} {L:List Chunk} {R:List Fact}
theorem St.fact(h:St c w L R){f:Fact}(i:Nat)(hi:R[i]?=some f):f.P (MT w) w:=by
 obtain⟨F,S,_,_,_,_,h5,hR⟩:=h.sep
 exact f.mono (hR f (tP hi)) h5
theorem St.rd{α:Type}[aD α]{cs:List Value}{d:α}(h:St c w L R)(i:Nat)(hi:R[i]?=some (zQ cs d)):aD.rd (MT w) w cs d:=h.fact i hi
theorem St.chunk(h:St c w L R){ch:Chunk}(i:Nat)(hi:L[i]?=some ch):∃F,ch.P w F:=by
 obtain⟨F,S,hs,_⟩:=h.sep
 obtain⟨F1,F2,h1,_⟩:=(Sep.take hi).1 hs
 exact⟨F1,h1⟩
theorem St.aPH{α:Type}[aD α]{cs:List Value}{d:α}(h:St c w L R)(i:Nat)(hi:L[i]?=some (aZ cs d)):aD.rd (MT w) w cs d:=by
 obtain⟨F,hF⟩:=h.chunk i hi
 have hF:aD.own w cs d F:=hF
 exact aD.rd_mono (aD.own_rd hF) fun b o hf=>aD.own_lt hF hf
theorem St.step{A A' B:List Chunk}(h:St c w (A++B) R)(hs:∀F,Sep w A F->∃F' G,dL G w w'/\(∀b o,G b o->F b o)/\Sep w' A' F'/\∀b o,F' b o->F b o\/w.heap.size<=b) :
  St c w' (A'++B) R:=by
 obtain⟨F,S,hsep,hFS,hFW,hSS,hSlt,hR⟩:=h.sep
 obtain⟨F1,F2,h1,h2,hd,hF⟩:=Sep.append.1 hsep
 obtain⟨F',G,hk,hG,h1',hF'⟩:=hs F1 h1
 have hGW:∀b o,b < c.w0.heap.size->G b o->c.W b o:=fun b o hb g=>by
  rcases hFW b o ((hF b o).2 (.inl (hG b o g))) with h | h
  ·exact h
  ·omega
 refine⟨h.keep.trans hk hGW,⟨fun b o=>F' b o\/F2 b o,S,Sep.append.2 ⟨F',F2,h1',Sep.keep hk h2 fun b o hf g=>hd b o (hG b o g) hf,?_,fun _ _=>Iff.rfl⟩,?_,?_,hSS,fun b o hS=>MS (hSlt b o hS) hk.size,?_⟩,h.apart⟩
 ·intro b o hf hg
  rcases hF' b o hf with h | h
  ·exact hd b o h hg
  ·have:=Sep.lt h2 hg;omega
 ·rintro b o (hf | hf) hS
  ·rcases hF' b o hf with h | h
   ·exact hFS b o ((hF b o).2 (.inl h)) hS
   ·have:=hSlt b o hS;omega
  ·exact hFS b o ((hF b o).2 (.inr hf)) hS
 ·rintro b o (hf | hf)
  ·rcases hF' b o hf with h' | h'
   ·exact hFW b o ((hF b o).2 (.inl h'))
   ·exact .inr (sS h.keep.size h')
  ·exact hFW b o ((hF b o).2 (.inr hf))
 ·intro f hf
  exact f.agree (hR f hf) fun b o hS=>hk.cell b o (hSlt b o hS) fun g=>hFS b o ((hF b o).2 (.inl (hG b o g))) hS
theorem St.rot{A B:List Chunk}(h:St c w (A++B) R):St c w (B++A) R:=by
 obtain⟨F,S,hsep,rest⟩:=h.sep
 exact⟨h.keep,⟨F,S,hsep.swap,rest⟩,h.apart⟩
theorem St.take(h:St c w L R){ch:Chunk}(i:Nat)(hi:L[i]?=some ch):St c w (ch :: L.set i FT) R:=by
 obtain⟨F,S,hsep,rest⟩:=h.sep
 exact⟨h.keep,⟨F,S,(Sep.take hi).1 hsep,rest⟩,h.apart⟩
theorem Sep.put{w:World}{ch:Chunk}:∀{L:List Chunk} {i:Nat} {F:cB},i < L.length->Sep w (ch :: L.set i FT) F->Sep w (L.set i ch) F
 | L,i,F,hi,h=>(Sep.take (c:=ch) (L:=L.set i ch) (i:=i) (by simp [hi])).2 (by rw [aHE];exact h)
theorem St.put{ch:Chunk}{i:Nat}(h:St c w (ch :: L.set i FT) R)(hi:i < L.length):St c w (L.set i ch) R:=by
 obtain⟨F,S,hsep,rest⟩:=h.sep
 exact⟨h.keep,⟨F,S,Sep.put hi hsep,rest⟩,h.apart⟩
theorem St.VU(h:St c w L R){ch ch':Chunk}(i:Nat)(hi:L[i]?=some ch)(hs:∀F,ch.P w F->∃F' G,dL G w w'/\(∀b o,G b o->F b o)/\ch'.P w' F'/\∀b o,F' b o->F b o\/w.heap.size<=b) :
  St c w' (L.set i ch') R:=by
 have h1:St c w ([ch]++L.set i FT) R:=h.take i hi
 have h2:St c w' ([ch']++L.set i FT) R:=h1.step fun F hF=>by
  obtain⟨F1,F2,p1,p2,pd,pF⟩:=hF
  obtain⟨F',G,hk,hG,hp,hF'⟩:=hs F1 p1
  refine⟨F',G,hk,fun b o g=>(pF b o).2 (.inl (hG b o g)),⟨F',F0,hp,fun _ _ h=>h,fun _ _ _ h=>h,fun b o=>by simp [F0]⟩,fun b o hf=>?_⟩
  rcases hF' b o hf with h | h
  ·exact .inl ((pF b o).2 (.inl h))
  ·exact .inr h
 exact St.put h2 (iE.1 hi).1
theorem St.more(h:St c w L R){ch:Chunk}(hk:dL F0 w w')(hp:∃F,ch.P w' F/\∀b o,F b o->w.heap.size<=b):St c w' (L ++ [ch]) R:=by
 obtain⟨F,hp,hF⟩:=hp
 have h2:St c w' ([ch]++L) R:=St.step (A:=[]) (by simpa using h) fun G _=>⟨F,F0,hk,fun _ _ h=>h.elim,⟨F,F0,hp,fun _ _ h=>h,fun _ _ _ h=>h,fun b o=>by simp [F0]⟩,fun b o hf=>.inr (hF b o hf)⟩
 exact St.rot h2
theorem St.same(h:St c w L R)(hk:dL F0 w w'):St c w' L R:=
 St.step (A:=[]) (A':=[]) (B:=L) h fun _ _=>⟨F0,F0,hk,fun _ _ h=>h.elim,fun _ _ h=>h,fun _ _ h=>h.elim⟩
theorem St.weaken(h:St c w L R){R':List Fact}(hs:∀f∈R',f∈R):St c w L R':=by
 obtain⟨F,S,a1,a2,a3,a4,a5,a6⟩:=h.sep
 exact⟨h.keep,⟨F,S,a1,a2,a3,a4,a5,fun f hf=>a6 f (hs f hf)⟩,h.apart⟩
theorem St.drop{A:List Chunk}(h:St c w (A++L) R):St c w L R:=
 St.step (A:=A) (A':=[]) h fun _ _=>⟨F0,F0,dL.refl _ _,fun _ _ h=>h.elim,fun _ _ h=>h,fun _ _ h=>h.elim⟩
theorem St.derive(h:St c w L R){f:Fact}{Gs:List Fact}(i:Nat)(hi:R[i]?=some f)(hfg:∀S,f.P S w->∀g∈Gs,g.P S w):St c w L (R++Gs):=by
 obtain⟨F,S,a1,a2,a3,a4,a5,a6⟩:=h.sep
 refine⟨h.keep,⟨F,S,a1,a2,a3,a4,a5,fun g hg=>?_⟩,h.apart⟩
 rcases gC.1 hg with hg | hg
 ·exact a6 g hg
 ·exact hfg S (a6 f (tP hi)) g hg
theorem St.a3B{α:Type}[aD α]{cs:List Value}{d:α}(h:St c w L R)(i:Nat)(hi:L[i]?=some (aZ cs d)):St c w (L.set i FT) (R ++ [zQ cs d]):=by
 have h1:=h.take i hi
 obtain⟨F,S,⟨F1,F2,h1,h2,hd,hF⟩,a2,a3,a4,a5,a6⟩:=h1.sep
 have h1:aD.own w cs d F1:=h1
 refine⟨h.keep,⟨F2,fun b o=>S b o\/F1 b o,h2,?_,fun b o hf=>a3 b o ((hF b o).2 (.inr hf)),?_,?_,?_⟩,h.apart⟩
 ·rintro b o hf (hs | hs)
  ·exact a2 b o ((hF b o).2 (.inr hf)) hs
  ·exact hd b o hs hf
 ·rintro b o (hs | hs)
  ·exact a4 b o hs
  ·rcases a3 b o ((hF b o).2 (.inl hs)) with h | h
   ·exact .inr (.inl h)
   ·exact .inr (.inr h)
 ·rintro b o (hs | hs)
  ·exact a5 b o hs
  ·exact aD.own_lt h1 hs
 ·intro f hf
  rcases gC.1 hf with hf | hf
  ·exact f.mono (a6 f hf) fun b o hs=>.inl hs
  ·simp at hf;subst hf
   exact aD.rd_mono (aD.own_rd h1) fun b o hs=>.inr hs
def bZ(w:World):Ctx:=⟨w,F0,MT w⟩
theorem St.enter{RA:List Fact}(hR:∀f∈RA,f.P (MT w) w):St (bZ w) w [] RA:=
 ⟨dL.refl _ _,⟨F0,MT w,fun _ _ h=>h,fun _ _ h=>h.elim,fun _ _ h=>h.elim,fun _ _ h=>.inl h,fun _ _ h=>h,hR⟩,fun _ _ h=>h.elim⟩
theorem St.after{A':List Chunk}{RA:List Fact}(h:St c w L R)(k:St (bZ w) w' A' RA):St c w' (L++A') R:=by
 obtain⟨F,S,a1,a2,a3,a4,a5,a6⟩:=k.sep
 have h2:St c w' (A'++L) R:=St.step (w:=w) (A:=[]) (by simpa using h) fun G _=>⟨F,F0,k.keep,fun _ _ h=>h.elim,a1,fun b o hf=>(a3 b o hf).elim (fun h=>h.elim) .inr⟩
 exact St.rot h2
theorem St.call{A:List Chunk}{RA:List Fact}(h:St c w (A++L) R)(hRA:∀f∈RA,f∈R) :
  ∃c',c'.w0=w/\St c' w A RA/\∀w' A' R',St c' w' A' R'->St c w' (L++A') (R++R'):=by
 obtain⟨F,S,hsep,hFS,hFW,hSS,hSlt,hR⟩:=h.sep
 obtain⟨F1,F2,h1,h2,hd,hF⟩:=Sep.append.1 hsep
 refine⟨⟨w,F1,S⟩,rfl,⟨dL.refl _ _,⟨F1,S,h1,fun b o hf=>hFS b o ((hF b o).2 (.inl hf)),fun _ _ h=>.inl h,fun _ _ h=>.inl h,hSlt,fun f hf=>hR f (hRA f hf)⟩,fun b o hf=>hFS b o ((hF b o).2 (.inl hf))⟩,?_⟩
 intro w' A' R' k
 obtain⟨F',S',b1,b2,b3,b4,b5,b6⟩:=k.sep
 have hk:=k.keep
 have hGW:∀b o,b < c.w0.heap.size->F1 b o->c.W b o:=fun b o hb g=>by
  rcases hFW b o ((hF b o).2 (.inl g)) with h | h
  ·exact h
  ·omega
 refine⟨h.keep.trans hk hGW,⟨fun b o=>F2 b o\/F' b o,fun b o=>S b o/\True\/S' b o,Sep.append.2 ⟨F2,F',Sep.keep hk h2 fun b o hf g=>hd b o g hf,b1,?_,fun _ _=>Iff.rfl⟩,?_,?_,?_,?_,?_⟩,h.apart⟩
 ·intro b o hf hg
  rcases b3 b o hg with h | h
  ·exact hd b o h hf
  ·have h:w.heap.size<=b:=h
   have:=Sep.lt h2 hf;omega
 ·rintro b o (hf | hf) (⟨hs,_⟩ | hs)
  ·exact hFS b o ((hF b o).2 (.inr hf)) hs
  ·rcases b4 b o hs with h | h | h
   ·exact hFS b o ((hF b o).2 (.inr hf)) h
   ·exact hd b o h hf
   ·have h:w.heap.size<=b:=h
    have:=Sep.lt h2 hf;omega
  ·rcases b3 b o hf with h | h
   ·exact hFS b o ((hF b o).2 (.inl h)) hs
   ·have h:w.heap.size<=b:=h
    have:=hSlt b o hs;omega
  ·exact b2 b o hf hs
 ·rintro b o (hf | hf)
  ·exact hFW b o ((hF b o).2 (.inr hf))
  ·rcases b3 b o hf with h' | h'
   ·exact hFW b o ((hF b o).2 (.inl h'))
   ·exact .inr (sS h.keep.size h')
 ·rintro b o (⟨hs,_⟩ | hs)
  ·exact hSS b o hs
  ·rcases b4 b o hs with h' | h' | h'
   ·exact hSS b o h'
   ·rcases hFW b o ((hF b o).2 (.inl h')) with h'' | h''
    ·exact .inr (.inl h'')
    ·exact .inr (.inr h'')
   ·exact .inr (.inr (sS h.keep.size h'))
 ·rintro b o (⟨hs,_⟩ | hs)
  ·exact MS (hSlt b o hs) hk.size
  ·exact b5 b o hs
 ·intro f hf
  rcases gC.1 hf with hf | hf
  ·exact f.mono (f.agree (hR f hf) fun b o hs=>hk.cell b o (hSlt b o hs) fun g=>hFS b o ((hF b o).2 (.inl g)) hs) fun b o hs=>.inl ⟨hs,trivial⟩
  ·exact f.mono (b6 f hf) fun b o hs=>.inr hs
end
end Go.Gv
end
noncomputable section
namespace Go.Gv
abbrev Env:=List (Nat×Value)
def lk:Env->Nat->Option Value
 | [],_=>none
 | (k, v) :: e, n => match Nat.beq n k with
  | true=>some v
  | false=>lk e n
structure kW (n:Nat) (e:Env) (a:Act):Prop where
 d:a.defers=[]
 size:a.tmps.size=n
 get:∀k v,lk e k=some v->a.tmps[k]?=some v
def ev(e:Env):Operand->Option Value
 | .tmp t=>lk e t
 | .const v=>some v
 | .global g=>some (.pointer (some ⟨g,0,none⟩))
 | .func f=>some (.func (.func f) #[] #[])
theorem kW.eval{n:Nat}{e:Env}{a:Act}{x:Operand}{v:Value}(h:kW n e a)(hx:ev e x=some v):a.eval x=v:=by
 cases x with
 | tmp t =>
  have:=h.get t v hx
  show a.tmps.getD t undef=v
  rw [aS0,this];rfl
 | const u=>simpa [ev,Act.eval] using hx
 | global g=>simpa [ev,Act.eval] using hx
 | func f=>simpa [ev,Act.eval] using hx
theorem kW.put{n d:Nat}{e:Env}{a:Act}(h:kW n e a)(hd:d < n)(v:Value):kW n ((d,v) :: e) (a.put (some d) v):=by
 refine⟨h.d,by simp [Act.put,h.size],fun k u hk=>?_⟩
 simp only [lk] at hk
 show(a.tmps.setIfInBounds d v)[k]?=some u
 by_cases e1:k=d
 ·subst e1
  have:Nat.beq k k=true:=by simp
  rw [this] at hk
  simp at hk
  rw [Array.getElem?_setIfInBounds_self_of_lt (by rw [h.size];exact hd),hk]
 ·have:Nat.beq k d=false:=by cases hb:Nat.beq k d with
   | false=>rfl
   | true=>exact absurd (jJ hb) e1
  rw [this] at hk
  rw [Array.getElem?_setIfInBounds_ne (Ne.symm e1)]
  exact h.get k u hk
def Has(e:Env):Env->Prop
 | []=>True
 | (k,v) :: r=>lk e k=some v/\Has e r
theorem Has.get{e:Env}:∀{e':Env} {k:Nat} {v:Value},Has e e'->lk e' k=some v->lk e k=some v
 | [],_,_,_,h=>by simp [lk] at h
 | (k', v') :: r, k, v, ⟨h1, h2⟩, h => by
  simp only [lk] at h
  cases hb:Nat.beq k k' with
  | true=>rw [hb] at h;simp at h;subst h;rw [jJ hb];exact h1
  | false=>rw [hb] at h;exact Has.get h2 h
theorem kW.part{n:Nat}{e e':Env}{a:Act}(h:kW n e a)(hh:Has e e'):kW n e' a:=⟨h.d,h.size,fun k v hk=>h.get k v (hh.get hk)⟩
def aIK:Nat->List Value->Env
 | _,[]=>[]
 | k,v :: r=>(k,v) :: aIK (k+1) r
theorem aS1(l:List Value):∀(b k:Nat) (v:Value),lk (aIK b l) k=some v->b<=k/\l[k - b]?=some v:=by
 induction l with
 | nil=>intro b k v h;simp [aIK,lk] at h
 | cons x r ih =>
  intro b k v h
  simp only [aIK,lk] at h
  cases hb:Nat.beq k b with
  | true =>
   rw [hb] at h
   have:=jJ hb
   subst this
   simpa using h
  | false =>
   rw [hb] at h
   obtain⟨h1,h2⟩:=ih (b+1) k v h
   refine⟨by omega,?_⟩
   have:k - b=(k - (b+1))+1:=by omega
   rw [this];simpa using h2
theorem aZ4(l:List Value)(n:Nat)(hn:l.length<=n):kW n (aIK 0 l) {tmps:=l.toArray++Array.replicate (n - l.toArray.size) undef,defers:=[]}:=by
 refine⟨rfl,by simp;omega,fun k v hk=>?_⟩
 obtain⟨_,h2⟩:=aS1 l 0 k v hk
 have hlt:=(iE.1 h2).1
 rw [Array.getElem?_append_left (by simpa using hlt)]
 simpa using h2
def mkQ(N:Act->World->Prop)(X:Nat->Act->World->Prop)(T:Act->World->Prop):Exit->Act->World->Prop
 | .normal,a,w=>N a w
 | .exit i,a,w=>X i a w
 | .ret,a,w=>T a w
 | _,_,_=>False
def CW(P:Program)(c:Code)(N:Act->World->Prop)(X:Nat->Act->World->Prop)(T:Act->World->Prop)(a:Act)(w:World):Prop:=c.wp P (mkQ N X T) a w
def aCI(id:Nat)(N:Act->World->Prop)(X:Nat->Act->World->Prop):Nat->Act->World->Prop:=fun i a w=>if i=id then N a w else X i a w
theorem DS{id:Nat}{N:Act->World->Prop}{X:Nat->Act->World->Prop}{a:Act}{w:World}(h:N a w):aCI id N X id a w:=by simp [aCI,h]
noncomputable section
variable {P:Program} {c x y:Code} {N:Act->World->Prop} {X:Nat->Act->World->Prop} {T:Act->World->Prop} {a:Act} {w:World}
theorem CW.mono{N':Act->World->Prop}{X':Nat->Act->World->Prop}{T':Act->World->Prop}(h:CW P c N X T a w)(hN:∀a w,N a w->N' a w)(hX:∀i a w,X i a w->X' i a w)(hT:∀a w,T a w->T' a w):CW P c N' X' T' a w:=
 wp_mono h fun e a w q=>by
  cases e <;> first | exact hN _ _ q | exact hX _ _ _ q | exact hT _ _ q | exact q
theorem bO(h:CW P x (fun a w=>CW P y N X T a w) X T a w):CW P (.seq x y) N X T a w:=
 wp_seq (wp_mono h fun e a w q=>by cases e <;> exact q)
theorem oJ(h:N a w):CW P .skip N X T a w:=wp_skip h
theorem KD{id:Nat}(h:X id a w):CW P (.exit id) N X T a w:=wp_exit h
theorem zR(h:T a w):CW P .ret N X T a w:=wp_ret h
theorem kX{id:Nat}(h:CW P c N (aCI id N X) T a w):CW P (.block id c) N X T a w:=
 wp_block (wp_mono h fun e a w q=>by cases e <;> exact q)
theorem lF{o:Operand}{t:Bool}{n:Nat}{e:Env}(hA:kW n e a)(ho:ev e o=some (.bool t))(ht:t=true->CW P x N X T a w)(hf:t=false->CW P y N X T a w):CW P (.cond o x y) N X T a w:=
 wp_cond_split (hA.eval ho) ht hf
theorem a0T{o:Operand}{t:Bool}{n:Nat}{e:Env}(hA:kW n e a)(ho:ev e o=some (.bool t))(ht:t=true)(h:CW P x N X T a w):CW P (.cond o x y) N X T a w:=
 lF hA ho (fun _=>h) (fun hf=>by rw [ht] at hf;cases hf)
theorem a3C{o:Operand}{t:Bool}{n:Nat}{e:Env}(hA:kW n e a)(ho:ev e o=some (.bool t))(ht:t=false)(h:CW P y N X T a w):CW P (.cond o x y) N X T a w:=
 lF hA ho (fun hf=>by rw [ht] at hf;cases hf) (fun _=>h)
theorem aHH{id:Nat}{ops:Array Oper}(h:wpList P ops (mkQ N X T) ops.toList a w):CW P (.region id ops false) N X T a w:=wp_region_list h
end
inductive Step (σ ρ:Type) where
 | next (s:σ)
 | stop (r:ρ)
inductive Out (β ρ:Type) where
 | brk (s:β)
 | ret (r:ρ)
def iter{σ ρ:Type}(body:σ->Option (Step σ ρ)):Nat->σ->Option ρ
 | 0,_=>none
 | n + 1, s => match body s with
  | none=>none
  | some (.next s')=>iter body n s'
  | some (.stop r)=>some r
theorem aKN{σ ρ:Type}{body:σ->Option (Step σ ρ)}:∀{n m:Nat} {s:σ} {r r':ρ},iter body n s=some r->iter body m s=some r'->r=r'
 | 0,_,_,_,_,h,_=>by simp [iter] at h
 | _+1,0,_,_,_,_,h=>by simp [iter] at h
 | n + 1, m + 1, s, r, r', h, h' => by
  simp only [iter] at h h'
  cases hb:body s with
  | none=>rw [hb] at h;simp at h
  | some o => cases o with
   | next s'=>rw [hb] at h h';exact aKN h h'
   | stop q=>rw [hb] at h h';simp at h h';rw [<-h,<-h']
open Classical in
def loop{σ ρ:Type}(body:σ->Option (Step σ ρ))(s:σ):Option ρ:=
 if h:∃r,∃n,iter body n s=some r then some (Classical.choose h) else none
theorem MU{σ ρ:Type}{body:σ->Option (Step σ ρ)}{s:σ}{r:ρ}:loop body s=some r↔∃n,iter body n s=some r:=by
 unfold loop
 by_cases h:∃r,∃n,iter body n s=some r
 ·rw [dif_pos h]
  obtain⟨n,hn⟩:=Classical.choose_spec h
  constructor
  ·intro e;simp at e;exact⟨n,e ▸ hn⟩
  ·rintro⟨m,hm⟩;rw [aKN hn hm]
 ·rw [dif_neg h]
  constructor
  ·intro e;simp at e
  ·rintro⟨m,hm⟩;exact absurd ⟨r,m,hm⟩ h
theorem bG{σ ρ:Type}{body:σ->Option (Step σ ρ)}{s:σ}{r:ρ}(h:body s=some (.stop r)):loop body s=some r:=MU.2 ⟨1,by simp [iter,h]⟩
theorem bQ{σ ρ:Type}{body:σ->Option (Step σ ρ)}{s s':σ}(h:body s=some (.next s')):loop body s=loop body s':=by
 cases h2:loop body s' with
 | some r =>
  obtain⟨n,hn⟩:=MU.1 h2
  exact MU.2 ⟨n+1,by simp [iter,h,hn]⟩
 | none =>
  cases h1:loop body s with
  | none=>rfl
  | some r =>
   obtain⟨n,hn⟩:=MU.1 h1
   cases n with
   | zero=>simp [iter] at hn
   | succ n=>simp only [iter,h] at hn;rw [MU.2 ⟨n,hn⟩] at h2;cases h2
theorem KE{P:Program}{c:Code}{N:Act->World->Prop}{X:Nat->Act->World->Prop}{T:Act->World->Prop}{σ ρ:Type}{body:σ->Option (Step σ ρ)}{r:ρ}(Inv:σ->Act->World->Prop)
  (round:∀s a w o,Inv s a w->body s=some o->(∀q,o=.stop q->q=r)->CW P c (fun a' w'=>∃s',o=.next s'/\Inv s' a' w') X T a w)
  {s:σ} (hl:loop body s=some r) {a:Act} {w:World} (h:Inv s a w):CW P (.loop c) N X T a w:=by
 obtain⟨n,hn⟩:=MU.1 hl
 refine wp_loop_rounds n ?_
 clear hl
 induction n generalizing s a w with
 | zero=>simp [iter] at hn
 | succ n ih =>
  simp only [iter] at hn
  rw [rounds_succ]
  cases hb:body s with
  | none=>rw [hb] at hn;simp at hn
  | some o =>
   have hr:∀q,o=.stop q->q=r:=fun q e=>by subst e;rw [hb] at hn;simpa using hn
   refine wp_mono (round s a w o h hb hr) fun e a' w' q=>?_
   cases e with
   | normal=>obtain⟨s',e,hI⟩:=q;subst e;rw [hb] at hn;exact ih hI hn
   | _=>exact q
end Go.Gv
end
noncomputable section
namespace Go.Gv
abbrev aX(n:Int):Int:=IntKind.i64.wrap n
def dM(P:Program)(o:Oper)(e:Env)(w:World)(v:Value)(w':World):Prop:=∀n a,kW n e a->(execOp a.eval o).run P w=.ok (.value v) w'
def aS2(P:Program)(o:Oper)(e:Env)(w:World)(w':World):Prop:=∀n a,kW n e a->(execOp a.eval o).run P w=.ok .skip w'
def aS3(P:Program)(o:Oper)(e:Env)(w:World)(f:FuncId)(args:Array Value):Prop:=∀n a,kW n e a->(execOp a.eval o).run P w=.ok (.enter f args) w
def Ops(P:Program)(ops:Array Oper)(Q:Exit->Act->World->Prop)(rest:List Oper)(n:Nat)(e:Env)(w:World):Prop:=∀a,kW n e a->wpList P ops Q rest a w
noncomputable section
variable {P:Program} {a':Act} {ops:Array Oper} {Q:Exit->Act->World->Prop} {o:Oper} {rest:List Oper} {n d:Nat} {e:Env} {w w':World}
theorem cD{N:Act->World->Prop}{X:Nat->Act->World->Prop}{T:Act->World->Prop}{id:Nat}{a:Act}(hA:kW n e a)(h:Ops P ops (mkQ N X T) ops.toList n e w):CW P (.region id ops false) N X T a w:=
 aHH (h a hA)
theorem bD{N:Act->World->Prop}{X:Nat->Act->World->Prop}{T:Act->World->Prop}(h:∀a,kW n e a->N a w):Ops P ops (mkQ N X T) [] n e w:=fun a hA=>h a hA
def Want(ops:Array Oper)(o:Oper)(e:Env)(b:Bool):Prop:=∀n a,kW n e a->Region.wanted o (yielded ops a.tmps)=b
theorem bS(hg:o.guard=none):Want ops o e true:=fun _ _ _=>by simp [Region.wanted,hg]
theorem b7{j:Nat}{t c b:Bool}{s:Tmp}(hg:o.guard=some (j,t))(hj:(ops[j]?).bind (·.dst)=some s)(hv:lk e s=some (.bool c))(hb:Bool.xor c t=!b):Want ops o e b:=fun _ a hA=>by
 have:yielded ops a.tmps j=some c:=by
  have h1:=hA.get s _ hv
  simp [yielded,hj,h1]
 simp only [Region.wanted,hg,this]
 cases c <;> cases t <;> cases b <;> simp_all
theorem eV{v:Value}(hr:dM P o e w v w')(hw:Want ops o e true)(hd:o.dst=some d)(hn:Nat.blt d n=true)(k:Ops P ops Q rest n ((d,v) :: e) w'):Ops P ops Q (o :: rest) n e w:=fun a hA=>by
 refine wpList_step fun K hK=>?_
 rw [hw n a hA,if_pos rfl]
 unfold Oper.wp
 rw [hr n a hA,Oper.upon_value,hd]
 exact hK _ _ (k _ (hA.put (by simpa [mQ] using hn) v))
theorem fH(hw:Want ops o e false)(hd:o.dst=some d)(hn:Nat.blt d n=true)(k:Ops P ops Q rest n ((d,undef) :: e) w):Ops P ops Q (o :: rest) n e w:=fun a hA=>by
 refine wpList_step fun K hK=>?_
 rw [hw n a hA,if_neg (by simp),hd]
 exact hK _ _ (k _ (hA.put (by simpa [mQ] using hn) undef))
theorem LI{S:Value->World->Prop}(hr:∃v w',dM P o e w v w'/\S v w')(hw:Want ops o e true)(hd:o.dst=some d)(hn:Nat.blt d n=true)(k:∀v w',S v w'->Ops P ops Q rest n ((d,v) :: e) w'):Ops P ops Q (o :: rest) n e w:=by
 obtain⟨v,w',hr,hS⟩:=hr
 exact eV hr hw hd hn (k v w' hS)
theorem Q1{S:World->Prop}(hr:∃w',aS2 P o e w w'/\S w')(hw:Want ops o e true)(hd:o.dst=none)(k:∀w',S w'->Ops P ops Q rest n e w'):Ops P ops Q (o :: rest) n e w:=fun a hA=>by
 obtain⟨w',hr,hS⟩:=hr
 refine wpList_step fun K hK=>?_
 rw [hw n a hA,if_pos rfl]
 unfold Oper.wp
 rw [hr n a hA,Oper.upon_skip,hd]
 exact hK _ _ (k _ hS _ hA)
def Ret(K:Value->World->Prop):Ending->World->Prop:=fun en w'=>∃v,en=.returned v/\K v w'
theorem ZC{f:FuncId}{args:Array Value}{K:Value->World->Prop}(hr:aS3 P o e w f args)(hw:Want ops o e true)(hd:o.dst=some d)(hn:Nat.blt d n=true)(hc:Calls P f args w (Ret K))(k:∀v w',K v w'->Ops P ops Q rest n ((d,v) :: e) w'):Ops P ops Q (o :: rest) n e w:=fun a hA=>by
 refine wpList_step fun K' hK=>?_
 rw [hw n a hA,if_pos rfl]
 unfold Oper.wp
 rw [hr n a hA,Oper.upon_enter]
 refine hc.mono fun en w' ⟨v,hv,h⟩=>?_
 subst hv
 rw [hd]
 exact hK _ _ (k v w' h _ (hA.put (by simpa [mQ] using hn) v))
variable {x y z:Operand} {v u:Value} {k:IntKind} {i j:Int} {t z':TypeId}
theorem nG(ho:o.op=.move x)(hx:ev e x=some v):dM P o e w v w:=fun _ a hA=>by simp [execOp,ho,hA.eval hx]
theorem DT(ho:o.op=.assign x)(hx:ev e x=some v):dM P o e w v w:=fun _ a hA=>by simp [execOp,ho,hA.eval hx]
theorem aS4(ho:o.op=.nilCheck x){p:Addr}(hx:ev e x=some (.pointer (some p))):dM P o e w (.pointer (some p)) w:=fun _ a hA=>by simp [execOp,ho,hA.eval hx]
theorem vC{c:Bool}(ho:o.op=.pick x y z)(hx:ev e x=some (.bool c))(hc:c=true)(hy:ev e y=some v):dM P o e w v w:=fun _ a hA=>by simp [execOp,ho,hA.eval hx,hA.eval hy,hc,asBool]
theorem AN{c:Bool}(ho:o.op=.pick x y z)(hx:ev e x=some (.bool c))(hc:c=false)(hz:ev e z=some v):dM P o e w v w:=fun _ a hA=>by simp [execOp,ho,hA.eval hx,hA.eval hz,hc,asBool]
theorem aCJ{b:Bool}(ho:o.op=.unOp .not t x)(hx:ev e x=some (.bool b)):dM P o e w (.bool (!b)) w:=fun _ a hA=>by simp [execOp,ho,hA.eval hx,Op.unary]
theorem a0U(ho:o.op=.unOp .neg t x)(hx:ev e x=some (.int k i)):dM P o e w (.int k (k.wrap (0 - i))) w:=fun _ a hA=>by simp [execOp,ho,hA.eval hx,Op.unary,Op.intArith]
theorem LJ(ho:o.op=.binOp .add t x y z')(hx:ev e x=some (.int k i))(hy:ev e y=some (.int k j)):dM P o e w (.int k (k.wrap (i+j))) w:=fun _ a hA=>by simp [execOp,ho,hA.eval hx,hA.eval hy,eqGuard,binOp,Op.intArith]
theorem aNB(ho:o.op=.binOp .sub t x y z')(hx:ev e x=some (.int k i))(hy:ev e y=some (.int k j)):dM P o e w (.int k (k.wrap (i - j))) w:=fun _ a hA=>by simp [execOp,ho,hA.eval hx,hA.eval hy,eqGuard,binOp,Op.intArith]
theorem a0V(ho:o.op=.binOp .mul t x y z')(hx:ev e x=some (.int k i))(hy:ev e y=some (.int k j)):dM P o e w (.int k (k.wrap (i * j))) w:=fun _ a hA=>by simp [execOp,ho,hA.eval hx,hA.eval hy,eqGuard,binOp,Op.intArith]
theorem aNC(ho:o.op=.binOp .quo t x y z')(hx:ev e x=some (.int k i))(hy:ev e y=some (.int k j))(h0:j≠0):dM P o e w (.int k (k.wrap (i.tdiv j))) w:=fun _ a hA=>by simp [execOp,ho,hA.eval hx,hA.eval hy,eqGuard,binOp,Op.intDiv,h0]
theorem X0(ho:o.op=.binOp .rem t x y z')(hx:ev e x=some (.int k i))(hy:ev e y=some (.int k j))(h0:j≠0):dM P o e w (.int k (i.tmod j)) w:=fun _ a hA=>by simp [execOp,ho,hA.eval hx,hA.eval hy,eqGuard,binOp,Op.intDiv,h0]
theorem FU(ho:o.op=.binOp .lss t x y z')(hx:ev e x=some (.int k i))(hy:ev e y=some (.int k j)):dM P o e w (.bool (decide (i < j))) w:=fun _ a hA=>by simp [execOp,ho,hA.eval hx,hA.eval hy,eqGuard,binOp,Op.intCmp]
theorem aND(ho:o.op=.binOp .leq t x y z')(hx:ev e x=some (.int k i))(hy:ev e y=some (.int k j)):dM P o e w (.bool (decide (i<=j))) w:=fun _ a hA=>by simp [execOp,ho,hA.eval hx,hA.eval hy,eqGuard,binOp,Op.intCmp]
theorem aNE(ho:o.op=.binOp .gtr t x y z')(hx:ev e x=some (.int k i))(hy:ev e y=some (.int k j)):dM P o e w (.bool (decide (j < i))) w:=fun _ a hA=>by simp [execOp,ho,hA.eval hx,hA.eval hy,eqGuard,binOp,Op.intCmp]
theorem aS5(ho:o.op=.binOp .geq t x y z')(hx:ev e x=some (.int k i))(hy:ev e y=some (.int k j)):dM P o e w (.bool (decide (j<=i))) w:=fun _ a hA=>by simp [execOp,ho,hA.eval hx,hA.eval hy,eqGuard,binOp,Op.intCmp]
theorem a0W(ho:o.op=.binOp .eql t x y z')(hx:ev e x=some (.int k i))(hy:ev e y=some (.int k j)):dM P o e w (.bool (i == j)) w:=fun _ a hA=>by simp [execOp,ho,hA.eval hx,hA.eval hy,eqGuard,binOp,Op.intCmp]
theorem aIL(ho:o.op=.binOp .neq t x y z')(hx:ev e x=some (.int k i))(hy:ev e y=some (.int k j)):dM P o e w (.bool (i != j)) w:=fun _ a hA=>by simp [execOp,ho,hA.eval hx,hA.eval hy,eqGuard,binOp,Op.intCmp]
def gI(op:BinOp)(k:IntKind)(i j:Int):Int:=
 match op with
 | .and=>k.wrap ((BitVec.ofInt k.bits i &&& BitVec.ofInt k.bits j).toNat:Int)
 | .or=>k.wrap ((BitVec.ofInt k.bits i ||| BitVec.ofInt k.bits j).toNat:Int)
 | .xor=>k.wrap ((BitVec.ofInt k.bits i ^^^ BitVec.ofInt k.bits j).toNat:Int)
 | _=>k.wrap ((BitVec.ofInt k.bits i &&& ~~~ (BitVec.ofInt k.bits j)).toNat:Int)
theorem a0X(ho:o.op=.binOp .and t x y z')(hx:ev e x=some (.int k i))(hy:ev e y=some (.int k j)):dM P o e w (.int k (gI .and k i j)) w:=fun _ a hA=>by simp [execOp,ho,hA.eval hx,hA.eval hy,eqGuard,binOp,Op.intBits,gI]
theorem a3D(ho:o.op=.binOp .or t x y z')(hx:ev e x=some (.int k i))(hy:ev e y=some (.int k j)):dM P o e w (.int k (gI .or k i j)) w:=fun _ a hA=>by simp [execOp,ho,hA.eval hx,hA.eval hy,eqGuard,binOp,Op.intBits,gI]
theorem a0Y(ho:o.op=.binOp .xor t x y z')(hx:ev e x=some (.int k i))(hy:ev e y=some (.int k j)):dM P o e w (.int k (gI .xor k i j)) w:=fun _ a hA=>by simp [execOp,ho,hA.eval hx,hA.eval hy,eqGuard,binOp,Op.intBits,gI]
theorem aRC(ho:o.op=.binOp .andNot t x y z')(hx:ev e x=some (.int k i))(hy:ev e y=some (.int k j)):dM P o e w (.int k (gI .andNot k i j)) w:=fun _ a hA=>by simp [execOp,ho,hA.eval hx,hA.eval hy,eqGuard,binOp,Op.intBits,gI]
def aCK(k:IntKind)(i j:Int):Int:=k.wrap (i * 2 ^ min j.toNat k.bits)
def nH(k:IntKind)(i j:Int):Int:=i.fdiv (2 ^ min j.toNat k.bits)
theorem aS6{yk:IntKind}(ho:o.op=.binOp .shl t x y z')(hx:ev e x=some (.int k i))(hy:ev e y=some (.int yk j))(h0:¬j < 0):dM P o e w (.int k (aCK k i j)) w:=fun _ a hA=>by simp [execOp,ho,hA.eval hx,hA.eval hy,eqGuard,binOp,Op.shift,h0,aCK]
theorem a0Z{yk:IntKind}(ho:o.op=.binOp .shr t x y z')(hx:ev e x=some (.int k i))(hy:ev e y=some (.int yk j))(h0:¬j < 0):dM P o e w (.int k (nH k i j)) w:=fun _ a hA=>by simp [execOp,ho,hA.eval hx,hA.eval hy,eqGuard,binOp,Op.shift,h0,nH]
theorem aXQ{p q:Bool}(hu:P.underlying t=some .bool)(ho:o.op=.binOp .eql t x y z')(hx:ev e x=some (.bool p))(hy:ev e y=some (.bool q)):dM P o e w (.bool (p == q)) w:=fun _ a hA=>by
 have h1:binOp .eql t (.bool p) (.bool q)=(do pure (.bool (<-Op.equal t (.bool p) (.bool q)))):=rfl
 simp [execOp,ho,hA.eval hx,hA.eval hy,eqGuard,h1,Op.equal,Op.maxDepth,run_equalIn_bool' _ _ _ _ _ hu]
theorem aXR{p q:Bool}(hu:P.underlying t=some .bool)(ho:o.op=.binOp .neq t x y z')(hx:ev e x=some (.bool p))(hy:ev e y=some (.bool q)):dM P o e w (.bool (!(p == q))) w:=fun _ a hA=>by
 have h1:binOp .neq t (.bool p) (.bool q)=(do pure (.bool (!(<-Op.equal t (.bool p) (.bool q))))):=rfl
 simp [execOp,ho,hA.eval hx,hA.eval hy,eqGuard,h1,Op.equal,Op.maxDepth,run_equalIn_bool' _ _ _ _ _ hu]
abbrev sv(l:List UInt8):Value:=.string ⟨l.toArray⟩
theorem aXS{p q:List UInt8}(ho:o.op=.binOp .eql t x y z')(hx:ev e x=some (sv p))(hy:ev e y=some (sv q)):dM P o e w (.bool (p == q)) w:=fun _ a hA=>by
 simp [execOp,ho,hA.eval hx,hA.eval hy,eqGuard,binOp,Op.stringOp]
theorem aXT{p q:List UInt8}(ho:o.op=.binOp .neq t x y z')(hx:ev e x=some (sv p))(hy:ev e y=some (sv q)):dM P o e w (.bool (!(p == q))) w:=fun _ a hA=>by
 simp [execOp,ho,hA.eval hx,hA.eval hy,eqGuard,binOp,Op.stringOp]
theorem a00{p q:List UInt8}(ho:o.op=.binOp .add t x y z')(hx:ev e x=some (sv p))(hy:ev e y=some (sv q))(hb:p.length+q.length<=9223372036854775807):dM P o e w (sv (p++q)) w:=fun _ a hA=>by
 have h2:(⟨p.toArray⟩:ByteArray)++⟨q.toArray⟩=⟨(p++q).toArray⟩:=by
  apply ByteArray.ext
  simp
 have h3:(⟨p.toArray⟩:ByteArray).size=p.length:=by simp [ByteArray.size]
 have h4:(⟨q.toArray⟩:ByteArray).size=q.length:=by simp [ByteArray.size]
 simp [execOp,ho,hA.eval hx,hA.eval hy,eqGuard,binOp,Op.stringOp,h3,h4,h2]
 omega
theorem aIM{k':IntKind}{s t:TypeId}{ds:TypeDesc}(hs:P.underlying s=some ds)(ht:P.underlying t=some (.int k'))(ho:o.op=.convert s t x)(hx:ev e x=some (.int k i)):dM P o e w (.int k' (k'.wrap i)) w:=fun _ a hA=>by
 simp [execOp,ho,hA.eval hx,convert,run_underlying hs,run_underlying ht,Conv.intToInt]
theorem aNF{vs:Array Value}{ix:Nat}(ho:o.op=.extract x ix)(hx:ev e x=some (.tuple vs))(hv:vs[ix]?=some v):dM P o e w v w:=fun _ a hA=>by
 simp [execOp,ho,hA.eval hx,Instr.extract,hv]
theorem aS7{ad:Option Addr}{m c:Nat}{el:TypeId}(hu:P.underlying t=some (.slice el))(ho:o.op=.call {callee:=.builtin .len,args:=#[x],argTypes:=#[t]})(hx:ev e x=some (.slice ad m c)):dM P o e w (.int .i64 (m:Int)) w:=fun _ a hA=>by
 simp [execOp,ho,resolve,invoke,builtin,Builtin.len_,hA.eval hx,run_underlying hu,goInt]
theorem aXU{l:List UInt8}(hu:P.underlying t=some .string)(ho:o.op=.call {callee:=.builtin .len,args:=#[x],argTypes:=#[t]})(hx:ev e x=some (sv l)):dM P o e w (.int .i64 (l.length:Int)) w:=fun _ a hA=>by
 have h3:(⟨l.toArray⟩:ByteArray).size=l.length:=by simp [ByteArray.size]
 simp [execOp,ho,resolve,invoke,builtin,Builtin.len_,hA.eval hx,run_underlying hu,goInt,h3]
theorem aXV{fn:Fn}{fs cs:Array Operand}{vf vc:List Value}(ho:o.op=.makeFunc fn fs cs)(hf:fs.toList.map (ev e)=vf.map some)(hc:cs.toList.map (ev e)=vc.map some):dM P o e w (.func fn vf.toArray vc.toArray) w:=fun _ a hA=>by
 have key:∀(xs:Array Operand) (vs:List Value),xs.toList.map (ev e)=vs.map some->xs.map a.eval=vs.toArray:=by
  intro xs vs h
  apply Array.toList_inj.1
  simp
  revert vs
  generalize xs.toList=l
  induction l with
  | nil=>intro vs h;cases vs <;> simp_all
  | cons y r ih =>
   intro vs h
   cases vs with
   | nil=>simp at h
   | cons v vs=>simp at h ⊢;exact⟨hA.eval h.1,ih vs h.2⟩
 simp [execOp,ho,key _ _ hf,key _ _ hc,Instr.makeFunc]
variable {c:Ctx} {L:List Chunk} {R:List Fact}
abbrev DA(b:Nat)(cs:List Value):Chunk:=QV b 0 cs
theorem St.cell(h:St c w L R){b:Nat}{cs:List Value}(i:Nat){j:Nat}(hi:L[i]?=some (DA b cs))(hj:cs[j]?=some v):w.cell? ⟨b,j,none⟩=some v:=by
 obtain⟨F,h1,_⟩:=h.chunk i hi
 have:=h1 j v hj
 simpa using this
theorem St.cells(h:St c w L R){b:Nat}{cs cs':List Value}(i j:Nat)(hi:L[i]?=some (DA b cs))(hj:(cs.drop j).take cs'.length=cs'):aV w b j cs':=by
 intro m u hm
 have hlt:=(iE.1 hm).1
 refine h.cell i hi ?_
 rw [<-hj] at hm
 rw [DK,if_pos (by omega),QY] at hm
 exact hm
theorem oX{b j:Nat}{cs:List Value}(h:aV w b j cs)(P:Program):(loadCells ⟨b,j,none⟩ cs.length).run P w=.ok cs.toArray w:=by
 refine run_loadCells_list w ⟨b,j,none⟩ cs fun m u hm=>?_
 have:(⟨b,j,none⟩:Addr).add m=⟨b,j+m,none⟩:=by unfold Addr.add;split <;> simp_all
 rw [this];exact h m u hm
theorem iT{p:Addr}(ho:o.op=.load t x)(hx:ev e x=some (.pointer (some p)))(ha:∀w,(isAgg t).run P w=.ok false w)(hc:w.cell? p=some v):dM P o e w v w:=fun _ a hA=>by
 simp [execOp,ho,Instr.loadAt,Instr.sureAddr,hA.eval hx,loadVar,ha,load,Sem.run,hc]
theorem Q2{b j:Nat}{cs:List Value}{m:Nat}(ho:o.op=.load t x)(hx:ev e x=some (.pointer (some ⟨b,j,none⟩)))(ha:∀w,(isAgg t).run P w=.ok true w)(hz:∀w,(sizeOf t).run P w=.ok m w)(hm:cs.length=m)(hc:aV w b j cs):dM P o e w (.agg cs.toArray) w:=fun _ a hA=>by
 subst hm
 simp [execOp,ho,Instr.loadAt,Instr.sureAddr,hA.eval hx,loadVar,ha,hz,oX hc P]
theorem St.alloc(h:St c w L R)(cs:List Value)(t:TypeId):St c (w.alloc (.cells cs.toArray t)) (L ++ [DA w.heap.size cs]) R:=by
 refine h.more (dL.alloc _ _ _) ⟨dK w.heap.size 0 cs.length,⟨fun j u hj=>?_,fun o' ho=>?_,fun _ _=>?_⟩,fun b o' hb=>?_⟩
 ·rw [AM,World.cell?_alloc_at (hn:=rfl)];simpa using hj
 ·exact World.frozen?_alloc_at (hn:=rfl) ..
 ·exact Iff.rfl
 ·exact PG hb.1.symm
theorem MV{z:Value}{cs:List Value}(hS:St c w L R)(ho:o.op=.alloc t)(hz:∀w,(zeroValue t).run P w=.ok z w)(hcs:z.cells.toList=cs):∃v w',dM P o e w v w'/\∃b,v=.pointer (some ⟨b,0,none⟩)/\St c w' (L ++ [DA b cs]) R:=by
 subst hcs
 refine⟨_,_,fun _ a hA=>?_,w.heap.size,rfl,hS.alloc z.cells.toList t⟩
 simp [execOp,ho,Instr.alloc,hz,newVar,newRow]
theorem a01{cs:List Value}(hS:St c w L R)(ho:o.op=.box t x)(hx:ev e x=some v)(hcs:v.cells.toList=cs):∃v w',dM P o e w v w'/\∃b,v=.pointer (some ⟨b,0,none⟩)/\St c w' (L ++ [DA b cs]) R:=by
 subst hcs
 refine⟨_,_,fun _ a hA=>?_,w.heap.size,rfl,hS.alloc v.cells.toList t⟩
 simp [execOp,ho,Instr.box,hA.eval hx,newVar,newRow]
theorem zS{fs:Array Field}{f:Field}{ix m b j j':Nat}(hu:P.underlying t=some (.struct fs))(ho:o.op=.fieldAddr t x ix)(hf:fs[ix]?=some f)(hz:∀w,(sizeOf f.type).run P w=.ok (m+1) w)(hx:ev e x=some (.pointer (some ⟨b,j,none⟩)))(hj:j+f.offset=j'):dM P o e w (.pointer (some ⟨b,j',none⟩)) w:=fun _ a hA=>by
 have h1:(⟨b,j,none⟩:Addr).add f.offset=⟨b,j',none⟩:=by unfold Addr.add;split <;> simp_all
 simp [execOp,ho,Instr.fieldAt,hA.eval hx,run_underlying hu,hf,Instr.sureAddr,fieldPlace,hz,h1]
def MW:Value->Nat
 | .slice (some a) _ _=>a.block
 | _=>0
def MO(n k:Nat):Value->Nat
 | .slice (some a) _ _=>a.off+k * n
 | _=>0
theorem jM{α:Type}[aD α]{S:cB}{s:Value}{l:List α}(h:aD.rd S w [s] l):∃ad m,s=.slice ad l.length m:=by
 obtain⟨ad,m,h1,_⟩:=(show sU S w [s] l from h)
 simp at h1;exact⟨ad,m,h1⟩
theorem aKO{α:Type}[aD α]{S:cB}{s:Value}{l:List α}(h:aD.rd S w [s] l){k:Nat}{x:α}(hk:l[k]?=some x):∃ec,aV w (MW s) (MO (aD.n α) k s) ec/\aD.rd S w ec x:=by
 obtain⟨ad,m,h1,h2,h3,h4⟩:=(show sU S w [s] l from h)
 obtain⟨hlt,hx⟩:=iE.1 hk
 simp at h1;subst h1
 rcases h4 with h4 | ⟨b,off,rfl,h4⟩
 ·subst h4;simp at hlt
 ·obtain⟨ec,a1,_,a2⟩:=h4 k hlt
  exact⟨ec,a1,hx ▸ a2⟩
theorem oK{α:Type}[aD α]{S:cB}{s:Value}{l:List α}{el:TypeId}(h:aD.rd S w [s] l)(hu:P.underlying t=some (.slice el))(ho:o.op=.call {callee:=.builtin .len,args:=#[x],argTypes:=#[t]})(hx:ev e x=some s):dM P o e w (.int .i64 (l.length:Int)) w:=by
 obtain⟨ad,m,rfl⟩:=jM h
 exact aS7 hu ho hx
def idx{α:Type}(l:List α)(i:Int):Option α:=if 0<=i then l[i.toNat]? else none
theorem jZ{α:Type}{l:List α}{i:Int}{x:α}(h:idx l i=some x):0<=i/\i < l.length/\l[i.toNat]?=some x:=by
 unfold idx at h
 split at h
 ·rename_i h0
  have:=(iE.1 h).1
  exact⟨h0,by omega,h⟩
 ·cases h
theorem Q3{α:Type}[aD α]{S:cB}{s:Value}{l:List α}{el m:Nat}{q:α}(h:aD.rd S w [s] l)(_hn:aD.n α=m)(hq:idx l i=some q)(hu:P.underlying t=some (.slice el))(hz:∀w,(sizeOf el).run P w=.ok m w)(ho:o.op=.indexAddr t x y)(hx:ev e x=some s)(hy:ev e y=some (.int k i)):dM P o e w (.pointer (some ⟨MW s,MO m i.toNat s,none⟩)) w:=by
 obtain⟨h0,h1,h2⟩:=jZ hq
 obtain⟨ad,c,rfl⟩:=jM h
 obtain⟨ad',c',e1,_,_,h4⟩:=(show sU S w [_] l from h)
 simp at e1
 obtain⟨rfl,rfl⟩:=e1
 rcases h4 with h4 | ⟨b,off,rfl,_⟩
 ·subst h4;simp at h1;omega
 ·intro _ a hA
  have h5:(⟨b,off,none⟩:Addr).add (i.toNat * m)=⟨b,off+i.toNat * m,none⟩:=by unfold Addr.add;split <;> simp_all
  simp [execOp,ho,Instr.indexAt,hA.eval hx,hA.eval hy,asIntOf,run_underlying hu,h0,h1,hz,h5,MW,MO]
theorem kC{b:Nat}(P:Program):∀(vs:List Value) (w:World) (j m:Nat),(∀v∈vs,v.oneCell'=true)->(∀q,m<=q->q < m+vs.length->(w.cell? ⟨b,j+q,none⟩).isSome=true/\w.frozen? ⟨b,j+q,none⟩=false) ->
  ∃w',(storeCells ⟨b,j,none⟩ vs m).run P w=.ok () w'/\dL (dK b (j+m) vs.length) w w'/\w'.heap.size=w.heap.size/\aV w' b (j+m) vs
 | [],w,j,m,_,_=>⟨w,rfl,dL.refl _ _,rfl,fun q v h=>by simp at h⟩
 | v :: vs, w, j, m, h1, h2 => by
  have hadd:(⟨b,j,none⟩:Addr).add m=⟨b,j+m,none⟩:=by unfold Addr.add;split <;> simp_all
  obtain⟨hs,hf⟩:=h2 m (jA _) (by simp)
  obtain⟨u,hu⟩:=aCH.1 hs
  have hk1:dL (dK b (j+m) (v :: vs).length) w (w.setCell ⟨b,j+m,none⟩ v):=dL.setCell _ _ _ _ ⟨rfl,jA _,by simp⟩ rfl
  obtain⟨w',hr,hk,hsz,hc⟩:=kC P vs (w.setCell ⟨b,j+m,none⟩ v) j (m+1) (fun v h=>h1 v (nF _ h)) (fun q a1 a2=>by
   obtain⟨b1,b2⟩:=h2 q (by omega) (by simp;omega)
   exact⟨hk1.stay _ _ b1,by simpa using b2⟩)
  refine⟨w',?_,hk1.trans hk fun b' o _ hh=>?_,by simpa using hsz,?_⟩
  ·have hst:=run_store P w ⟨b,j+m,none⟩ v .plain (h1 v (by simp))
   simp only [storeCells,Sem.run_bind,hadd]
   rw [hst]
   simp [hu,hf,hr]
  ·obtain⟨c1,c2,c3⟩:=hh
   exact⟨c1,by omega,by simp;omega⟩
  ·intro q u' hq
   cases q with
   | zero =>
    simp at hq;subst hq
    have hlt:b < w.heap.size:=iS hs
    rw [KB,hk.cell b (j+m) (by simpa using hlt) (fun hh=>by obtain⟨_,c2,_⟩:=hh;omega)]
    exact World.cell?_setCell_same (h:=hu) ..
   | succ q =>
    have:=hc q u' (by simpa using hq)
    rw [show j+m+(q+1)=j+(m+1)+q from by omega]
    exact this
def TA(cs:List Value)(j:Nat):List Value->List Value
 | []=>cs
 | v :: vs=>TA (cs.set j v) (j+1) vs
theorem KF:∀(vs cs:List Value) (j:Nat),(TA cs j vs).length=cs.length
 | [],_,_=>rfl
 | v :: vs,cs,j=>by simp [TA,KF vs]
theorem aCL:∀(vs cs:List Value) (j q:Nat),j+vs.length<=cs.length->(TA cs j vs)[q]?=if j<=q/\q < j+vs.length then vs[q - j]? else cs[q]?
 | [],cs,j,q,_=>by simp only [TA,aKM];rw [if_neg (by omega)]
 | v :: vs, cs, j, q, h => by
  simp only [TA]
  rw [aCL vs (cs.set j v) (j+1) q (by simp at h ⊢;omega)]
  simp only [GU] at h ⊢
  by_cases h1:q=j
  ·subst h1
   rw [if_neg (by omega),if_pos (by omega)]
   rw [Y9 (by omega)];simp
  ·by_cases h2:j+1<=q/\q < j+1+vs.length
   ·rw [if_pos h2,if_pos (by omega),show q - j=(q - (j+1))+1 from by omega];simp
   ·rw [if_neg h2,if_neg (by omega),QZ (by omega)]
theorem UQ{b j m i:Nat}{cs vs:List Value}(hS:St c w L R)(hi:L[i]?=some (DA b cs))(ho:o.op=.store t x y)(hx:ev e x=some (.pointer (some ⟨b,j,none⟩)))(hy:ev e y=some v)(hvs:v.cells.toList=vs)(hz:∀w,(sizeOf t).run P w=.ok m w)(hm:vs.length=m)(hj:Nat.ble (j+m) cs.length=true)(h1:vs.all Value.oneCell'=true) :
  ∃w',aS2 P o e w w'/\St c w' (L.set i (DA b (TA cs j vs))) R:=by
 subst hm
 have hj':j+vs.length<=cs.length:=tQ hj
 have h1':∀v∈vs,v.oneCell'=true:=fun v hv=>by simpa using VN.1 h1 v hv
 obtain⟨F,hF⟩:=hS.chunk i hi
 obtain⟨hc,hfz,_⟩:=hF
 obtain⟨w',hr,hk,hsz,hcell⟩:=kC (b:=b) P vs w j 0 h1' (fun q _ hq=>by
  refine⟨?_,hfz (j+q) ⟨rfl,by omega,by omega⟩⟩
  have:=hc (j+q) cs[j+q] (fT (by omega))
  rw [AM] at this
  rw [this];rfl)
 refine⟨w',fun _ a hA=>?_,hS.VU i hi fun F ⟨a1,a2,a3⟩=>⟨F,dK b (j+0) vs.length,hk,fun b' o' h=>(a3 b' o').2 ?_,⟨?_,?_,?_⟩,fun _ _ h=>.inl h⟩⟩
 ·have hsize:v.cells.size=vs.length:=by rw [<-hvs];simp
  have hr':(storeCells ⟨b,j,none⟩ v.cells.toList).run P w=.ok () w':=by rw [hvs];exact hr
  simp [execOp,ho,Instr.storeAt,Instr.sureAddr,hA.eval hx,hA.eval hy,storeVar,hz,hsize,hr']
 ·obtain⟨b1,b2,b3⟩:=h
  exact⟨b1,by omega,by omega⟩
 ·intro q u hq
  rw [aCL vs cs j q hj'] at hq
  split at hq
  ·rename_i hin
   have:=hcell (q - j) u hq
   rw [show j+0+(q - j)=0+q from by omega] at this
   exact this
  ·rename_i hin
   have hlt:=(iE.1 hq).1
   rw [hk.cell b (0+q) (World.block_lt_of_cell? w _ (a1 q u hq)) (fun hh=>by obtain⟨_,b2,b3⟩:=hh;omega)]
   exact a1 q u hq
 ·intro o' ho'
  have ho2:dK b 0 cs.length b o':=by obtain⟨b1,b2,b3⟩:=ho';rw [KF] at b3;exact⟨b1,b2,b3⟩
  have hlt:o' < cs.length:=by obtain⟨_,_,b3⟩:=ho2;omega
  have hcell2:=a1 o' cs[o'] (fT hlt)
  rw [AM] at hcell2
  exact(hk.wR b o' (World.block_lt_of_cell? w _ hcell2)).trans (a2 o' ho2)
 ·intro b' o';rw [a3,KF]
def evs(e:Env):List Operand->Option (List Value)
 | []=>some []
 | x :: r => match ev e x, evs e r with
  | some v,some vs=>some (v :: vs)
  | _,_=>none
theorem HC{e:Env}{a:Act}{n:Nat}(hA:kW n e a):∀{xs:List Operand} {vs:List Value},evs e xs=some vs->xs.map a.eval=vs
 | [],vs,h=>by simp [evs] at h;simp [h]
 | x :: r, vs, h => by
  simp only [evs] at h
  split at h
  ·rename_i v vs' h1 h2
   simp at h;subst h
   simp [hA.eval h1,HC hA h2]
  ·cases h
theorem KG{f:FuncId}{xs:List Operand}{ts:Array TypeId}{vs:List Value}(hcall:∀args w,(callFunc f args).run P w=.ok (.enter f args) w)(ho:o.op=.call {callee:=.value (.func f),args:=xs.toArray,argTypes:=ts})(hv:evs e xs=some vs):aS3 P o e w f vs.toArray:=fun _ a hA=>by
 have h1:Array.map a.eval xs.toArray=vs.toArray:=by rw [List.map_toArray,HC hA hv]
 simp [execOp,ho,resolve,Act.eval,Deferred.ofValue,invoke,hcall,HC hA hv]
theorem aKP{f:FuncId}{xs:List Operand}{ts:Array TypeId}{vs cap:List Value}(hcall:∀args w,(callFunc f args).run P w=.ok (.enter f args) w)(ho:o.op=.call {callee:=.value x,args:=xs.toArray,argTypes:=ts})(hx:ev e x=some (.func (.func f) #[] cap.toArray))(hv:evs e xs=some vs):aS3 P o e w f (vs++cap).toArray:=fun _ a hA=>by
 simp [execOp,ho,resolve,hA.eval hx,Deferred.ofValue,invoke,hcall,HC hA hv]
def Q4(tmps:Array Value):ResultVar->Sem Value
 | .tmp t=>pure (tmps.getD t undef)
 | .cell p t=>do loadVar t (<-asAddr (tmps.getD p undef))
def aS8(P:Program)(e:Env)(w:World)(r:ResultVar)(v:Value):Prop:=∀n a,kW n e a->(Q4 a.tmps r).run P w=.ok v w
theorem aBN{s:Tmp}(h:lk e s=some v):aS8 P e w (.tmp s) v:=fun _ a hA=>by
 have:=hA.get s v h
 simp [Q4,this]
def Fin(P:Program)(fn:Func)(K:Value->World->Prop)(a:Act)(w:World):Prop:=a.defers=[]/\∃v,(results fn a.tmps).run P w=.ok v w/\K v w
theorem aCN{fn:Func}{rs:List ResultVar}(hf:fn.results=rs.toArray)(tmps:Array Value):results fn tmps=(do let vs <-rs.toArray.mapM (Q4 tmps);pure (if h:vs.size=1 then vs[0] else .tuple vs)):=by
 unfold results;rw [hf];rfl
theorem aXW{fn:Func}{K:Value->World->Prop}{r:ResultVar}(hf:fn.results=#[r])(hA:kW n e a')(hr:aS8 P e w r v)(hK:K v w):Fin P fn K a' w:=by
 refine⟨hA.d,v,?_,hK⟩
 rw [aCN (rs:=[r]) hf]
 simp [hr n a' hA]
theorem aS9{f:FuncId}{fn:Func}{cd:Code}{args:List Value}{m:Nat}{K:Value->World->Prop}(hf:P.funcs[f]?=some fn)(hb:fn.body=some cd)(hm:fn.ntmps=m)(hl:Nat.ble args.length m=true)
  (h:∀a,kW m (aIK 0 args) a->CW P cd (fun _ _=>False) (fun _ _ _=>False) (Fin P fn K) a w):Calls P f args.toArray w (Ret K):=by
 refine calls_of_wp hf hb ?_
 subst hm
 refine wp_mono (h _ (aZ4 args fn.ntmps (tQ hl))) fun ex a w q=>?_
 cases ex with
 | ret=>obtain⟨h1,v,h2,h3⟩:=q;exact⟨h1,v,h2,v,rfl,h3⟩
 | _=>exact q.elim
theorem AO{f:FuncId}{fn:Func}{cd:Code}{args:List Value}{m:Nat}{K:Value->World->Prop}(hf:P.funcs[f]?=some fn)(hb:fn.body=some cd)(hm:fn.ntmps=m)(hl:Nat.ble args.length m=true)
  (h:∀a,kW m (aIK 0 args) a->CW P cd (Fin P fn K) (fun _ _ _=>False) (Fin P fn K) a w):Calls P f args.toArray w (Ret K):=by
 refine calls_of_wp hf hb ?_
 subst hm
 refine wp_mono (h _ (aZ4 args fn.ntmps (tQ hl))) fun ex a w q=>?_
 cases ex with
 | ret=>obtain⟨h1,v,h2,h3⟩:=q;exact⟨h1,v,h2,v,rfl,h3⟩
 | normal=>obtain⟨h1,v,h2,h3⟩:=q;exact⟨h1,v,h2,v,rfl,h3⟩
 | _=>exact q.elim
end
end Go.Gv
end
noncomputable section
namespace Go.Gv
theorem sV{α β:Type}{o:Option α}{f:α->Option β}{r:Option β}{q:β}(h:o.bind f=r)(hr:r=some q:=by rfl):∃x,o=some x/\f x=r:=by
 subst hr
 cases o with
 | none=>simp at h
 | some x=>exact⟨x,rfl,h⟩
theorem MX{p:Prop}[Decidable p]{α:Type}{a b r:α}(hp:p)(h:(if p then a else b)=r):a=r:=by rw [if_pos hp] at h;exact h
theorem MY{t:Bool}{α:Type}{a b r:α}(hp:t=false)(h:(if t=true then a else b)=r):b=r:=by rw [if_neg (by rw [hp];simp)] at h;exact h
def need(p:Prop)[Decidable p]{α:Type}(k:Option α):Option α:=if p then k else none
theorem iU{p:Prop}[Decidable p]{α:Type}{k:Option α}{q:α}(h:need p k=some q):p/\k=some q:=by
 unfold need at h
 split at h
 ·exact⟨‹p›,h⟩
 ·cases h
theorem DU{P:Program}{x:Code}{N:Act->World->Prop}{X:Nat->Act->World->Prop}{T:Act->World->Prop}{a:Act}{w:World}(J:Act->World->Prop)(h1:CW P x J X T a w)(h2:∀a w,J a w->N a w):CW P x N X T a w:=h1.mono h2 (fun _ _ _ h=>h) (fun _ _ h=>h)
theorem IL{P:Program}{ops:Array Oper}{Q:Exit->Act->World->Prop}{rest:List Oper}{n s:Nat}{e:Env}{w:World}{b:Bool}(_hv:lk e s=some (.bool b))(ht:b=true->Ops P ops Q rest n e w)(hf:b=false->Ops P ops Q rest n e w):Ops P ops Q rest n e w:=by
 cases b
 ·exact hf rfl
 ·exact ht rfl
theorem aXX{ops:Array Oper}{o:Oper}{e:Env}{j s:Nat}{t:Bool}(hg:o.guard=some (j,t))(hj:(ops[j]?).bind (·.dst)=some s)(hv:lk e s=some undef):Want ops o e false:=fun _ a hA=>by
 have:yielded ops a.tmps j=none:=by
  have h1:=hA.get s _ hv
  simp [yielded,hj,h1,undef]
 simp [Region.wanted,hg,this]
def u8(z:Int):UInt8:=UInt8.ofNat (z % 256).toNat
theorem a02(z:Int):((u8 z).toNat:Int)=IntKind.u8.wrap z:=by
 unfold u8
 simp [IntKind.wrap,IntKind.bits,IntKind.signed]
 omega
noncomputable section
variable {P:Program} {o:Oper} {e:Env} {w w':World} {c:Ctx} {L:List Chunk} {R:List Fact} {x:Operand} {v:Value} {k:IntKind} {i:Int} {t:TypeId}
theorem aTA{s:TypeId}{ds:TypeDesc}(hs:P.underlying s=some ds)(ht:P.underlying t=some (.int .u8))(ho:o.op=.convert s t x)(hx:ev e x=some (.int k i)):dM P o e w (.int .u8 ((u8 i).toNat:Int)) w:=by
 rw [a02];exact aIM hs ht ho hx
theorem aTB{s:TypeId}{ds:TypeDesc}{b:UInt8}(hs:P.underlying s=some ds)(ht:P.underlying t=some (.int .i64))(ho:o.op=.convert s t x)(hx:ev e x=some (.int .u8 (b.toNat:Int))):dM P o e w (.int .i64 (b.toNat:Int)) w:=by
 have h:=aIM (w:=w) hs ht ho hx
 have hb:=b.toNat_lt
 have:IntKind.i64.wrap (b.toNat:Int)=b.toNat:=by
  simp [IntKind.wrap,IntKind.bits,IntKind.signed];omega
 rw [this] at h;exact h
theorem aPI{fn:Fn}{fs cs:Array Value}(ho:o.op=.nilCheck x)(hm:∀n,fn≠.method n)(hx:ev e x=some (.func fn fs cs)):dM P o e w (.func fn fs cs) w:=fun _ a hA=>by
 cases fn <;> simp_all [execOp,hA.eval hx]
theorem aTC{b j:Nat}{v:Value}(h:aV w b j [v]):w.cell? ⟨b,j,none⟩=some v:=by simpa using h 0 v rfl
theorem aV.sub{b j m:Nat}{cs cs':List Value}(h:aV w b j cs)(k:Nat)(hj:(cs.drop k).take cs'.length=cs')(hm:j+k=m):aV w b m cs':=by
 subst hm
 intro q u hq
 have hlt:=(iE.1 hq).1
 rw [<-hj] at hq
 rw [DK,if_pos (by omega),QY] at hq
 have:=h (k+q) u hq
 rw [show j+k+q=j+(k+q) from by omega];exact this
theorem iF{α:Type}[aD α]{S:cB}{cs:List Value}{d:List α}(h:aD.rd S w cs d):∃v,cs=[v]:=by
 obtain⟨a,c,h,_⟩:=(show sU S w cs d from h)
 exact⟨_,h⟩
theorem aNG{α:Type}[aD α]{S:cB}:aD.rd S w [.slice none 0 0] ([]:List α):=⟨none,0,rfl,jA _,jK _,.inl rfl⟩
theorem a03{S:cB}{s:Value}{l:List Int}{i:Nat}{x:Int}(h:aD.rd S w [s] l)(hi:l[i]?=some x):aV w (MW s) (MO 1 i s) [.int .i64 x]:=by
 obtain⟨ec,h1,h2⟩:=aKO h hi
 have h2:ec=[_]:=h2
 rw [h2] at h1;exact h1
theorem St.aTD(h:St c w L R){f:Fact}{j:Nat}(hj:R[j]?=some f):∃S,f.P S w/\∀Gs:List Fact,(∀g∈Gs,g.P S w)->St c w L (R++Gs):=by
 obtain⟨F,S,a1,a2,a3,a4,a5,a6⟩:=h.sep
 refine⟨S,a6 f (tP hj),fun Gs hG=>⟨h.keep,⟨F,S,a1,a2,a3,a4,a5,fun g hg=>?_⟩,h.apart⟩⟩
 rcases gC.1 hg with hg | hg
 ·exact a6 g hg
 ·exact hG g hg
theorem aZ5{f:Fact}(h:f.P (MT w) w)(hk:dL F0 w w'):f.P (MT w') w':=
 f.mono (f.agree h fun b o hb=>hk.cell b o hb fun h=>h) fun _ _ hb=>MS hb hk.size
def pick(L:List Chunk):List Nat->List Chunk
 | []=>[]
 | i :: r=>(L[i]?).getD FT :: pick L r
def cW:List Nat->Bool
 | []=>true
 | i :: r=>(r.all fun j=>!Nat.beq i j) && cW r
theorem aCO{L:List Chunk}{i:Nat}:∀{is:List Nat},(is.all fun j=>!Nat.beq i j)=true->pick (L.set i FT) is=pick L is
 | [],_=>rfl
 | j :: r, h => by
  simp only [aCC,zP,Bool.not_eq_true'] at h
  have hne:i≠j:=fun e=>by rw [e] at h;simp at h
  simp only [pick,aCO h.2,QZ hne]
theorem Sep.pick{w:World}:∀{is:List Nat} {L:List Chunk} {F:cB},cW is=true->Sep w L F->∃F1 F2,Sep w (pick L is) F1/\F1.C9 F2/\∀b o,F b o↔F1 b o\/F2 b o
 | [],L,F,_,_=>⟨F0,F,fun _ _ h=>h,fun _ _ h _=>h,fun b o=>by simp [F0]⟩
 | i :: r, L, F, ha, h => by
  simp only [cW,zP] at ha
  have h':Sep w ((L[i]?).getD FT :: L.set i FT) F:=by
   cases hi:L[i]? with
   | some ch=>exact(Sep.take hi).1 h
   | none =>
    rw [List.set_eq_of_length_le (List.getElem?_eq_none_iff.1 hi)]
    exact⟨F0,F,fun _ _ h=>h,h,fun _ _ h _=>h,fun b o=>by simp [F0]⟩
  obtain⟨F1,F2,h1,h2,hd,hF⟩:=h'
  obtain⟨G1,G2,g1,gd,hG⟩:=Sep.pick ha.2 h2
  rw [aCO ha.1] at g1
  exact⟨fun b o=>F1 b o\/G1 b o,G2,⟨F1,G1,h1,g1,fun b o h g=>hd b o h ((hG b o).2 (.inl g)),fun _ _=>Iff.rfl⟩,
   fun b o h g=>h.elim (fun h=>hd b o h ((hG b o).2 (.inr g))) (fun h=>gd b o h g),fun b o=>by rw [hF,hG,or_assoc]⟩
theorem St.MZ(h:St c w L R)(is:List Nat)(ha:cW is=true):St c w (pick L is) R:=by
 obtain⟨F,S,a1,a2,a3,a4,a5,a6⟩:=h.sep
 obtain⟨F1,F2,h1,hd,hF⟩:=Sep.pick ha a1
 exact⟨h.keep,⟨F1,S,h1,fun b o hf=>a2 b o ((hF b o).2 (.inl hf)),fun b o hf=>a3 b o ((hF b o).2 (.inl hf)),a4,a5,a6⟩,h.apart⟩
def a5E:Fact:=⟨fun _ _=>True,fun _ _=>trivial,fun _ _=>trivial⟩
def aZ6(R:List Fact):List Nat->List Fact
 | []=>[]
 | i :: r=>(R[i]?).getD a5E :: aZ6 R r
theorem St.vD(h:St c w L R)(is:List Nat)(_h:true=true):St c w L (aZ6 R is):=by
 obtain⟨F,S,a1,a2,a3,a4,a5,a6⟩:=h.sep
 refine⟨h.keep,⟨F,S,a1,a2,a3,a4,a5,?_⟩,h.apart⟩
 induction is with
 | nil=>intro f hf;cases hf
 | cons i r ih =>
  intro f hf
  rcases gW.1 hf with hf | hf
  ·subst hf
   cases hi:R[i]? with
   | some g=>exact a6 g (tP hi)
   | none=>trivial
  ·exact ih f hf
theorem aTE{z:Value}{fs:Array Field}{places:Array (Nat×Nat)}{ps:List (Nat×Operand)}{vs:List Value}{cells:Array Value}(ho:o.op=.build t ps.toArray)(hz:∀w,(zeroValue t).run P w=.ok z w)(hu:P.underlying t=some (.struct fs))
  (hp:∀w,(fs.mapM fun f=>(do pure (f.offset,<-sizeOf f.type):Sem (Nat×Nat))).run P w=.ok places w) (hv:evs e (ps.map (·.2))=some vs) (hc:Instr.fill (places[·]?) z.cells ((ps.map (·.1)).zip vs)=some cells):dM P o e w (.agg cells) w:=fun _ a hA=>by
 have h1:ps.map (fun p=>(p.1,a.eval p.2))=(ps.map (·.1)).zip vs:=by
  rw [<-HC hA hv]
  clear hv hc ho
  induction ps with
  | nil=>rfl
  | cons p r ih=>simp [ih]
 simp [execOp,ho,Instr.build,hz,run_underlying hu]
 have:=hp w
 simp at this
 simp [this,h1,hc]
end
theorem N5{P:Program}{w:World}(d:Nat)(xs ys:Array Value):(Op.eqFields d xs ys []).run P w=.ok true w:=by simp [Op.eqFields]
theorem eW{P:Program}{w:World}(d:Nat)(xs ys:Array Value)(f:Field)(fs:List Field){p q:Value}{b b':Bool}(hn:(f.name == "_")=false)(hx:(part f.type xs f.offset).run P w=.ok p w)(hy:(part f.type ys f.offset).run P w=.ok q w)(he:(Op.equalIn d f.type p q).run P w=.ok b w)(hr:(Op.eqFields d xs ys fs).run P w=.ok b' w) :
  (Op.eqFields d xs ys (f :: fs)).run P w=.ok (b && b') w:=by
 simp only [beq_eq_false_iff_ne,ne_eq] at hn
 cases b <;> simp [Op.eqFields,hn,hx,hy,he,hr]
theorem fI{P:Program}{w:World}{t:TypeId}{cs:Array Value}{j:Nat}{v:Value}(ha:∀w,(isAgg t).run P w=.ok false w)(hv:cs[j]?=some v):(part t cs j).run P w=.ok v w:=by simp [part,ha,hv]
theorem a04{P:Program}{o:Oper}{e:Env}{w:World}{x y:Operand}{t z':TypeId}{xs ys:Array Value}{fs:Array Field}{b:Bool}(hg:P.eqGuardType P.depth t=false)(hst:P.stoodInHeld t=false)(hu:P.underlying t=some (.struct fs))(hb:∀w,(Op.eqFields 9999 xs ys (match P.underlying t with | some (.struct fs)=>fs | _=>#[]).toList).run P w=.ok b w)(ho:o.op=.binOp .eql t x y z')(hx:ev e x=some (.agg xs))(hy:ev e y=some (.agg ys)):dM P o e w (.bool b) w:=fun _ a hA=>by
 have hf:P.fieldsOf t=fs:=by simp [Program.fieldsOf,hu]
 rw [hu] at hb
 have h1:binOp .eql t (.agg xs) (.agg ys)=(do pure (.bool (<-Op.equal t (.agg xs) (.agg ys)))):=rfl
 simp [execOp,ho,hA.eval hx,hA.eval hy,run_eqGuard_agg _ _ _ _ _ _ _ hg,h1,Op.equal,Op.maxDepth,run_equalIn_struct _ _ _ _ _ (by rw [hf];exact hu) hst,hf,hb]
theorem aXY{P:Program}{o:Oper}{e:Env}{w:World}{x y:Operand}{t z':TypeId}{xs ys:Array Value}{fs:Array Field}{b:Bool}(hg:P.eqGuardType P.depth t=false)(hst:P.stoodInHeld t=false)(hu:P.underlying t=some (.struct fs))(hb:∀w,(Op.eqFields 9999 xs ys (match P.underlying t with | some (.struct fs)=>fs | _=>#[]).toList).run P w=.ok b w)(ho:o.op=.binOp .neq t x y z')(hx:ev e x=some (.agg xs))(hy:ev e y=some (.agg ys)):dM P o e w (.bool (!b)) w:=fun _ a hA=>by
 have hf:P.fieldsOf t=fs:=by simp [Program.fieldsOf,hu]
 rw [hu] at hb
 have h1:binOp .neq t (.agg xs) (.agg ys)=(do pure (.bool (!(<-Op.equal t (.agg xs) (.agg ys))))):=rfl
 simp [execOp,ho,hA.eval hx,hA.eval hy,run_eqGuard_agg _ _ _ _ _ _ _ hg,h1,Op.equal,Op.maxDepth,run_equalIn_struct _ _ _ _ _ (by rw [hf];exact hu) hst,hf,hb]
theorem mS{P:Program}{w:World}{d:Nat}{t:TypeId}{k':IntKind}{k:IntKind}{a b:Int}(h:P.underlying t=some (.int k')):(Op.equalIn (d+1) t (.int k a) (.int k b)).run P w=.ok (a == b) w:=run_equalIn_int w d t k k' a b h
theorem VV{P:Program}{w:World}{d:Nat}{t:TypeId}{a b:Bool}(h:P.underlying t=some .bool):(Op.equalIn (d+1) t (.bool a) (.bool b)).run P w=.ok (a == b) w:=run_equalIn_bool' w d t a b h
end Go.Gv
end
noncomputable section
namespace Go.Gv
class Flat (α:Type) [aD α]:Prop where
 own_of:∀{S:cB} {w w':World} {cs:List Value} {d:α},aD.rd S w cs d->aD.own w' cs d F0
 no:∀{w:World} {cs:List Value} {d:α} {F:cB},aD.own w cs d F->∀b o,¬F b o
instance:Flat Int:=⟨fun h=>⟨h,fun _ _ h=>h⟩,fun h=>h.2⟩
instance:Flat Bool:=⟨fun h=>⟨h,fun _ _ h=>h⟩,fun h=>h.2⟩
instance:Flat UInt8:=⟨fun h=>⟨h,fun _ _ h=>h⟩,fun h=>h.2⟩
instance:Flat a0S:=⟨fun h=>⟨h,fun _ _ h=>h⟩,fun h=>h.2⟩
instance {α β:Type} [aD α] [aD β] [Flat α] [Flat β]:Flat (α×β):=⟨by
 rintro S w w' cs d ⟨c1,c2,rfl,h1,h2⟩
 exact⟨c1,c2,F0,F0,rfl,Flat.own_of h1,Flat.own_of h2,fun _ _ h _=>h,fun _ _=>by simp [F0]⟩,by
 rintro w cs d F ⟨c1,c2,F1,F2,_,h1,h2,_,hF⟩ b o h
 exact((hF b o).1 h).elim (Flat.no h1 b o) (Flat.no h2 b o)⟩
theorem aTF{α:Type}[aD α][Flat α]{w w':World}{cs:List Value}{d:α}{F:cB}(h:aD.own w cs d F):aD.own w' cs d F0:=Flat.own_of (aD.own_rd h)
def DL(cc:List Value)(n i:Nat):List Value:=(cc.drop (i * n)).take n
theorem oL{cc:List Value}{n i j:Nat}(hj:j < n):(DL cc n i)[j]?=cc[i * n+j]?:=by
 unfold DL;rw [DK,if_pos hj,QY]
theorem aCP{cc:List Value}{n i len:Nat}(hc:cc.length=len * n)(hi:i < len):(DL cc n i).length=n:=by
 unfold DL
 rw [AL,GV,hc]
 have:(i+1) * n<=len * n:=oW n (by omega)
 rw [fU] at this
 omega
theorem aCQ{w:World}{b off:Nat}:∀(k:Nat),(∀j,j < k->(w.cell? ⟨b,off+j,none⟩).isSome=true)->∃cc:List Value,cc.length=k/\aV w b off cc
 | 0,_=>⟨[],rfl,fun j v h=>by simp at h⟩
 | k + 1, h => by
  obtain⟨cc,h1,h2⟩:=aCQ k fun j hj=>h j (by omega)
  obtain⟨v,hv⟩:=aCH.1 (h k (by omega))
  refine⟨cc ++ [v],by simp [h1],fun j u hj=>?_⟩
  rw [VR] at hj
  split at hj
  ·exact h2 j u hj
  ·rename_i hlt
   rw [h1] at hj hlt
   have:j=k:=by
    have:=(iE.1 hj).1
    simp at this;omega
   subst this
   simp at hj;subst hj;exact hv
theorem aTG{w:World}{b off n i:Nat}{cc ec:List Value}(h:aV w b off cc)(h2:aV w b (off+i * n) ec)(he:ec.length=n)(hc:(i+1) * n<=cc.length):DL cc n i=ec:=by
 rw [fU] at hc
 apply VO
 intro j
 by_cases hj:j < n
 ·rw [oL hj]
  have h3:=h (i * n+j) cc[i * n+j] (fT (by omega))
  have h4:=h2 j ec[j] (fT (by omega))
  rw [show off+i * n+j=off+(i * n+j) from by omega,h3] at h4
  rw [fT (by omega),fT (by omega)]
  exact h4
 ·rw [A7 (by unfold DL;simp;omega),A7 (by omega)]
theorem IM{α:Type}[aD α]{S:cB}{w:World}{s:Value}{l:List α}(h:aD.rd S w [s] l):∃ad c cc,s=.slice ad l.length c/\cc.length=l.length * aD.n α/\(l=[]\/∃b off,ad=some ⟨b,off,none⟩/\aV w b off cc)/\∀i x,l[i]?=some x->aD.rd S w (DL cc (aD.n α) i) x:=by
 obtain⟨ad,c,h1,h2,h3,h4⟩:=(show sU S w [s] l from h)
 simp at h1;subst h1
 rcases h4 with h4 | ⟨b,off,rfl,h4⟩
 ·subst h4;exact⟨ad,c,[],rfl,by simp,.inl rfl,fun i x h=>by simp at h⟩
 ·have hs:∀j,j < l.length * aD.n α->(w.cell? ⟨b,off+j,none⟩).isSome=true:=fun j hj=>by
   have hn:0 < aD.n α:=by rcases Nat.eq_zero_or_pos (aD.n α) with h | h;rw [h] at hj;omega;exact h
   have hi:j / aD.n α < l.length:=(Nat.div_lt_iff_lt_mul hn).2 hj
   obtain⟨ec,e1,_,e2⟩:=h4 _ hi
   have hm:=Nat.mod_lt j hn
   have hl:=aD.jM e2
   have:=e1 (j % aD.n α) ec[j % aD.n α] (fT (by omega))
   rw [show off+j / aD.n α * aD.n α+j % aD.n α=off+j from by have:=Nat.div_add_mod j (aD.n α);rw [Nat.mul_comm] at this;omega] at this
   rw [this];rfl
  obtain⟨cc,c1,c2⟩:=aCQ _ hs
  refine⟨_,c,cc,rfl,c1,.inr ⟨b,off,rfl,c2⟩,fun i x hx=>?_⟩
  obtain⟨hi,rfl⟩:=iE.1 hx
  obtain⟨ec,e1,_,e2⟩:=h4 i hi
  rw [aTG c2 e1 (aD.jM e2) (by rw [c1];exact oW _ (by omega))]
  exact e2
noncomputable section
variable {P:Program} {o:Oper} {e:Env} {w w':World} {c:Ctx} {L:List Chunk} {R:List Fact} {x y:Operand} {t el:TypeId}
theorem aBO{α:Type}[aD α]{S:cB}{cc:List Value}{l:List α}(hc:cc.length=l.length * aD.n α)(h:∀i x,l[i]?=some x->aD.rd S w (DL cc (aD.n α) i) x):∀v∈cc,v.oneCell'=true:=by
 intro v hv
 obtain⟨j,hj,rfl⟩:=aCE hv
 have hn:0 < aD.n α:=by rcases Nat.eq_zero_or_pos (aD.n α) with h | h;rw [h] at hc;omega;exact h
 have hi:j / aD.n α < l.length:=(Nat.div_lt_iff_lt_mul hn).2 (by omega)
 have hm:=Nat.mod_lt j hn
 refine aD.rd_one (h _ _ (fT hi)) _ (tP (i:=j % aD.n α) ?_)
 rw [oL hm,show j / aD.n α * aD.n α+j % aD.n α=j from by have:=Nat.div_add_mod j (aD.n α);rw [Nat.mul_comm] at this;omega]
 exact fT hj
theorem aPJ{α:Type}[aD α][Flat α]{S:cB}{w w0:World}{b off cap:Nat}{cc:List Value}{l:List α}(hc:aV w b off cc)(hcl:cc.length=l.length * aD.n α)(hr:∀i x,l[i]?=some x->aD.rd S w0 (DL cc (aD.n α) i) x)(hlen:l.length<=cap)(hmax:cap<=maxLen)
  (hrow:∀o,dK b off (cap * aD.n α) b o->(w.cell? ⟨b,o,none⟩).isSome=true/\w.frozen? ⟨b,o,none⟩=false):aD.own w [.slice (some ⟨b,off,none⟩) l.length cap] l (dK b off (cap * aD.n α)):=by
 refine⟨_,cap,rfl,hlen,hmax,.inr ⟨b,off,fun _=>F0,rfl,hrow,fun i hi=>⟨DL cc (aD.n α) i,?_,Flat.own_of (hr i l[i] (fT hi))⟩,fun _ _ _ _ _ _ _ h _=>h,fun _ _ _ _ h _=>h,fun b' o=>by simp [F0]⟩⟩
 intro j v hj
 have hlt:=(iE.1 hj).1
 rw [aCP hcl hi] at hlt
 rw [oL hlt] at hj
 have:=hc _ v hj
 rw [show off+i * aD.n α+j=off+(i * aD.n α+j) from by omega];exact this
theorem St.a05(h:St c w L R){α:Type}[aD α]:St c w (L ++ [aZ [.slice none 0 0] ([]:List α)]) R:=
 h.more (dL.refl _ _) ⟨F0,⟨none,0,rfl,jA _,jK _,.inl ⟨rfl,rfl,fun _ _ h=>h⟩⟩,fun _ _ h=>h.elim⟩
theorem aPK{α:Type}[aD α][Flat α]{S:cB}(w0:World)(hS:St c w L R)(cells:List Value)(rest:List Value)(l:List α)(cap:Nat)(ty:TypeId)(hc:cells.length=l.length * aD.n α)(hr:∀i x,l[i]?=some x->aD.rd S w0 (DL cells (aD.n α) i) x)(hcap:(cells++rest).length=cap * aD.n α)(hlen:l.length<=cap)(hmax:cap<=maxLen) :
  St c (w.alloc (.cells (cells++rest).toArray ty)) (L ++ [aZ [.slice (some ⟨w.heap.size,0,none⟩) l.length cap] l]) R:=by
 have hcell:∀j,(w.alloc (.cells (cells++rest).toArray ty)).cell? ⟨w.heap.size,j,none⟩=(cells++rest)[j]?:=fun j=>by rw [World.cell?_alloc_at (hn:=rfl)];simp
 refine hS.more (dL.alloc _ _ _) ⟨_,aPJ (w0:=w0) (cc:=cells) (fun j v hj=>?_) hc hr hlen hmax (fun o' ho=>?_),fun b o' hb=>PG hb.1.symm⟩
 ·rw [AM,hcell,IK (iE.1 hj).1];exact hj
 ·obtain⟨_,_,h3⟩:=ho
  refine⟨?_,World.frozen?_alloc_at (hn:=rfl) ..⟩
  rw [hcell,fT (by omega)];rfl
def QW(P:Program)(el:TypeId)(m:Nat)(z:Value):Prop:=∃ti,P.info? el=some ti/\ti.zero=some z/\ti.size=m/\ti.bytes<=65536
theorem wP{el m b:Nat}{z:Value}(h:(P.info? el).map (fun i=>(i.zero,i.size,i.bytes))=some (some z,m,b))(hb:Nat.ble b 65536=true):QW P el m z:=by
 cases hi:P.info? el with
 | none=>rw [hi] at h;cases h
 | some ti =>
  rw [hi] at h
  simp at h
  exact⟨ti,hi,h.1,h.2.1,by rw [h.2.2];exact tQ hb⟩
theorem aTH{z:Value}{m k i:Nat}(hz:z.cells.size=m)(hi:i < k):DL (madeCells z.cells (k * m)).toList m i=z.cells.toList:=by
 apply VO
 intro j
 by_cases hj:j < m
 ·rw [oL hj]
  have h1:i * m+j < k * m:=by
   have:(i+1) * m<=k * m:=oW m (by omega)
   rw [fU] at this;omega
  have h2:(i * m+j) % m=j:=by rw [Nat.mul_comm,Nat.mul_add_mod];exact Nat.mod_eq_of_lt hj
  simp only [madeCells,Array.getElem?_toList,Array.getElem?_map]
  rw [Array.getElem?_range]
  simp only [h1,if_true,KC,hz,h2]
  rw [getElem!_pos z.cells j (by omega),Array.getElem?_eq_getElem (by omega)]
 ·rw [A7 (by unfold DL;simp;omega),A7 (by simp;omega)]
theorem DV{α:Type}[aD α]{ad:Option Addr}{n k:Nat}{cc:List Value}{m:Nat}(hc:cc.length=n * m)(h:n=0\/∃b off,ad=some ⟨b,off,none⟩/\aV w b off cc):(Builtin.firstCells m n (.slice ad n k)).run P w=.ok cc.toArray w:=by
 rcases h with h | ⟨b,off,rfl,h⟩
 ·subst h
  have:cc=[]:=lM (by omega)
  subst this
  cases ad <;> simp [Builtin.firstCells,loadCells,loadCellsFrom]
 ·have:=oX h P
  rw [hc] at this
  simp [Builtin.firstCells,this]
theorem aHI{α:Type}[aD α][Flat α]{s s2 z:Value}{l xs:List α}{m:Nat}(i:Nat)(hS:St c w L R)(hi:L[i]?=some (aZ [s] l))(hsrc:aD.rd (MT w) w [s2] xs)(hn:aD.n α=m)(hu:P.underlying t=some (.slice el))(hinf:QW P el m z)(hzs:z.cells.size=m)
  (hb:l.length+xs.length<=1073741824) (ho:o.op=.call {callee:=.builtin .append,args:=#[x,y],argTypes:=#[t,t]}) (hx:ev e x=some s) (hy:ev e y=some s2) :
  ∃v w',dM P o e w v w'/\St c w' (L.set i (aZ [v] (l++xs))) R:=by
 subst hn
 obtain⟨ti,hti,hz,hsz,hby⟩:=hinf
 obtain⟨ad2,c2,cc2,rfl,hl2,hc2,hr2⟩:=IM hsrc
 obtain⟨F,hF⟩:=hS.chunk i hi
 have hF:aD.own w [s] l F:=hF
 obtain⟨ad,cap,cc,rfl,hl1,hc1,hr1⟩:=IM (aD.own_rd hF)
 obtain⟨ad',cap',he,hlc,hcm,hrest⟩:=(show E1 w [_] l F from hF)
 simp at he
 obtain⟨rfl,rfl⟩:=he
 have hone2:=aBO hl2 hr2
 have hsegs:∀j q,(l++xs)[j]?=some q->aD.rd (fun b o=>True) w (DL (cc++cc2) (aD.n α) j) q:=by
  intro j q hj
  rw [VR] at hj
  split at hj
  ·rename_i hlt
   have:DL (cc++cc2) (aD.n α) j=DL cc (aD.n α) j:=by
    have hle:(j+1) * aD.n α<=l.length * aD.n α:=oW _ (by omega)
    rw [fU] at hle
    apply VO
    intro p
    by_cases hp:p < aD.n α
    ·rw [oL hp,oL hp,IK (by omega)]
    ·rw [A7 (by unfold DL;simp;omega),A7 (by unfold DL;simp;omega)]
   rw [this];exact aD.rd_mono (hr1 j q hj) fun _ _ _=>trivial
  ·rename_i hge
   have:DL (cc++cc2) (aD.n α) j=DL cc2 (aD.n α) (j - l.length):=by
    apply VO
    intro p
    by_cases hp:p < aD.n α
    ·have hj2:j * aD.n α=l.length * aD.n α+(j - l.length) * aD.n α:=by rw [<-fU];congr 1;omega
     rw [oL hp,oL hp,DI (by omega)]
     congr 1;omega
    ·rw [A7 (by unfold DL;simp;omega),A7 (by unfold DL;simp;omega)]
   rw [this];exact aD.rd_mono (hr2 _ q hj) fun _ _ _=>trivial
 have hlen:(cc++cc2).length=(l++xs).length * aD.n α:=by simp [hl1,hl2,fU]
 have hsrc':xs.length=0\/∃b off,ad2=some ⟨b,off,none⟩/\aV w b off cc2:=hc2.imp (fun h=>by simp [h]) id
 have hf2:=DV (P:=P) (α:=α) (k:=c2) hl2 hsrc'
 have hexec:∀(v:Value) (w':World),(Builtin.append_ #[t,t] o.type #[.slice ad l.length cap,.slice ad2 xs.length c2]).run P w=.ok v w'->dM P o e w v w':=by
  intro v w' h _ a hA
  simp [execOp,ho,resolve,invoke,builtin,hA.eval hx,hA.eval hy,h]
 by_cases hroom:l.length+xs.length<=cap
 ·
  rcases hrest with ⟨rfl,rfl,_⟩ | ⟨b,off,Fs,rfl,hrow,hel,hd1,hd2,hFF⟩
  ·have hl0:l=[]:=lM (by omega)
   have hx0:xs=[]:=lM (by omega)
   subst hl0;subst hx0
   refine⟨.slice none 0 0,w,hexec _ _ ?_,?_⟩
   ·have hf2:(Builtin.firstCells (aD.n α) 0 (.slice ad2 0 c2)).run P w=.ok cc2.toArray w:=hf2
    simp [Builtin.append_,run_underlying hu,sizeOf,typeInfo,hti,Builtin.lenOf,hsz,hf2]
   ·rw [xG]
    refine hS.VU i hi fun F hF=>⟨F,F0,dL.refl _ _,fun _ _ h=>h.elim,hF,fun _ _ h=>.inl h⟩
  ·have hcc:aV w b off cc:=by
    rcases hc1 with h | ⟨b',off',h,hc⟩
    ·subst h
     have:cc=[]:=lM (by rw [hl1];simp)
     subst this;intro j v hj;simp at hj
    ·simp at h;obtain⟨rfl,rfl⟩:=h;exact hc
   have hmul:(l.length+xs.length) * aD.n α<=cap * aD.n α:=oW _ hroom
   rw [fU] at hmul
   obtain⟨w',hst,hk,hws,hcell⟩:=kC (b:=b) P cc2 w (off+l.length * aD.n α) 0 hone2 (fun q _ hq=>hrow _ ⟨rfl,by omega,by omega⟩)
   refine⟨_,w',hexec _ _ (by
    have hadd:(⟨b,off,none⟩:Addr).add (l.length * aD.n α)=⟨b,off+l.length * aD.n α,none⟩:=by unfold Addr.add;split <;> simp_all
    simp [Builtin.append_,run_underlying hu,sizeOf,typeInfo,hti,Builtin.lenOf,hsz,hf2,hroom,hadd,hst]
    rfl),?_⟩
   refine hS.VU i hi fun F2 hF2=>?_
   have hF2:E1 w [_] l F2:=hF2
   obtain⟨_,_,he2,_,_,hr⟩:=hF2
   simp at he2
   obtain⟨rfl,rfl⟩:=he2
   rcases hr with ⟨h,_,_⟩ | ⟨b',off',Fs',h,_,_,_,_,hFF2⟩
   ·cases h
   simp at h
   obtain⟨rfl,rfl⟩:=h
   refine⟨dK b off (cap * aD.n α),_,hk,fun b' o' h=>(hFF2 b' o').2 (.inl ?_),?_,fun b' o' h=>.inl ((hFF2 b' o').2 (.inl h))⟩
   ·obtain⟨e1,e2,e3⟩:=h
    exact⟨e1,by omega,by omega⟩
   ·have hcc':aV w' b off (cc++cc2):=by
     intro j v hj
     rw [VR] at hj
     split at hj
     ·rename_i hlt
      have hc:=hcc j v hj
      rw [hk.cell b (off+j) (World.block_lt_of_cell? w _ hc) (fun hh=>by obtain⟨_,e2,_⟩:=hh;omega)]
      exact hc
     ·rename_i hge
      have:=hcell _ v hj
      rw [show off+l.length * aD.n α+0+(j - cc.length)=off+j from by omega] at this
      exact this
    have hll:l.length+xs.length=(l++xs).length:=by simp
    rw [hll]
    exact aPJ hcc' hlen hsegs (by simp;omega) hcm (fun o' ho'=>⟨hk.stay b o' (hrow o' ho').1,(hk.wR b o' (iS (hrow o' ho').1)).trans (hrow o' ho').2⟩)
 ·
  have hbytes:(l.length+xs.length) * ti.bytes<=140737488355328:=by
   have:(l.length+xs.length) * ti.bytes<=1073741824 * 65536:=Nat.mul_le_mul hb hby
   omega
  have hfit:=growslice_fits (need:=l.length+xs.length) (old:=cap) (bytes:=ti.bytes) (by omega) hbytes
  obtain⟨hge,hle⟩:l.length+xs.length<=grownCap w (l.length+xs.length) cap el/\grownCap w (l.length+xs.length) cap el<=maxLen:=⟨grownCap_ge _ _ _ _,grownCap_le_maxLen _ _ _ _ (by unfold maxLen;omega)⟩
  have hrun:(Builtin.append_ #[t,t] o.type #[.slice ad l.length cap,.slice ad2 xs.length c2]).run P w=.ok (.slice (some ⟨w.heap.size,0,none⟩) (l.length+xs.length) (grownCap w (l.length+xs.length) cap el)) (w.drew.alloc (.cells (cc.toArray++cc2.toArray++Builtin.zeroCells z.cells (grownCap w (l.length+xs.length) cap el - (l.length+xs.length))) el)):=by
   have hn1:¬(l.length+xs.length<=cap):=hroom
   have h63':¬(9223372036854775807 < ((l.length:Int)+(xs.length:Int))):=by omega
   have h48':¬(281474976710656 < Builtin.nextslicecap (l.length+xs.length) cap * ti.bytes):=by omega
   have hf1:(Builtin.firstCells (aD.n α) l.length (.slice ad l.length cap)).run P w.drew=.ok cc.toArray w.drew:=DV (α:=α) hl1 (hc1.imp (fun h=>by simp [h]) id)
   have hf2:(Builtin.firstCells (aD.n α) xs.length (.slice ad2 xs.length c2)).run P w.drew=.ok cc2.toArray w.drew:=DV (α:=α) hl2 hsrc'
   simp [Builtin.append_,run_underlying hu,sizeOf,typeInfo,zeroValue,hti,hz,hsz,Builtin.lenOf,hn1,h63',h48',Question.forced,hf1,hf2,newRow,grownCap]
   congr 2
   apply Array.ext'
   simp
  refine⟨_,_,hexec _ _ hrun,?_⟩
  refine hS.VU i hi fun F2 hF2=>?_
  have hz2:(Builtin.zeroCells z.cells (grownCap w (l.length+xs.length) cap el - (l.length+xs.length))).size=(grownCap w (l.length+xs.length) cap el - (l.length+xs.length)) * aD.n α:=by rw [size_zeroCells,hzs]
  have htot:((cc++cc2)++(Builtin.zeroCells z.cells (grownCap w (l.length+xs.length) cap el - (l.length+xs.length))).toList).length=grownCap w (l.length+xs.length) cap el * aD.n α:=by
   have hz3:(Builtin.zeroCells z.cells (grownCap w (l.length+xs.length) cap el - (l.length+xs.length))).toList.length=(grownCap w (l.length+xs.length) cap el - (l.length+xs.length)) * aD.n α:=by simpa using hz2
   rw [rD,hlen,hz3,rD,<-fU]
   congr 1;omega
  have hst0:St (bZ w) w [] []:=St.enter (by intro f hf;cases hf)
  have hnew:=aPK (S:=fun b o=>True) w (hst0.same (dL.drew F0 w)) (cc++cc2) (Builtin.zeroCells z.cells (grownCap w (l.length+xs.length) cap el - (l.length+xs.length))).toList (l++xs) (grownCap w (l.length+xs.length) cap el) el hlen hsegs htot (by simp;omega) hle
  obtain⟨Fn,hFn⟩:=hnew.chunk 0 rfl
  obtain⟨Ft,St',⟨Fa,Fb,ha,_,_,hFab⟩,_,hFt,_⟩:=hnew.sep
  have heq:((cc++cc2)++(Builtin.zeroCells z.cells (grownCap w (l.length+xs.length) cap el - (l.length+xs.length))).toList).toArray=cc.toArray++cc2.toArray++Builtin.zeroCells z.cells (grownCap w (l.length+xs.length) cap el - (l.length+xs.length)):=by
   apply Array.ext';simp
  rw [heq] at ha
  have hll:l.length+xs.length=(l++xs).length:=by simp
  refine⟨Fa,F0,(dL.drew F0 w).trans (dL.alloc F0 _ _) (fun _ _ _ h=>h),fun _ _ h=>h.elim,?_,fun b' o' h=>.inr ?_⟩
  ·have ha:aD.own _ _ (l++xs) Fa:=ha
   have hsz2:w.drew.heap.size=w.heap.size:=rfl
   rw [hsz2] at ha
   rw [<-hll] at ha
   exact ha
  ·rcases hFt b' o' ((hFab b' o').2 (.inl h)) with h | h
   ·exact h.elim
   ·exact h
theorem aCR{α:Type}[aD α]{S:cB}{v:Value}{l:List α}(h:aD.rd S w [v] l):v.oneCell'=true:=aD.rd_one h v (by simp)
theorem a06{v:Value}{l:List Value}(h:v.oneCell'=true)(hl:l.all Value.oneCell'=true):(v :: l).all Value.oneCell'=true:=by rw [aCC,h,hl];rfl
theorem aTI{α:Type}[aD α]{S:cB}{v:Value}{l:List α}(h:aD.rd S w [v] l):v.cells.toList=[v]:=by
 obtain⟨a,c,h1,_⟩:=(show sU S w [v] l from h)
 simp at h1;subst h1;rfl
def aHJ{α:Type}[aD α](m:Nat):List Value->List α->Prop
 | cs,[]=>cs=[]
 | cs,x :: r=>aD.rd F0 default (cs.take m) x/\aHJ m (cs.drop m) r
theorem aHJ.get{α:Type}[aD α]{m:Nat}(hn:aD.n α=m):∀{l:List α} {cs:List Value},aHJ m cs l->cs.length=l.length * m/\∀i x,l[i]?=some x->aD.rd F0 default (DL cs m i) x
 | [], cs, h => by
  have h:cs=[]:=h
  subst h;exact⟨by simp,fun i x h=>by simp at h⟩
 | y :: r, cs, ⟨h1, h2⟩ => by
  obtain⟨h3,h4⟩:=aHJ.get hn h2
  have h5:=aD.jM h1
  rw [AL,hn] at h5
  rw [GV] at h3
  refine⟨by simp [fU];omega,fun i x hx=>?_⟩
  cases i with
  | zero=>simp at hx;subst hx;simpa [DL] using h1
  | succ i =>
   have:=h4 i x (by simpa using hx)
   unfold DL at this ⊢
   rw [aHB] at this
   rw [show(i+1) * m=m+i * m from by rw [fU];omega]
   exact this
theorem aNH{α:Type}[aD α][Flat α]{z:Value}{m len:Nat}{ps:List (Nat×Operand)}{vs cells:List Value}(l:List α)(hS:St c w L R)(hn:aD.n α=m)(hu:P.underlying t=some (.slice el))(hinf:QW P el m z)(hl:l.length=len)(hm:Nat.ble 1 m=true)(hsmall:Nat.ble (len * m) 16777216=true)(hrd:aHJ m cells l)
  (ho:o.op=.buildSlice t len ps.toArray) (hv:evs e (ps.map (·.2))=some vs) (hc:Instr.fill (fun i=>some (i * m,m)) ((Array.range (len * m)).map (fun i=>(if len * m=0 then #[] else z.cells)[i % (if len * m=0 then #[] else z.cells).size]!)) ((ps.map (·.1)).zip vs)=some cells.toArray) :
  ∃v w',dM P o e w v w'/\St c w' (L ++ [aZ [v] l]) R:=by
 subst hl
 obtain⟨ti,hi,hz,hsz,hby⟩:=hinf
 obtain⟨h1,h2⟩:=hrd.get hn
 have hsm:¬l.length * m > 2 ^ 24:=by have:=tQ hsmall;omega
 have hlm:l.length<=16777216:=by
  have:=Nat.le_mul_of_pos_right l.length (tQ hm)
  have:=tQ hsmall
  omega
 have hlmax:l.length<=maxLen:=by unfold maxLen;omega
 have hnew:=aPK (S:=F0) default hS cells [] l l.length el (by rw [hn];exact h1) (by rw [hn];exact h2) (by simp [h1,hn]) (jA _) hlmax
 rw [xG] at hnew
 refine⟨_,_,fun _ a hA=>?_,hnew⟩
 have hps:ps.map (fun p=>(p.1,a.eval p.2))=(ps.map (·.1)).zip vs:=by
  rw [<-HC hA hv]
  clear hv hc ho
  induction ps with
  | nil=>rfl
  | cons p r ih=>simp [ih]
 by_cases h0:l.length * m=0
 ·simp only [h0,if_true] at hc
  simp [execOp,ho,Instr.buildSlice,run_underlying hu,sizeOf,typeInfo,hi,hsz,h0,hps]
  try simp at hc
  simp [hc,newRow]
 ·simp only [h0,if_false] at hc
  simp [execOp,ho,Instr.buildSlice,run_underlying hu,sizeOf,typeInfo,zeroValue,hi,hz,hsz,h0,hsm,hps]
  try simp at hc
  simp [hc,newRow]
end
end Go.Gv
end
noncomputable section
namespace Go.Gv
def cJ{α:Type}[aD α](w:World):List Value->List α->cB->Prop
 | cs,[],F=>cs=[]/\∀b o,¬F b o
 | cs,x :: r,F=>∃c1 c2 F1 F2,cs=c1++c2/\aD.own w c1 x F1/\cJ w c2 r F2/\cB.C9 F1 F2/\∀b o,F b o↔F1 b o\/F2 b o
theorem cJ.congr{α:Type}[aD α]{w:World}{cs:List Value}{l:List α}{F G:cB}(h:cJ w cs l F)(hFG:∀b o,F b o↔G b o):cJ w cs l G:=by
 have:F=G:=by funext b o;exact propext (hFG b o)
 rw [<-this];exact h
theorem cJ.length{α:Type}[aD α]{w:World}:∀{l:List α} {cs:List Value} {F:cB},cJ w cs l F->cs.length=l.length * aD.n α
 | [],cs,F,h=>by simp [h.1]
 | x :: r, cs, F, ⟨c1, c2, F1, F2, e, h1, h2, _, _⟩ => by
  have a:=aD.jM (aD.own_rd h1)
  have b:=cJ.length h2
  subst e
  rw [rD,a,b,GU,fU];omega
theorem cJ.keep{α:Type}[aD α]{w w':World}{G:cB}(hk:dL G w w'):∀{l:List α} {cs:List Value} {F:cB},cJ w cs l F->F.C9 G->cJ w' cs l F
 | [],cs,F,h,_=>h
 | x :: r, cs, F, ⟨c1, c2, F1, F2, e, h1, h2, hd, hF⟩, hg =>
  ⟨c1,c2,F1,F2,e,aD.own_keep h1 hk fun b o h g=>hg b o ((hF b o).2 (.inl h)) g,cJ.keep hk h2 fun b o h g=>hg b o ((hF b o).2 (.inr h)) g,hd,hF⟩
theorem cJ.lt{α:Type}[aD α]{w:World}:∀{l:List α} {cs:List Value} {F:cB} {b o:Nat},cJ w cs l F->F b o->b < w.heap.size
 | [],_,_,b,o,h,hf=>(h.2 b o hf).elim
 | x :: r, cs, F, b, o, ⟨c1, c2, F1, F2, e, h1, h2, hd, hF⟩, hf => by
  rcases(hF b o).1 hf with h | h
  ·exact aD.own_lt h1 h
  ·exact cJ.lt h2 h
theorem cJ.app{α:Type}[aD α]{w:World}:∀{l m:List α} {cs ds:List Value} {F G H:cB},cJ w cs l F->cJ w ds m G->F.C9 G->(∀b o,H b o↔F b o\/G b o)->cJ w (cs++ds) (l++m) H
 | [], m, cs, ds, F, G, H, h, k, _, hH => by
  rw [h.1]
  exact cJ.congr k fun b o=>by rw [hH];exact⟨.inr,fun q=>q.elim (fun q=>(h.2 b o q).elim) id⟩
 | x :: r, m, cs, ds, F, G, H, ⟨c1, c2, F1, F2, e, h1, h2, hd, hF⟩, k, hdj, hH => by
  subst e
  refine⟨c1,c2++ds,F1,fun b o=>F2 b o\/G b o,by simp,h1,cJ.app h2 k (fun b o p q=>hdj b o ((hF b o).2 (.inr p)) q) fun _ _=>Iff.rfl,?_,fun b o=>by rw [hH,hF,or_assoc]⟩
  rintro b o p (q | q)
  ·exact hd b o p q
  ·exact hdj b o ((hF b o).2 (.inl p)) q
theorem cJ.split{α:Type}[aD α]{w:World}:∀{l m:List α} {cs:List Value} {H:cB},cJ w cs (l++m) H->∃c1 c2 F G,cs=c1++c2/\cJ w c1 l F/\cJ w c2 m G/\F.C9 G/\∀b o,H b o↔F b o\/G b o
 | [],m,cs,H,h=>⟨[],cs,F0,H,rfl,⟨rfl,fun _ _ h=>h⟩,h,fun _ _ h=>h.elim,fun b o=>by simp [F0]⟩
 | x :: r, m, cs, H, ⟨c1, c2, F1, F2, e, h1, h2, hd, hF⟩ => by
  obtain⟨d1,d2,G1,G2,e2,k1,k2,kd,kF⟩:=cJ.split h2
  subst e;subst e2
  refine⟨c1++d1,d2,fun b o=>F1 b o\/G1 b o,G2,by simp,⟨c1,d1,F1,G1,rfl,h1,k1,fun b o p q=>hd b o p ((kF b o).2 (.inl q)),fun _ _=>Iff.rfl⟩,k2,?_,fun b o=>by rw [hF,kF,or_assoc]⟩
  rintro b o (p | p) q
  ·exact hd b o p ((kF b o).2 (.inr q))
  ·exact kd b o p q
theorem cJ.one{α:Type}[aD α]{w:World}{c:List Value}{x:α}{F:cB}:cJ w c [x] F↔aD.own w c x F:=by
 constructor
 ·rintro⟨c1,c2,F1,F2,e,h1,⟨h2,h3⟩,hd,hF⟩
  subst e;subst h2
  have:F=F1:=by funext b o;exact propext ((hF b o).trans ⟨fun q=>q.elim id fun q=>(h3 b o q).elim,.inl⟩)
  rw [this];simpa using h1
 ·intro h
  exact⟨c,[],F,F0,by simp,h,⟨rfl,fun _ _ h=>h⟩,fun _ _ _ h=>h,fun b o=>by simp [F0]⟩
theorem cJ.rd{α:Type}[aD α]{w:World}:∀{l:List α} {cs:List Value} {F:cB},cJ w cs l F->∀i x,l[i]?=some x->aD.rd F w (DL cs (aD.n α) i) x
 | [],cs,F,_,i,x,h=>by simp at h
 | y :: r, cs, F, ⟨c1, c2, F1, F2, e, h1, h2, hd, hF⟩, i, x, h => by
  have a:=aD.jM (aD.own_rd h1)
  subst e
  cases i with
  | zero =>
   simp at h;subst h
   have:DL (c1++c2) (aD.n α) 0=c1:=by unfold DL;simp [<-a]
   rw [this];exact aD.rd_mono (aD.own_rd h1) fun b o q=>(hF b o).2 (.inl q)
  | succ i =>
   have:DL (c1++c2) (aD.n α) (i+1)=DL c2 (aD.n α) i:=by
    unfold DL;rw [show(i+1) * aD.n α=c1.length+i * aD.n α by rw [a,fU];omega,<-aHB,List.drop_left]
   rw [this];exact aD.rd_mono (cJ.rd h2 i x (by simpa using h)) fun b o q=>(hF b o).2 (.inr q)
def Row(w:World)(b off n:Nat):Prop:=∀o,dK b off n b o->(w.cell? ⟨b,o,none⟩).isSome=true/\w.frozen? ⟨b,o,none⟩=false
theorem aPL{α:Type}[aD α]{w:World}{b:Nat}:∀{l:List α} {off:Nat} {Fs:Nat->cB},(∀i (h:i < l.length),∃ec,aV w b (off+i * aD.n α) ec/\aD.own w ec l[i] (Fs i)) ->
  (∀i j,i < l.length->j < l.length->i≠j->cB.C9 (Fs i) (Fs j))->∃cc,aV w b off cc/\cJ w cc l (fun b' o=>∃i,i < l.length/\Fs i b' o)
 | [],off,Fs,_,_=>⟨[],fun j v h=>by simp at h,rfl,fun b o ⟨i,h,_⟩=>by simp at h⟩
 | x :: r, off, Fs, h, hd => by
  obtain⟨ec,h1,h2⟩:=h 0 (by simp)
  obtain⟨cc,h3,h4⟩:=aPL (l:=r) (off:=off+aD.n α) (Fs:=fun i=>Fs (i+1)) (fun i hi=>by
   obtain⟨ec,k1,k2⟩:=h (i+1) (by simp;omega)
   exact⟨ec,by rw [show off+aD.n α+i * aD.n α=off+(i+1) * aD.n α by rw [fU];omega];exact k1,by simpa using k2⟩)
   fun i j hi hj hij=>hd (i+1) (j+1) (by simp;omega) (by simp;omega) (by omega)
  have hl:=aD.jM (aD.own_rd h2)
  refine⟨ec++cc,fun j v hj=>?_,ec,cc,Fs 0,_,rfl,by simpa using h2,h4,?_,fun b' o=>?_⟩
  ·rw [VR] at hj
   split at hj
   ·have:=h1 j v hj;simpa using this
   ·have:=h3 _ v hj
    rw [show off+aD.n α+(j - ec.length)=off+j by omega] at this
    exact this
  ·rintro b' o p ⟨i,hi,q⟩
   exact hd 0 (i+1) (by simp) (by simp;omega) (by omega) b' o p q
  ·constructor
   ·rintro⟨i,hi,q⟩
    cases i with
    | zero=>exact .inl q
    | succ i=>exact .inr ⟨i,by simpa using hi,q⟩
   ·rintro(q | ⟨i,hi,q⟩)
    ·exact⟨0,by simp,q⟩
    ·exact⟨i+1,by simp;omega,q⟩
theorem aPM{α:Type}[aD α]{w:World}{b:Nat}:∀{l:List α} {off:Nat} {cc:List Value} {F:cB},aV w b off cc->cJ w cc l F ->
  ∃Fs:Nat->cB,(∀i (h:i < l.length),∃ec,aV w b (off+i * aD.n α) ec/\aD.own w ec l[i] (Fs i))/\(∀i j,i < l.length->j < l.length->i≠j->cB.C9 (Fs i) (Fs j))/\∀b' o,F b' o↔∃i,i < l.length/\Fs i b' o
 | [],off,cc,F,_,h=>⟨fun _=>F0,fun i h=>by simp at h,fun i j h=>by simp at h,fun b o=>⟨fun q=>(h.2 b o q).elim,fun⟨i,h,_⟩=>by simp at h⟩⟩
 | x :: r, off, cc, F, hc, ⟨c1, c2, F1, F2, e, h1, h2, hd, hF⟩ => by
  have hl:=aD.jM (aD.own_rd h1)
  subst e
  have k1:aV w b off c1:=fun j v hj=>hc j v (by rw [IK (iE.1 hj).1];exact hj)
  have k2:aV w b (off+aD.n α) c2:=fun j v hj=>by
   have:=hc (c1.length+j) v (by rw [DI (by omega)];simpa using hj)
   rw [hl,<-E0] at this;exact this
  obtain⟨Fs,a1,a2,a3⟩:=aPM k2 h2
  refine⟨fun i=>match i with | 0=>F1 | i+1=>Fs i,fun i hi=>?_,fun i j hi hj hij=>?_,fun b' o=>?_⟩
  ·cases i with
   | zero=>exact⟨c1,by simpa using k1,by simpa using h1⟩
   | succ i =>
    obtain⟨ec,q1,q2⟩:=a1 i (by simpa using hi)
    exact⟨ec,by rw [show off+(i+1) * aD.n α=off+aD.n α+i * aD.n α by rw [fU];omega];exact q1,by simpa using q2⟩
  ·cases i with
   | zero =>
    cases j with
    | zero=>exact absurd rfl hij
    | succ j=>exact fun b o p q=>hd b o p ((a3 b o).2 ⟨j,by simpa using hj,q⟩)
   | succ i =>
    cases j with
    | zero=>exact fun b o p q=>hd b o q ((a3 b o).2 ⟨i,by simpa using hi,p⟩)
    | succ j=>exact a2 i j (by simpa using hi) (by simpa using hj) (by omega)
  ·rw [hF,a3]
   constructor
   ·rintro(q | ⟨i,hi,q⟩)
    ·exact⟨0,by simp,q⟩
    ·exact⟨i+1,by simp;omega,q⟩
   ·rintro⟨i,hi,q⟩
    cases i with
    | zero=>exact .inl q
    | succ i=>exact .inr ⟨i,by simpa using hi,q⟩
theorem kD{α:Type}[aD α]{w:World}{s:Value}{l:List α}{F:cB}:aD.own w [s] l F↔∃a c,s=.slice a l.length c/\l.length<=c/\c<=maxLen /\
  ((a=none/\c=0/\∀b o,¬F b o)\/∃b off cc Fe,a=some ⟨b,off,none⟩/\Row w b off (c * aD.n α)/\aV w b off cc/\cJ w cc l Fe/\cB.C9 Fe (dK b off (c * aD.n α))/\∀b' o,F b' o↔dK b off (c * aD.n α) b' o\/Fe b' o):=by
 show E1 w [s] l F↔_
 constructor
 ·rintro⟨a,c,e,h1,h2,h3⟩
  simp at e
  refine⟨a,c,e,h1,h2,h3.imp id ?_⟩
  rintro⟨b,off,Fs,e2,hr,he,hd1,hd2,hF⟩
  obtain⟨cc,k1,k2⟩:=aPL he hd1
  exact⟨b,off,cc,_,e2,hr,k1,k2,fun b o ⟨i,hi,q⟩ p=>hd2 i hi b o q p,hF⟩
 ·rintro⟨a,c,e,h1,h2,h3⟩
  refine⟨a,c,by rw [e],h1,h2,h3.imp id ?_⟩
  rintro⟨b,off,cc,Fe,e2,hr,k1,k2,hd,hF⟩
  obtain⟨Fs,a1,a2,a3⟩:=aPM k1 k2
  exact⟨b,off,Fs,e2,hr,a1,a2,fun i hi b o q p=>hd b o ((a3 b o).2 ⟨i,hi,q⟩) p,fun b' o=>by rw [hF,a3]⟩
def blank(L:List Chunk):List Nat->List Chunk
 | []=>L
 | i :: r=>blank (L.set i FT) r
theorem Sep.blank{w:World}:∀{is:List Nat} {L:List Chunk} {F:cB},cW is=true->Sep w L F->Sep w (Gv.pick L is++Gv.blank L is) F
 | [],L,F,_,h=>h
 | i :: r, L, F, ha, h => by
  simp only [cW,zP] at ha
  have hp:=aCO (L:=L) ha.1
  show Sep w ((L[i]?).getD FT :: (Gv.pick L r++Gv.blank (L.set i FT) r)) F
  cases hi:L[i]? with
  | none =>
   have:L.set i FT=L:=List.set_eq_of_length_le (by simpa using hi)
   rw [this]
   exact⟨F0,F,fun _ _ h=>h,Sep.blank ha.2 h,fun _ _ h=>h.elim,fun b o=>by simp [F0]⟩
  | some ch =>
   obtain⟨F1,F2,h1,h2,hd,hF⟩:=(Sep.take hi).1 h
   exact⟨F1,F2,h1,by rw [<-hp];exact Sep.blank ha.2 h2,hd,hF⟩
noncomputable section
variable {c:Ctx} {w w':World} {L:List Chunk} {R:List Fact}
theorem St.front(h:St c w L R)(is:List Nat)(ha:cW is=true):St c w (pick L is++blank L is) R:=by
 obtain⟨F,S,hsep,rest⟩:=h.sep
 exact⟨h.keep,⟨F,S,Sep.blank ha hsep,rest⟩,h.apart⟩
theorem St.aTJ(h:St c w L R)(is:List Nat)(ha:cW is=true){A':List Chunk}(hs:∀F,Sep w (pick L is) F->∃F' G,dL G w w'/\(∀b o,G b o->F b o)/\Sep w' A' F'/\∀b o,F' b o->F b o\/w.heap.size<=b) :
  St c w' (blank L is++A') R:=St.rot (St.step (h.front is ha) hs)
theorem St.shift(h:St c w L R)(is:List Nat)(ha:cW is=true){A':List Chunk}(hs:∀F,Sep w (pick L is) F->Sep w A' F):St c w (blank L is++A') R:=
 h.aTJ is ha fun F hF=>⟨F,F0,dL.refl _ _,fun _ _ h=>h.elim,hs F hF,fun _ _ h=>.inl h⟩
end
theorem Sep.one{w:World}{ch:Chunk}{F:cB}:Sep w [ch] F↔ch.P w F:=by
 constructor
 ·rintro⟨F1,F2,h1,h2,_,hF⟩
  have:F=F1:=by funext b o;exact propext ((hF b o).trans ⟨fun q=>q.elim id fun q=>(h2 b o q).elim,.inl⟩)
  rw [this];exact h1
 ·intro h
  exact⟨F,F0,h,fun _ _ h=>h,fun _ _ _ h=>h,fun b o=>by simp [F0]⟩
def qB{α:Type}[aD α](s:Value)(l:List α)(k:Nat):Chunk where
 P:=fun w F=>∃a c b off c1 c2 F1 F2,s=.slice a l.length c/\l.length<=c/\c<=maxLen/\k < l.length/\a=some ⟨b,off,none⟩ /\
  (∀o,dK b off (c * aD.n α) b o->¬dK b (off+k * aD.n α) (aD.n α) b o->(w.cell? ⟨b,o,none⟩).isSome=true/\w.frozen? ⟨b,o,none⟩=false) /\
  aV w b off c1/\aV w b (off+(k+1) * aD.n α) c2/\cJ w c1 (l.take k) F1/\cJ w c2 (l.drop (k+1)) F2/\F1.C9 F2/\F1.C9 (dK b off (c * aD.n α))/\F2.C9 (dK b off (c * aD.n α)) /\
  ∀b' o,F b' o↔(dK b off (c * aD.n α) b' o/\¬dK b (off+k * aD.n α) (aD.n α) b' o)\/F1 b' o\/F2 b' o
 keep:=by
  rintro w w' F G ⟨a,c,b,off,c1,c2,F1,F2,e,h1,h2,h3,e2,hr,k1,k2,o1,o2,d1,d2,d3,hF⟩ hk hd
  have hcell:∀o,dK b off (c * aD.n α) b o->¬dK b (off+k * aD.n α) (aD.n α) b o->b < w.heap.size->w'.cell? ⟨b,o,none⟩=w.cell? ⟨b,o,none⟩:=fun o p q hb=>hk.cell b o hb fun g=>hd b o ((hF b o).2 (.inl ⟨p,q⟩)) g
  have hn:(k+1) * aD.n α<=c * aD.n α:=oW _ (by omega)
  rw [fU] at hn
  have l1:=o1.length
  have l2:=o2.length
  rw [AL,Nat.min_eq_left (by omega)] at l1
  rw [GV] at l2
  have hn2:(l.length - (k+1)) * aD.n α+(k+1) * aD.n α<=c * aD.n α:=by rw [<-fU];exact oW _ (by omega)
  refine⟨a,c,b,off,c1,c2,F1,F2,e,h1,h2,h3,e2,fun o p q=>?_,?_,?_,o1.keep hk fun b o p g=>hd b o ((hF b o).2 (.inr (.inl p))) g,o2.keep hk fun b o p g=>hd b o ((hF b o).2 (.inr (.inr p))) g,d1,d2,d3,hF⟩
  ·have:=hr o p q
   exact⟨hk.stay b o this.1,(hk.wR b o (iS this.1)).trans this.2⟩
  ·by_cases hc:c1=[]
   ·subst hc;intro j v h;simp at h
   ·refine k1.agree fun o p q=>hcell o ⟨rfl,p,by omega⟩ (fun⟨_,p2,_⟩=>by omega) (k1.lt hc)
  ·by_cases hc:c2=[]
   ·subst hc;intro j v h;simp at h
   ·rw [fU] at k2 hn2
    refine aV.agree (by rw [fU];exact k2) fun o p q=>?_
    rw [fU] at p q
    exact hcell o ⟨rfl,by omega,by omega⟩ (fun⟨_,_,p3⟩=>by omega) (k2.lt hc)
 lt:=by
  rintro w F b' o ⟨a,c,b,off,c1,c2,F1,F2,e,h1,h2,h3,e2,hr,k1,k2,o1,o2,d1,d2,d3,hF⟩ hf
  rcases(hF b' o).1 hf with ⟨p,q⟩ | p | p
  ·have:b'=b:=p.1
   subst this
   exact iS (hr o p q).1
  ·exact o1.lt p
  ·exact o2.lt p
theorem AP{w:World}{b off:Nat}{c1 c2:List Value}(h:aV w b off (c1++c2)):aV w b off c1/\aV w b (off+c1.length) c2:=
 ⟨fun j v hj=>h j v (by rw [IK (iE.1 hj).1];exact hj),fun j v hj=>by
  have:=h (c1.length+j) v (by rw [DI (by omega)];simpa using hj)
  rw [<-E0] at this;exact this⟩
theorem IN{w:World}{b off:Nat}{c1 c2:List Value}(h1:aV w b off c1)(h2:aV w b (off+c1.length) c2):aV w b off (c1++c2):=fun j v hj=>by
 rw [VR] at hj
 split at hj
 ·exact h1 j v hj
 ·have:=h2 _ v hj
  rw [show off+c1.length+(j - c1.length)=off+j by omega] at this
  exact this
theorem aTK{α:Type}{l:List α}{k:Nat}{x:α}(h:l[k]?=some x):l=l.take k++([x]++l.drop (k+1)):=by
 obtain⟨hk,rfl⟩:=iE.1 h
 simp
theorem aTL{α:Type}{l:List α}{k:Nat}{x:α}(h:k < l.length):l.set k x=l.take k++([x]++l.drop (k+1)):=by
 rw [List.set_eq_take_append_cons_drop,if_pos h];simp
theorem aTM{α:Type}[aD α]{w:World}{s:Value}{l:List α}{k:Nat}{x:α}{F:cB}(h:aD.own w [s] l F)(hx:l[k]?=some x) :
  ∃ec:List Value,Sep w [qB s l k,QV (MW s) (MO (aD.n α) k s) ec,aZ ec x] F:=by
 obtain⟨a,c,e,h1,h2,h3⟩:=kD.1 h
 obtain⟨hk,_⟩:=iE.1 hx
 rcases h3 with ⟨_,h3,_⟩ | ⟨b,off,cc,Fe,rfl,hr,hc,ho,hd,hF⟩
 ·omega
 rw [aTK hx] at ho
 obtain⟨c1,c23,F1,F23,rfl,o1,o23,d1,e1⟩:=ho.split
 obtain⟨ec,c2,F2,F3,rfl,o2,o3,d2,e2⟩:=o23.split
 have l1:=o1.length
 have l2:=o2.length
 have l3:=o3.length
 rw [AL,Nat.min_eq_left (by omega)] at l1
 rw [GV] at l3
 simp only [GU,aKM,AM,Nat.one_mul] at l2
 obtain⟨k1,k23⟩:=AP hc
 obtain⟨k2,k3⟩:=AP k23
 rw [l1] at k2 k3
 rw [l2] at k3
 have hn:(k+1) * aD.n α<=c * aD.n α:=oW _ (by omega)
 have hn':=hn
 rw [fU] at hn'
 subst e
 refine⟨ec,_,fun b' o=>dK b (off+k * aD.n α) (aD.n α) b' o\/F2 b' o,⟨some ⟨b,off,none⟩,c,b,off,c1,c2,F1,F3,rfl,h1,h2,hk,rfl,fun o p q=>hr o p,k1,?_,o1,o3,?_,?_,?_,fun _ _=>Iff.rfl⟩,?_⟩
 ·rw [show off+(k+1) * aD.n α=off+k * aD.n α+aD.n α by rw [fU];omega];exact k3
 ·exact fun b o p q=>d1 b o p ((e2 b o).2 (.inr q))
 ·exact fun b o p q=>hd b o ((e1 b o).2 (.inl p)) q
 ·exact fun b o p q=>hd b o ((e1 b o).2 (.inr ((e2 b o).2 (.inr p)))) q
 ·refine⟨⟨dK b (off+k * aD.n α) (aD.n α),F2,⟨k2,fun o p=>(hr o ?_).2,fun b' o=>by simp only [l2,MW,MO]⟩,Sep.one.2 (cJ.one.1 o2),?_,fun _ _=>Iff.rfl⟩,?_,fun b' o=>?_⟩
  ·obtain⟨_,p1,p2⟩:=p
   simp only [MO,l2] at p1 p2
   exact⟨rfl,by omega,by omega⟩
  ·rintro b' o ⟨rfl,p1,p2⟩ q
   exact hd b' o ((e1 b' o).2 (.inr ((e2 b' o).2 (.inl q)))) ⟨rfl,by omega,by omega⟩
  ·rintro b' o (⟨p,q⟩ | p | p) (u | u)
   ·exact q u
   ·exact hd b' o ((e1 b' o).2 (.inr ((e2 b' o).2 (.inl u)))) p
   ·obtain⟨rfl,u1,u2⟩:=u
    exact hd b' o ((e1 b' o).2 (.inl p)) ⟨rfl,by omega,by omega⟩
   ·exact d1 b' o p ((e2 b' o).2 (.inl u))
   ·obtain⟨rfl,u1,u2⟩:=u
    exact hd b' o ((e1 b' o).2 (.inr ((e2 b' o).2 (.inr p)))) ⟨rfl,by omega,by omega⟩
   ·exact d2 b' o u p
  ·rw [hF,e1,e2]
   constructor
   ·rintro(p | p | p | p)
    ·by_cases q:dK b (off+k * aD.n α) (aD.n α) b' o
     ·exact .inr (.inl q)
     ·exact .inl (.inl ⟨p,q⟩)
    ·exact .inl (.inr (.inl p))
    ·exact .inr (.inr p)
    ·exact .inl (.inr (.inr p))
   ·rintro((⟨p,q⟩ | p | p) | (p | p))
    ·exact .inl p
    ·exact .inr (.inl p)
    ·exact .inr (.inr (.inr p))
    ·obtain⟨rfl,p1,p2⟩:=p
     exact .inl ⟨rfl,by omega,by omega⟩
    ·exact .inr (.inr (.inl p))
theorem aRD{α:Type}[aD α]{w:World}{s:Value}{l:List α}{k:Nat}{x:α}{ec:List Value}{F:cB}(h:Sep w [qB s l k,QV (MW s) (MO (aD.n α) k s) ec,aZ ec x] F):aD.own w [s] (l.set k x) F:=by
 obtain⟨G1,G2,⟨a,c,b,off,c1,c2,F1,F3,e,h1,h2,hk,rfl,hr,k1,k3,o1,o3,d1,d2,d3,hG1⟩,⟨H1,H2,⟨k2,hz,hH1⟩,hs,dH,hG2⟩,dG,hF⟩:=h
 have ho:aD.own w ec x H2:=Sep.one.1 hs
 subst e
 simp only [MW,MO] at k2 hz hH1
 have l1:=o1.length
 have l2:=aD.jM (aD.own_rd ho)
 have l3:=o3.length
 rw [AL,Nat.min_eq_left (by omega)] at l1
 have hn:(k+1) * aD.n α<=c * aD.n α:=oW _ (by omega)
 have hn':=hn
 rw [fU] at hn'
 rw [l2] at hH1
 refine kD.2 ⟨some ⟨b,off,none⟩,c,by simp,by simpa using h1,h2,.inr ⟨b,off,c1++(ec++c2),fun b' o=>F1 b' o\/(H2 b' o\/F3 b' o),rfl,fun o p=>?_,?_,?_,?_,fun b' o=>?_⟩⟩
 ·by_cases q:dK b (off+k * aD.n α) (aD.n α) b o
  ·refine⟨?_,hz o (by rw [l2];exact q)⟩
   obtain⟨_,q1,q2⟩:=q
   have:=k2 (o - (off+k * aD.n α)) _ (fT (by omega))
   rw [show off+k * aD.n α+(o - (off+k * aD.n α))=o by omega] at this
   rw [this];rfl
  ·exact hr o p q
 ·refine IN k1 (IN (by rw [l1];exact k2) ?_)
  rw [l1,l2,show off+k * aD.n α+aD.n α=off+(k+1) * aD.n α by rw [fU];omega]
  exact k3
 ·rw [aTL hk]
  refine cJ.app o1 (cJ.app (cJ.one.2 ho) o3 ?_ fun _ _=>Iff.rfl) ?_ fun _ _=>Iff.rfl
  ·exact fun b' o p q=>dG b' o ((hG1 b' o).2 (.inr (.inr q))) ((hG2 b' o).2 (.inr p))
  ·rintro b' o p (q | q)
   ·exact dG b' o ((hG1 b' o).2 (.inr (.inl p))) ((hG2 b' o).2 (.inr q))
   ·exact d1 b' o p q
 ·rintro b' o (p | p | p) q
  ·exact d2 b' o p q
  ·by_cases u:dK b (off+k * aD.n α) (aD.n α) b' o
   ·exact dH b' o ((hH1 b' o).2 u) p
   ·exact dG b' o ((hG1 b' o).2 (.inl ⟨q,u⟩)) ((hG2 b' o).2 (.inr p))
  ·exact d3 b' o p q
 ·rw [hF,hG1,hG2,hH1]
  constructor
  ·rintro((⟨p,q⟩ | p | p) | (p | p))
   ·exact .inl p
   ·exact .inr (.inl p)
   ·exact .inr (.inr (.inr p))
   ·obtain⟨rfl,p1,p2⟩:=p
    exact .inl ⟨rfl,by omega,by omega⟩
   ·exact .inr (.inr (.inl p))
  ·rintro(p | p | p | p)
   ·by_cases q:dK b (off+k * aD.n α) (aD.n α) b' o
    ·exact .inr (.inl q)
    ·exact .inl (.inl ⟨p,q⟩)
   ·exact .inl (.inr (.inl p))
   ·exact .inr (.inr p)
   ·exact .inl (.inr (.inr p))
end Go.Gv
end
noncomputable section
namespace Go.Gv
def OP{α:Type}[aD α](cs:List Value)(d:α)(A:List Chunk):Prop:=∀w F,aD.own w cs d F↔Sep w A F
theorem dN{α:Type}[aD α][Flat α]{cs:List Value}{d:α}(h:aD.rd F0 default cs d):OP cs d []:=fun w F=>by
 constructor
 ·intro k;exact Flat.no k
 ·intro k
  have:F=F0:=by funext b o;exact propext ⟨fun q=>(k b o q).elim,fun q=>q.elim⟩
  rw [this];exact Flat.own_of h
theorem FV{α:Type}[aD α]{cs:List Value}{d:α}:OP cs d [aZ cs d]:=fun w F=>(Sep.one (ch:=aZ cs d)).symm
theorem dU{α β:Type}[aD α][aD β]{c1 c2:List Value}{d:α×β}{A B:List Chunk}(h1:OP c1 d.1 A)(h2:OP c2 d.2 B)(hl:c1.length=aD.n α):OP (c1++c2) d (A++B):=fun w F=>by
 constructor
 ·rintro⟨e1,e2,F1,F2,e,k1,k2,hd,hF⟩
  have hl2:=aD.jM (aD.own_rd k1)
  obtain⟨rfl,rfl⟩:=List.append_inj e (by omega)
  exact Sep.append.2 ⟨F1,F2,(h1 w F1).1 k1,(h2 w F2).1 k2,hd,hF⟩
 ·intro k
  obtain⟨F1,F2,k1,k2,hd,hF⟩:=Sep.append.1 k
  exact⟨c1,c2,F1,F2,rfl,(h1 w F1).2 k1,(h2 w F2).2 k2,hd,hF⟩
noncomputable section
variable {P:Program} {o:Oper} {e:Env} {w w':World} {c:Ctx} {L:List Chunk} {R:List Fact} {x y:Operand} {t el:TypeId}
theorem St.open(h:St c w L R){α:Type}[aD α]{s:Value}{l:List α}{k:Nat}{q:α}(i:Nat)(hi:L[i]?=some (aZ [s] l))(hq:l[k]?=some q) :
  ∃ec,St c w (L.set i FT ++ [qB s l k,QV (MW s) (MO (aD.n α) k s) ec,aZ ec q]) R:=by
 have h1:St c w ([aZ [s] l]++L.set i FT) R:=h.take i hi
 obtain⟨F,S,hsep,rest⟩:=h1.sep
 obtain⟨F1,F2,g1,g2,gd,gF⟩:=Sep.append.1 hsep
 obtain⟨ec,hec⟩:=aTM (Sep.one.1 g1) hq
 exact⟨ec,St.rot ⟨h1.keep,⟨F,S,Sep.append.2 ⟨F1,F2,hec,g2,gd,gF⟩,rest⟩,h1.apart⟩⟩
theorem St.unpack(h:St c w L R){α:Type}[aD α]{cs:List Value}{d:α}{A':List Chunk}(i:Nat)(hi:L[i]?=some (aZ cs d))(ho:OP cs d A'):St c w (L.set i FT++A') R:=by
 have h1:St c w ([aZ cs d]++L.set i FT) R:=h.take i hi
 obtain⟨F,S,hsep,rest⟩:=h1.sep
 obtain⟨F1,F2,g1,g2,gd,gF⟩:=Sep.append.1 hsep
 exact St.rot ⟨h1.keep,⟨F,S,Sep.append.2 ⟨F1,F2,(ho w F1).1 (Sep.one.1 g1),g2,gd,gF⟩,rest⟩,h1.apart⟩
theorem UR{b off:Nat}{c1 c2:List Value}(h1:aV w b off c1)(h2:aV w b off c2)(hl:c1.length=c2.length):c1=c2:=by
 apply VO
 intro j
 by_cases hj:j < c1.length
 ·have a:=h1 j _ (fT hj)
  have b:=h2 j _ (fT (by omega))
  rw [a] at b
  rw [fT hj,fT (by omega)];exact b
 ·rw [A7 (by omega),A7 (by omega)]
theorem IP{α:Type}[aD α]{b off cap:Nat}{cc:List Value}{l:List α}{Fe:cB}(hr:Row w b off (cap * aD.n α))(hc:aV w b off cc)(ho:cJ w cc l Fe)(hd:Fe.C9 (dK b off (cap * aD.n α)))(hlen:l.length<=cap)(hmax:cap<=maxLen) :
  aD.own w [.slice (some ⟨b,off,none⟩) l.length cap] l (fun b' o=>dK b off (cap * aD.n α) b' o\/Fe b' o):=
 kD.2 ⟨_,cap,rfl,hlen,hmax,.inr ⟨b,off,cc,Fe,rfl,hr,hc,ho,hd,fun _ _=>Iff.rfl⟩⟩
theorem VW{α:Type}[aD α](hS:St c w L R)(is:List Nat)(ha:cW is=true){A:List Chunk}(hp:pick L is=A)(cells rest:List Value)(l:List α)(cap:Nat)(ty:TypeId)
  (hA:∀F,Sep w A F->∃Fe,cJ w cells l Fe/\∀b o,Fe b o->F b o) (hcap:(cells++rest).length=cap * aD.n α) (hlen:l.length<=cap) (hmax:cap<=maxLen) :
  St c (w.alloc (.cells (cells++rest).toArray ty)) (blank L is ++ [aZ [.slice (some ⟨w.heap.size,0,none⟩) l.length cap] l]) R:=by
 have hcell:∀j,(w.alloc (.cells (cells++rest).toArray ty)).cell? ⟨w.heap.size,j,none⟩=(cells++rest)[j]?:=fun j=>by rw [World.cell?_alloc_at (hn:=rfl)];simp
 refine hS.aTJ is ha fun F hF=>?_
 obtain⟨Fe,h1,h2⟩:=hA F (hp ▸ hF)
 have hk:=dL.alloc F0 w (.cells (cells++rest).toArray ty)
 refine⟨_,F0,hk,fun _ _ h=>h.elim,Sep.one.2 (IP (fun o' ho=>?_) (fun j v hj=>?_) (h1.keep hk fun _ _ _ h=>h) (fun b o' p q=>?_) hlen hmax),?_⟩
 ·obtain⟨_,_,h3⟩:=ho
  refine⟨?_,World.frozen?_alloc_at (hn:=rfl) ..⟩
  rw [hcell,fT (by omega)];rfl
 ·rw [AM,hcell,IK (iE.1 hj).1];exact hj
 ·have:=h1.lt p
  obtain⟨rfl,_⟩:=q
  omega
 ·rintro b o' (p | p)
  ·exact .inr (PG p.1.symm)
  ·exact .inl (h2 b o' p)
theorem aTN{α:Type}[aD α]{i:Int}{z:Value}{m:Nat}(zd:α)(hS:St c w L R)(hn:aD.n α=m)(hu:P.underlying t=some (.slice el))(hinf:QW P el m z)(hzs:z.cells.size=m)(hzd:∀w,aD.own w z.cells.toList zd F0)
  (h01:0<=i/\i<=4294967296) (ho:o.op=.makeSlice t x y) (hx:ev e x=some (.int .i64 i)) (hy:ev e y=some (.int .i64 i)) :
  ∃v w',dM P o e w v w'/\St c w' (L ++ [aZ [v] (List.replicate i.toNat zd)]) R:=by
 obtain⟨h0,h1⟩:=h01
 subst hn
 obtain⟨ti,hi,hz,hsz,hby⟩:=hinf
 have hb:(ti.bytes:Int) * i<=281474976710656:=by
  have:(ti.bytes:Int) * i<=65536 * 4294967296:=Int.mul_le_mul (by omega) h1 h0 (by omega)
  omega
 have hr:=run_make (P:=P) w t el ti z hu hi hz .i64 .i64 i i h0 (Int.le_refl _) hb (by omega)
 rw [hsz] at hr
 refine⟨.slice (some ⟨w.heap.size,0,none⟩) i.toNat i.toNat,w.alloc (.cells (madeCells z.cells (i.toNat * aD.n α)) el),fun _ a hA=>?_,?_⟩
 rotate_left 1
 ·have all:∀(k:Nat) (cc:List Value),cc.length=k * aD.n α->(∀j,j < k->DL cc (aD.n α) j=z.cells.toList)->cJ w cc (List.replicate k zd) F0:=by
   intro k
   induction k with
   | zero=>intro cc h _;exact⟨lM (by omega),fun _ _ h=>h⟩
   | succ k ih =>
    intro cc h hs
    rw [fU] at h
    refine⟨cc.take (aD.n α),cc.drop (aD.n α),F0,F0,by simp,?_,ih _ (by rw [GV];omega) fun j hj=>?_,fun _ _ h _=>h,fun b o=>by simp [F0]⟩
    ·have:=hs 0 (by omega)
     simp [DL] at this
     rw [this];exact hzd w
    ·have:=hs (j+1) (by omega)
     unfold DL at this ⊢
     rw [aHB,show aD.n α+j * aD.n α=(j+1) * aD.n α by rw [fU];omega];exact this
  have h:=VW hS [] rfl rfl (madeCells z.cells (i.toNat * aD.n α)).toList [] (List.replicate i.toNat zd) i.toNat el (fun F _=>⟨F0,all _ _ (by simp [size_madeCells]) fun j hj=>aTH hzs hj,fun _ _ h=>h.elim⟩) (by simp [size_madeCells]) (by simp) (by unfold maxLen;omega)
  simp only [xG,List.length_replicate] at h
  exact h
 ·simp [execOp,ho,hA.eval hx,hA.eval hy,hr]
def OPs{α:Type}[aD α](m:Nat):List Value->List α->List Chunk->Prop
 | cs,[],A=>cs=[]/\A=[]
 | cs,x :: r,A=>∃B,A=aZ (cs.take m) x :: B/\(cs.take m).length=m/\OPs m (cs.drop m) r B
theorem OPs.all{α:Type}[aD α]{m:Nat}(hn:aD.n α=m):∀{l:List α} {cs:List Value} {A:List Chunk} {F:cB},OPs m cs l A->Sep w A F->cJ w cs l F
 | [],cs,A,F,⟨h1,h2⟩,h=>by subst h1;subst h2;exact⟨rfl,h⟩
 | x :: r, cs, A, F, ⟨B, h1, _, h2⟩, h => by
  subst h1
  obtain⟨F1,F2,k1,k2,kd,kF⟩:=h
  exact⟨cs.take m,cs.drop m,F1,F2,by simp,k1,OPs.all hn h2 k2,kd,kF⟩
theorem OPs.len{α:Type}[aD α]{m:Nat}:∀{l:List α} {cs:List Value} {A:List Chunk},OPs m cs l A->cs.length=l.length * m
 | [],cs,A,⟨h1,h2⟩=>by simp [h1]
 | x :: r, cs, A, ⟨B, h1, h3, h2⟩ => by
  have:=OPs.len h2
  rw [GV] at this
  rw [AL] at h3
  rw [GU,fU];omega
theorem aXZ{α:Type}[aD α]{z:Value}{m len:Nat}{ps:List (Nat×Operand)}{vs cells:List Value}(l:List α)(hS:St c w L R)(is:List Nat)(ha:cW is=true)(hrd:OPs m cells l (pick L is))(hn:aD.n α=m)(hu:P.underlying t=some (.slice el))(hinf:QW P el m z)(hl:l.length=len)(hm:Nat.ble 1 m=true)(hsmall:Nat.ble (len * m) 16777216=true)
  (ho:o.op=.buildSlice t len ps.toArray) (hv:evs e (ps.map (·.2))=some vs) (hc:Instr.fill (fun i=>some (i * m,m)) ((Array.range (len * m)).map (fun i=>(if len * m=0 then #[] else z.cells)[i % (if len * m=0 then #[] else z.cells).size]!)) ((ps.map (·.1)).zip vs)=some cells.toArray) :
  ∃v w',dM P o e w v w'/\St c w' (blank L is ++ [aZ [v] l]) R:=by
 subst hl
 obtain⟨ti,hi,hz,hsz,hby⟩:=hinf
 have h1:=hrd.len
 have hsm:¬l.length * m > 2 ^ 24:=by have:=tQ hsmall;omega
 have hlm:l.length<=16777216:=by
  have:=Nat.le_mul_of_pos_right l.length (tQ hm)
  have:=tQ hsmall
  omega
 have hlmax:l.length<=maxLen:=by unfold maxLen;omega
 have hnew:=VW hS is ha rfl cells [] l l.length el (fun F hF=>⟨F,hrd.all hn hF,fun _ _ h=>h⟩) (by simp [h1,hn]) (jA _) hlmax
 rw [xG] at hnew
 refine⟨_,_,fun _ a hA=>?_,hnew⟩
 have hps:ps.map (fun p=>(p.1,a.eval p.2))=(ps.map (·.1)).zip vs:=by
  rw [<-HC hA hv]
  clear hv hc ho
  induction ps with
  | nil=>rfl
  | cons p r ih=>simp [ih]
 by_cases h0:l.length * m=0
 ·simp only [h0,if_true] at hc
  simp [execOp,ho,Instr.buildSlice,run_underlying hu,sizeOf,typeInfo,hi,hsz,h0,hps]
  try simp at hc
  simp [hc,newRow]
 ·simp only [h0,if_false] at hc
  simp [execOp,ho,Instr.buildSlice,run_underlying hu,sizeOf,typeInfo,zeroValue,hi,hz,hsz,h0,hsm,hps]
  try simp at hc
  simp [hc,newRow]
theorem aX0{α:Type}[aD α]{s s2 z:Value}{l xs:List α}{m:Nat}(is:List Nat)(hS:St c w L R)(ha:cW is=true)(hp:pick L is=[aZ [s] l,aZ [s2] xs])(hn:aD.n α=m)(hu:P.underlying t=some (.slice el))(hinf:QW P el m z)(hzs:z.cells.size=m)
  (hb:l.length+xs.length<=1073741824) (ho:o.op=.call {callee:=.builtin .append,args:=#[x,y],argTypes:=#[t,t]}) (hx:ev e x=some s) (hy:ev e y=some s2) :
  ∃v w',dM P o e w v w'/\St c w' (blank L is ++ [aZ [v] (l++xs)]) R:=by
 subst hn
 obtain⟨ti,hti,hz,hsz,hby⟩:=hinf
 have h12:St c w ([aZ [s] l,aZ [s2] xs]++blank L is) R:=hp ▸ hS.front is ha
 obtain⟨F,hF⟩:=h12.chunk 0 rfl
 obtain⟨G,hG⟩:=h12.chunk 1 rfl
 have hF:aD.own w [s] l F:=hF
 have hG:aD.own w [s2] xs G:=hG
 obtain⟨ad2,c2,cc2,rfl,hl2,hc2,hr2⟩:=IM (aD.own_rd hG)
 obtain⟨ad,cap,cc,rfl,hl1,hc1,hr1⟩:=IM (aD.own_rd hF)
 have hone2:=aBO hl2 hr2
 have hlen:(cc++cc2).length=(l++xs).length * aD.n α:=by simp [hl1,hl2,fU]
 have hsrc':xs.length=0\/∃b off,ad2=some ⟨b,off,none⟩/\aV w b off cc2:=hc2.imp (fun h=>by simp [h]) id
 have hf2:=DV (P:=P) (α:=α) (k:=c2) hl2 hsrc'
 have hexec:∀(v:Value) (w':World),(Builtin.append_ #[t,t] o.type #[.slice ad l.length cap,.slice ad2 xs.length c2]).run P w=.ok v w'->dM P o e w v w':=by
  intro v w' h _ a hA
  simp [execOp,ho,resolve,invoke,builtin,hA.eval hx,hA.eval hy,h]
 have hall:∀{s:Value} {l:List α} {F:cB} {ad:Option Addr} {cap:Nat} {cc:List Value},s=.slice ad l.length cap->aD.own w [s] l F->cc.length=l.length * aD.n α->(l=[]\/∃b off,ad=some ⟨b,off,none⟩/\aV w b off cc)->∃Fe,cJ w cc l Fe/\∀b o,Fe b o->F b o:=by
  intro s l F ad cap cc e h hl hc
  obtain⟨a',c',e',_,_,h3⟩:=kD.1 h
  rw [e] at e'
  simp at e'
  obtain⟨rfl,rfl⟩:=e'
  rcases hc with hc | ⟨b,off,rfl,hc⟩
  ·subst hc
   exact⟨F0,⟨lM (by simpa using hl),fun _ _ h=>h⟩,fun _ _ h=>h.elim⟩
  ·rcases h3 with ⟨h,_⟩ | ⟨b',off',cc',Fe,h,_,k1,k2,_,hF⟩
   ·cases h
   simp at h
   obtain⟨rfl,rfl⟩:=h
   have:cc'=cc:=UR k1 hc (by rw [k2.length,hl])
   exact⟨Fe,this ▸ k2,fun b o q=>(hF b o).2 (.inr q)⟩
 by_cases hroom:l.length+xs.length<=cap
 ·
  obtain⟨a',cap',e',hlc,hcm,h3⟩:=kD.1 hF
  simp at e'
  obtain⟨rfl,rfl⟩:=e'
  rcases h3 with ⟨rfl,h0,_⟩ | ⟨b,off,cc',Fe0,rfl,hrow,hcc',hoA,hdj0,hFF0⟩
  ·have hl0:l=[]:=lM (by omega)
   have hx0:xs=[]:=lM (by omega)
   subst hl0;subst hx0
   refine⟨.slice none 0 0,w,hexec _ _ ?_,?_⟩
   ·have hf2:(Builtin.firstCells (aD.n α) 0 (.slice ad2 0 c2)).run P w=.ok cc2.toArray w:=hf2
    simp [h0,Builtin.append_,run_underlying hu,sizeOf,typeInfo,hti,Builtin.lenOf,hsz,hf2]
   ·rw [xG]
    refine hS.aTJ is ha fun F hF=>?_
    rw [hp] at hF
    obtain⟨F1,F2,k1,k2,kd,kF⟩:=hF
    subst h0
    exact⟨F1,F0,dL.refl _ _,fun _ _ h=>h.elim,Sep.one.2 k1,fun b o h=>.inl ((kF b o).2 (.inl h))⟩
  ·have hcc:aV w b off cc:=by
    rcases hc1 with h | ⟨b',off',h,hc⟩
    ·subst h
     have:cc=[]:=lM (by rw [hl1];simp)
     subst this;intro j v hj;simp at hj
    ·simp at h;obtain⟨rfl,rfl⟩:=h;exact hc
   have hmul:(l.length+xs.length) * aD.n α<=cap * aD.n α:=oW _ hroom
   rw [fU] at hmul
   obtain⟨w',hst,hk,hws,hcell⟩:=kC (b:=b) P cc2 w (off+l.length * aD.n α) 0 hone2 (fun q _ hq=>hrow _ ⟨rfl,by omega,by omega⟩)
   refine⟨_,w',hexec _ _ (by
    have hadd:(⟨b,off,none⟩:Addr).add (l.length * aD.n α)=⟨b,off+l.length * aD.n α,none⟩:=by unfold Addr.add;split <;> simp_all
    simp [Builtin.append_,run_underlying hu,sizeOf,typeInfo,hti,Builtin.lenOf,hsz,hf2,hroom,hadd,hst]
    rfl),?_⟩
   refine hS.aTJ is ha fun F2 hF2=>?_
   rw [hp] at hF2
   obtain⟨Fa,Fb,ka,kb,kd,kF⟩:=hF2
   have ka:aD.own w [_] l Fa:=ka
   have kb:aD.own w [_] xs Fb:=Sep.one.1 kb
   obtain⟨_,_,he2,_,_,hr⟩:=kD.1 ka
   simp at he2
   obtain⟨rfl,rfl⟩:=he2
   rcases hr with ⟨h,_,_⟩ | ⟨b',off',cc'',Fe,h,hrow2,k1,k2,hdj,hFF⟩
   ·cases h
   simp at h
   obtain⟨rfl,rfl⟩:=h
   have ecc:cc''=cc:=UR k1 hcc (by rw [k2.length,hl1])
   subst ecc
   obtain⟨Fe2,o2,hFe2⟩:=hall rfl kb hl2 hc2
   have hkd:∀{G:cB},(∀b' o',G b' o'->¬dK b off (cap * aD.n α) b' o')->G.C9 (fun b' o'=>b'=b/\off+l.length * aD.n α+0<=o'/\o' < off+l.length * aD.n α+0+cc2.length):=by
    rintro G hG b' o' g ⟨e1,e2,e3⟩
    exact hG b' o' g ⟨e1,by omega,by omega⟩
   have hcc2:aV w' b off (cc''++cc2):=by
    intro j v hj
    rw [VR] at hj
    split at hj
    ·rename_i hlt
     have hc:=hcc j v hj
     rw [hk.cell b (off+j) (World.block_lt_of_cell? w _ hc) (fun hh=>by obtain⟨_,e2,_⟩:=hh;omega)]
     exact hc
    ·rename_i hge
     have:=hcell _ v hj
     rw [show off+l.length * aD.n α+0+(j - cc''.length)=off+j from by omega] at this
     exact this
   refine⟨fun b' o'=>dK b off (cap * aD.n α) b' o'\/(Fe b' o'\/Fe2 b' o'),_,hk,?_,Sep.one.2 ?_,?_⟩
   ·rintro b' o' ⟨e1,e2,e3⟩
    exact(kF b' o').2 (.inl ((hFF b' o').2 (.inl ⟨e1,by omega,by omega⟩)))
   ·have hll:l.length+xs.length=(l++xs).length:=by simp
    rw [hll]
    refine IP (fun o' ho'=>⟨hk.stay b o' (hrow o' ho').1,(hk.wR b o' (iS (hrow o' ho').1)).trans (hrow o' ho').2⟩) hcc2 (cJ.app (k2.keep hk (hkd fun b' o' g q=>hdj b' o' g q)) (o2.keep hk (hkd fun b' o' g q=>?_)) (fun b' o' p q=>?_) fun _ _=>Iff.rfl) ?_ (by simp;omega) hcm
    ·exact kd b' o' ((hFF b' o').2 (.inl q)) (hFe2 b' o' g)
    ·exact kd b' o' ((hFF b' o').2 (.inr p)) (hFe2 b' o' q)
    ·rintro b' o' (p | p) q
     ·exact hdj b' o' p q
     ·exact kd b' o' ((hFF b' o').2 (.inl q)) (hFe2 b' o' p)
   ·rintro b' o' (p | p | p)
    ·exact .inl ((kF b' o').2 (.inl ((hFF b' o').2 (.inl p))))
    ·exact .inl ((kF b' o').2 (.inl ((hFF b' o').2 (.inr p))))
    ·exact .inl ((kF b' o').2 (.inr (hFe2 b' o' p)))
 ·
  have hbytes:(l.length+xs.length) * ti.bytes<=140737488355328:=by
   have:(l.length+xs.length) * ti.bytes<=1073741824 * 65536:=Nat.mul_le_mul hb hby
   omega
  have hfit:=growslice_fits (need:=l.length+xs.length) (old:=cap) (bytes:=ti.bytes) (by omega) hbytes
  obtain⟨hge,hle⟩:l.length+xs.length<=grownCap w (l.length+xs.length) cap el/\grownCap w (l.length+xs.length) cap el<=maxLen:=⟨grownCap_ge _ _ _ _,grownCap_le_maxLen _ _ _ _ (by unfold maxLen;omega)⟩
  have hrun:(Builtin.append_ #[t,t] o.type #[.slice ad l.length cap,.slice ad2 xs.length c2]).run P w=.ok (.slice (some ⟨w.heap.size,0,none⟩) (l.length+xs.length) (grownCap w (l.length+xs.length) cap el)) (w.drew.alloc (.cells (cc.toArray++cc2.toArray++Builtin.zeroCells z.cells (grownCap w (l.length+xs.length) cap el - (l.length+xs.length))) el)):=by
   have hn1:¬(l.length+xs.length<=cap):=hroom
   have h63':¬(9223372036854775807 < ((l.length:Int)+(xs.length:Int))):=by omega
   have h48':¬(281474976710656 < Builtin.nextslicecap (l.length+xs.length) cap * ti.bytes):=by omega
   have hf1:(Builtin.firstCells (aD.n α) l.length (.slice ad l.length cap)).run P w.drew=.ok cc.toArray w.drew:=DV (α:=α) hl1 (hc1.imp (fun h=>by simp [h]) id)
   have hf2:(Builtin.firstCells (aD.n α) xs.length (.slice ad2 xs.length c2)).run P w.drew=.ok cc2.toArray w.drew:=DV (α:=α) hl2 hsrc'
   simp [Builtin.append_,run_underlying hu,sizeOf,typeInfo,zeroValue,hti,hz,hsz,Builtin.lenOf,hn1,h63',h48',Question.forced,hf1,hf2,newRow,grownCap]
   congr 2
   apply Array.ext'
   simp
  refine⟨_,_,hexec _ _ hrun,?_⟩
  have hz3:(Builtin.zeroCells z.cells (grownCap w (l.length+xs.length) cap el - (l.length+xs.length))).toList.length=(grownCap w (l.length+xs.length) cap el - (l.length+xs.length)) * aD.n α:=by simpa using (show(Builtin.zeroCells z.cells (grownCap w (l.length+xs.length) cap el - (l.length+xs.length))).size=_ by rw [size_zeroCells,hzs])
  have htot:((cc++cc2)++(Builtin.zeroCells z.cells (grownCap w (l.length+xs.length) cap el - (l.length+xs.length))).toList).length=grownCap w (l.length+xs.length) cap el * aD.n α:=by
   rw [rD,hlen,hz3,rD,<-fU]
   congr 1;omega
  have hS':St c w.drew L R:=hS.same (dL.drew F0 w)
  have hnew:=VW hS' is ha hp (cc++cc2) (Builtin.zeroCells z.cells (grownCap w (l.length+xs.length) cap el - (l.length+xs.length))).toList (l++xs) (grownCap w (l.length+xs.length) cap el) el (fun F2 hF2=>by
   obtain⟨Fa,Fb,ka,kb,kd,kF⟩:=hF2
   have ka:aD.own w.drew [_] l Fa:=ka
   have kb:aD.own w.drew [_] xs Fb:=Sep.one.1 kb
   have drop:dL F0 w.drew w:=⟨rfl,rfl,rfl,jA _,fun _ _ _=>rfl,fun _ _ _ _=>rfl,fun _ _ _=>rfl,fun _ _ h=>h⟩
   obtain⟨Fe,o1,h1⟩:=hall rfl (aD.own_keep ka drop fun _ _ _ h=>h) hl1 hc1
   obtain⟨Fe2,o2,h2⟩:=hall rfl (aD.own_keep kb drop fun _ _ _ h=>h) hl2 hc2
   have hk:=dL.drew F0 w
   exact⟨_,cJ.app (o1.keep hk fun _ _ _ h=>h) (o2.keep hk fun _ _ _ h=>h) (fun b o p q=>kd b o (h1 b o p) (h2 b o q)) fun _ _=>Iff.rfl,fun b o p=>(kF b o).2 (p.imp (h1 b o) (h2 b o))⟩) htot (by simp;omega) hle
  have heq:((cc++cc2)++(Builtin.zeroCells z.cells (grownCap w (l.length+xs.length) cap el - (l.length+xs.length))).toList).toArray=cc.toArray++cc2.toArray++Builtin.zeroCells z.cells (grownCap w (l.length+xs.length) cap el - (l.length+xs.length)):=by
   apply Array.ext';simp
  rw [heq] at hnew
  have hll:l.length+xs.length=(l++xs).length:=by simp
  rw [<-hll] at hnew
  exact hnew
end
end Go.Gv
end
noncomputable section
namespace Go.Gv
noncomputable section
variable {v:Value} {k:IntKind} {i:Int} {P:Program} {o:Oper} {e:Env} {w w':World} {c:Ctx} {L:List Chunk} {R:List Fact} {x y:Operand} {t el:TypeId}
theorem a3E{b q j m i:Nat}{cs vs:List Value}(hS:St c w L R)(hi:L[i]?=some (QV b q cs))(ho:o.op=.store t x y)(hx:ev e x=some (.pointer (some ⟨b,q+j,none⟩)))(hy:ev e y=some v)(hvs:v.cells.toList=vs)(hz:∀w,(sizeOf t).run P w=.ok m w)(hm:vs.length=m)(hj:Nat.ble (j+m) cs.length=true)(h1:vs.all Value.oneCell'=true) :
  ∃w',aS2 P o e w w'/\St c w' (L.set i (QV b q (TA cs j vs))) R:=by
 subst hm
 have hj':j+vs.length<=cs.length:=tQ hj
 have h1':∀v∈vs,v.oneCell'=true:=fun v hv=>by simpa using VN.1 h1 v hv
 obtain⟨F,hF⟩:=hS.chunk i hi
 obtain⟨hc,hfz,_⟩:=hF
 obtain⟨w',hr,hk,hsz,hcell⟩:=kC (b:=b) P vs w (q+j) 0 h1' (fun p _ hp=>by
  refine⟨?_,hfz (q+j+p) ⟨rfl,by omega,by omega⟩⟩
  have:=hc (j+p) _ (fT (by omega))
  rw [<-E0] at this
  rw [this];rfl)
 refine⟨w',fun _ a hA=>?_,?_⟩
 ·have hsize:v.cells.size=vs.length:=by rw [<-hvs];simp
  have hr':(storeCells ⟨b,q+j,none⟩ v.cells.toList).run P w=.ok () w':=by rw [hvs];exact hr
  simp [execOp,ho,Instr.storeAt,Instr.sureAddr,hA.eval hx,hA.eval hy,storeVar,hz,hsize,hr']
 ·refine hS.VU i hi fun F2 hF2=>?_
  obtain⟨k1,k2,kF⟩:=hF2
  have hlen:(TA cs j vs).length=cs.length:=KF vs cs j
  refine⟨F2,_,hk,?_,⟨?_,fun o' ho'=>?_,fun b' o'=>by rw [hlen];exact kF b' o'⟩,fun _ _ h=>.inl h⟩
  ·rintro b' o' ⟨e1,e2,e3⟩
   exact(kF b' o').2 ⟨e1,by omega,by omega⟩
  ·intro p u hp
   rw [aCL vs cs j p (by omega)] at hp
   split at hp
   ·have:=hcell _ u hp
    rw [show q+j+0+(p - j)=q+p by omega] at this
    exact this
   ·have h3:=k1 p u hp
    rw [hk.cell b (q+p) (World.block_lt_of_cell? w _ h3) (fun hh=>by obtain⟨_,e2,e3⟩:=hh;omega)]
    exact h3
  ·rw [hlen] at ho'
   obtain⟨_,e2,e3⟩:=ho'
   have h3:=k1 (o' - q) _ (fT (by omega))
   rw [show q+(o' - q)=o' by omega] at h3
   exact(hk.wR b o' (World.block_lt_of_cell? w _ h3)).trans (k2 o' ⟨rfl,e2,e3⟩)
theorem aX1(h:St c w L R){α:Type}[aD α]{s:Value}{l:List α}{k:Nat}(i:Nat)(hi:L[i]?=some (qB s l k)):∃b off m,s=.slice (some ⟨b,off,none⟩) l.length m/\l.length<=maxLen:=by
 obtain⟨F,a,cp,b,off,c1,c2,F1,F2,e,h1,h2,h3,rfl,_⟩:=h.chunk i hi
 exact⟨b,off,cp,e,by omega⟩
theorem aX2{α:Type}[aD α]{s:Value}{l:List α}{el m:Nat}{q:α}(h:∃b off m,s=.slice (some ⟨b,off,none⟩) l.length m/\l.length<=maxLen)(_hn:aD.n α=m)(hq:idx l i=some q)(hu:P.underlying t=some (.slice el))(hz:∀w,(sizeOf el).run P w=.ok m w)(ho:o.op=.indexAddr t x y)(hx:ev e x=some s)(hy:ev e y=some (.int k i)):dM P o e w (.pointer (some ⟨MW s,MO m i.toNat s,none⟩)) w:=by
 obtain⟨h0,h1,h2⟩:=jZ hq
 obtain⟨b,off,cp,rfl,_⟩:=h
 intro _ a hA
 have h5:(⟨b,off,none⟩:Addr).add (i.toNat * m)=⟨b,off+i.toNat * m,none⟩:=by unfold Addr.add;split <;> simp_all
 simp [execOp,ho,Instr.indexAt,hA.eval hx,hA.eval hy,asIntOf,run_underlying hu,h0,h1,hz,h5,MW,MO]
theorem aTO{α:Type}[aD α]{w:World}:aD.own w [.slice none 0 0] ([]:List α) F0:=⟨none,0,rfl,jA _,jK _,.inl ⟨rfl,rfl,fun _ _ h=>h⟩⟩
theorem DB{w:World}:∀ch∈([]:List Chunk),ch.P w F0:=fun _ h=>nomatch h
theorem bA{w:World}{α:Type}[aD α]{A:List Chunk}(h:∀ch∈A,ch.P w F0):∀ch∈aZ [.slice none 0 0] ([]:List α) :: A,ch.P w F0:=fun ch hc=>by
 rcases gW.1 hc with rfl | hc
 ·exact aTO
 ·exact h ch hc
theorem gE{w:World}{α:Type}[aD α]{cs:List Value}{d:α}{A:List Chunk}(h:OP cs d A)(hz:∀ch∈A,ch.P w F0):aD.own w cs d F0:=by
 refine(h w F0).2 ?_
 clear h
 induction A with
 | nil=>exact fun _ _ h=>h
 | cons a A ih=>exact⟨F0,F0,hz a (by simp),ih fun ch hc=>hz ch (by simp [hc]),fun _ _ h=>h.elim,fun b o=>by simp [F0]⟩
theorem X2:∀{is:List Nat} {L:List Chunk} {j:Nat},(is.all fun i=>!Nat.beq i j)=true->(blank L is)[j]?=L[j]?
 | [],L,j,_=>rfl
 | i :: r, L, j, h => by
  simp only [aCC,zP,Bool.not_eq_true'] at h
  have hne:i≠j:=fun e=>by rw [e] at h;simp at h
  show(blank (L.set i FT) r)[j]?=_
  rw [X2 h.2,QZ hne]
theorem all_cons{Q:Fact->Prop}{f:Fact}{l:List Fact}(h:Q f)(hl:∀f∈l,Q f):∀g∈f :: l,Q g:=by
 intro g hg
 rcases gW.1 hg with rfl | hg
 ·exact h
 ·exact hl g hg
theorem aRE{b q:Nat}{A B C:List Value}{F:cB}(h:(QV b q (A++(B++C))).P w F):Sep w [QV b q A,QV b (q+A.length) B,QV b (q+A.length+B.length) C] F:=by
 obtain⟨h1,h2,hF⟩:=h
 obtain⟨k1,k23⟩:=AP h1
 obtain⟨k2,k3⟩:=AP k23
 simp only [rD] at h2 hF
 refine⟨dK b q A.length,fun b' o=>dK b (q+A.length) B.length b' o\/dK b (q+A.length+B.length) C.length b' o,⟨k1,fun o p=>h2 o ⟨rfl,by have:=p.2;omega,by have:=p.2;omega⟩,fun _ _=>Iff.rfl⟩,
  ⟨dK b (q+A.length) B.length,dK b (q+A.length+B.length) C.length,⟨k2,fun o p=>h2 o ⟨rfl,by have:=p.2;omega,by have:=p.2;omega⟩,fun _ _=>Iff.rfl⟩,Sep.one.2 ⟨k3,fun o p=>h2 o ⟨rfl,by have:=p.2;omega,by have:=p.2;omega⟩,fun _ _=>Iff.rfl⟩,?_,fun _ _=>Iff.rfl⟩,?_,fun b' o=>?_⟩
 ·rintro b' o ⟨_,p1,p2⟩ ⟨_,q1,q2⟩;omega
 ·rintro b' o ⟨_,p1,p2⟩ (⟨_,q1,q2⟩ | ⟨_,q1,q2⟩) <;> omega
 ·rw [hF]
  constructor
  ·rintro⟨e,p1,p2⟩
   by_cases x1:o < q+A.length
   ·exact .inl ⟨e,p1,x1⟩
   ·by_cases x2:o < q+A.length+B.length
    ·exact .inr (.inl ⟨e,by omega,x2⟩)
    ·exact .inr (.inr ⟨e,by omega,by omega⟩)
  ·rintro(⟨e,p1,p2⟩ | ⟨e,p1,p2⟩ | ⟨e,p1,p2⟩) <;> exact⟨e,by omega,by omega⟩
theorem aTP{b q:Nat}{A B C:List Value}{F:cB}(h:Sep w [QV b q A,QV b (q+A.length) B,QV b (q+A.length+B.length) C] F):(QV b q (A++(B++C))).P w F:=by
 obtain⟨F1,F23,⟨a1,a2,aF⟩,⟨F2,F3,⟨b1,b2,bF⟩,h3,_,f23⟩,_,f⟩:=h
 obtain⟨c1,c2,cF⟩:=Sep.one.1 h3
 refine⟨IN a1 (IN b1 c1),fun o p=>?_,fun b' o=>?_⟩
 ·obtain⟨_,p1,p2⟩:=p
  simp only [rD] at p2
  by_cases x1:o < q+A.length
  ·exact a2 o ⟨rfl,p1,x1⟩
  ·by_cases x2:o < q+A.length+B.length
   ·exact b2 o ⟨rfl,by omega,x2⟩
   ·exact c2 o ⟨rfl,by omega,by omega⟩
 ·rw [f,f23,aF,bF,cF]
  simp only [rD]
  constructor
  ·rintro(⟨e,p1,p2⟩ | ⟨e,p1,p2⟩ | ⟨e,p1,p2⟩) <;> exact⟨e,by omega,by omega⟩
  ·rintro⟨e,p1,p2⟩
   by_cases x1:o < q+A.length
   ·exact .inl ⟨e,p1,x1⟩
   ·by_cases x2:o < q+A.length+B.length
    ·exact .inr (.inl ⟨e,by omega,x2⟩)
    ·exact .inr (.inr ⟨e,by omega,by omega⟩)
end
end Go.Gv
end
noncomputable section
namespace Go.Gv
def gO(n l h:Nat):Value->Value
 | .slice a _ cap=>.slice (if cap=l then a else a.map (·.add (l * n))) (h - l) (cap - l)
 | v=>v
theorem vF{α:Type}{l:List α}{a b:Nat}(h1:a<=b)(h2:b<=l.length):((l.take b).drop a).length=b - a:=by simp;omega
theorem aX3{α:Type}{l:List α}{a b i:Nat}(h2:b<=l.length)(hi:i < b - a):((l.take b).drop a)[i]?=l[a+i]?:=by
 rw [QY,DK,if_pos (by omega)]
theorem aNI{α:Type}[aD α]{S:cB}{w:World}{s:Value}{l:List α}{n a b:Nat}(hn:aD.n α=n)(h:aD.rd S w [s] l)(h1:a<=b)(h2:b<=l.length):aD.rd S w [gO n a b s] ((l.take b).drop a):=by
 subst hn
 obtain⟨ad,c,e,k1,k2,k3⟩:=(show sU S w [s] l from h)
 simp at e;subst e
 have hl:=vF h1 h2
 refine⟨if c=a then ad else ad.map (·.add (a * aD.n α)),c - a,by simp only [gO,hl],by rw [hl];omega,by omega,?_⟩
 by_cases h0:b=a
 ·left;apply lM;omega
 ·right
  rcases k3 with k3 | ⟨bl,off,rfl,k3⟩
  ·subst k3;simp at h2;omega
  ·have hadd:(⟨bl,off,none⟩:Addr).add (a * aD.n α)=⟨bl,off+a * aD.n α,none⟩:=by
    unfold Addr.add;split
    ·rename_i h0;rw [h0];rfl
    ·rfl
   refine⟨bl,off+a * aD.n α,by rw [if_neg (by omega)];simp only [KC,hadd],fun i hi=>?_⟩
   rw [hl] at hi
   have hg:=aX3 h2 hi
   rw [fT (by omega),fT (by omega)] at hg
   simp only [Option.some.injEq] at hg
   obtain⟨ec,q1,q2,q3⟩:=k3 (a+i) (by omega)
   rw [fU,<-E0] at q1 q2
   exact⟨ec,q1,q2,by rw [hg];exact q3⟩
theorem aPN{α:Type}[aD α]{w:World}{s:Value}{l:List α}{n a b:Nat}{F:cB}(hn:aD.n α=n)(h:aD.own w [s] l F)(h1:a<=b)(h2:b<=l.length):∃F',aD.own w [gO n a b s] ((l.take b).drop a) F'/\∀b o,F' b o->F b o:=by
 subst hn
 obtain⟨ad,c,e,k1,k2,k3⟩:=kD.1 h
 subst e
 have hl:=vF h1 h2
 rcases k3 with ⟨rfl,rfl,hF⟩ | ⟨bl,off,cc,Fe,rfl,hr,hc,ho,hd,hF⟩
 ·have:l=[]:=lM (by omega)
  subst this
  have ha:a=0:=by simp at h2;omega
  have hb:b=0:=by simpa using h2
  subst ha;subst hb
  exact⟨F0,⟨none,0,rfl,jA _,jK _,.inl ⟨rfl,rfl,fun _ _ h=>h⟩⟩,fun _ _ h=>h.elim⟩
 ·have e3:l=l.take a++((l.take b).drop a++l.drop b):=by
   rw [<-tN]
   have:l.take a=(l.take b).take a:=by rw [List.take_take];congr 1;omega
   rw [this,TY,TY]
  rw [e3] at ho
  obtain⟨c1,c23,F1,F23,rfl,o1,o23,d1,f1⟩:=ho.split
  obtain⟨c2,c3,F2,F3,rfl,o2,o3,d2,f2⟩:=o23.split
  have l1:=o1.length
  rw [AL,Nat.min_eq_left (by omega)] at l1
  obtain⟨q1,q23⟩:=AP hc
  obtain⟨q2,q3⟩:=AP q23
  rw [l1] at q2
  by_cases hca:c=a
  ·have hab:b=a:=by omega
   have hz:(l.take b).drop a=[]:=by apply lM;omega
   refine⟨F0,?_,fun _ _ h=>h.elim⟩
   rw [hz]
   simp only [gO,hca,hab,Nat.sub_self,if_true]
   exact kD.2 ⟨some ⟨bl,off,none⟩,0,rfl,jA _,jK _,.inr ⟨bl,off,[],F0,rfl,fun o p=>by obtain⟨_,p1,p2⟩:=p;omega,fun j v h=>by simp at h,⟨rfl,fun _ _ h=>h⟩,fun _ _ h=>h.elim,fun b' o=>by
    simp only [F0,or_false,false_iff,dK];rintro⟨_,p1,p2⟩;omega⟩⟩
  ·have hmul:a * aD.n α+(c - a) * aD.n α=c * aD.n α:=by rw [<-fU];congr 1;omega
   refine⟨fun b' o=>dK bl (off+a * aD.n α) ((c - a) * aD.n α) b' o\/F2 b' o,?_,?_⟩
   ·have e4:gO (aD.n α) a b (.slice (some ⟨bl,off,none⟩) l.length c)=.slice (some ⟨bl,off+a * aD.n α,none⟩) ((l.take b).drop a).length (c - a):=by
     have hadd:(⟨bl,off,none⟩:Addr).add (a * aD.n α)=⟨bl,off+a * aD.n α,none⟩:=by
      unfold Addr.add;split
      ·rename_i h0;rw [h0];rfl
      ·rfl
     simp only [gO,hl,if_neg hca,KC,hadd]
    rw [e4]
    refine IP (fun o p=>hr o ?_) q2 o2 (fun b' o p q=>hd b' o ((f1 b' o).2 (.inr ((f2 b' o).2 (.inl p)))) ?_) (by rw [hl];omega) (by omega)
    ·obtain⟨_,p1,p2⟩:=p;exact⟨rfl,by omega,by omega⟩
    ·obtain⟨p0,p1,p2⟩:=q;exact⟨p0,by omega,by omega⟩
   ·rintro b' o (p | p)
    ·obtain⟨p0,p1,p2⟩:=p
     exact(hF b' o).2 (.inl ⟨p0,by omega,by omega⟩)
    ·exact(hF b' o).2 (.inr ((f1 b' o).2 (.inr ((f2 b' o).2 (.inl p)))))
noncomputable section
variable {v:Value} {k k2:IntKind} {i j:Int} {P:Program} {o:Oper} {e:Env} {w w':World} {c:Ctx} {L:List Chunk} {R:List Fact} {x y z:Operand} {t el:TypeId}
theorem St.DW(h:St c w L R){α:Type}[aD α]{s:Value}{l:List α}{n a b:Nat}(m:Nat)(hm:R[m]?=some (zQ [s] l))(hn:aD.n α=n)(h1:a<=b)(h2:b<=l.length):St c w L (R ++ [zQ [gO n a b s] ((l.take b).drop a)]):=
 h.derive m hm fun S hS g hg=>by simp at hg;subst hg;exact aNI hn hS h1 h2
theorem aCS{α:Type}[aD α]{S:cB}{s:Value}{l:List α}(h:aD.rd S w [s] l):∃ad cp,s=.slice ad l.length cp/\l.length<=cp:=by
 obtain⟨ad,cp,e,k1,_⟩:=(show sU S w [s] l from h)
 simp at e
 exact⟨ad,cp,e,k1⟩
theorem aRF{α:Type}[aD α]{S:cB}{s:Value}{l:List α}{n:Nat}(h:aD.rd S w [s] l)(hn:aD.n α=n)(hu:P.underlying t=some (.slice el))(hz:∀w,(sizeOf el).run P w=.ok n w)(hb:0<=i/\i<=j/\j<=l.length)(ho:o.op=.slice t x (some y) (some z) none)(hx:ev e x=some s)(hy:ev e y=some (.int k i))(hw:ev e z=some (.int k2 j)):dM P o e w (gO n i.toNat j.toNat s) w:=fun _ a hA=>by
 obtain⟨ad,cp,rfl,hc⟩:=aCS h
 obtain⟨b0,b1,b2⟩:=hb
 have h1:j<=(cp:Int):=by omega
 have h3:0<=j:=by omega
 have h2:max j 0=j:=by omega
 simp [execOp,ho,Instr.sliceAt,Instr.slice,run_underlying hu,Instr.sliceBounds,hA.eval hx,hA.eval hy,hA.eval hw,Instr.sliceBound,asIntOf,hz,b0,b1,h1,h2,h3,gO]
theorem aTQ{α:Type}[aD α]{S:cB}{s:Value}{l:List α}{n:Nat}(h:aD.rd S w [s] l)(hn:aD.n α=n)(hu:P.underlying t=some (.slice el))(hz:∀w,(sizeOf el).run P w=.ok n w)(hb:0<=j/\j<=l.length)(ho:o.op=.slice t x none (some z) none)(hx:ev e x=some s)(hw:ev e z=some (.int k2 j)):dM P o e w (gO n 0 j.toNat s) w:=fun _ a hA=>by
 obtain⟨ad,cp,rfl,hc⟩:=aCS h
 obtain⟨b0,b1⟩:=hb
 have h1:j<=(cp:Int):=by omega
 simp [execOp,ho,Instr.sliceAt,Instr.slice,run_underlying hu,Instr.sliceBounds,hA.eval hx,hA.eval hw,Instr.sliceBound,asIntOf,hz,b0,h1,gO]
theorem aX4{l:List UInt8}{q:UInt8}(hu:P.underlying t=some .string)(hq:idx l i=some q)(ho:o.op=.index t x y)(hx:ev e x=some (sv l))(hy:ev e y=some (.int k i)):dM P o e w (.int .u8 (q.toNat:Int)) w:=fun _ a hA=>by
 obtain⟨h0,h1,h2⟩:=jZ hq
 have h3:(⟨l.toArray⟩:ByteArray)[i.toNat]?=some q:=by
  rw [getElem?_pos _ _ (by simp [ByteArray.size];omega)]
  rw [fT (by omega)] at h2
  simp only [Option.some.injEq] at h2
  rw [<-h2];rfl
 simp [execOp,ho,Instr.index,run_underlying hu,hA.eval hx,hA.eval hy,asIntOf,h0,h3]
theorem a07(ho:o.op=.call {callee:=.builtin .min,args:=#[x,y],argTypes:=#[t,el]})(hx:ev e x=some (.int .i64 i))(hy:ev e y=some (.int k j)):dM P o e w (.int .i64 (if j < i then j else i)) w:=fun _ a hA=>by
 simp [execOp,ho,resolve,invoke,builtin,Builtin.min_,Builtin.min2,hA.eval hx,hA.eval hy]
theorem a08(ho:o.op=.call {callee:=.builtin .max,args:=#[x,y],argTypes:=#[t,el]})(hx:ev e x=some (.int .i64 i))(hy:ev e y=some (.int k j)):dM P o e w (.int .i64 (if i < j then j else i)) w:=fun _ a hA=>by
 simp [execOp,ho,resolve,invoke,builtin,Builtin.max_,Builtin.max2,hA.eval hx,hA.eval hy]
theorem aCT:∀(l:List UInt8) (s:ByteArray),(l.map fun q=>(q.toNat:Int)).foldl (fun r n=>r.push (UInt8.ofNat n.toNat)) s=⟨s.data++l.toArray⟩
 | [],s=>by simp
 | q :: l, s => by
  rw [EZ,List.foldl_cons,aCT l]
  apply ByteArray.ext
  simp
theorem a09{S:cB}{s:Value}{l:List UInt8}{t':TypeId}(h:aD.rd S w [s] l)(hu:P.underlying t=some (.slice el))(he:P.underlying el=some (.int .u8))(hu':P.underlying t'=some .string)(ho:o.op=.convert t t' x)(hx:ev e x=some s):dM P o e w (sv l) w:=fun _ a hA=>by
 obtain⟨ad,cp,cc,rfl,h1,h2,h3⟩:=IM h
 have hcc:cc=(l.map fun q=>(q.toNat:Int)).map (Value.int .u8):=by
  have h1:cc.length=l.length * 1:=h1
  apply VO
  intro i
  by_cases hi:i < l.length
  ·have:=h3 i l[i] (fT hi)
   have:DL cc 1 i=[.int .u8 (l[i].toNat:Int)]:=this
   have h5:(DL cc 1 i)[0]?=cc[i * 1+0]?:=oL (by omega)
   rw [this] at h5
   simp at h5
   rw [<-h5];simp [hi]
  ·rw [A7 (by omega),A7 (by simp;omega)]
 have key:(Conv.bytesToString (.slice ad l.length cp)).run P w=.ok (sv l) w:=by
  rcases h2 with h2 | ⟨b,off,rfl,h2⟩
  ·subst h2
   cases ad with
   | none=>rfl
   | some a =>
    rw [show([]:List UInt8).length=0 from rfl,run_bytesToString w a 0 cp [] (by simp [loadCells,loadCellsFrom])]
    rfl
  ·rw [run_bytesToString w _ _ cp _ (by
    have:=oX h2 P
    have h1:cc.length=l.length * 1:=h1
    rw [h1,Nat.mul_one] at this
    rw [<-hcc];exact this),aCT]
   simp [sv]
 simp [execOp,ho,convert,run_underlying hu,run_underlying hu',run_underlying he,hA.eval hx,key]
theorem a1A{α:Type}(f:α->Value){l:List α}{q:α}{cs:Array Value}{n:Nat}(hu:P.underlying t=some (.array n el))(hz:∀w,(sizeOf el).run P w=.ok 1 w)(hg:∀w,(isAgg el).run P w=.ok false w)(hq:idx l i=some q)(hn:l.length=n)(hcs:cs=(l.map f).toArray)(ho:o.op=.index t x y)(hx:ev e x=some (.agg cs))(hy:ev e y=some (.int k i)):dM P o e w (f q) w:=fun _ a hA=>by
 obtain⟨h0,h1,h2⟩:=jZ hq
 subst hn;subst hcs
 have h3:=h2
 rw [fT (by omega)] at h3
 simp only [Option.some.injEq] at h3
 simp [execOp,ho,Instr.index,run_underlying hu,hA.eval hx,hA.eval hy,asIntOf,h0,h1,hz,part,hg,h3]
theorem X3{zv:Value}{n m:Nat}{ps:List (Nat×Operand)}{vs:List Value}{cells:Array Value}(ho:o.op=.build t ps.toArray)(hz:∀w,(zeroValue t).run P w=.ok zv w)(hu:P.underlying t=some (.array n el))
  (hp:∀w,(sizeOf el).run P w=.ok m w) (hv:evs e (ps.map (·.2))=some vs) (hc:Instr.fill (fun i=>some (i * m,m)) zv.cells ((ps.map (·.1)).zip vs)=some cells):dM P o e w (.agg cells) w:=fun _ a hA=>by
 have h1:ps.map (fun p=>(p.1,a.eval p.2))=(ps.map (·.1)).zip vs:=by
  rw [<-HC hA hv]
  clear hv hc ho
  induction ps with
  | nil=>rfl
  | cons p r ih=>simp [ih]
 simp [execOp,ho,Instr.build,hz,run_underlying hu,hp,h1,hc]
theorem aX5{α:Type}[aD α]{zv:Value}{m:Nat}(hS:St c w L R)(hn:aD.n α=m)(hu:P.underlying t=some (.slice el))(hinf:QW P el m zv)(ho:o.op=.buildSlice t 0 #[]) :
  ∃v w',dM P o e w v w'/\St c w' (L ++ [aZ [v] ([]:List α)]) R:=by
 obtain⟨ti,hi,hz,hsz,hby⟩:=hinf
 have hnew:=VW (α:=α) hS [] rfl rfl [] [] [] 0 el (fun F _=>⟨F0,⟨rfl,fun _ _ h=>h⟩,fun _ _ h=>h.elim⟩) (by simp) (jA _) (jK _)
 refine⟨_,_,fun _ a hA=>?_,hnew⟩
 have h0:Array.range 0=#[]:=by apply Array.eq_empty_of_size_eq_zero;simp
 simp [execOp,ho,Instr.buildSlice,run_underlying hu,sizeOf,typeInfo,hi,hsz,Instr.fill,newRow,h0]
theorem aTR{zv v c0:Value}(hc:v.cells=#[c0]):Instr.fill (fun i=>some (i * 1,1)) ((Array.range (1 * 1)).map (fun i=>(if 1 * 1=0 then #[] else zv.cells)[i % (if 1 * 1=0 then #[] else zv.cells).size]!)) [(0,v)]=some #[c0]:=by
 have h1:Array.range 1=#[0]:=rfl
 simp [Instr.fill,hc,h1]
theorem aX6{α:Type}[aD α][Flat α](q:α){x:Operand}{v c0 zv:Value}(hS:St c w L R)(hn:aD.n α=1)(hu:P.underlying t=some (.slice el))(hinf:QW P el 1 zv)(hrd:aD.rd F0 default [c0] q)
  (ho:o.op=.buildSlice t 1 #[(0,x)]) (hv:ev e x=some v) (hc:v.cells=#[c0]) :
  ∃v w',dM P o e w v w'/\St c w' (L ++ [aZ [v] [q]]) R:=by
 refine aNH (ps:=[(0,x)]) (vs:=[v]) (cells:=[c0]) [q] hS hn hu hinf rfl (by rfl) (by rfl) ⟨hrd,rfl⟩ ho (by simp [evs,hv]) ?_
 exact aTR hc
theorem aBP{n b:Nat}(hu:P.underlying t=some (.array n el))(hz:∀w,(sizeOf el).run P w=.ok 1 w)(hb:0<=i/\i < n)(ho:o.op=.indexAddr t x y)(hx:ev e x=some (.pointer (some ⟨b,0,none⟩)))(hy:ev e y=some (.int k i)):dM P o e w (.pointer (some ⟨b,i.toNat,none⟩)) w:=fun _ a hA=>by
 have h5:(⟨b,0,none⟩:Addr).add i.toNat=⟨b,i.toNat,none⟩:=by
  unfold Addr.add;split
  ·rename_i h;rw [h]
  ·simp
 simp [execOp,ho,Instr.indexAt,hA.eval hx,hA.eval hy,asIntOf,run_underlying hu,Instr.sureAddr,hb.1,hb.2,hz,h5]
theorem St.aPO{α:Type}{f:α->Value}{l:List α}{q:α}{b:Nat}(h:St c w L R)(m:Nat)(hm:L[m]?=some (DA b (l.map f)))(hq:idx l i=some q):w.cell? ⟨b,i.toNat,none⟩=some (f q):=
 h.cell m hm (by rw [DJ,(jZ hq).2.2];rfl)
theorem aTS{α:Type}{f:α->Value}{l:List α}{k:Nat}{q:α}:TA (l.map f) k [f q]=(l.set k q).map f:=by
 show(l.map f).set k (f q)=_
 rw [MQ]
theorem aTT{α:Type}{f:α->Value}{l:List α}{q xd:α}{b m:Nat}(hS:St c w L R)(hm:L[m]?=some (DA b (l.map f)))(hq:idx l i=some q)(hz:∀w,(sizeOf t).run P w=.ok 1 w)(ho:o.op=.store t x y)(hx:ev e x=some (.pointer (some ⟨b,i.toNat,none⟩)))(hy:ev e y=some v)(hv:v=f xd)(h1:(f xd).cells=#[f xd])(h2:(f xd).oneCell'=true) :
  ∃w',aS2 P o e w w'/\St c w' (L.set m (DA b ((l.set i.toNat xd).map f))) R:=by
 obtain⟨k0,k1,k2⟩:=jZ hq
 have:=UQ (i:=m) (vs:=[f xd]) hS hm ho hx hy (by rw [hv,h1]) hz rfl (by rw [Nat.ble_eq];simp;omega) (by simp [h2])
 rw [aTS] at this
 exact this
theorem aTU{D n m:Nat}(hu:P.underlying t=some (.slice el)):(Op.equalIn (D+1) t (.slice none n m) (.slice none 0 0)).run P w=.ok true w:=by
 simp [Op.equalIn,run_underlying hu]
theorem aTV{D n m:Nat}{ad:Addr}(hu:P.underlying t=some (.slice el)):(Op.equalIn (D+1) t (.slice (some ad) n m) (.slice none 0 0)).run P w=.ok false w:=by
 simp [Op.equalIn,run_underlying hu]
theorem aNJ{s:Value}{t':TypeId}(hu:P.underlying t=some (.slice el))(h:∃n m,s=.slice none n m)(ho:o.op=.binOp .eql t x y t')(hx:ev e x=some s)(hy:ev e y=some (.slice none 0 0)):dM P o e w (.bool true) w:=fun _ a hA=>by
 obtain⟨n,m,rfl⟩:=h
 have h1:binOp .eql t (.slice none n m) (.slice none 0 0)=(do pure (.bool (<-Op.equal t (.slice none n m) (.slice none 0 0)))):=rfl
 have h2:(Op.equal t (.slice none n m) (.slice none 0 0)).run P w=.ok true w:=aTU (D:=9999) hu
 simp [execOp,ho,hA.eval hx,hA.eval hy,eqGuard,h1,h2]
theorem aNK{s:Value}{t':TypeId}(hu:P.underlying t=some (.slice el))(h:∃a n m,s=.slice (some a) n m)(ho:o.op=.binOp .eql t x y t')(hx:ev e x=some s)(hy:ev e y=some (.slice none 0 0)):dM P o e w (.bool false) w:=fun _ a hA=>by
 obtain⟨ad,n,m,rfl⟩:=h
 have h1:binOp .eql t (.slice (some ad) n m) (.slice none 0 0)=(do pure (.bool (<-Op.equal t (.slice (some ad) n m) (.slice none 0 0)))):=rfl
 have h2:(Op.equal t (.slice (some ad) n m) (.slice none 0 0)).run P w=.ok false w:=aTV (D:=9999) hu
 simp [execOp,ho,hA.eval hx,hA.eval hy,eqGuard,h1,h2]
end
end Go.Gv
end
noncomputable section
namespace Go.Gv
structure Raw where
 v:Value
instance:Inhabited Raw:=⟨⟨.slice none 0 0⟩⟩
instance:aD Raw where
 n:=1
 rd:=fun _ _ cs x=>cs=[x.v]/\x.v.oneCell'=true
 own:=fun _ cs x F=>(cs=[x.v]/\x.v.oneCell'=true)/\∀b o,¬F b o
 jM:=fun h=>by simp [h.1]
 rd_one:=fun h v hv=>by rw [h.1] at hv;simp at hv;rw [hv];exact h.2
 rd_agree:=fun h _=>h
 rd_mono:=fun h _=>h
 own_rd:=fun h=>h.1
 own_keep:=fun h _ _=>h
 own_lt:=fun h hf=>(h.2 _ _ hf).elim
instance:Flat Raw:=⟨fun h=>⟨h,fun _ _ h=>h⟩,fun h=>h.2⟩
def US{α:Type}[aD α](S:cB)(w:World)(us:List Raw)(l:List α):Prop:=us.length=l.length/\∀(i:Nat) (u:Raw) (x:α),us[i]?=some u->l[i]?=some x->aD.rd S w [u.v] x
theorem US.append{α:Type}[aD α]{S:cB}{w:World}{us vs:List Raw}{l m:List α}(h:US S w us l)(k:US S w vs m):US S w (us++vs) (l++m):=by
 refine⟨by simp [h.1,k.1],fun i u x hu hx=>?_⟩
 rw [VR] at hu hx
 rw [h.1] at hu
 split at hu
 ·rename_i hlt;rw [if_pos hlt] at hx;exact h.2 i u x hu hx
 ·rename_i hlt;rw [if_neg hlt] at hx;exact k.2 _ u x hu hx
theorem aTW{α:Type}[aD α](hn:aD.n α=1){S:cB}{w:World}{s:Value}{l:List α}(h:aD.rd S w [s] l):∃us:List Raw,aD.rd S w [s] us/\US S w us l:=by
 obtain⟨ad,c,e,h1,h2,h3⟩:=(show sU S w [s] l from h)
 rcases h3 with h3 | ⟨b,off,rfl,h3⟩
 ·subst h3
  exact⟨[],⟨ad,c,e,h1,h2,.inl rfl⟩,rfl,fun i u x hu=>by simp at hu⟩
 ·have hv:∀i,i < l.length->∃v:Value,aV w b (off+i * 1) [v]/\(∀o,dK b (off+i * 1) 1 b o->S b o)/\v.oneCell'=true/\∀x,l[i]?=some x->aD.rd S w [v] x:=fun i hi=>by
   obtain⟨ec,q1,q2,q3⟩:=h3 i hi
   have hl:=aD.jM q3
   rw [hn] at hl q1 q2
   obtain⟨v,rfl⟩:=List.length_eq_one_iff.1 hl
   exact⟨v,q1,q2,aD.rd_one q3 v (by simp),fun x hx=>by rw [fT hi] at hx;cases hx;exact q3⟩
  obtain⟨f,hf⟩:=Go.Deep.choose_lt (α:=Value) hv
  refine⟨(List.range l.length).map fun i=>⟨f i⟩,⟨_,c,by rw [e];simp,by simpa using h1,h2,.inr ⟨b,off,rfl,fun i hi=>?_⟩⟩,by simp,fun i u x hu hx=>?_⟩
  ·have hi':i < l.length:=by simpa using hi
   refine⟨[f i],(hf i hi').1,(hf i hi').2.1,?_⟩
   simp only [List.getElem_map,List.getElem_range]
   exact⟨rfl,(hf i hi').2.2.1⟩
  ·have hi':i < l.length:=(iE.1 hx).1
   simp [hi'] at hu;subst hu
   exact(hf i hi').2.2.2 x hx
theorem aKQ{α:Type}[aD α](hn:aD.n α=1){S:cB}{w:World}{s:Value}{us:List Raw}{l:List α}(h:aD.rd S w [s] us)(hr:US S w us l):aD.rd S w [s] l:=by
 obtain⟨ad,c,e,h1,h2,h3⟩:=(show sU S w [s] us from h)
 have hl:us.length=l.length:=hr.1
 refine⟨ad,c,by rw [e,hl],hl ▸ h1,h2,?_⟩
 rcases h3 with h3 | ⟨b,off,rfl,h3⟩
 ·subst h3;left;exact lM hl.symm
 ·right
  refine⟨b,off,rfl,fun i hi=>?_⟩
  obtain⟨ec,q1,q2,q3⟩:=h3 i (by rw [hl];exact hi)
  have q3:ec=[(us[i]'(by rw [hl];exact hi)).v]/\_:=q3
  refine⟨ec,by rw [hn];exact q1,by rw [hn];exact q2,?_⟩
  rw [q3.1]
  exact hr.2 i _ _ (fT _) (fT hi)
def a1B(s:Value)(n:Nat):Chunk where
 P:=fun w F=>∃b off len c,s=.slice (some ⟨b,off,none⟩) len c/\c<=maxLen/\Row w b off (c * n)/\∀b' o,F b' o↔dK b off (c * n) b' o
 keep:=by
  rintro w w' F G ⟨b,off,len,c,e,h1,h2,hF⟩ hk hd
  exact⟨b,off,len,c,e,h1,fun o p=>⟨hk.stay b o (h2 o p).1,(hk.wR b o (iS (h2 o p).1)).trans (h2 o p).2⟩,hF⟩
 lt:=by
  rintro w F b' o ⟨b,off,len,c,e,h1,h2,hF⟩ hf
  have p:=(hF b' o).1 hf
  obtain rfl:b'=b:=p.1
  exact iS (h2 o p).1
noncomputable section
variable {v:Value} {k k2:IntKind} {i j:Int} {P:Program} {o:Oper} {e:Env} {w w':World} {c:Ctx} {L:List Chunk} {R:List Fact} {x y z:Operand} {t t2 el:TypeId}
theorem St.aKR{α:Type}[aD α]{s:Value}{l:List (List α)}{n:Nat}{q:List α}(h:St c w L R)(m:Nat)(hm:R[m]?=some (zQ [s] l))(hq:l[n]?=some q):∃v0:Value,aV w (MW s) (MO 1 n s) [v0]/\St c w L (R ++ [zQ [v0] q]):=by
 obtain⟨S,hS,hk⟩:=h.aTD hm
 obtain⟨ec,h1,h2⟩:=aKO hS hq
 obtain⟨v0,rfl⟩:=iF h2
 exact⟨v0,h1,hk _ (by intro f hf;simp only [gW,MR,or_false] at hf;subst hf;exact h2)⟩
theorem St.a1C(h:St c w L R){α:Type}[aD α]{s:Value}{n:Nat}(m:Nat)(hm:L[m]?=some (a1B s n))(hn:aD.n α=n):St c w (L.set m (aZ [gO n 0 0 s] ([]:List α))) R:=
 h.VU m hm fun F hF=>by
  obtain⟨b,off,len,cp,rfl,h1,h2,hF⟩:=hF
  have e:gO n 0 0 (.slice (some ⟨b,off,none⟩) len cp)=.slice (some ⟨b,off,none⟩) 0 cp:=by
   simp [gO,Addr.add]
  subst hn
  refine⟨fun b' o'=>dK b off (cp * aD.n α) b' o'\/F0 b' o',F0,dL.refl _ _,fun _ _ h=>h.elim,?_,fun b' o' q=>.inl ((hF b' o').2 (q.elim id fun q=>q.elim))⟩
  show aD.own w [_] ([]:List α) _
  rw [e]
  exact IP (l:=([]:List α)) (cc:=[]) (Fe:=F0) h2 (fun j v h=>by simp at h) ⟨rfl,fun _ _ h=>h⟩ (fun _ _ h=>h.elim) (jK _) h1
theorem aHK(hu:P.underlying t=some (.slice el))(ho:o.op=.call {callee:=.builtin .cap,args:=#[x],argTypes:=#[t]})(hx:ev e x=some (.slice none 0 0)):dM P o e w (.int .i64 0) w:=fun _ a hA=>by
 simp [execOp,ho,resolve,invoke,builtin,Builtin.cap_,hA.eval hx,run_underlying hu,goInt]
theorem aX7{z:Value}{m:Nat}(hS:St c w L R)(hu:P.underlying t=some (.slice el))(hut:P.underlying t2=some (.int k))(hinf:QW P el m z)(hzs:z.cells.size=m)(hm:Nat.ble 1 m=true)
  (hb:1<=i/\i<=1073741824) (ho:o.op=.call {callee:=.builtin .append,args:=#[x,y],argTypes:=#[t,t2]}) (hx:ev e x=some (.slice none 0 0)) (hy:ev e y=some (.int .i64 i)) :
  ∃v w',dM P o e w v w'/\St c w' (L ++ [a1B v m]) R:=by
 obtain⟨ti,hti,hz,hsz,hby⟩:=hinf
 obtain⟨b0,b1⟩:=hb
 have hw:IntKind.i64.wrap i=i:=by simp [IntKind.wrap,IntKind.bits,IntKind.signed];split <;> omega
 have hn0:¬(i.toNat<=0):=by omega
 have hbytes:i.toNat * ti.bytes<=140737488355328:=by
  have:i.toNat * ti.bytes<=1073741824 * 65536:=Nat.mul_le_mul (by omega) hby
  omega
 have hfit:=growslice_fits (need:=i.toNat) (old:=0) (bytes:=ti.bytes) (by omega) hbytes
 obtain⟨hge,hle⟩:i.toNat<=grownCap w i.toNat 0 el/\grownCap w i.toNat 0 el<=maxLen:=⟨grownCap_ge _ _ _ _,grownCap_le_maxLen _ _ _ _ (by unfold maxLen;omega)⟩
 have hrun:∃cs:Array Value,cs.size=grownCap w i.toNat 0 el * m/\(Builtin.append_ #[t,t2] o.type #[.slice none 0 0,.int .i64 i]).run P w=.ok (.slice (some ⟨w.heap.size,0,none⟩) i.toNat (grownCap w i.toNat 0 el)) (w.drew.alloc (.cells cs el)):=by
  have hn2:¬(i<=0):=by omega
  have hi:(i.toNat:Int)=i:=by omega
  have h63':¬(9223372036854775807 < i):=by omega
  have h48':¬(281474976710656 < Builtin.nextslicecap i.toNat 0 * ti.bytes):=by omega
  have h48:¬(281474976710656 < i * (ti.bytes:Int)):=by
   have h2:((i.toNat * ti.bytes:Nat):Int)<=140737488355328:=by omega
   rw [Int.natCast_mul,hi] at h2
   omega
  have hneg:¬(i < 0):=by omega
  have hmax:max i 0=i:=by omega
  have hm1:=tQ hm
  have hnm:¬(i.toNat * m=0):=by
   intro h;rcases Nat.mul_eq_zero.1 h with h | h <;> omega
  refine⟨Builtin.zeroCells z.cells i.toNat++Builtin.zeroCells z.cells (grownCap w i.toNat 0 el - i.toNat),?_,?_⟩
  rotate_left 1
  ·have hf1:(Builtin.firstCells m 0 (.slice none 0 0)).run P w.drew=.ok #[] w.drew:=rfl
   simp [Builtin.append_,run_underlying hu,run_underlying hut,sizeOf,typeInfo,zeroValue,hti,hz,hsz,Builtin.lenOf,asInt,asIntOf,hw,hneg,h48,hn0,h63',h48',Question.forced,newRow,grownCap,hf1,hnm,hi,hn2,hmax]
  ·rw [Array.size_append,size_zeroCells,size_zeroCells,hzs,<-fU]
   congr 1;omega
 obtain⟨cs,hcs,hrun⟩:=hrun
 refine⟨.slice (some ⟨w.heap.size,0,none⟩) i.toNat (grownCap w i.toNat 0 el),w.drew.alloc (.cells cs el),fun _ a hA=>?_,?_⟩
 rotate_left 1
 ·refine(hS.same (dL.drew F0 w)).more (dL.alloc _ _ _) ⟨dK w.heap.size 0 (grownCap w i.toNat 0 el * m),⟨_,_,_,_,rfl,hle,fun o' p=>?_,fun _ _=>Iff.rfl⟩,fun b o' p=>PG p.1.symm⟩
  obtain⟨_,_,h3⟩:=p
  refine⟨?_,World.frozen?_alloc_at (hn:=rfl) ..⟩
  have h4:(w.drew.alloc (.cells cs el)).cell? ⟨w.drew.heap.size,o',none⟩=cs[o']?:=by rw [World.cell?_alloc_at (hn:=rfl)]
  have h5:(w.drew.alloc (.cells cs el)).cell? ⟨w.heap.size,o',none⟩=cs[o']?:=h4
  rw [h5,Array.getElem?_eq_getElem (by omega)];rfl
 ·simp [execOp,ho,resolve,invoke,builtin,hA.eval hx,hA.eval hy,hrun]
theorem aPP{s:Value}{n:Nat}(h:∃ad len cp,s=.slice ad len cp)(hu:P.underlying t=some (.slice el))(hz:∀w,(sizeOf el).run P w=.ok n w)(ho:o.op=.slice t x none (some z) none)(hx:ev e x=some s)(hw:ev e z=some (.int k2 0)):dM P o e w (gO n 0 0 s) w:=fun _ a hA=>by
 obtain⟨ad,len,cp,rfl⟩:=h
 simp [execOp,ho,Instr.sliceAt,Instr.slice,run_underlying hu,Instr.sliceBounds,hA.eval hx,hA.eval hw,Instr.sliceBound,asIntOf,hz,gO]
theorem St.aTX(h:St c w L R){s:Value}{n:Nat}(m:Nat)(hm:L[m]?=some (a1B s n)):∃ad len cp,s=.slice ad len cp:=by
 obtain⟨F,b,off,len,cp,e,_⟩:=h.chunk m hm
 exact⟨_,_,_,e⟩
def a3F{α:Type}[aD α](us:List Raw)(l:List α):Fact where
 P:=fun S w=>US S w us l
 agree:=fun h ha=>⟨h.1,fun i u x hu hx=>aD.rd_agree (h.2 i u x hu hx) ha⟩
 mono:=fun h ha=>⟨h.1,fun i u x hu hx=>aD.rd_mono (h.2 i u x hu hx) ha⟩
theorem St.aTY(h:St c w L R):∃S,(∀f∈R,f.P S w)/\(∀b o,S b o->b < w.heap.size)/\∀Gs:List Fact,(∀g∈Gs,g.P S w)->St c w L (R++Gs):=by
 obtain⟨F,S,a1,a2,a3,a4,a5,a6⟩:=h.sep
 refine⟨S,a6,a5,fun Gs hG=>⟨h.keep,⟨F,S,a1,a2,a3,a4,a5,fun g hg=>?_⟩,h.apart⟩⟩
 rcases gC.1 hg with hg | hg
 ·exact a6 g hg
 ·exact hG g hg
theorem St.aX8(h:St c w L R){α:Type}[aD α](hn:aD.n α=1){s s1 s2:Value}{a b:List α}(m m1 m2:Nat)(hm:R[m]?=some (zQ [s] ([⟨s1⟩,⟨s2⟩]:List Raw)))(hm1:R[m1]?=some (zQ [s1] a))(hm2:R[m2]?=some (zQ [s2] b)) :
  ∃u1 u2:List Raw,aD.rd (MT w) w [s] ([u1,u2]:List (List Raw))/\(u1.length=a.length/\u2.length=b.length)/\St c w L (R ++ [a3F (u1++u2) (a++b)]):=by
 obtain⟨S,hS,hlt,hk⟩:=h.aTY
 have h0:aD.rd S w [s] ([⟨s1⟩,⟨s2⟩]:List Raw):=hS _ (tP hm)
 obtain⟨u1,k1,r1⟩:=aTW hn (show aD.rd S w [s1] a from hS _ (tP hm1))
 obtain⟨u2,k2,r2⟩:=aTW hn (show aD.rd S w [s2] b from hS _ (tP hm2))
 refine⟨u1,u2,aD.rd_mono (aKQ rfl h0 ⟨rfl,fun i u q hu hq=>?_⟩) hlt,⟨r1.1,r2.1⟩,hk _ fun g hg=>?_⟩
 ·match i,hu,hq with
  | 0,hu,hq=>simp at hu hq;subst hu;subst hq;exact k1
  | 1,hu,hq=>simp at hu hq;subst hu;subst hq;exact k2
  | i+2,hu,hq=>simp at hu
 ·simp only [gW,MR,or_false] at hg;subst hg;exact r1.append r2
theorem St.a3G(h:St c w L R){α:Type}[aD α](hn:aD.n α=1){s:Value}{us:List Raw}{l:List α}(m m':Nat)(hm:R[m]?=some (zQ [s] us))(hm':R[m']?=some (a3F us l)):St c w L (R ++ [zQ [s] l]):=by
 obtain⟨S,hS,hlt,hk⟩:=h.aTY
 refine hk _ fun g hg=>?_
 simp only [gW,MR,or_false] at hg;subst hg
 exact aKQ hn (show aD.rd S w [s] us from hS _ (tP hm)) (hS _ (tP hm'))
theorem aTZ{zv v c0 v' c1:Value}(hc:v.cells=#[c0])(hc':v'.cells=#[c1]):Instr.fill (fun i=>some (i * 1,1)) ((Array.range (2 * 1)).map (fun i=>(if 2 * 1=0 then #[] else zv.cells)[i % (if 2 * 1=0 then #[] else zv.cells).size]!)) [(0,v),(1,v')]=some #[c0,c1]:=by
 have h1:Array.range 2=#[0,1]:=rfl
 simp [Instr.fill,hc,hc',h1]
theorem ZD{α:Type}[aD α]{S:cB}{w:World}{v:Value}{l:List α}(h:aD.rd S w [v] l):v.cells=#[v]:=Array.toList_inj.1 (by simpa using aTI h)
theorem aNL{α β:Type}[aD α][aD β]{S:cB}{x y:Operand}{v1 v2 zv:Value}{a:List α}{b:List β}(hS:St c w L R)(h1:aD.rd S w [v1] a)(h2:aD.rd S w [v2] b)(hu:P.underlying t=some (.slice el))(hinf:QW P el 1 zv)
  (ho:o.op=.buildSlice t 2 #[(0,x),(1,y)]) (hx:ev e x=some v1) (hy:ev e y=some v2) :
  ∃v w',dM P o e w v w'/\St c w' (L ++ [aZ [v] ([⟨v1⟩,⟨v2⟩]:List Raw)]) R:=by
 refine aNH (α:=Raw) (ps:=[(0,x),(1,y)]) (vs:=[v1,v2]) (cells:=[v1,v2]) [⟨v1⟩,⟨v2⟩] hS rfl hu hinf rfl (by rfl) (by rfl) ⟨⟨rfl,aCR h1⟩,⟨rfl,aCR h2⟩,rfl⟩ ho (by simp [evs,hx,hy]) ?_
 exact aTZ (ZD h1) (ZD h2)
end
end Go.Gv
end
noncomputable section
namespace Go.Gv
open Go.ChangeShapes Go.WideShapes Go.ChangeAt Go.RowKit
class Fits (α:Type) where
 fit:α->Prop
abbrev fit{α:Type}[Fits α](x:α):Prop:=Fits.fit x
instance:Fits Int:=⟨fun x=>-9223372036854775808<=x/\x<=9223372036854775807⟩
instance:Fits Bool:=⟨fun _=>True⟩
instance:Fits UInt8:=⟨fun _=>True⟩
instance:Fits a0S:=⟨fun s=>s.b.length<=maxLen⟩
instance {α β:Type} [Fits α] [Fits β]:Fits (α×β):=⟨fun p=>fit p.1/\fit p.2⟩
instance {α:Type} [Fits α]:Fits (List α):=⟨fun l=>l.length<=maxLen/\∀x∈l,fit x⟩
@[reducible] def Fits.via {α β : Type} [Fits β] (f : α -> β) : Fits α := ⟨fun x => fit (f x)⟩
def SP(P:Program)(t:TypeId)(α:Type)[aD α][Fits α]:Prop:=
 ∀{H:Type} {enc:TypeId×Value->H} {w:World} {spare:Nat->Bool} {held:Bool} {fuel:Nat} {cs:List Value} {x:DataW H×List MemPlace},
  DataW.trod enc P w 0 spare held fuel t cs=some x->∃d:α,aD.rd (MT w) w cs d/\fit d
theorem aT0{P:Program}{t:TypeId}(hu:P.underlying t=some (.int .u8)):SP P t UInt8:=fun h=>by
 obtain⟨n,rfl,_,hf⟩:=DataW.trod_int hu h
 have hn:0<=n/\n<=255:=by simpa [Lit.wf,show IntKind.u8.min=0 by decide,show IntKind.u8.max=255 by decide] using hf
 refine⟨UInt8.ofNat n.toNat,?_,trivial⟩
 show [Value.int .u8 n]=[Value.int .u8 ((UInt8.ofNat n.toNat).toNat:Int)]
 have e:(((UInt8.ofNat n.toNat).toNat:Nat):Int)=n:=by
  rw [UInt8.toNat_ofNat'];omega
 rw [e]
theorem aKS{P:Program}{t e:TypeId}{α:Type}[aD α][Fits α](hu:P.underlying t=some (.slice e))(hc:P.cellsOf e=aD.n α)(hn:0 < aD.n α)(he:SP P e α):SP P t (List α):=fun{H enc w spare held fuel cs x} h=>by
 rcases Go.Deep.open_slice hu h with ⟨rfl,_⟩ | ⟨a,len,cap,m,n,D,Pl,rfl,_,hl,hm,hmm,_,hx⟩
 ·exact⟨[],⟨none,0,rfl,jA _,jK _,.inl rfl⟩,jK _,fun _ h=>nomatch h⟩
 ·have hlm:len<=m:=by rw [hmm];split <;> omega
  rw [hc] at hx
  by_cases h0:len=0
  ·subst h0
   exact⟨[],⟨some a,cap,rfl,jK _,hm,.inl rfl⟩,jK _,fun _ h=>nomatch h⟩
  have one:∀i,i < len->∃d:α,(∃ec,w.cells? 0 (a.add (i * aD.n α)) (aD.n α)=some ec/\aD.rd (MT w) w ec d)/\fit d:=fun i hi=>by
   obtain⟨ec,h1,h2⟩:=hx i (by omega)
   obtain⟨d,h3,h4⟩:=he h2
   exact⟨d,⟨ec,h1,h3⟩,h4⟩
  obtain⟨d0,_⟩:=one 0 (by omega)
  haveI:Inhabited α:=⟨d0⟩
  obtain⟨f,hf⟩:=Go.Deep.choose_lt one
  obtain⟨b,off,sp⟩:=a
  refine⟨(List.range len).map f,⟨some ⟨b,off,sp⟩,cap,by simp,by simpa using hl,hm,?_⟩,by simp;omega,fun x hx=>by
   obtain⟨i,hi,rfl⟩:=List.mem_map.1 hx
   exact(hf i (by simpa using hi)).2⟩
  right
  have sp0:sp=none:=by
   obtain⟨ec,h1,_⟩:=hx 0 (by omega)
   obtain⟨_,h2,h3⟩:=World.cells?_some h1
   have h4:=h3 0 hn
   rw [fT (by omega)] at h4
   have h5:=World.cell?_spot h4
   simpa [Addr.add] using h5
  subst sp0
  refine⟨b,off,rfl,fun i hi=>?_⟩
  have hi':i < len:=by simpa using hi
  obtain⟨ec,h1,h2⟩:=(hf i hi').1
  obtain⟨_,h3,h4⟩:=World.cells?_some h1
  have hcell:aV w b (off+i * aD.n α) ec:=fun j v hj=>by
   obtain⟨hj',_⟩:=iE.1 hj
   have h5:=h4 j (by omega)
   rw [hj] at h5
   have e:((⟨b,off,none⟩:Addr).add (i * aD.n α)).add j=⟨b,off+i * aD.n α+j,none⟩:=by
    rw [Go.Deep.add_add];unfold Addr.add;split <;> simp_all <;> omega
   rw [e] at h5;exact h5
  refine⟨ec,hcell,fun o _=>?_,by simpa using h2⟩
  exact hcell.lt (fun e=>by subst e;simp at h3;omega)
theorem Trod.opens{H:Type}{enc:TypeId×Value->H}{P:Program}{w:World}{spare:Nat->Bool}{held:Bool}{t:TypeId}{v:Value}{x:DataW H}{ps:List MemPlace}{α:Type}[aD α][Fits α](ho:SP P t α)(h:DataW.Trod enc P w 0 spare held t v x ps) :
  ∃d:α,aD.rd (MT w) w v.cells.toList d/\fit d:=by
 obtain⟨fuel,hf⟩:=h
 exact ho hf
theorem St.below{w0 w':World}{L:List Chunk}{R:List Fact}(h:St (bZ w0) w' L R):Below w0.heap.size w0 w':=
 ⟨h.keep.os,h.keep.tape,h.keep.output,h.keep.size,fun k hk=>h.keep.block k hk fun _ hf=>hf⟩
end Go.Gv
end
noncomputable section
namespace Go.Gv
noncomputable section
variable {P:Program} {op:Op} {ty:TypeId} {ps:String} {af:Array Edge} {ops:Array Oper} {rest:List Oper} {Q:Exit->Act->World->Prop} {n d:Nat} {e:Env} {v:Value} {w w':World} {c:Ctx} {L:List Chunk} {R:List Fact}
theorem oy(hr:dM P ⟨some d,op,ty,ps,af,none⟩ e w v w')(hn:Nat.blt d n=true)(k:Ops P ops Q rest n ((d,v) :: e) w'):Ops P ops Q (⟨some d,op,ty,ps,af,none⟩ :: rest) n e w:=
 eV hr (bS rfl) rfl hn k
theorem om{x:Operand}(hx:ev e x=some v)(hn:Nat.blt d n=true)(k:Ops P ops Q rest n ((d,v) :: e) w):Ops P ops Q (⟨some d,.move x,ty,ps,af,none⟩ :: rest) n e w:=oy (nG rfl hx) hn k
theorem oa{x:Operand}(hx:ev e x=some v)(hn:Nat.blt d n=true)(k:Ops P ops Q rest n ((d,v) :: e) w):Ops P ops Q (⟨some d,.assign x,ty,ps,af,none⟩ :: rest) n e w:=oy (DT rfl hx) hn k
theorem fy{fn:Func}{s:Tmp}{a':Act}(hf:fn.results=#[.tmp s])(hA:kW n e a')(hl:lk e s=some v)(hS:St c w L R):Fin P fn (fun u w'=>u=v/\St c w' [] []) a' w:=
 aXW hf hA (aBN hl) ⟨rfl,(hS.MZ [] rfl).weaken (R':=[]) (fun _ h=>nomatch h)⟩
end
def fAt(b off:Nat)(cs:List Value):Fact where
 P:=fun S w=>aV w b off cs/\∀o,dK b off cs.length b o->S b o
 agree:=fun⟨h1,h2⟩ ha=>⟨h1.agree fun o h3 h4=>ha b o (h2 o ⟨rfl,h3,h4⟩),h2⟩
 mono:=fun⟨h1,h2⟩ ha=>⟨h1,fun o h=>ha b o (h2 o h)⟩
theorem a1D{α:Type}[aD α]{S:cB}{w:World}{s:Value}{l:List α}(h:aD.rd S w [s] l){k:Nat}{x:α}(hk:l[k]?=some x):∃ec,(fAt (MW s) (MO (aD.n α) k s) ec).P S w/\aD.rd S w ec x:=by
 obtain⟨ad,m,h1,h2,h3,h4⟩:=(show sU S w [s] l from h)
 obtain⟨hlt,hx⟩:=iE.1 hk
 simp at h1;subst h1
 rcases h4 with h4 | ⟨b,off,rfl,h4⟩
 ·subst h4;simp at hlt
 ·obtain⟨ec,a1,a0,a2⟩:=h4 k hlt
  have hn:ec.length=aD.n α:=aD.jM a2
  exact⟨ec,⟨a1,fun o ho=>a0 o ho⟩,hx ▸ a2⟩
theorem St.fat{c:Ctx}{w:World}{L:List Chunk}{R:List Fact}{b off:Nat}{cs:List Value}(h:St c w L R)(j:Nat)(hj:R[j]?=some (fAt b off cs)):aV w b off cs:=(h.fact j hj).1
theorem a3H(off:Nat):∀(l:List Value) (k:Nat) (cells:Array Value),off+k+l.length<=cells.size ->
  ((l.zipIdx k).foldl (fun cs (q:Value×Nat)=>cs.setIfInBounds (off+q.2) q.1) cells).toList=cells.toList.take (off+k)++l++cells.toList.drop (off+k+l.length)
 | [],k,cells,h=>by simp
 | c :: r, k, cells, h => by
  have h':off+k < cells.size:=by simp at h;omega
  rw [List.zipIdx_cons,List.foldl_cons,a3H off r (k+1) _ (by simp at h ⊢;omega)]
  simp only [Array.toList_setIfInBounds]
  have e1:(cells.toList.set (off+k) c).take (off+(k+1))=cells.toList.take (off+k) ++ [c]:=by
   rw [show off+(k+1)=(off+k)+1 by omega,TZ (by simpa using h'),List.take_set_of_le (jA _),List.getElem_set_self]
  have e2:(cells.toList.set (off+k) c).drop (off+(k+1)+r.length)=cells.toList.drop (off+k+(c :: r).length):=by
   rw [List.drop_set_of_lt (by omega)];congr 1;simp;omega
  rw [e1,e2];simp
theorem aKT(n:Nat):∀(vs:List Value) (i:Nat) (cells:Array Value),(∀v∈vs,v.cells.size=n)->cells.size=(i+vs.length) * n ->
  Instr.fill (fun i=>some (i * n,n)) cells ((List.range' i vs.length).zip vs)=some (cells.toList.take (i * n)++vs.flatMap fun v=>v.cells.toList).toArray
 | [], i, cells, _, h => by
  have e:cells.toList.take (i * n)=cells.toList:=aHF (by simp at h ⊢;omega)
  simp [Instr.fill,e]
 | v :: r, i, cells, hv, h => by
  have hn:=hv v List.mem_cons_self
  have hlen:(i+(r.length+1)) * n=i * n+n+r.length * n:=by rw [fU,fU];omega
  have hsz:i * n+n<=cells.size:=by simp only [GU] at h;omega
  have hb:=a3H (i * n) v.cells.toList 0 cells (by simp;omega)
  have hf:v.cells.zipIdx.foldl (fun cs (q:Value×Nat)=>cs.setIfInBounds (i * n+q.2) q.1) cells=(v.cells.toList.zipIdx 0).foldl (fun cs (q:Value×Nat)=>cs.setIfInBounds (i * n+q.2) q.1) cells:=by
   rw [<-Array.foldl_toList,Array.toList_zipIdx]
  rw [<-hf] at hb
  simp only [GU,List.range'_succ,List.zip_cons_cons,Instr.fill,hn]
  rw [if_neg (by simp;omega)]
  have hsize:(v.cells.zipIdx.foldl (fun cs (q:Value×Nat)=>cs.setIfInBounds (i * n+q.2) q.1) cells).size=cells.size:=by
   rw [<-Array.length_toList,hb];simp;omega
  rw [aKT n r (i+1) _ (fun x hx=>hv x (nF _ hx)) (by rw [hsize,h];simp only [GU];congr 1;omega),hb]
  congr 2
  have e:(i+1) * n=i * n+n:=by rw [fU];omega
  rw [e,KB,ZB (by simp;omega)]
  have e2:(cells.toList.take (i * n)++v.cells.toList).length=i * n+n:=by simp;omega
  rw [<-e2,Q0,List.flatMap_cons,tN]
theorem aCU{ps:List (Nat×Operand)}{vs cells:List Value}{m len:Nat}{F:Nat->Value}(h1:ps.map (·.1)=List.range' 0 len)(h0:vs.length=len)(h2:vs.all (fun v=>v.cells.size == m)=true)(h3:(vs.flatMap fun v=>v.cells.toList)=cells) :
  Instr.fill (fun i=>some (i * m,m)) ((Array.range (len * m)).map F) ((ps.map (·.1)).zip vs)=some cells.toArray:=by
 subst h0;subst h3
 rw [h1,aKT m vs 0 _ (fun v hv=>by have:=VN.1 h2 v hv;simpa using this) (by simp)]
 simp
end Go.Gv
end
noncomputable section
namespace Go.Gv
def aRG(n a b m:Nat):Value->Value
 | .slice ad _ _=>.slice (if m=a then ad else ad.map (·.add (a * n))) (b - a) (m - a)
 | v=>v
theorem aX9{α:Type}[aD α]{w:World}{ad:Option Addr}{l:List α}{c m:Nat}{F:cB}(h:aD.own w [.slice ad l.length c] l F)(h1:l.length<=m)(h2:m<=c)(h0:0 < m):∃F',aD.own w [.slice ad l.length m] l F'/\∀b o,F' b o->F b o:=by
 obtain⟨ad',c',e,k1,k2,k3⟩:=kD.1 h
 simp at e
 obtain⟨rfl,rfl⟩:=e
 rcases k3 with ⟨_,hc,_⟩ | ⟨bl,off,cc,Fe,rfl,hr,hc,ho,hd,hF⟩
 ·omega
 ·have hmul:m * aD.n α<=c * aD.n α:=oW _ h2
  refine⟨fun b' o=>dK bl off (m * aD.n α) b' o\/Fe b' o,IP (fun o p=>hr o ?_) hc ho (fun b' o p q=>hd b' o p ?_) h1 (by omega),?_⟩
  ·obtain⟨p0,p1,p2⟩:=p;exact⟨p0,p1,by omega⟩
  ·obtain⟨p0,p1,p2⟩:=q;exact⟨p0,p1,by omega⟩
  ·rintro b' o (p | p)
   ·obtain⟨p0,p1,p2⟩:=p;exact(hF b' o).2 (.inl ⟨p0,p1,by omega⟩)
   ·exact(hF b' o).2 (.inr p)
theorem IF{α:Type}[aD α]{w:World}{s:Value}{l:List α}{F:cB}(h:aD.own w [s] l F):∃ad c,s=.slice ad l.length c/\l.length<=c:=by
 obtain⟨ad,c,e,k1,_⟩:=kD.1 h
 exact⟨ad,c,e,k1⟩
theorem aT1{α:Type}[aD α]{w:World}{s:Value}{l:List α}{n a b m:Nat}{F:cB}(hn:aD.n α=n)(h:aD.own w [s] l F)(h1:a<=b)(h2:b<=m)(h3:m<=l.length):∃F',aD.own w [aRG n a b m s] ((l.take b).drop a) F'/\∀b o,F' b o->F b o:=by
 have hl:=vF h1 (sS h2 h3)
 obtain⟨ad,c,rfl,hc⟩:=IF h
 by_cases hm:m=a
 ·have hb:b=a:=by omega
  have hz:(l.take b).drop a=[]:=by apply lM;omega
  rw [hz]
  simp only [aRG,hm,hb,Nat.sub_self,if_true]
  refine⟨F0,?_,fun _ _ h=>h.elim⟩
  obtain⟨ad',c',e,k1,k2,k3⟩:=kD.1 h
  simp at e
  obtain⟨rfl,rfl⟩:=e
  rcases k3 with ⟨rfl,hc0,_⟩ | ⟨bl,off,cc,Fe,rfl,_⟩
  ·exact⟨none,0,rfl,jA _,jK _,.inl ⟨rfl,rfl,fun _ _ h=>h⟩⟩
  ·exact kD.2 ⟨some ⟨bl,off,none⟩,0,rfl,jA _,jK _,.inr ⟨bl,off,[],F0,rfl,fun o p=>by obtain⟨_,p1,p2⟩:=p;omega,fun j v h=>by simp at h,⟨rfl,fun _ _ h=>h⟩,fun _ _ h=>h.elim,fun b' o=>by
    simp only [F0,or_false,false_iff,dK];rintro⟨_,p1,p2⟩;omega⟩⟩
 ·obtain⟨F1,k1,k2⟩:=aPN hn h h1 (sS h2 h3)
  have hca:c≠a:=by omega
  have e:gO n a b (.slice ad l.length c)=.slice (ad.map (·.add (a * n))) ((l.take b).drop a).length (c - a):=by simp only [gO,if_neg hca,hl]
  rw [e] at k1
  obtain⟨F2,k3,k4⟩:=aX9 (m:=m - a) k1 (by omega) (by omega) (by omega)
  refine⟨F2,?_,fun b' o p=>k2 _ _ (k4 _ _ p)⟩
  have e2:aRG n a b m (.slice ad l.length c)=.slice (ad.map (·.add (a * n))) ((l.take b).drop a).length (m - a):=by simp only [aRG,if_neg hm,hl]
  rw [e2];exact k3
end Go.Gv
end
noncomputable section
namespace Go.Gv
def cM{α:Type}(l:List α)(a:Nat)(xs:List α):List α:=l.take a++(xs.take (l.length - a)++l.drop (a+xs.length))
theorem eQ{α:Type}{l:List α}{a:Nat}{xs:List α}(h:a<=l.length):(cM l a xs).length=l.length:=by
 simp [cM];omega
theorem SQ{α:Type}{l:List α}{a:Nat}{xs:List α}(h:a<=l.length){i:Nat}{x:α}(hx:(cM l a xs)[i]?=some x) :
  (a<=i/\i < a+min xs.length (l.length - a)/\xs[i - a]?=some x)\/((i < a\/a+min xs.length (l.length - a)<=i)/\l[i]?=some x):=by
 unfold cM at hx
 rw [VR] at hx
 split at hx
 ·rename_i h1
  have h1:i < a:=by simp at h1;omega
  rw [DK,if_pos h1] at hx
  exact .inr ⟨.inl h1,hx⟩
 ·rename_i h1
  have h1:a<=i:=by simp at h1;omega
  have e:(l.take a).length=a:=by simp;omega
  rw [e,VR] at hx
  split at hx
  ·rename_i h2
   have h2:i - a < min (l.length - a) xs.length:=by simpa using h2
   rw [DK,if_pos (by omega)] at hx
   exact .inl ⟨h1,by omega,hx⟩
  ·rename_i h2
   have h2:¬i - a < min (l.length - a) xs.length:=by simpa using h2
   rw [QY] at hx
   right
   refine⟨.inr (by omega),?_⟩
   by_cases h3:xs.length<=l.length - a
   ·have e2:(xs.take (l.length - a)).length=xs.length:=by simp;omega
    rw [e2] at hx
    rw [<-hx];congr 1;omega
   ·have:l[a+xs.length+(i - a - (xs.take (l.length - a)).length)]?=none:=A7 (by omega)
    rw [this] at hx;cases hx
theorem M0{α:Type}[aD α][Flat α](P:Program){w w0:World}{S:cB}{b off cap a k:Nat}{l l':List α}{F:cB}{ncc:List Value}(h:aD.own w [.slice (some ⟨b,off,none⟩) l.length cap] l F)(hl':l'.length=l.length)(hk:ncc.length=k * aD.n α)(hak:a+k<=cap)(hone:∀v∈ncc,v.oneCell'=true)
  (hr:∀i x,l'[i]?=some x->(a<=i/\i < a+k/\aD.rd S w0 (DL ncc (aD.n α) (i - a)) x)\/((i < a\/a+k<=i)/\l[i]?=some x)) :
  ∃w' G F',(storeCells ⟨b,off+a * aD.n α,none⟩ ncc).run P w=.ok () w'/\dL G w w'/\(∀b o,G b o->F b o)/\aD.own w' [.slice (some ⟨b,off,none⟩) l'.length cap] l' F'/\∀b o,F' b o->F b o:=by
 obtain⟨ad,c,e,k1,k2,k3⟩:=(show E1 w [_] l F from h)
 simp at e
 obtain⟨rfl,rfl⟩:=e
 rcases k3 with ⟨h0,_,_⟩ | ⟨b2,off2,Fs,h0,hrow,hel,hd1,hd2,hFF⟩
 ·cases h0
 simp at h0
 obtain⟨rfl,rfl⟩:=h0
 have hmul:a * aD.n α+k * aD.n α<=cap * aD.n α:=by rw [<-fU];exact oW _ hak
 obtain⟨w',hst,hkp,hws,hcell⟩:=kC (b:=b) P ncc w (off+a * aD.n α) 0 hone (fun q _ hq=>hrow _ ⟨rfl,by omega,by omega⟩)
 refine⟨w',_,dK b off (cap * aD.n α),hst,hkp,fun b' o' p=>(hFF b' o').2 (.inl ?_),?_,fun b' o' p=>(hFF b' o').2 (.inl p)⟩
 ·obtain⟨e1,e2,e3⟩:=p;exact⟨e1,by omega,by omega⟩
 ·refine⟨_,cap,rfl,by omega,k2,.inr ⟨b,off,fun _=>F0,rfl,fun o' ho'=>⟨hkp.stay b o' (hrow o' ho').1,(hkp.wR b o' (iS (hrow o' ho').1)).trans (hrow o' ho').2⟩,fun i hi=>?_,fun _ _ _ _ _ _ _ h _=>h,fun _ _ _ _ h _=>h,fun b' o=>by simp [F0]⟩⟩
  rcases hr i l'[i] (fT hi) with ⟨g1,g2,g3⟩ | ⟨g1,g2⟩
  ·refine⟨DL ncc (aD.n α) (i - a),?_,Flat.own_of g3⟩
   intro j v hj
   have hlt:=(iE.1 hj).1
   rw [aCP hk (by omega)] at hlt
   rw [oL hlt] at hj
   have:=hcell _ v hj
   have hi2:i * aD.n α=a * aD.n α+(i - a) * aD.n α:=by rw [<-fU];congr 1;omega
   rw [show off+i * aD.n α+j=off+a * aD.n α+0+((i - a) * aD.n α+j) from by omega];exact this
  ·obtain⟨hi0,hx⟩:=iE.1 g2
   obtain⟨ec,c1,c2⟩:=hel i hi0
   have hrd:=aD.own_rd c2
   have hn:=aD.jM hrd
   refine⟨ec,?_,hx ▸ Flat.own_of hrd⟩
   intro j v hj
   have hlt:=(iE.1 hj).1
   have hc:=c1 j v hj
   have hi2:(i+1) * aD.n α=i * aD.n α+aD.n α:=by rw [fU];omega
   rw [hkp.cell b (off+i * aD.n α+j) (World.block_lt_of_cell? w _ hc) (fun hh=>by
    obtain⟨_,e2,e3⟩:=hh
    rw [hk] at e3
    rcases g1 with g1 | g1
    ·have:(i+1) * aD.n α<=a * aD.n α:=oW _ (by omega)
     omega
    ·have:(a+k) * aD.n α<=i * aD.n α:=oW _ g1
     rw [fU] at this
     omega)]
   exact hc
noncomputable section
variable {v:Value} {i j:Int} {P:Program} {o:Oper} {e:Env} {w w':World} {c:Ctx} {L:List Chunk} {R:List Fact} {x y z:Operand} {t t2 el:TypeId}
theorem aPQ{α:Type}[aD α][Flat α]{s s2:Value}{l xs:List α}{n a:Nat}(m:Nat)(hS:St c w L R)(hm:L[m]?=some (aZ [s] l))(hsrc:aD.rd (MT w) w [s2] xs)(hn:aD.n α=n)(ha:a<=l.length)(hu:P.underlying t=some (.slice el))(hz:∀w,(sizeOf el).run P w=.ok n w)
  (ho:o.op=.call {callee:=.builtin .copy,args:=#[x,y],argTypes:=#[t,t2]}) (hx:ev e x=some (gO n a l.length s)) (hy:ev e y=some s2) :
  ∃v w',dM P o e w v w'/\(v=.int .i64 ((min xs.length (l.length - a):Nat):Int)/\St c w' (L.set m (aZ [s] (cM l a xs))) R):=by
 subst hn
 obtain⟨ad2,c2,cc2,rfl,hl2,hc2,hr2⟩:=IM hsrc
 obtain⟨F,hF⟩:=hS.chunk m hm
 have hF:aD.own w [s] l F:=hF
 obtain⟨ad,cap,rfl,hlc⟩:=IF hF
 have hk:(cc2.take (min xs.length (l.length - a) * aD.n α)).length=min xs.length (l.length - a) * aD.n α:=by
  have:min xs.length (l.length - a) * aD.n α<=xs.length * aD.n α:=oW _ (by omega)
  rw [AL];omega
 have hfirst:(Builtin.firstCells (aD.n α) (min xs.length (l.length - a)) (.slice ad2 xs.length c2)).run P w=.ok (cc2.take (min xs.length (l.length - a) * aD.n α)).toArray w:=by
  rcases hc2 with h | ⟨b,off,rfl,h⟩
  ·subst h
   have h0:cc2=[]:=lM (by rw [hl2];simp)
   subst h0
   cases ad2 <;> simp [Builtin.firstCells,loadCells,loadCellsFrom]
  ·have hsub:aV w b off (cc2.take (min xs.length (l.length - a) * aD.n α)):=fun j v hj=>by
    rw [DK] at hj
    split at hj
    ·exact h j v hj
    ·cases hj
   have:=oX hsub P
   rw [hk] at this
   simp [Builtin.firstCells,this]
 have hone:∀v∈cc2.take (min xs.length (l.length - a) * aD.n α),v.oneCell'=true:=fun v hv=>aBO hl2 hr2 v (List.mem_of_mem_take hv)
 have hexec:∀(w':World),(Builtin.copy_ #[t,t2] o.type #[gO (aD.n α) a l.length (.slice ad l.length cap),.slice ad2 xs.length c2]).run P w=.ok (.int .i64 ((min xs.length (l.length - a):Nat):Int)) w'->dM P o e w (.int .i64 ((min xs.length (l.length - a):Nat):Int)) w':=by
  intro w' h _ a' hA
  simp [execOp,ho,resolve,invoke,builtin,hA.eval hx,hA.eval hy,h]
 have hmn:Nat.min xs.length (l.length - a)=min xs.length (l.length - a):=rfl
 obtain⟨ad',cap',he,_,_,hrest⟩:=(show E1 w [_] l F from hF)
 simp at he
 obtain⟨rfl,rfl⟩:=he
 by_cases h0:min xs.length (l.length - a)=0
 ·
  have hsame:cM l a xs=l:=by
   unfold cM
   by_cases h1:xs.length=0
   ·have:xs=[]:=lM h1
    subst this;simp
   ·have h2:l.length=a:=by omega
    rw [<-h2];simp
  rw [hsame]
  have hcz:cc2.take (min xs.length (l.length - a) * aD.n α)=[]:=by rw [h0];simp
  rw [hcz] at hfirst
  refine⟨_,w,hexec _ ?_,rfl,?_⟩
  ·rw [h0] at hfirst ⊢
   have hmn0:Nat.min xs.length (l.length - a)=0:=h0
   cases ad with
   | none=>simp [Builtin.copy_,run_underlying hu,gO,Builtin.lenOf,hz,hmn0,hfirst,goInt]
   | some a0 =>
    by_cases hca:cap=a
    ·simp [Builtin.copy_,run_underlying hu,gO,hca,Builtin.lenOf,hz,hmn0,hfirst,goInt,storeCells]
    ·simp [Builtin.copy_,run_underlying hu,gO,hca,Builtin.lenOf,hz,hmn0,hfirst,goInt,storeCells]
  ·refine hS.VU m hm fun F hF=>⟨F,F0,dL.refl _ _,fun _ _ h=>h.elim,hF,fun _ _ h=>.inl h⟩
 ·have hca:cap≠a:=by omega
  rcases hrest with ⟨_,hc0,_⟩ | ⟨b,off,Fs,rfl,_⟩
  ·omega
  have hadd:(⟨b,off,none⟩:Addr).add (a * aD.n α)=⟨b,off+a * aD.n α,none⟩:=by
   unfold Addr.add;split
   ·rename_i hq;rw [hq];rfl
   ·rfl
  have hbl:=M0 P (S:=MT w) (w0:=w) (a:=a) (k:=min xs.length (l.length - a)) (l':=cM l a xs) hF (eQ ha) hk (by omega) hone (fun i x hx=>by
   rcases SQ ha hx with ⟨g1,g2,g3⟩ | g
   ·refine .inl ⟨g1,g2,?_⟩
    have hs:DL (cc2.take (min xs.length (l.length - a) * aD.n α)) (aD.n α) (i - a)=DL cc2 (aD.n α) (i - a):=by
     apply VO
     intro p
     by_cases hp:p < aD.n α
     ·have:(i - a+1) * aD.n α<=min xs.length (l.length - a) * aD.n α:=oW _ (by omega)
      rw [fU] at this
      rw [oL hp,oL hp,DK,if_pos (by omega)]
     ·rw [A7 (by unfold DL;simp;omega),A7 (by unfold DL;simp;omega)]
    rw [hs];exact hr2 _ x g3
   ·exact .inr g)
  obtain⟨w',G,F',hst,hkp,hGF,hown,hFF⟩:=hbl
  refine⟨_,w',hexec w' ?_,rfl,?_⟩
  ·simp [Builtin.copy_,run_underlying hu,gO,hca,Builtin.lenOf,hz,hmn,hfirst,hadd,hst,goInt]
  ·refine hS.VU m hm fun F2 hF2=>?_
   have hF2:aD.own w [.slice (some ⟨b,off,none⟩) l.length cap] l F2:=hF2
   have hbl2:=M0 P (S:=MT w) (w0:=w) (a:=a) (k:=min xs.length (l.length - a)) (l':=cM l a xs) hF2 (eQ ha) hk (by omega) hone (fun i x hx=>by
    rcases SQ ha hx with ⟨g1,g2,g3⟩ | g
    ·refine .inl ⟨g1,g2,?_⟩
     have hs:DL (cc2.take (min xs.length (l.length - a) * aD.n α)) (aD.n α) (i - a)=DL cc2 (aD.n α) (i - a):=by
      apply VO
      intro p
      by_cases hp:p < aD.n α
      ·have:(i - a+1) * aD.n α<=min xs.length (l.length - a) * aD.n α:=oW _ (by omega)
       rw [fU] at this
       rw [oL hp,oL hp,DK,if_pos (by omega)]
      ·rw [A7 (by unfold DL;simp;omega),A7 (by unfold DL;simp;omega)]
     rw [hs];exact hr2 _ x g3
    ·exact .inr g)
   obtain⟨w2,G2,F3,hst2,hkp2,hGF2,hown2,hFF2⟩:=hbl2
   rw [hst] at hst2
   cases hst2
   rw [eQ ha] at hown2
   exact⟨F3,G2,hkp2,hGF2,hown2,fun b' o' p=>.inl (hFF2 b' o' p)⟩
theorem aT2{α:Type}[aD α]{w:World}{s:Value}{l:List α}{F:cB}{n:Nat}(h:aD.own w [s] l F):gO n 0 l.length s=s:=by
 obtain⟨ad,c,rfl,_⟩:=IF h
 obtain⟨ad',c',e,_,_,k3⟩:=kD.1 h
 simp at e
 obtain⟨rfl,rfl⟩:=e
 rcases k3 with ⟨rfl,rfl,_⟩ | ⟨b,off,cc,Fe,rfl,_⟩
 ·simp [gO]
 ·have hadd:(⟨b,off,none⟩:Addr).add (0 * n)=⟨b,off,none⟩:=by
   unfold Addr.add;split
   ·rfl
   ·rename_i hq;simp at hq
  simp only [gO,KC,hadd,Nat.sub_zero,ite_self]
theorem aT3{α:Type}[aD α][Flat α]{s s2:Value}{l xs:List α}{n:Nat}(m:Nat)(hS:St c w L R)(hm:L[m]?=some (aZ [s] l))(hsrc:aD.rd (MT w) w [s2] xs)(hn:aD.n α=n)(hu:P.underlying t=some (.slice el))(hz:∀w,(sizeOf el).run P w=.ok n w)
  (ho:o.op=.call {callee:=.builtin .copy,args:=#[x,y],argTypes:=#[t,t2]}) (hx:ev e x=some s) (hy:ev e y=some s2) :
  ∃v w',dM P o e w v w'/\(v=.int .i64 ((min xs.length (l.length - 0):Nat):Int)/\St c w' (L.set m (aZ [s] (cM l 0 xs))) R):=by
 obtain⟨F,hF⟩:=hS.chunk m hm
 exact aPQ m hS hm hsrc hn (jK _) hu hz ho (by rw [aT2 (show aD.own w [s] l F from hF)];exact hx) hy
end
end Go.Gv
end
noncomputable section
namespace Go.Gv
theorem idx_eq{α:Type}{l:List α}{i:Int}(h0:0<=i)(h1:i < l.length):idx l i=some (l[i.toNat]'(by omega)):=by
 unfold idx;rw [if_pos h0,fT (by omega)]
theorem aP{α:Type}{l:List α}{k:Nat}(h1:k < l.length):idx l (k:Int)=some l[k]:=by
 unfold idx;rw [if_pos (by omega)];simp [fT h1]
theorem aK{α:Type}{p:Prop}[Decidable p](h:p)(k:Option α):need p k=k:=by unfold need;rw [if_pos h]
theorem IQ{x:Int}(h:-9223372036854775808<=x/\x<=9223372036854775807):aX x=x:=by
 simp [aX,IntKind.wrap,IntKind.bits,IntKind.signed];split <;> omega
theorem lG{x:Nat}(h:x < maxLen):aX ((x:Int)+1)=((x+1:Nat):Int):=by
 have h2:x < 9223372036854775807:=h
 rw [IQ (by omega)];rfl
theorem aIN{ρ:Type}{f:Int->Option (Step Int ρ)}(n:Nat)(g:Nat->ρ)
  (h:∀k:Nat,k<=n->f k=some (.stop (g k))\/(k < n/\f k=some (.next ((k+1:Nat):Int))/\g k=g (k+1))):∀k:Nat,k<=n->loop f (k:Int)=some (g k):=by
 intro k hk
 obtain⟨d,rfl⟩:∃d,n=k+d:=⟨n - k,by omega⟩
 induction d generalizing k with
 | zero =>
  rcases h k hk with h1 | ⟨h1,_⟩
  ·exact bG h1
  ·omega
 | succ d ih =>
  rcases h k hk with h1 | ⟨h1,h2,h3⟩
  ·exact bG h1
  ·rw [bQ h2,h3]
   have e:k+(d+1)=(k+1)+d:=by omega
   rw [e] at h
   exact ih (k+1) h (by omega)
theorem IS{α:Type}{l:List α}{k:Nat}(h:k < l.length)(hm:l.length<=maxLen):k < maxLen:=by omega
end Go.Gv
end
noncomputable section
namespace Go.Gv
noncomputable section
variable {v:Value} {i j:Int} {P:Program} {o:Oper} {e:Env} {w w':World} {c:Ctx} {L:List Chunk} {R:List Fact} {x y z:Operand} {t t2 el:TypeId}
theorem M1{b off n:Nat}:(⟨b,off,none⟩:Addr).add n=⟨b,off+n,none⟩:=by
 unfold Addr.add;split
 ·rename_i hq;rw [hq];rfl
 ·rfl
theorem X4{α:Type}[aD α]{s:Value}{l:List α}{F:cB}(h:aD.own w [s] l F):∃ad cap cc,s=.slice ad l.length cap/\l.length<=cap/\cc.length=l.length * aD.n α/\((ad=none/\cap=0/\l=[])\/∃b off,ad=some ⟨b,off,none⟩/\aV w b off cc)/\∀i x,l[i]?=some x->aD.rd (MT w) w (DL cc (aD.n α) i) x:=by
 have hr:aD.rd (MT w) w [s] l:=aD.rd_mono (aD.own_rd h) fun b o hf=>aD.own_lt h hf
 obtain⟨ad,cap,cc,rfl,h1,h2,h3⟩:=IM hr
 obtain⟨ad',cap',e,k1,k2,k3⟩:=kD.1 h
 simp at e
 obtain⟨rfl,rfl⟩:=e
 refine⟨ad,cap,cc,rfl,k1,h1,?_,h3⟩
 rcases k3 with ⟨rfl,rfl,_⟩ | ⟨b,off,cc2,Fe,rfl,_⟩
 ·exact .inl ⟨rfl,rfl,lM (by omega)⟩
 ·right
  rcases h2 with h2 | ⟨b2,off2,h2,h4⟩
  ·subst h2
   have:cc=[]:=lM (by rw [h1];simp)
   subst this
   exact⟨b,off,rfl,fun j v hj=>by simp at hj⟩
  ·exact⟨b2,off2,h2,h4⟩
theorem aNM{α:Type}[aD α][Flat α]{s:Value}{l:List α}{n a b:Nat}(m:Nat)(hS:St c w L R)(hm:L[m]?=some (aZ [s] l))(hn:aD.n α=n)(hab:a<=b)(hb:b<=l.length)(hu:P.underlying t=some (.slice el))(hz:∀w,(sizeOf el).run P w=.ok n w)
  (ho:o.op=.call {callee:=.builtin .append,args:=#[x,y],argTypes:=#[t,t]}) (hx:ev e x=some (gO n 0 a s)) (hy:ev e y=some (gO n b l.length s)) :
  ∃v w',dM P o e w v w'/\(v=gO n 0 (a+(l.length - b)) s/\St c w' (L.set m (aZ [s] (cM l a (l.drop b)))) R):=by
 subst hn
 obtain⟨F,hF⟩:=hS.chunk m hm
 have hF:aD.own w [s] l F:=hF
 obtain⟨ad,cap,cc,rfl,hlc,hcc,had,hrd⟩:=X4 hF
 have hexec:∀(v:Value) (w':World),(Builtin.append_ #[t,t] o.type #[gO (aD.n α) 0 a (.slice ad l.length cap),gO (aD.n α) b l.length (.slice ad l.length cap)]).run P w=.ok v w'->dM P o e w v w':=by
  intro v w' h _ a' hA
  simp [execOp,ho,resolve,invoke,builtin,hA.eval hx,hA.eval hy,h]
 rcases had with ⟨rfl,rfl,rfl⟩ | ⟨bl,off,rfl,hcells⟩
 ·have ha:a=0:=by simp at hb;omega
  have hb0:b=0:=by simpa using hb
  subst ha;subst hb0
  refine⟨_,w,hexec (gO (aD.n α) 0 0 (.slice none 0 0)) w ?_,rfl,?_⟩
  ·simp [Builtin.append_,run_underlying hu,gO,Builtin.lenOf,hz,Builtin.firstCells]
  ·have:cM ([]:List α) 0 (([]:List α).drop 0)=[]:=rfl
   rw [this]
   exact hS.VU m hm fun F hF=>⟨F,F0,dL.refl _ _,fun _ _ h=>h.elim,hF,fun _ _ h=>.inl h⟩
 ·
  have hk:(cc.drop (b * aD.n α)).length=(l.length - b) * aD.n α:=by
   rw [GV,hcc,Nat.sub_mul]
  have hfirst:∀q,(Builtin.firstCells (aD.n α) (l.length - b) (.slice (if cap=b then some ⟨bl,off,none⟩ else some ⟨bl,off+b * aD.n α,none⟩) (l.length - b) q)).run P w=.ok (cc.drop (b * aD.n α)).toArray w:=by
   intro q
   by_cases h0:l.length - b=0
   ·have:cc.drop (b * aD.n α)=[]:=lM (by rw [hk,h0];simp)
    rw [this,h0]
    split <;> simp [Builtin.firstCells,loadCells,loadCellsFrom]
   ·have hcb:cap≠b:=by omega
    rw [if_neg hcb]
    refine DV (α:=α) hk (.inr ⟨bl,off+b * aD.n α,rfl,fun p v hp=>?_⟩)
    rw [QY] at hp
    have:=hcells _ v hp
    rw [show off+b * aD.n α+p=off+(b * aD.n α+p) from by omega];exact this
  have hone:∀v∈cc.drop (b * aD.n α),v.oneCell'=true:=fun v hv=>aBO hcc hrd v (aCF hv)
  have hdl:(l.drop b).length=l.length - b:=GV
  have hget:∀i x,(cM l a (l.drop b))[i]?=some x->(a<=i/\i < a+(l.length - b)/\aD.rd (MT w) w (DL (cc.drop (b * aD.n α)) (aD.n α) (i - a)) x)\/((i < a\/a+(l.length - b)<=i)/\l[i]?=some x):=by
   intro i x hx
   have hmin:min (l.drop b).length (l.length - a)=l.length - b:=by rw [hdl];omega
   rcases SQ (by omega) hx with ⟨g1,g2,g3⟩ | ⟨g1,g2⟩
   ·rw [hmin] at g2
    refine .inl ⟨g1,g2,?_⟩
    rw [QY] at g3
    have hs:DL (cc.drop (b * aD.n α)) (aD.n α) (i - a)=DL cc (aD.n α) (b+(i - a)):=by
     unfold DL;rw [aHB,fU]
    rw [hs];exact hrd _ x g3
   ·rw [hmin] at g1;exact .inr ⟨g1,g2⟩
  have hroom:a+(l.length - b)<=cap:=by omega
  obtain⟨w',G,F',hst,hkp,hGF,hown,hFF⟩:=M0 P (S:=MT w) (w0:=w) (a:=a) (k:=l.length - b) (l':=cM l a (l.drop b)) hF (eQ (by omega)) hk hroom hone hget
  have hv1:gO (aD.n α) 0 a (.slice (some ⟨bl,off,none⟩) l.length cap)=.slice (some ⟨bl,off,none⟩) a cap:=by
   simp only [gO,KC,Nat.zero_mul,M1,KB,Nat.sub_zero,ite_self]
  have hv2:gO (aD.n α) b l.length (.slice (some ⟨bl,off,none⟩) l.length cap)=.slice (if cap=b then some ⟨bl,off,none⟩ else some ⟨bl,off+b * aD.n α,none⟩) (l.length - b) (cap - b):=by
   simp only [gO,KC,M1]
  have hv3:gO (aD.n α) 0 (a+(l.length - b)) (.slice (some ⟨bl,off,none⟩) l.length cap)=.slice (some ⟨bl,off,none⟩) (a+(l.length - b)) cap:=by
   simp only [gO,KC,Nat.zero_mul,M1,KB,Nat.sub_zero,ite_self]
  refine⟨_,w',hexec (.slice (some ⟨bl,off,none⟩) (a+(l.length - b)) cap) w' ?_,hv3.symm,?_⟩
  ·rw [hv1,hv2]
   simp [Builtin.append_,run_underlying hu,Builtin.lenOf,hz,hfirst,hroom,M1,hst]
  ·refine hS.VU m hm fun F2 hF2=>?_
   have hF2:aD.own w [.slice (some ⟨bl,off,none⟩) l.length cap] l F2:=hF2
   obtain⟨w2,G2,F3,hst2,hkp2,hGF2,hown2,hFF2⟩:=M0 P (S:=MT w) (w0:=w) (a:=a) (k:=l.length - b) (l':=cM l a (l.drop b)) hF2 (eQ (by omega)) hk hroom hone hget
   rw [hst] at hst2
   cases hst2
   rw [eQ (by omega)] at hown2
   exact⟨F3,G2,hkp2,hGF2,hown2,fun b' o' p=>.inl (hFF2 b' o' p)⟩
theorem aT4{n a b k:Nat}{s:Value}(h:(∃len cap,s=.slice none len cap/\cap=0/\a=0)\/∃bl off len cap,s=.slice (some ⟨bl,off,none⟩) len cap):gO n a b (gO n 0 k s)=gO n a b s:=by
 rcases h with ⟨len,cap,rfl,rfl,rfl⟩ | ⟨bl,off,len,cap,rfl⟩
 ·simp [gO]
 ·simp only [gO,KC,Nat.zero_mul,M1,KB,Nat.sub_zero,ite_self]
theorem aT5{α:Type}[aD α]{s:Value}{l:List α}{F:cB}{n a b k:Nat}(h:aD.own w [s] l F)(hab:a<=b)(hb:b<=l.length):gO n a b (gO n 0 k s)=gO n a b s:=by
 obtain⟨ad,cap,cc,rfl,h1,h2,h3,h4⟩:=X4 h
 refine aT4 ?_
 rcases h3 with ⟨rfl,rfl,rfl⟩ | ⟨bl,off,rfl,_⟩
 ·exact .inl ⟨_,_,rfl,rfl,by simp at hb;omega⟩
 ·exact .inr ⟨bl,off,_,_,rfl⟩
theorem aNN{α:Type}[aD α]{s:Value}{l:List α}{n k':Nat}{k k2:IntKind}(m:Nat)(hS:St c w L R)(hm:L[m]?=some (aZ [s] l))(hn:aD.n α=n)(hu:P.underlying t=some (.slice el))(hz:∀w,(sizeOf el).run P w=.ok n w)(hb:0<=i/\i<=j/\j<=l.length)(ho:o.op=.slice t x (some y) (some z) none)(hx:ev e x=some (gO n 0 k' s))(hy:ev e y=some (.int k i))(hw:ev e z=some (.int k2 j)):dM P o e w (gO n i.toNat j.toNat s) w:=fun _ a hA=>by
 obtain⟨F,hF⟩:=hS.chunk m hm
 have hF:aD.own w [s] l F:=hF
 obtain⟨b0,b1,b2⟩:=hb
 rw [<-aT5 (k:=k') hF (show i.toNat<=j.toNat by omega) (by omega)]
 obtain⟨ad,cp,rfl,hc⟩:=IF hF
 have h1:j<=(cp:Int):=by omega
 have h3:0<=j:=by omega
 have h2:max j 0=j:=by omega
 simp [execOp,ho,Instr.sliceAt,Instr.slice,run_underlying hu,Instr.sliceBounds,hA.eval hx,hA.eval hy,hA.eval hw,Instr.sliceBound,asIntOf,hz,b0,b1,h1,h2,h3,gO]
theorem aKU{zc:Array Value}{n k i:Nat}(hz:zc.size=n)(hi:i < k):DL (Builtin.zeroCells zc k).toList n i=zc.toList:=by
 have hmul:(i+1) * n<=k * n:=oW n (by omega)
 rw [fU] at hmul
 apply VO
 intro p
 by_cases hp:p < n
 ·have h1:i * n+p < k * zc.size:=by rw [hz];omega
  have hmod:(i * n+p) % zc.size=p:=by rw [hz,Nat.mul_comm,Nat.mul_add_mod,Nat.mod_eq_of_lt hp]
  have hp':p < zc.size:=by omega
  rw [oL hp]
  simp [Builtin.zeroCells,Array.getElem?_range,h1,hmod,hp']
 ·rw [A7 (by unfold DL;simp;omega),A7 (by simp;omega)]
theorem aT6{α:Type}[aD α][Flat α]{s zv:Value}{l:List α}{n a b:Nat}(zd:α)(m:Nat)(hS:St c w L R)(hm:L[m]?=some (aZ [s] l))(hn:aD.n α=n)(hab:a<=b)(hb:b<=l.length)(hu:P.underlying t=some (.slice el))(hinf:QW P el n zv)(hzs:zv.cells.size=n)(hzd:∀w,aD.rd F0 w zv.cells.toList zd)(hone:∀v∈zv.cells.toList,v.oneCell'=true)
  (ho:o.op=.call {callee:=.builtin .clear,args:=#[x],argTypes:=#[t]}) (hx:ev e x=some (gO n a b s)) :
  ∃v w',dM P o e w v w'/\(v=.tuple #[]/\St c w' (L.set m (aZ [s] (cM l a (List.replicate (b - a) zd)))) R):=by
 subst hn
 obtain⟨ti,hti,hz,hsz,hby⟩:=hinf
 obtain⟨F,hF⟩:=hS.chunk m hm
 have hF:aD.own w [s] l F:=hF
 obtain⟨ad,cap,cc,rfl,hlc,hcc,had,hrd⟩:=X4 hF
 have hexec:∀(w':World),(Builtin.clear_ #[t] o.type #[gO (aD.n α) a b (.slice ad l.length cap)]).run P w=.ok (.tuple #[]) w'->dM P o e w (.tuple #[]) w':=by
  intro w' h _ a' hA
  simp [execOp,ho,resolve,invoke,builtin,hA.eval hx,h]
 by_cases h0:b - a=0
 ·have hsame:cM l a (List.replicate (b - a) zd)=l:=by rw [h0];simp [cM]
  rw [hsame]
  refine⟨_,w,hexec w ?_,rfl,hS.VU m hm fun F hF=>⟨F,F0,dL.refl _ _,fun _ _ h=>h.elim,hF,fun _ _ h=>.inl h⟩⟩
  rcases had with ⟨rfl,rfl,rfl⟩ | ⟨bl,off,rfl,_⟩
  ·by_cases ha0:0=a <;> simp [Builtin.clear_,run_underlying hu,gO,ha0]
  ·by_cases hca:cap=a <;> simp [Builtin.clear_,run_underlying hu,gO,hca,h0]
 ·rcases had with ⟨rfl,rfl,rfl⟩ | ⟨bl,off,rfl,hcells⟩
  ·simp at hb;omega
  have hca:cap≠a:=by omega
  have hk:(Builtin.zeroCells zv.cells (b - a)).toList.length=(b - a) * aD.n α:=by
   have:=size_zeroCells (zv.cells) (b - a)
   simp only [Array.length_toList];rw [this,hzs]
  have hone2:∀v∈(Builtin.zeroCells zv.cells (b - a)).toList,v.oneCell'=true:=by
   intro v hv
   obtain⟨p,hp,rfl⟩:=TX.1 hv
   have hn0:0 < aD.n α:=by rcases Nat.eq_zero_or_pos (aD.n α) with h | h;rw [hk,h] at hp;omega;exact h
   have hp2:p < (b - a) * aD.n α:=by rw [<-hk];exact hp
   have hi:p / aD.n α < b - a:=Nat.div_lt_of_lt_mul (by rw [Nat.mul_comm];exact hp2)
   have hs:=aKU (k:=b - a) hzs hi
   have hpe:p / aD.n α * aD.n α+p % aD.n α=p:=by rw [Nat.mul_comm];exact Nat.div_add_mod p (aD.n α)
   have hg:=oL (cc:=(Builtin.zeroCells zv.cells (b - a)).toList) (n:=aD.n α) (i:=p / aD.n α) (j:=p % aD.n α) (Nat.mod_lt _ hn0)
   rw [hs,hpe,fT hp] at hg
   exact hone _ (tP hg)
  have hget:∀i x,(cM l a (List.replicate (b - a) zd))[i]?=some x->(a<=i/\i < a+(b - a)/\aD.rd F0 w (DL (Builtin.zeroCells zv.cells (b - a)).toList (aD.n α) (i - a)) x)\/((i < a\/a+(b - a)<=i)/\l[i]?=some x):=by
   intro i x hx
   have hmin:min (List.replicate (b - a) zd).length (l.length - a)=b - a:=by simp;omega
   rcases SQ (by omega) hx with ⟨g1,g2,g3⟩ | ⟨g1,g2⟩
   ·rw [hmin] at g2
    rw [List.getElem?_replicate,if_pos (by omega)] at g3
    simp at g3;subst g3
    refine .inl ⟨g1,g2,?_⟩
    rw [aKU hzs (by omega)];exact hzd w
   ·rw [hmin] at g1;exact .inr ⟨g1,g2⟩
  obtain⟨w',G,F',hst,hkp,hGF,hown,hFF⟩:=M0 P (S:=F0) (w0:=w) (a:=a) (k:=b - a) (l':=cM l a (List.replicate (b - a) zd)) hF (eQ (by omega)) hk (by omega) hone2 hget
  refine⟨_,w',hexec w' ?_,rfl,?_⟩
  ·obtain⟨q,hq⟩:∃q,b - a=q+1:=⟨b - a - 1,by omega⟩
   rw [hq] at hst
   simp [Builtin.clear_,run_underlying hu,gO,hca,hq,M1,zeroValue,typeInfo,hti,hz,hst]
  ·refine hS.VU m hm fun F2 hF2=>?_
   have hF2:aD.own w [.slice (some ⟨bl,off,none⟩) l.length cap] l F2:=hF2
   obtain⟨w2,G2,F3,hst2,hkp2,hGF2,hown2,hFF2⟩:=M0 P (S:=F0) (w0:=w) (a:=a) (k:=b - a) (l':=cM l a (List.replicate (b - a) zd)) hF2 (eQ (by omega)) hk (by omega) hone2 hget
   rw [hst] at hst2
   cases hst2
   rw [eQ (by omega)] at hown2
   exact⟨F3,G2,hkp2,hGF2,hown2,fun b' o' p=>.inl (hFF2 b' o' p)⟩
end
end Go.Gv
end
noncomputable section
namespace Go.Gv
structure AC where
 a:Option Addr
 c:Nat
abbrev AC.v(s:AC)(n:Nat):Value:=.slice s.a n s.c
inductive SV where
 | i (k:IntKind) (x:Int)
 | y (b:UInt8)
 | b (c:Bool)
 | l (c:Bool)
 | s (l:List UInt8)
 | p (n o:Nat)
 | h (s:AC) (n:Nat)
 | e (s:AC) (n i o:Nat)
 | k (x:Value)
 | g (cs:List SV)
 | t (cs:List SV)
 | f (f:FuncId) (cs:List Nat)
 | u
abbrev SE:=List (Nat×SV)
inductive Ch where
 | box (n:Nat) (cs:List SV)
 | ro (n:Nat) (cs:List SV)
 | o (c:Chunk)
 | f (f:Fact)
 | no
 | w (n b z:Nat)
inductive TK where
 | i (k:IntKind)
 | b
 | st (fs:List (Nat×Nat))
 | s
 | sl (el:Nat)
 | x
structure TI where
 d:TK
 a:Bool
 n:Nat
 z:List SV
abbrev TT:=List (Nat×TI)
def AQ:TT->Nat->Option TI
 | [],_=>none
 | (k, v) :: r, n => match Nat.beq n k with
  | true=>some v
  | false=>AQ r n
def A8:SE->Nat->Option SV
 | [],_=>none
 | (k, v) :: r, n => match Nat.beq n k with
  | true=>some v
  | false=>A8 r n
def aR{α β:Type}(f:α->Option β):List α->Option (List β)
 | []=>some []
 | x :: r => match f x with
  | none=>none
  | some y => match aR f r with
   | none=>none
   | some ys=>some (y :: ys)
def one?(v:Value):Option SV:=match v.oneCell' with
 | true=>some (.k v)
 | false=>none
def aT7(n:Nat):Option SV:=match Nat.blt n 256 with
 | true=>some (.y (UInt8.ofNat n))
 | false=>none
def ofC:Value->Option SV
 | .int .u8 (.ofNat n)=>aT7 n
 | .int k n=>some (.i k n)
 | .bool c=>some (.l c)
 | .string s=>some (.s s.data.toList)
 | .slice a n c=>some (.h ⟨a,c⟩ n)
 | .agg _=>none
 | v=>one? v
def hU(e:SE):Operand->Option SV
 | .tmp t=>A8 e t
 | .const v=>ofC v
 | .global _=>none
 | .func f=>some (.f f [])
def sN:SV->Option (IntKind×Int)
 | .i k x=>some (k,x)
 | .y b=>some (.u8,(b.toNat:Int))
 | _=>none
def aYA(op:BinOp)(k:IntKind)(x y:Int)(yo:Operand):Option SV:=match op with
 | .add=>some (.i k (k.wrap (x+y)))
 | .sub=>some (.i k (k.wrap (x - y)))
 | .mul=>some (.i k (k.wrap (x * y)))
 | .lss=>some (.b (decide (x < y)))
 | .leq=>some (.b (decide (x<=y)))
 | .gtr=>some (.b (decide (y < x)))
 | .geq=>some (.b (decide (y<=x)))
 | .eql=>some (.b (x == y))
 | .neq=>some (.b (x != y))
 | .and=>some (.i k (gI .and k x y))
 | .or=>some (.i k (gI .or k x y))
 | .xor=>some (.i k (gI .xor k x y))
 | .andNot=>some (.i k (gI .andNot k x y))
 | .quo => match yo with
  | .const (.int _ (.ofNat (_+1)))=>some (.i k (k.wrap (x.tdiv y)))
  | .const (.int _ (.negSucc _))=>some (.i k (k.wrap (x.tdiv y)))
  | _=>none
 | .rem => match yo with
  | .const (.int _ (.ofNat (_+1)))=>some (.i k (x.tmod y))
  | .const (.int _ (.negSucc _))=>some (.i k (x.tmod y))
  | _=>none
 | _=>none
def shI(op:BinOp)(k:IntKind)(x y:Int)(yo:Operand):Option SV:=match op with
 | .shl => match yo with
  | .const (.int _ (.ofNat _))=>some (.i k (aCK k x y))
  | _=>none
 | .shr => match yo with
  | .const (.int _ (.ofNat _))=>some (.i k (nH k x y))
  | _=>none
 | _=>none
def aPR:SV->Option Bool
 | .b c=>some c
 | .l c=>some c
 | _=>none
def bin(T:TT)(op:BinOp)(t:TypeId)(x y:SV)(yo:Operand):Option SV:=
 match sN x,sN y with
 | some (k, a), some (k', c) => match op with
  | .shl=>shI op k a c yo
  | .shr=>shI op k a c yo
  | _ => match decEq k k' with
   | .isTrue _=>aYA op k a c yo
   | .isFalse _=>none
 | _, _ => match x, y with
  | .s a, .s c => match op with
   | .eql=>some (.b (a == c))
   | .neq=>some (.b (!(a == c)))
   | _=>none
  | _, _ => match aPR x, aPR y, AQ T t with
   | some a, some c, some ⟨.b, _, _, _⟩ => match op with
    | .eql=>some (.b (a == c))
    | .neq=>some (.b (!(a == c)))
    | _=>none
   | _,_,_=>none
def conv(T:TT)(s t:TypeId)(x:SV):Option SV:=match AQ T s,AQ T t with
 | some _, some ⟨.i k', _, _, _⟩ => match x with
  | .i _ a => match k' with
   | .u8=>some (.y (u8 a))
   | _=>some (.i k' (k'.wrap a))
  | .y b => match k' with
   | .i64=>some (.i .i64 (b.toNat:Int))
   | _=>none
  | _=>none
 | _,_=>none
def aYB(T:TT)(t:TypeId)(ix:Nat):Option Nat:=match AQ T t with
 | some ⟨.st fs, _, _, _⟩ => match fs[ix]? with
  | some (o,_+1)=>some o
  | _=>none
 | _=>none
def aT8(T:TT)(t:TypeId)(x:SV)(ix:Nat):Option SV:=match x with
 | .p n o => match aYB T t ix with
  | some k=>some (.p n (o+k))
  | none=>none
 | .e s n i o => match aYB T t ix with
  | some k=>some (.e s n i (o+k))
  | none=>none
 | _=>none
def GW(n:Nat):List Ch->Option (List SV)
 | []=>none
 | .box k cs :: L => match Nat.beq n k with
  | true=>some cs
  | false=>GW n L
 | .ro k cs :: L => match Nat.beq n k with
  | true=>some cs
  | false=>GW n L
 | _ :: L=>GW n L
def frc{α:Type}:List α->Option (List α)
 | []=>some []
 | x :: r => match frc r with
  | some s=>some (x :: s)
  | none=>none
def nV:SV->List SV
 | .g cs=>cs
 | x=>[x]
def isCells:SV->Bool
 | .t _=>false
 | .f _ _=>false
 | .u=>false
 | _=>true
def aKV(T:TT)(t:TypeId)(p:SV)(L:List Ch):Option SV:=match p with
 | .p n o => match GW n L, AQ T t with
  | some cs, some ⟨_, true, m, _⟩ => match Nat.ble (o + m) cs.length with
   | true => match frc ((cs.drop o).take m) with
    | some ds=>some (.g ds)
    | none=>none
   | false=>none
  | some cs,some ⟨_,false,_,_⟩=>cs[o]?
  | _,_=>none
 | _=>none
def aYC(cs:List SV)(o:Nat):List SV->List SV
 | []=>cs
 | v :: vs=>aYC (cs.set o v) (o+1) vs
def ovw:List SV->Nat->List SV->List SV
 | [],_,_=>[]
 | c :: cs,n+1,vs=>c :: ovw cs n vs
 | c :: cs, 0, vs => match vs with
  | []=>c :: cs
  | v :: vs=>v :: ovw cs 0 vs
def aIO(e:SE)(fs:List (Nat×Nat)):List (Nat×Operand)->List SV->Option (List SV)
 | [],cs=>some cs
 | (ix, o) :: r, cs => match fs[ix]?, hU e o with
  | some (f, m), some v => match isCells v, Nat.beq (nV v).length m, Nat.ble (f + m) cs.length with
   | true, true, true => match frc (ovw cs f (nV v)) with
    | some cs'=>aIO e fs r cs'
    | none=>none
   | _,_,_=>none
  | _,_=>none
def aNO(T:TT)(e:SE)(t:TypeId)(ps:List (Nat×Operand)):Option SV:=match AQ T t with
 | some ⟨.st fs, true, _, z⟩ => match aIO e fs ps z with
  | some cs=>some (.g cs)
  | none=>none
 | _=>none
def a3I(k:TK)(x:SV):Option SV:=match x with
 | .h _ n => match k with
  | .sl _=>some (.i .i64 (n:Int))
  | _=>none
 | .s l => match k with
  | .s=>some (.i .i64 (l.length:Int))
  | _=>none
 | _=>none
def ev1(T:TT)(e:SE)(L:List Ch):Op->Option SV
 | .move x=>hU e x
 | .assign x=>hU e x
 | .nilCheck x => match hU e x with
  | some (.p n o)=>some (.p n o)
  | some (.e s n i o)=>some (.e s n i o)
  | some (.f f cs)=>some (.f f cs)
  | some (.k (.func (.func f) a b))=>some (.k (.func (.func f) a b))
  | _=>none
 | .pick c a b => match hU e c with
  | some (.l true)=>hU e a
  | some (.l false)=>hU e b
  | _=>none
 | .unOp .not _ x => match hU e x with
  | some (.b c)=>some (.b (!c))
  | some (.l c)=>some (.l (!c))
  | _=>none
 | .unOp .neg _ x => match hU e x with
  | some (.i k a)=>some (.i k (k.wrap (0 - a)))
  | _=>none
 | .binOp op t x y _ => match hU e x, hU e y with
  | some a,some b=>bin T op t a b y
  | _,_=>none
 | .convert s t x => match hU e x with
  | some a=>conv T s t a
  | none=>none
 | .extract x ix => match hU e x with
  | some (.t xs)=>xs[ix]?
  | _=>none
 | .fieldAddr t x ix => match hU e x with
  | some a=>aT8 T t a ix
  | none=>none
 | .load t p => match hU e p with
  | some a=>aKV T t a L
  | none=>none
 | .build t ps=>aNO T e t ps.toList
 | .call { callee := .builtin .len, args := ⟨[x]⟩, argTypes := ⟨[t]⟩ } => match hU e x, AQ T t with
  | some a,some ⟨k,_,_,_⟩=>a3I k a
  | _,_=>none
 | _=>none
abbrev Bl:=List (Nat×Nat)
inductive Fr where
 | s (y:Code)
 | k (id:Nat)
inductive tO where
 | n
 | c (x:Code)
 | r (ops:Array Oper) (l:List Oper)
 | d (B1:Bl) (ops:Array Oper) (l:List Bool) (is:List Nat) (Lf Lv:List Ch)
 | o (B1:Bl) (ops:Array Oper) (l:List Bool) (is:List Nat) (Lf Lv:List Ch) (i:Nat)
def tO.ext(Ln:List Ch):tO->tO
 | .d B1 ops l is Lf Lv=>.d B1 ops l is Lf (Lv++Ln)
 | .o B1 ops l is Lf Lv i=>.o B1 ops l is Lf (Lv++Ln) i
 | x=>x
inductive Stop where
 | ret (m:Nat) (e:SE) (L:List Ch)
 | fin (m:Nat) (e:SE) (L:List Ch)
 | ex (id m:Nat) (e:SE) (L:List Ch)
 | cond (o:Operand) (b:Bool) (x y:Code) (K:List Fr) (m:Nat) (e:SE) (L:List Ch)
 | case (b:Bool) (cf:tO) (K:List Fr) (m:Nat) (e:SE) (L:List Ch)
 | loop (id:Nat) (x:Code) (K:List Fr) (m:Nat) (e:SE) (L:List Ch)
 | idx (o:Oper) (d t:Nat) (s:AC) (n:Nat) (i:Int) (Lv:List Ch) (cf cf':tO) (K:List Fr) (m:Nat) (e:SE) (L:List Ch)
 | call (o:Oper) (d:Option Nat) (f:FuncId) (xs:List SV) (cf cf':tO) (K:List Fr) (m:Nat) (e:SE) (L:List Ch)
 | callp (o:Oper) (d:Option Nat) (f:FuncId) (xs:List SV) (cf cf':tO) (K:List Fr) (m:Nat) (e:SE) (L:List Ch)
 | opp (o:Oper) (Lv:List Ch) (cf cf':tO) (K:List Fr) (m:Nat) (e:SE) (L:List Ch)
 | op (o:Oper) (Lv:List Ch) (cf cf':tO) (K:List Fr) (m:Nat) (e:SE) (L:List Ch)
 | rgn (id:Nat) (ops:Array Oper) (K:List Fr) (m:Nat) (e:SE) (L:List Ch)
 | alt (cf:tO) (K:List Fr) (m:Nat) (e:SE) (L:List Ch)
 | stuck
def pop:List Fr->Option (Code×List Fr)
 | []=>none
 | .s y :: K=>some (y,K)
 | .k _ :: K=>pop K
def xit(id:Nat):List Fr->Option (List Fr)
 | []=>none
 | .s _ :: K=>xit id K
 | .k j :: K => match Nat.beq id j with
  | true=>some K
  | false=>xit id K
inductive Gd where
 | yes | no | ask (b:Bool) | bad
def zT (ops : Array Oper) (e : SE) : Option (Nat × Bool) -> Gd
 | none=>.yes
 | some (j, w) => match ops.toList[j]? with
  | some q => match q.dst with
   | some s => match A8 e s with
    | some (.l c) => match c, w with
     | true,true=>.yes
     | false,false=>.yes
     | _,_=>.no
    | some .u=>.no
    | some (.b c)=>.ask c
    | _=>.bad
   | none=>.bad
  | none=>.bad
def wQ(n:Nat)(cs:List SV):List Ch->List Ch
 | []=>[]
 | .box k c :: L => match Nat.beq n k with
  | true=>.box k cs :: L
  | false=>.box k c :: wQ n cs L
 | x :: L=>x :: wQ n cs L
def PH(n:Nat):List Ch->Bool
 | []=>false
 | .box k _ :: L => match Nat.beq n k with
  | true=>true
  | false=>PH n L
 | .ro k _ :: L => match Nat.beq n k with
  | true=>false
  | false=>PH n L
 | _ :: L=>PH n L
def UT (T : TT) (t : TypeId) (p v : SV) (L : List Ch) : Option (List Ch) := match p with
 | .p n o => match PH n L with
  | true => match GW n L, AQ T t with
   | some cs, some ⟨_, _, m, _⟩ => match isCells v, Nat.beq (nV v).length m, Nat.ble (o + m) cs.length with
    | true, true, true => match frc (ovw cs o (nV v)) with
     | some cs' => match frc (wQ n cs' L) with
      | some L'=>some L'
      | none=>none
     | none=>none
    | _,_,_=>none
   | _,_=>none
  | false=>none
 | _=>none
inductive Ef where
 | val (v:SV)
 | box (cs:List SV)
 | st (L:List Ch)
 | no
def eff(T:TT)(e:SE)(L:List Ch)(o:Op):Ef:=match ev1 T e L o with
 | some v=>.val v
 | none => match o with
  | .alloc t => match AQ T t with
   | some ⟨_,_,_,z⟩=>.box z
   | none=>.no
  | .box _ v => match hU e v with
   | some a => match isCells a with
    | true=>.box (nV a)
    | false=>.no
   | none=>.no
  | .store t p v => match hU e p, hU e v with
   | some a, some b => match UT T t a b L with
    | some L'=>.st L'
    | none=>.no
   | _,_=>.no
  | _=>.no
def vG(m:Nat):SV->Bool
 | .p n _=>Nat.blt n m
 | .g cs=>okC m cs
 | .t cs=>okT m cs
 | .f _ cs=>okF m cs
 | _=>true
where
 okC (m:Nat):List SV->Bool
  | []=>true
  | x :: r => match x with
   | .p n _ => match Nat.blt n m with
    | true=>okC m r
    | false=>false
   | .g _=>false
   | _=>okC m r
 okT (m:Nat):List SV->Bool
  | []=>true
  | x :: r => match x with
   | .p n _ => match Nat.blt n m with
    | true=>okT m r
    | false=>false
   | .g cs => match okC m cs with
    | true=>okT m r
    | false=>false
   | _=>okT m r
 okF (m:Nat):List Nat->Bool
  | []=>true
  | n :: r => match Nat.blt n m with
   | true=>okF m r
   | false=>false
def nb1:SV->SV
 | .l c=>.b c
 | x=>x
def nbL:List SV->List SV
 | []=>[]
 | x :: r=>nb1 x :: nbL r
def nbG:SV->SV
 | .g cs=>.g (nbL cs)
 | x=>nb1 x
def nbT:List SV->List SV
 | []=>[]
 | x :: r=>nbG x :: nbT r
def nbS:SV->SV
 | .t xs=>.t (nbT xs)
 | x=>nbG x
def nbA:List SV->List SV
 | []=>[]
 | x :: r => match x with
  | .f g []=>.k (.func (.func g) #[] #[]) :: nbA r
  | y=>nbG y :: nbA r
def okA:List SV->Bool
 | []=>true
 | x :: r => match vG 0 x with
  | true=>okA r
  | false=>false
def aYD(e:SE)(o:Oper)(Lv:List Ch)(cf cf':tO)(K:List Fr)(m:Nat)(L:List Ch):Op->Stop
 | .pick c _ _ => match hU e c with
  | some (.b b)=>.case b cf K m e L
  | _=>.stuck
 | .indexAddr t x y => match hU e x, hU e y, o.dst with
  | some (.h s n),some (.i .i64 i),some d=>.idx o d t s n i Lv cf cf' K m e L
  | _,_,_=>.op o Lv cf cf' K m e L
 | .call { callee := .value f, args, .. } => match hU e f, aR (hU e) args.toList with
  | some (.f g []), some xs => match okA (nbA xs) with
   | true=>.call o o.dst g (nbA xs) cf cf' K m e L
   | false=>.callp o o.dst g (nbA xs) cf cf' K m e L
  | _,_=>.op o Lv cf cf' K m e L
 | _=>.op o Lv cf cf' K m e L
def a1G(e:SE)(o:Oper)(Lv:List Ch)(cf cf':tO)(K:List Fr)(m:Nat)(L:List Ch):Op->Stop
 | .pick c _ _ => match hU e c with
  | some (.b b)=>.case b cf K m e L
  | _=>.stuck
 | .indexAddr t x y => match hU e x, hU e y, o.dst with
  | some (.h s n),some (.i .i64 i),some d=>.idx o d t s n i Lv cf cf' K m e L
  | _,_,_=>.opp o Lv cf cf' K m e L
 | _=>.opp o Lv cf cf' K m e L
def opS:Stop->Option (Oper×List Ch×tO×tO×List Fr×Nat×SE×List Ch)
 | .op o Lv cf cf' K m e L=>some (o,Lv,cf,cf',K,m,e,L)
 | .opp o Lv cf cf' K m e L=>some (o,Lv,cf,cf',K,m,e,L)
 | _=>none
def oY(n:Nat):Option Nat->Bool
 | none=>true
 | some d=>Nat.blt d n
def aT9:Ground->Bool
 | .textOnly _=>false
 | .gcOnly _=>false
 | _=>true
def LK(l:List Bool):List Edge->Bool
 | []=>true
 | ⟨on, g⟩ :: r => match aT9 g with
  | true => match l[on]? with
   | some true=>LK l r
   | _=>false
  | false=>LK l r
def ZE (l : List Bool) (i : Nat) : List Oper -> Nat -> Bool
 | [],_=>true
 | o :: r, j => match l[j]? with
  | some false => match Nat.beq j i with
   | true => match LK l o.after.toList with
    | true=>ZE l i r (j+1)
    | false=>false
   | false => match LK l o.after.toList with
    | true=>false
    | false=>ZE l i r (j+1)
  | some true=>ZE l i r (j+1)
  | none=>false
def aZ9:Op->Bool
 | .pick ..=>true
 | .indexAddr ..=>true
 | .index ..=>true
 | .binOp ..=>true
 | .slice ..=>true
 | .convert ..=>true
 | .call {callee:=.builtin .len,..}=>true
 | .call {callee:=.builtin .min,..}=>true
 | .call {callee:=.builtin .max,..}=>true
 | _=>false
inductive Ps where
 | fin (l:List Bool) (e:SE) (q:List (Nat×Oper))
 | ask (b:Bool) (l:List Bool) (e:SE)
 | pur (i:Nat) (o:Oper) (l:List Bool) (e:SE)
 | bad
def pass (T : TT) (n : Nat) (ops : Array Oper) (Lv : List Ch) : List Oper -> Nat -> List Bool -> SE -> List (Nat × Oper) -> Ps
 | [],_,l,e,q=>.fin l e q
 | o :: r, i, l, e, q => match l[i]? with
  | some true=>pass T n ops Lv r (i+1) l e q
  | some false => match LK l o.after.toList with
   | false=>pass T n ops Lv r (i+1) l e q
   | true => match zT ops e o.guard with
    | .bad=>.bad
    | .ask c=>.ask c l e
    | .no => match o.dst with
     | some d => match Nat.blt d n with
      | true=>pass T n ops Lv r (i+1) (l.set i true) ((d,.u) :: e) q
      | false=>.bad
     | none=>.bad
    | .yes => match ev1 T e Lv o.op with
     | some v => match o.dst with
      | some d => match Nat.blt d n with
       | true=>pass T n ops Lv r (i+1) (l.set i true) ((d,v) :: e) q
       | false=>.bad
      | none=>.bad
     | none => match aZ9 o.op with
      | true=>.pur i o l e
      | false=>pass T n ops Lv r (i+1) l e ((i,o) :: q)
  | none=>.bad
def tR(l:List Bool):List Oper->Nat->List Nat
 | [],_=>[]
 | o :: r, j => match l[j]? with
  | some false => match LK l o.after.toList with
   | true=>j :: tR l r (j+1)
   | false=>tR l r (j+1)
  | _=>tR l r (j+1)
def aYE:List Bool->Bool
 | []=>true
 | b :: l => match b with
  | true=>aYE l
  | false=>false
def aIP(n:Nat):List Ch->Nat->Nat
 | [],i=>i
 | .box k _ :: L, i => match Nat.beq n k with
  | true=>i
  | false=>aIP n L (i+1)
 | _ :: L,i=>aIP n L (i+1)
def fJ(i:Nat):List Nat->Bool
 | []=>true
 | j :: r => match Nat.beq i j with
  | true=>false
  | false=>fJ i r
def a1H(e:SE)(L:List Ch)(is:List Nat):Op->Bool
 | .store _ p _ => match hU e p with
  | some (.p n _)=>fJ (aIP n L 0) is
  | _=>false
 | _=>true
def VX (T : TT) (n : Nat) : Nat -> List Fr -> tO -> Nat -> SE -> List Ch -> Stop
 | 0,_,_,_,_,_=>.stuck
 | F + 1, K, .c x, m, e, L => match x with
  | .skip => match pop K with
   | some (y,K')=>VX T n F K' (.c y) m e L
   | none=>.fin m e L
  | .seq a b=>VX T n F (.s b :: K) (.c a) m e L
  | .block id b => match b with
   | .loop y=>.loop id y K m e L
   | b=>VX T n F (.k id :: K) (.c b) m e L
  | .exit id => match xit id K with
   | some K' => match pop K' with
    | some (y,K'')=>VX T n F K'' (.c y) m e L
    | none=>.fin m e L
   | none=>.ex id m e L
  | .ret=>.ret m e L
  | .cond o x y => match hU e o with
   | some (.l c) => match c with
    | true=>VX T n F K (.c x) m e L
    | false=>VX T n F K (.c y) m e L
   | some (.b c)=>.cond o c x y K m e L
   | _=>.stuck
  | .region id ops d => match d with
   | false=>VX T n F K (.r ops ops.toList) m e L
   | true=>.rgn id ops K m e L
  | _=>.stuck
 | F + 1, K, .n, m, e, L => match pop K with
  | some (y,K')=>VX T n F K' (.c y) m e L
  | none=>.fin m e L
 | F + 1, K, .r _ [], m, e, L => match pop K with
  | some (y,K')=>VX T n F K' (.c y) m e L
  | none=>.fin m e L
 | F + 1, K, .r ops (⟨dst, op, ty, ps, af, gd⟩ :: l), m, e, L => match zT ops e gd with
  | .bad=>.stuck
  | .ask c=>.case c (.r ops (⟨dst,op,ty,ps,af,gd⟩ :: l)) K m e L
  | .no => match dst with
   | some d => match Nat.blt d n with
    | true=>VX T n F K (.r ops l) m ((d,.u) :: e) L
    | false=>.stuck
   | none=>.stuck
  | .yes => match eff T e L op, dst with
   | .val v, some d => match Nat.blt d n with
    | true=>VX T n F K (.r ops l) m ((d,v) :: e) L
    | false=>.stuck
   | .box cs, some d => match Nat.blt d n with
    | true=>VX T n F K (.r ops l) (m+1) ((d,.p m 0) :: e) (L ++ [.box m cs])
    | false=>.stuck
   | .st L',none=>VX T n F K (.r ops l) m e L'
   | .no, _ => match oY n dst with
    | true=>aYD e ⟨dst,op,ty,ps,af,gd⟩ L (.r ops (⟨dst,op,ty,ps,af,gd⟩ :: l)) (.r ops l) K m L op
    | false=>.stuck
   | _,_=>.stuck
 | F + 1, K, .d B1 ops l is Lf Lv, m, e, L => match pass T n ops Lv ops.toList 0 l e [] with
  | .bad=>.stuck
  | .ask c l' e'=>.case c (.d B1 ops l' is Lf Lv) K m e' L
  | .pur i o l' e' => match oY n o.dst with
   | true=>a1G e' o Lv (.d B1 ops l' is Lf Lv) (.d B1 ops (l'.set i true) is Lf Lv) K m L o.op
   | false=>.stuck
  | .fin l' e' [] => match aYE l' with
   | true=>VX T n F K .n m e' L
   | false=>.stuck
  | .fin l' e' [(i, _)] => match ZE l' i ops.toList 0 with
   | true=>VX T n F K (.o B1 ops l' is Lf Lv i) m e' L
   | false=>.stuck
  | .fin l' e' _=>.alt (.d B1 ops l' is Lf Lv) K m e' L
 | F + 1, K, .o B1 ops l is Lf Lv i, m, e, L => match ops.toList[i]? with
  | some ⟨dst, op, ty, ps, af, gd⟩ => match LK l af.toList, l[i]?, zT ops e gd with
   | true, some false, .yes => match eff T e L op, dst with
    | .val v, some d => match Nat.blt d n with
     | true=>VX T n F K (.d B1 ops (l.set i true) is Lf Lv) m ((d,v) :: e) L
     | false=>.stuck
    | .box cs, some d => match Nat.blt d n with
     | true=>VX T n F K (.d B1 ops (l.set i true) is Lf Lv) (m+1) ((d,.p m 0) :: e) (L ++ [.box m cs])
     | false=>.stuck
    | .st L', none => match a1H e L is op with
     | true=>VX T n F K (.d B1 ops (l.set i true) is Lf Lv) m e L'
     | false=>.stuck
    | .no, _ => match oY n dst with
     | true=>aYD e ⟨dst,op,ty,ps,af,gd⟩ Lv (.o B1 ops l is Lf Lv i) (.d B1 ops (l.set i true) is Lf Lv) K m L op
     | false=>.stuck
    | _,_=>.stuck
   | _,_,_=>.stuck
  | none=>.stuck
def aRI:SE->Option SE
 | []=>some []
 | (k, v) :: r => match aRI r with
  | some s=>some ((k,v) :: s)
  | none=>none
def aRJ:List Ch->Option (List Ch)
 | []=>some []
 | x :: r => match aRJ r with
  | some s => match x with
   | .box n cs => match frc cs with
    | some ds=>some (.box n ds :: s)
    | none=>none
   | .ro n cs => match frc cs with
    | some ds=>some (.ro n ds :: s)
    | none=>none
   | y=>some (y :: s)
  | none=>none
def i7(T:TT)(n:Nat)(K:List Fr)(cf:tO)(m:Nat)(e:SE)(L:List Ch):Stop:=match aRI e,aRJ L with
 | some e',some L'=>VX T n 9999 K cf m e' L'
 | _,_=>.stuck
def kp(e:SE):List Nat->SE
 | []=>[]
 | k :: ks => match A8 e k with
  | some x=>(k,x) :: kp e ks
  | none=>kp e ks
def kl(L:List Ch):List Nat->List Ch
 | []=>[]
 | i :: is => match L[i]? with
  | some x=>x :: kl L is
  | none=>kl L is
def re1:SV->SV->SV
 | .b _,.l c=>.b c
 | _,x=>x
def reC:List SV->List SV->List SV
 | x :: xs,y :: ys=>re1 x y :: reC xs ys
 | _,ys=>ys
def reE(e:SE):SE->Option SE
 | []=>some []
 | (k, z) :: r => match A8 e k with
  | some x => match reE e r with
   | some s=>some ((k,re1 z x) :: s)
   | none=>none
  | none=>none
def reL:List Ch->List Ch->List Ch
 | .box _ cs :: M,.box n ds :: L=>.box n (reC cs ds) :: reL M L
 | _ :: M,x :: L=>x :: reL M L
 | [],L=>L
 | _,[]=>[]
def okE(m:Nat):SE->Bool
 | []=>true
 | (_, x) :: e => match vG m x with
  | true=>okE m e
  | false=>false
def okL(m:Nat):List Ch->Bool
 | []=>true
 | .box n cs :: L => match Nat.blt n m, vG.okC m cs with
  | true,true=>okL m L
  | _,_=>false
 | .ro n cs :: L => match Nat.blt n m, vG.okC m cs with
  | true,true=>okL m L
  | _,_=>false
 | .w n _ _ :: L => match Nat.blt n m with
  | true=>okL m L
  | false=>false
 | _ :: L=>okL m L
def asS(e:SE)(L:List Ch)(is:List Nat)(m:Nat)(e':SE)(L':List Ch):Option (SE×List Ch):=match reE e e' with
 | some s => match okE m s, okL m (reL L' (kl L is)) with
  | true,true=>some (s,reL L' (kl L is))
  | _,_=>none
 | none=>none
def SR(b m:Nat)(e:SE)(L:List Ch)(is:List Nat)(m':Nat)(e':SE)(L':List Ch):Option (SE×List Ch):=match Nat.ble b m',Nat.ble m' m,cW is with
 | true,true,true=>asS e L is m' e' L'
 | _,_,_=>none
def ovr(c:Bool)(e:SE):List Nat->SE
 | []=>e
 | s :: ss=>(s,.l c) :: ovr c e ss
def TB:Stop->Option (List Fr×tO×Nat×SE×List Ch)
 | .cond o _ x y K m e L=>some (K,.c (.cond o x y),m,e,L)
 | .case _ cf K m e L=>some (K,cf,m,e,L)
 | .loop id y K m e L=>some (K,.c (.block id (.loop y)),m,e,L)
 | .idx _ _ _ _ _ _ _ cf _ K m e L=>some (K,cf,m,e,L)
 | .call _ _ _ _ cf _ K m e L=>some (K,cf,m,e,L)
 | .callp _ _ _ _ cf _ K m e L=>some (K,cf,m,e,L)
 | .op _ _ cf _ K m e L=>some (K,cf,m,e,L)
 | .opp _ _ cf _ K m e L=>some (K,cf,m,e,L)
 | .rgn id ops K m e L=>some (K,.c (.region id ops true),m,e,L)
 | .alt cf K m e L=>some (K,cf,m,e,L)
 | _=>none
def UU(i:Nat):List Edge->Bool
 | []=>false
 | ⟨on, g⟩ :: r => match aT9 g with
  | true => match Nat.beq on i with
   | true=>true
   | false=>UU i r
  | false=>UU i r
def aKW(ops:Array Oper):Bool:=Region.noSelect ops && ops.toList.zipIdx.all fun p=>ops.toList.zipIdx.all fun q=>Nat.beq p.2 q.2 || UU p.2 q.1.after.toList || UU q.2 p.1.after.toList || p.1.apart ops q.1
def aUA(T:TT)(e:SE)(L:List Ch):ResultVar->Option SV
 | .tmp t=>A8 e t
 | .cell t ty => match A8 e t with
  | some p=>aKV T ty p L
  | none=>none
def aNP(T:TT)(e:SE)(L:List Ch)(r:ResultVar):Option SV:=match aUA T e L r with
 | some x => match isCells x with
  | true=>some x
  | false=>none
 | none=>none
def aIR(T:TT)(e:SE)(L:List Ch):List ResultVar->Option SV
 | []=>some (.t [])
 | [r]=>aUA T e L r
 | [r, s] => match aNP T e L r, aNP T e L s with
  | some x,some y=>some (.t [x,y])
  | _,_=>none
 | [r, s, t] => match aNP T e L r, aNP T e L s, aNP T e L t with
  | some x,some y,some z=>some (.t [x,y,z])
  | _,_,_=>none
 | _=>none
end Go.Gv
end
noncomputable section
namespace Go.Gv
def bI(B:Bl):SV->Option Value
 | .i k x=>some (.int k x)
 | .y b=>some (.int .u8 (b.toNat:Int))
 | .b c=>some (.bool c)
 | .l c=>some (.bool c)
 | .s l=>some (sv l)
 | .p n o => match B[n]? with
  | some (b,z)=>some (.pointer (some ⟨b,z+o,none⟩))
  | none=>none
 | .h s n=>some (s.v n)
 | .e s n i o=>some (.pointer (some ⟨MW (s.v 0),MO n i (s.v 0)+o,none⟩))
 | .k x => match x.oneCell' with
  | true=>some x
  | false=>none
 | _=>none
def gV(B:Bl):SV->Option Value
 | .g cs => match aR (bI B) cs with
  | some vs=>some (.agg vs.toArray)
  | none=>none
 | x=>bI B x
def N6(B:Bl)(n:Nat):Option Value:=match B[n]? with
 | some (b,z)=>some (.pointer (some ⟨b,z,none⟩))
 | none=>none
def eC(B:Bl):SV->Option Value
 | .t xs => match aR (gV B) xs with
  | some vs=>some (.tuple vs.toArray)
  | none=>none
 | .f f cs => match aR (N6 B) cs with
  | some vs=>some (.func (.func f) #[] vs.toArray)
  | none=>none
 | .u=>some undef
 | x=>gV B x
theorem aCW{B:Bl}{x:SV}{v:Value}(h:bI B x=some v):v.oneCell'=true:=by
 cases x <;> simp only [bI] at h <;> try (simp at h;done)
 all_goals try (cases h;rfl)
 ·split at h <;> cases h;rfl
 ·rename_i x
  cases hx:x.oneCell' <;> rw [hx] at h <;> cases h;exact hx
theorem j3{α β:Type}{f:α->Option β}:∀{l:List α} {r:List β},aR f l=some r->r.length=l.length
 | [],r,h=>by cases h;rfl
 | x :: l, r, h => by
  simp only [aR] at h
  split at h
  ·cases h
  ·split at h
   ·cases h
   ·rename_i h2;cases h;simp [j3 h2]
theorem M3{α β:Type}{f:α->Option β}:∀{l:List α} {r:List β} {i:Nat} {x:α},aR f l=some r->l[i]?=some x->∃y,f x=some y/\r[i]?=some y
 | [],_,_,_,_,h=>by simp at h
 | x :: l, r, i, z, h, hi => by
  simp only [aR] at h
  split at h
  ·cases h
  ·rename_i h1
   split at h
   ·cases h
   ·rename_i h2;cases h
    cases i with
    | zero=>simp at hi;subst hi;exact⟨_,h1,rfl⟩
    | succ i=>obtain⟨y,h3,h4⟩:=M3 h2 (by simpa using hi);exact⟨y,h3,by simpa using h4⟩
theorem M4{α β:Type}{f:α->Option β}:∀{l:List α} {r:List β} (k:Nat),aR f l=some r->aR f (l.drop k)=some (r.drop k)
 | l,r,0,h=>h
 | [],r,k+1,h=>by cases h;rfl
 | x :: l, r, k + 1, h => by
  simp only [aR] at h
  split at h
  ·cases h
  ·split at h
   ·cases h
   ·rename_i h2;cases h;exact M4 k h2
theorem M5{α β:Type}{f:α->Option β}:∀{l:List α} {r:List β} (k:Nat),aR f l=some r->aR f (l.take k)=some (r.take k)
 | l,r,0,h=>rfl
 | [],r,k+1,h=>by cases h;rfl
 | x :: l, r, k + 1, h => by
  simp only [aR] at h
  split at h
  ·cases h
  ·rename_i h1
   split at h
   ·cases h
   ·rename_i h2;cases h;simp [aR,h1,M5 k h2]
theorem dW{α β:Type}{f g:α->Option β}(hfg:∀x y,f x=some y->g x=some y):∀{l:List α} {r:List β},aR f l=some r->aR g l=some r
 | [],r,h=>h
 | x :: l, r, h => by
  simp only [aR] at h
  split at h
  ·cases h
  ·rename_i h1
   split at h
   ·cases h
   ·rename_i h2;cases h;simp [aR,hfg _ _ h1,dW hfg h2]
theorem aKX{α β:Type}{f:α->Option β}:∀{l:List α} {r:List β} {x:α} {y:β} (k:Nat),aR f l=some r->f x=some y->aR f (l.set k x)=some (r.set k y)
 | [],r,_,_,k,h,_=>by cases h;rfl
 | z :: l, r, x, y, k, h, hx => by
  simp only [aR] at h
  split at h
  ·cases h
  ·rename_i h1
   split at h
   ·cases h
   ·rename_i h2;cases h
    cases k with
    | zero=>simp [aR,hx,h2]
    | succ k=>simp [aR,h1,aKX k h2 hx]
theorem VY{f:SV->Option Value}:∀{ds:List SV} {vs:List Value} {cs:List SV} {r:List Value} (k:Nat),aR f cs=some r->aR f ds=some vs->aR f (aYC cs k ds)=some (TA r k vs)
 | [],vs,cs,r,k,h,h2=>by cases h2;exact h
 | d :: ds, vs, cs, r, k, h, h2 => by
  simp only [aR] at h2
  split at h2
  ·cases h2
  ·rename_i h3
   split at h2
   ·cases h2
   ·rename_i h4;cases h2
    exact VY (k+1) (aKX k h h3) h4
theorem Bl.app{B:Bl}(B':Bl){n:Nat}{q:Nat×Nat}(h:B[n]?=some q):(B++B')[n]?=some q:=by
 rw [IK (iE.1 h).1];exact h
theorem eX{B:Bl}(B':Bl){x:SV}{v:Value}(h:bI B x=some v):bI (B++B') x=some v:=by
 cases x <;> simp only [bI] at h ⊢ <;> try exact h
 split at h
 ·rename_i h1;rw [Bl.app B' h1];exact h
 ·cases h
theorem aUB{B:Bl}(B':Bl){x:SV}{v:Value}(h:gV B x=some v):gV (B++B') x=some v:=by
 cases x <;> simp only [gV] at h ⊢ <;> try exact eX B' h
 split at h
 ·rename_i h1;rw [dW (fun _ _=>eX B') h1];exact h
 ·cases h
theorem aUC{B:Bl}(B':Bl){x:Nat}{v:Value}(h:N6 B x=some v):N6 (B++B') x=some v:=by
 simp only [N6] at h ⊢
 split at h
 ·rename_i h1;rw [Bl.app B' h1];exact h
 ·cases h
theorem sW{B:Bl}(B':Bl){x:SV}{v:Value}(h:eC B x=some v):eC (B++B') x=some v:=by
 cases x <;> simp only [eC] at h ⊢ <;> try exact aUB B' h
 ·split at h
  ·rename_i h1;rw [dW (fun _ _=>aUB B') h1];exact h
  ·cases h
 ·split at h
  ·rename_i h1;rw [dW (fun _ _=>aUC B') h1];exact h
  ·cases h
 ·exact h
theorem a3J{B:Bl}{x:SV}{v:Value}(h:gV B x=some v):eC B x=some v:=by
 cases x <;> first | exact h | (simp only [gV,bI] at h;cases h)
theorem aPT{B:Bl}{x:SV}{v:Value}(h:bI B x=some v):eC B x=some v:=by
 cases x <;> first | exact h | (simp only [bI] at h;cases h)
structure fV (n:Nat) (B:Bl) (e:SE) (a:Act):Prop where
 d:a.defers=[]
 size:a.tmps.size=n
 get:∀k x,A8 e k=some x->∃v,eC B x=some v/\a.tmps[k]?=some v
def vE(B:Bl):SE->Env
 | []=>[]
 | (k,x) :: e=>(k,(eC B x).getD undef) :: vE B e
theorem aUD{B:Bl}{k:Nat}{v:Value}:∀{e:SE},lk (vE B e) k=some v->∃x,A8 e k=some x/\v=(eC B x).getD undef
 | [],h=>by simp [vE,lk] at h
 | (j, x) :: e, h => by
  simp only [vE,lk] at h
  simp only [A8]
  cases hb:Nat.beq k j with
  | true=>rw [hb] at h;simp at h;exact⟨x,rfl,h.symm⟩
  | false=>rw [hb] at h;exact aUD h
theorem aCX{B:Bl}{k:Nat}{x:SV}:∀{e:SE},A8 e k=some x->lk (vE B e) k=some ((eC B x).getD undef)
 | [],h=>by simp [A8] at h
 | (j, y) :: e, h => by
  simp only [A8] at h
  simp only [vE,lk]
  cases hb:Nat.beq k j with
  | true=>rw [hb] at h;simp at h;rw [h]
  | false=>rw [hb] at h;exact aCX h
noncomputable section
variable {n:Nat} {B:Bl} {e:SE} {a:Act}
theorem fV.env(h:fV n B e a):kW n (vE B e) a:=⟨h.d,h.size,fun k v hk=>by
 obtain⟨x,h1,h2⟩:=aUD hk
 obtain⟨u,h3,h4⟩:=h.get k x h1
 rw [h2,h3];exact h4⟩
theorem fV.of{a':Act}(h:fV n B e a){d:Nat}{x:SV}{v:Value}(hx:eC B x=some v)(h2:kW n ((d,v) :: vE B e) a'):fV n B ((d,x) :: e) a':=⟨h2.d,h2.size,fun k y hk=>by
 simp only [A8] at hk
 cases hb:Nat.beq k d with
 | true =>
  rw [hb] at hk;cases hk
  exact⟨v,hx,h2.get k v (by simp only [lk,hb])⟩
 | false =>
  rw [hb] at hk
  obtain⟨u,h3,h4⟩:=h.get k y hk
  refine⟨u,h3,h2.get k u ?_⟩
  simp only [lk,hb]
  rw [aCX hk,h3];rfl⟩
theorem fV.app(h:fV n B e a)(B':Bl):fV n (B++B') e a:=⟨h.d,h.size,fun k x hk=>by
 obtain⟨v,h1,h2⟩:=h.get k x hk
 exact⟨v,sW B' h1,h2⟩⟩
theorem aPU{m:Nat}{x:SV}(h:aT7 m=some x):eC B x=some (.int .u8 (m:Int))/\sN x=some (.u8,(m:Int)):=by
 unfold aT7 at h
 split at h
 ·rename_i hb
  cases h
  have hm:m < 256:=by simpa [mQ] using hb
  have:(UInt8.ofNat m).toNat=m:=by simp [UInt8.toNat_ofNat'];omega
  simp [eC,gV,bI,sN,this]
 ·cases h
theorem a1I{v:Value}{x:SV}(h:one? v=some x):eC B x=some v:=by
 unfold one? at h
 cases hb:v.oneCell' with
 | false=>rw [hb] at h;cases h
 | true=>rw [hb] at h;cases h;simp [eC,gV,bI,hb]
theorem a1J{v:Value}{x:SV}(h:ofC v=some x):eC B x=some v:=by
 unfold ofC at h
 split at h
 ·exact(aPU h).1
 ·cases h;rfl
 ·cases h;rfl
 ·cases h;rename_i s;cases s;simp [eC,gV,bI]
 ·cases h;rfl
 ·cases h
 ·exact a1I h
theorem dR(hA:fV n B e a){o:Operand}{x:SV}(h:hU e o=some x):∃v,eC B x=some v/\ev (vE B e) o=some v:=by
 cases o with
 | tmp t =>
  obtain⟨v,h1,_⟩:=hA.get t x h
  exact⟨v,h1,by simp only [ev];rw [aCX h,h1];rfl⟩
 | const v=>exact⟨v,a1J h,rfl⟩
 | global g=>cases h
 | func f=>cases h;exact⟨_,rfl,rfl⟩
theorem aNQ{x:SV}{k:IntKind}{i:Int}{v:Value}(h:sN x=some (k,i))(hv:eC B x=some v):v=.int k i:=by
 cases x <;> simp only [sN] at h <;> cases h
 ·cases hv;rfl
 ·cases hv;rfl
theorem aPV{x:SV}{c:Bool}{v:Value}(h:aPR x=some c)(hv:eC B x=some v):v=.bool c:=by
 cases x <;> simp only [aPR] at h <;> cases h
 ·cases hv;rfl
 ·cases hv;rfl
theorem a1K{k k':IntKind}{j i:Int}{x:SV}(h:hU e (.const (.int k' j))=some x)(h2:sN x=some (k,i)):j=i:=by
 simp only [hU] at h
 unfold ofC at h
 split at h
 ·rename_i heq;cases heq
  have:=(aPU (B:=[]) h).2
  rw [this] at h2;cases h2;rfl
 ·rename_i heq;cases heq;cases h;cases h2;rfl
 all_goals (rename_i heq;first | (cases heq;done) | skip)
 rename_i h1 h2 h3 h4 h5
 exact absurd rfl (h2 _ _)
end
structure D7 (P:Program) (T:TT):Prop where
 und:∀t i,AQ T t=some i->∃d,P.underlying t=some d/\match i.d with
  | .i k=>d=.int k
  | .b=>d=.bool
  | .st fs=>∃Fs:Array Field,d=.struct Fs/\Fs.toList.map (·.offset)=fs.map (·.1)/\(∀(j:Nat) F,Fs[j]?=some F->∃m,fs[j]?=some (F.offset,m)/\∀w,(sizeOf F.type).run P w=.ok m w)/\∀w,(Fs.mapM fun f=>(do pure (f.offset,<-sizeOf f.type):Sem (Nat×Nat))).run P w=.ok fs.toArray w
  | .s=>d=.string
  | .sl el=>d=.slice el
  | .x=>True
 agg:∀t i,AQ T t=some i->∀w,(isAgg t).run P w=.ok i.a w
 size:∀t i,AQ T t=some i->∀w,(sizeOf t).run P w=.ok i.n w
 zero:∀t i,AQ T t=some i->∃z,(∀w,(zeroValue t).run P w=.ok z w)/\aR (bI []) i.z=some z.cells.toList
noncomputable section
variable {P:Program} {T:TT} {n:Nat} {B:Bl} {e:SE} {E:Env} {o:Oper} {w:World} {x y:Operand}
theorem aYF{op:BinOp}{t z:TypeId}{k:IntKind}{i j:Int}{yv r:SV}(ho:o.op=.binOp op t x y z)(hx:ev E x=some (.int k i))(hy:ev E y=some (.int k j))(hyc:hU e y=some yv)(hyn:sN yv=some (k,j))(h:aYA op k i j y=some r):∃v,eC B r=some v/\dM P o E w v w:=by
 have h0:∀k' m,y=.const (.int k' (.ofNat (m+1)))->j≠0:=fun k' m e1=>by
  subst e1;rw [<-a1K hyc hyn];intro h;cases h
 have h1:∀k' m,y=.const (.int k' (.negSucc m))->j≠0:=fun k' m e1=>by
  subst e1;rw [<-a1K hyc hyn];intro h;cases h
 cases op with
 | add=>cases h;exact⟨_,rfl,LJ ho hx hy⟩
 | sub=>cases h;exact⟨_,rfl,aNB ho hx hy⟩
 | mul=>cases h;exact⟨_,rfl,a0V ho hx hy⟩
 | lss=>cases h;exact⟨_,rfl,FU ho hx hy⟩
 | leq=>cases h;exact⟨_,rfl,aND ho hx hy⟩
 | gtr=>cases h;exact⟨_,rfl,aNE ho hx hy⟩
 | geq=>cases h;exact⟨_,rfl,aS5 ho hx hy⟩
 | eql=>cases h;exact⟨_,rfl,a0W ho hx hy⟩
 | neq=>cases h;exact⟨_,rfl,aIL ho hx hy⟩
 | and=>cases h;exact⟨_,rfl,a0X ho hx hy⟩
 | or=>cases h;exact⟨_,rfl,a3D ho hx hy⟩
 | xor=>cases h;exact⟨_,rfl,a0Y ho hx hy⟩
 | andNot=>cases h;exact⟨_,rfl,aRC ho hx hy⟩
 | quo =>
  simp only [aYA] at h
  split at h
  ·cases h;exact⟨_,rfl,aNC ho hx hy (h0 _ _ rfl)⟩
  ·cases h;exact⟨_,rfl,aNC ho hx hy (h1 _ _ rfl)⟩
  ·cases h
 | rem =>
  simp only [aYA] at h
  split at h
  ·cases h;exact⟨_,rfl,X0 ho hx hy (h0 _ _ rfl)⟩
  ·cases h;exact⟨_,rfl,X0 ho hx hy (h1 _ _ rfl)⟩
  ·cases h
 | _=>cases h
theorem aUE{op:BinOp}{t z:TypeId}{k k':IntKind}{i j:Int}{yv r:SV}(ho:o.op=.binOp op t x y z)(hx:ev E x=some (.int k i))(hy:ev E y=some (.int k' j))(hyc:hU e y=some yv)(hyn:sN yv=some (k',j))(h:shI op k i j y=some r):∃v,eC B r=some v/\dM P o E w v w:=by
 have h0:∀k' m,y=.const (.int k' (.ofNat m))->¬j < 0:=fun k' m e1=>by
  subst e1;rw [<-a1K hyc hyn];simp
 cases op <;> simp only [shI] at h <;> try (cases h;done)
 ·split at h
  ·cases h;exact⟨_,rfl,aS6 ho hx hy (h0 _ _ rfl)⟩
  ·cases h
 ·split at h
  ·cases h;exact⟨_,rfl,a0Z ho hx hy (h0 _ _ rfl)⟩
  ·cases h
theorem a1L(hT:D7 P T){op:BinOp}{t z:TypeId}{a c r:SV}{va vc:Value}(ho:o.op=.binOp op t x y z)(hx:ev E x=some va)(hy:ev E y=some vc)(ha:eC B a=some va)(hc:eC B c=some vc)(hyc:hU e y=some c)(h:bin T op t a c y=some r):∃v,eC B r=some v/\dM P o E w v w:=by
 unfold bin at h
 split at h
 ·rename_i k i k' j h1 h2
  have e1:=aNQ h1 ha
  have e2:=aNQ h2 hc
  subst e1;subst e2
  split at h
  ·exact aUE ho hx hy hyc h2 h
  ·exact aUE ho hx hy hyc h2 h
  ·split at h
   ·rename_i hk _;subst hk;exact aYF ho hx hy hyc h2 h
   ·cases h
 ·split at h
  ·cases ha;cases hc
   split at h
   ·cases h;exact⟨_,rfl,aXS ho hx hy⟩
   ·cases h;exact⟨_,rfl,aXT ho hx hy⟩
   ·cases h
  ·split at h
   ·rename_i h1 h2 h3
    have e1:=aPV h1 ha
    have e2:=aPV h2 hc
    subst e1;subst e2
    obtain⟨d,hd,hd2⟩:=hT.und _ _ h3
    simp only at hd2;subst hd2
    split at h
    ·cases h;exact⟨_,rfl,aXQ hd ho hx hy⟩
    ·cases h;exact⟨_,rfl,aXR hd ho hx hy⟩
    ·cases h
   ·cases h
theorem aYG(hT:D7 P T){s t:TypeId}{a r:SV}{va:Value}(ho:o.op=.convert s t x)(hx:ev E x=some va)(ha:eC B a=some va)(h:conv T s t a=some r):∃v,eC B r=some v/\dM P o E w v w:=by
 unfold conv at h
 split at h
 ·rename_i i k' _ _ _ h1 h2
  obtain⟨ds,hs,_⟩:=hT.und _ _ h1
  obtain⟨d,hd,hd2⟩:=hT.und _ _ h2
  simp only at hd2;subst hd2
  split at h
  ·cases ha
   split at h
   ·cases h;exact⟨_,rfl,aTA hs hd ho hx⟩
   ·cases h;exact⟨_,rfl,aIM hs hd ho hx⟩
  ·cases ha
   split at h
   ·cases h;exact⟨_,rfl,aTB hs hd ho hx⟩
   ·cases h
  ·cases h
 ·cases h
theorem aPW(hT:D7 P T){t ix k:Nat}(h:aYB T t ix=some k):∃(fs:Array Field) (f:Field) (m:Nat),P.underlying t=some (.struct fs)/\fs[ix]?=some f/\f.offset=k/\∀w,(sizeOf f.type).run P w=.ok (m+1) w:=by
 unfold aYB at h
 split at h
 ·rename_i fs _ _ _ h1
  obtain⟨d,hd,Fs,rfl,hoff,hall,_⟩:=hT.und _ _ h1
  split at h
  ·rename_i k' m h2
   cases h
   have hlen:Fs.size=fs.length:=by have:=congrArg List.length hoff;simpa using this
   have hlt:ix < Fs.size:=by rw [hlen];exact(iE.1 h2).1
   obtain⟨m',h3,h4⟩:=hall ix Fs[ix] (by simp [hlt])
   rw [h2] at h3;cases h3
   exact⟨Fs,Fs[ix],m,hd,by simp [hlt],rfl,h4⟩
  ·cases h
 ·cases h
theorem aUF(hT:D7 P T){t ix:Nat}{a r:SV}{va:Value}(ho:o.op=.fieldAddr t x ix)(hx:ev E x=some va)(ha:eC B a=some va)(h:aT8 T t a ix=some r):∃v,eC B r=some v/\dM P o E w v w:=by
 unfold aT8 at h
 split at h
 ·split at h
  ·rename_i n0 o0 k hk
   cases h
   obtain⟨fs,f,m,h1,h2,h3,h4⟩:=aPW hT hk
   simp only [eC,gV,bI] at ha ⊢
   split at ha
   ·rename_i b z hb
    cases ha
    exact⟨_,rfl,zS h1 ho h2 h4 hx (by rw [h3];omega)⟩
   ·cases ha
  ·cases h
 ·split at h
  ·rename_i s0 n0 i0 o0 k hk
   cases h
   obtain⟨fs,f,m,h1,h2,h3,h4⟩:=aPW hT hk
   cases ha
   exact⟨_,rfl,zS h1 ho h2 h4 hx (by rw [h3];omega)⟩
  ·cases h
 ·cases h
end
end Go.Gv
end
