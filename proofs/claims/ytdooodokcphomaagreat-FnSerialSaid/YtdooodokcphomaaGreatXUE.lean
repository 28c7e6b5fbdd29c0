import Derived.Test.YtdooodokcphomaaGreatXUD
import Derived.Test.YtdooodokcphomaaGreatProg
set_option linter.unusedVariables false
set_option linter.unusedSimpArgs false
set_option linter.unusedSectionVars false
set_option linter.constructorNameAsVariable false
set_option linter.unnecessarySimpa false
set_option linter.defProp false
noncomputable section
set_option maxHeartbeats 4000000
set_option maxRecDepth 100000
namespace Go.Proofs.YtdooodokcphomaaGreat
open Go.Gv Tryz
def bD:Inf prog 3 1 (.int .i64 0):=yW (b:=8) (by kernel_rfl) rfl
def mN:Inf prog 132 3 (.agg #[.int .i64 0,.int .i64 0,.int .i64 0]):=yW (b:=24) (by kernel_rfl) rfl
def rM:Inf prog 105 1 (.agg #[.slice none 0 0]):=yW (b:=24) (by kernel_rfl) rfl
def fI:Inf prog 93 2 (.agg #[.bool false,.slice none 0 0]):=yW (b:=32) (by kernel_rfl) rfl
def jM:Inf prog 292 1 (.agg #[.slice none 0 0]):=yW (b:=24) (by kernel_rfl) rfl
def VE:Inf prog 227 4 (.agg #[.bool false,.int .i64 0,.bool false,.int .i64 0]):=yW (b:=32) (by kernel_rfl) rfl
def OS:Inf prog 183 1 (.agg #[.slice none 0 0]):=yW (b:=24) (by kernel_rfl) rfl
def VF:Inf prog 142 3 (.agg #[.int .i64 0,.int .i64 0,.int .i64 0]):=yW (b:=24) (by kernel_rfl) rfl
def VG:Inf prog 102 32 (.agg #[.bool false,.bool false,.slice none 0 0,.int .i64 0,.int .i64 0,.int .i64 0,.int .i64 0,.int .i64 0,.int .i64 0,.int .i64 0,.int .i64 0,.int .i64 0,.int .i64 0,.int .i64 0,.bool false,.int .i64 0,.int .i64 0,.int .i64 0,.int .i64 0,.int .i64 0,.int .i64 0,.int .i64 0,.int .i64 0,.int .i64 0,.int .i64 0,.bool false,.slice none 0 0,.slice none 0 0,.slice none 0 0,.slice none 0 0,.slice none 0 0,.slice none 0 0]):=yW (b:=368) (by kernel_rfl) rfl
def oF:Inf prog 145 6 (.agg #[.int .i64 0,.int .i64 0,.int .i64 0,.int .i64 0,.slice none 0 0,.slice none 0 0]):=yW (b:=80) (by kernel_rfl) rfl
def a6R:Inf prog 32 1 (.slice none 0 0):=yW (b:=24) (by kernel_rfl) rfl
def bB1:Inf prog 5 1 (.int .u8 0):=yW (b:=1) (by kernel_rfl) rfl
def BD:Inf prog 190 2 (.agg #[.int .i64 0,.int .i64 0]):=yW (b:=16) (by kernel_rfl) rfl
def BE:Inf prog 217 3 (.agg #[.int .i64 0,.bool false,.int .i64 0]):=yW (b:=24) (by kernel_rfl) rfl
def lG:Inf prog 219 2 (.agg #[.bool false,.int .i64 0]):=yW (b:=16) (by kernel_rfl) rfl
def VH:Inf prog 237 2 (.agg #[.int .i64 0,.int .i64 0]):=yW (b:=16) (by kernel_rfl) rfl
def dZ:Inf prog 107 2 (.agg #[.int .i64 0,.int .i64 0]):=yW (b:=16) (by kernel_rfl) rfl
def aHP:Inf prog 25 1 (.slice none 0 0):=yW (b:=24) (by kernel_rfl) rfl
def aJ:prog.follows .mixedOrders=true:=by kernel_rfl
def aM7(D:Nat)(d a:zR)(w:World):(Op.eqFields (D+2) #[.bool (d.On),.int .i64 (d.aL),.bool (d.hU),.int .i64 (d.Seen)] #[.bool (a.On),.int .i64 (a.aL),.bool (a.hU),.int .i64 (a.Seen)] (match prog.underlying 227 with|some (.struct fs)=>fs|_=>#[]).toList).run prog w=.ok (decide (d=a)) w:=by
 rw[underlying227];have h:(d.On == a.On && (d.aL == a.aL && (d.hU == a.hU && (d.Seen == a.Seen && true))))=decide (d=a):=by cases d;cases a;rw[LY];simp
 rw[<-h];exact fY _ _ _ _ _ rfl (gD isAgg4 rfl) (gD isAgg4 rfl) (aIQ underlying4)<|
  fY _ _ _ _ _ rfl (gD isAgg3 rfl) (gD isAgg3 rfl) (nR underlying3)<|
  fY _ _ _ _ _ rfl (gD isAgg4 rfl) (gD isAgg4 rfl) (aIQ underlying4)<|
  fY _ _ _ _ _ rfl (gD isAgg3 rfl) (gD isAgg3 rfl) (nR underlying3)<|
  UA _ _ _
def aM8(D:Nat)(d a:eX)(w:World):(Op.eqFields (D+2) #[.bool (d.Is),.int .i64 (d.dP)] #[.bool (a.Is),.int .i64 (a.dP)] (match prog.underlying 219 with|some (.struct fs)=>fs|_=>#[]).toList).run prog w=.ok (decide (d=a)) w:=by
 rw[underlying219];have h:(d.Is == a.Is && (d.dP == a.dP && true))=decide (d=a):=by cases d;cases a;rw[LY];simp
 rw[<-h];exact fY _ _ _ _ _ rfl (gD isAgg4 rfl) (gD isAgg4 rfl) (aIQ underlying4)<|
  fY _ _ _ _ _ rfl (gD isAgg3 rfl) (gD isAgg3 rfl) (nR underlying3)<|
  UA _ _ _
def aM9(D:Nat)(d a:iK)(w:World):(Op.eqFields (D+2) #[.int .i64 (d.Kind),.int .i64 (d.Key),.int .i64 (d.dP)] #[.int .i64 (a.Kind),.int .i64 (a.Key),.int .i64 (a.dP)] (match prog.underlying 132 with|some (.struct fs)=>fs|_=>#[]).toList).run prog w=.ok (decide (d=a)) w:=by
 rw[underlying132];have h:(d.Kind == a.Kind && (d.Key == a.Key && (d.dP == a.dP && true)))=decide (d=a):=by cases d;cases a;rw[LY];simp
 rw[<-h];exact fY _ _ _ _ _ rfl (gD isAgg3 rfl) (gD isAgg3 rfl) (nR underlying3)<|
  fY _ _ _ _ _ rfl (gD isAgg3 rfl) (gD isAgg3 rfl) (nR underlying3)<|
  fY _ _ _ _ _ rfl (gD isAgg3 rfl) (gD isAgg3 rfl) (nR underlying3)<|
  UA _ _ _
def aNA(D:Nat)(d a:Seen)(w:World):(Op.eqFields (D+2) #[.int .i64 (d.bZ),.int .i64 (d.eW)] #[.int .i64 (a.bZ),.int .i64 (a.eW)] (match prog.underlying 237 with|some (.struct fs)=>fs|_=>#[]).toList).run prog w=.ok (decide (d=a)) w:=by
 rw[underlying237];have h:(d.bZ == a.bZ && (d.eW == a.eW && true))=decide (d=a):=by cases d;cases a;rw[LY];simp
 rw[<-h];exact fY _ _ _ _ _ rfl (gD isAgg3 rfl) (gD isAgg3 rfl) (nR underlying3)<|
  fY _ _ _ _ _ rfl (gD isAgg3 rfl) (gD isAgg3 rfl) (nR underlying3)<|
  UA _ _ _
def aNB(D:Nat)(d a:aX)(w:World):(Op.eqFields (D+2) #[.int .i64 (d.Key),.bool (d.LJ),.int .i64 (d.dP)] #[.int .i64 (a.Key),.bool (a.LJ),.int .i64 (a.dP)] (match prog.underlying 217 with|some (.struct fs)=>fs|_=>#[]).toList).run prog w=.ok (decide (d=a)) w:=by
 rw[underlying217];have h:(d.Key == a.Key && (d.LJ == a.LJ && (d.dP == a.dP && true)))=decide (d=a):=by cases d;cases a;rw[LY];simp
 rw[<-h];exact fY _ _ _ _ _ rfl (gD isAgg3 rfl) (gD isAgg3 rfl) (nR underlying3)<|
  fY _ _ _ _ _ rfl (gD isAgg4 rfl) (gD isAgg4 rfl) (aIQ underlying4)<|
  fY _ _ _ _ _ rfl (gD isAgg3 rfl) (gD isAgg3 rfl) (nR underlying3)<|
  UA _ _ _
def aSZ(D:Nat)(d a:gL)(w:World):(Op.eqFields (D+2) #[.int .i64 (d.Key),.int .i64 (d.dP),.int .i64 (d.Next)] #[.int .i64 (a.Key),.int .i64 (a.dP),.int .i64 (a.Next)] (match prog.underlying 95 with|some (.struct fs)=>fs|_=>#[]).toList).run prog w=.ok (decide (d=a)) w:=by
 rw[underlying95];have h:(d.Key == a.Key && (d.dP == a.dP && (d.Next == a.Next && true)))=decide (d=a):=by cases d;cases a;rw[LY];simp
 rw[<-h];exact fY _ _ _ _ _ rfl (gD isAgg3 rfl) (gD isAgg3 rfl) (nR underlying3)<|
  fY _ _ _ _ _ rfl (gD isAgg3 rfl) (gD isAgg3 rfl) (nR underlying3)<|
  fY _ _ _ _ _ rfl (gD isAgg3 rfl) (gD isAgg3 rfl) (nR underlying3)<|
  UA _ _ _
def aS0(D:Nat)(d a:Sub)(w:World):(Op.eqFields (D+2) #[.int .i64 (d.Kind),.int .i64 (d.A),.int .i64 (d.Pc),.int .i64 (d.E),.int .i64 (d.Row),.int .i64 (d.B),.int .i64 (d.H),.int .i64 (d.Out),.int .i64 (d.Code),.bool (d.iE)] #[.int .i64 (a.Kind),.int .i64 (a.A),.int .i64 (a.Pc),.int .i64 (a.E),.int .i64 (a.Row),.int .i64 (a.B),.int .i64 (a.H),.int .i64 (a.Out),.int .i64 (a.Code),.bool (a.iE)] (match prog.underlying 97 with|some (.struct fs)=>fs|_=>#[]).toList).run prog w=.ok (decide (d=a)) w:=by
 rw[underlying97];have h:(d.Kind == a.Kind && (d.A == a.A && (d.Pc == a.Pc && (d.E == a.E && (d.Row == a.Row && (d.B == a.B && (d.H == a.H && (d.Out == a.Out && (d.Code == a.Code && (d.iE == a.iE && true))))))))))=decide (d=a):=by cases d;cases a;rw[LY];simp
 rw[<-h];exact fY _ _ _ _ _ rfl (gD isAgg3 rfl) (gD isAgg3 rfl) (nR underlying3)<|
  fY _ _ _ _ _ rfl (gD isAgg3 rfl) (gD isAgg3 rfl) (nR underlying3)<|
  fY _ _ _ _ _ rfl (gD isAgg3 rfl) (gD isAgg3 rfl) (nR underlying3)<|
  fY _ _ _ _ _ rfl (gD isAgg3 rfl) (gD isAgg3 rfl) (nR underlying3)<|
  fY _ _ _ _ _ rfl (gD isAgg3 rfl) (gD isAgg3 rfl) (nR underlying3)<|
  fY _ _ _ _ _ rfl (gD isAgg3 rfl) (gD isAgg3 rfl) (nR underlying3)<|
  fY _ _ _ _ _ rfl (gD isAgg3 rfl) (gD isAgg3 rfl) (nR underlying3)<|
  fY _ _ _ _ _ rfl (gD isAgg3 rfl) (gD isAgg3 rfl) (nR underlying3)<|
  fY _ _ _ _ _ rfl (gD isAgg3 rfl) (gD isAgg3 rfl) (nR underlying3)<|
  fY _ _ _ _ _ rfl (gD isAgg4 rfl) (gD isAgg4 rfl) (aIQ underlying4)<|
  UA _ _ _
def aNC(D:Nat)(d a:KV)(w:World):(Op.eqFields (D+2) #[.int .i64 (d.Key),.int .i64 (d.dP)] #[.int .i64 (a.Key),.int .i64 (a.dP)] (match prog.underlying 107 with|some (.struct fs)=>fs|_=>#[]).toList).run prog w=.ok (decide (d=a)) w:=by
 rw[underlying107];have h:(d.Key == a.Key && (d.dP == a.dP && true))=decide (d=a):=by cases d;cases a;rw[LY];simp
 rw[<-h];exact fY _ _ _ _ _ rfl (gD isAgg3 rfl) (gD isAgg3 rfl) (nR underlying3)<|
  fY _ _ _ _ _ rfl (gD isAgg3 rfl) (gD isAgg3 rfl) (nR underlying3)<|
  UA _ _ _
section
open Go.RowKit Go.Shelf Go.Lib Go.Gv
set_option maxRecDepth 100000
set_option maxHeartbeats 4000000
def a3N(b off n c i d:Nat)(cs vs:ar)(w:World)(hi:i<n)(A:n+1<=c)(U:c<=9223372036854775807)(r:d≠b)(L:cs.length=n*3)(C:vs.length=3)
  (K:bG w b off cs) (l:∀j,j<c*3->(w.cell? ⟨b,off+j,none⟩).isSome=true) (t:∀j,j<c*3->w.frozen? ⟨b,off+j,none⟩=false)
  (B:bG w d 0 vs) (O:∀v∈cs,v.oneCell'=true) (N:∀v∈vs,v.oneCell'=true)
  (X V:TypeId) (S R:Nat) (E:w.shape? d=some (X,S)) (D:w.shape? b=some (V,R)) (G:R≠0) (I:w.frozen? ⟨d,0,none⟩=false) (H:w.frozen? ⟨d,S,none⟩=false) :
  Calls prog 433 #[.slice (some ⟨b,off,none⟩) n c,.int .i64 i,.slice (some ⟨d,0,none⟩) 1 1] w λe w'=>
   e=.returned (.slice (some ⟨b,off,none⟩) (n+1) c)/\w'=(w.drew.setCells b (off+(i+1)*3) (cs.drop (i*3))).setCells b (off+i*3) vs:=by
 have u0:=run_underlying underlying99;have Y:¬((i:Int)=(n:Int)):=aa
 have s:(prog.info? 217).map (·.size)=some 3:=by kernel_rfl
 have F:∀Q T,(callFunc 480 #[.slice (some ⟨d,0,none⟩) 1 1,.slice (some ⟨b,off+(i+1)*3,none⟩) Q T]).run prog w=.ok (.value (.bool false)) w:=λQ T=>by
  rw[run_callFunc_extern func480 (by kernel_rfl) (by kernel_rfl) (by kernel_rfl) (e:=Extern.SlicesOverlaps.overlaps #[99,99] #[4]) (by kernel_rfl),
   Lib.run_overlaps_apart w 99 4 217 underlying99 3 sizeOf217 ⟨d,0,none⟩ ⟨b,off+(i+1)*3,none⟩ 1 1 Q T r X V S R E D G I H]
  rfl
 have J:(cs.drop (i*3)).length=(n-i)*3:=by rw[XC,L];omega
 have z:=aJ;have hw1:IntKind.i64.wrap ((i:Int)+1)=(i:Int)+1:=by rw[IntKind.wrap_i64];omega
 have Z:IntKind.i64.wrap ((n:Int)+1)=(n:Int)+1:=by rw[IntKind.wrap_i64];omega
 have hb1:(0:Int)<=(i:Int)+1:=aa
 have hin:i<=n:=aa
 have htn:((i:Int)+1).toNat=i+1:=aa
 have htm:((n:Int)+1).toNat=n+1:=aa
 have hb2:¬(c=i+1):=aa
 have hb3:(i:Int)<=(n:Int)+1:=aa
 have hb4:¬(c=i):=aa
 have f:∀m o P,(Builtin.copy_ #[99,99] m #[.slice (some ⟨b,off+(i+1)*3,none⟩) (n-i) o,.slice (some ⟨b,off+i*3,none⟩) (n+1-i) P]).run prog w.drew=.ok (goInt (n-i:Nat)) (w.drew.setCells b (off+(i+1)*3) (cs.drop (i*3))):=λm o P=>
  zV w.drew _ _ m 217 3 b (off+(i+1)*3) (n-i) o ⟨b,off+i*3,none⟩ (n+1-i) P (n-i) (cs.drop (i*3)) underlying99 s (by simp only[Nat.min_def];split<;>omega) J
   (λj v g=>by rw[Addr.add_lit,HE];exact K (i*3+j) v (by rwa [aMY] at g))
   (λj g=>by rw[HE];exact l _ aa) (λj g=>by rw[HE];exact t _ aa) (λv hv=>O v (XE hv))
 obtain⟨y,a⟩:∃y,y=w.drew.setCells b (off+(i+1)*3) (cs.drop (i*3)):=⟨_,rfl⟩;have p:∀k,k<c*3->(y.cell? ⟨b,off+k,none⟩).isSome=true:=λk hk=>by rw[a];exact isSome_setCells b _ _ _ (λj g=>by rw[HE];exact l _ aa) _ (l k hk)
 have q:∀(W:World),(∀x,W.cell? x=y.cell? x)->(∀x,W.frozen? x=y.frozen? x)->∀m o,(Builtin.copy_ #[99,99] m #[.slice (some ⟨b,off+i*3,none⟩) (n+1-i) o,.slice (some ⟨d,0,none⟩) 1 1]).run prog W=.ok (goInt 1) (W.setCells b (off+i*3) vs):=λW u M m o=>
  zV W _ _ m 217 3 b (off+i*3) (n+1-i) o ⟨d,0,none⟩ 1 1 1 vs underlying99 s (by simp only[Nat.min_def];split<;>omega) (by rw[C])
   (λj v g=>by
    rw[Addr.add_lit,u,a,World.cell?_setCells_out b _ _ _ _ (λh _=>absurd h r)];exact B j v g)
   (λj g=>by rw[u,HE];exact p _ aa) (λj g=>by rw[M,a,World.frozen?_setCells,HE];exact t _ aa) N
 rw[<-a] at f
 go_enter func433,ntmps433
 go_wp2_with (simp only[F])
 go_region_law_o (refine step_copy_runI rfl _ _ 99 99 rfl _ _ (by simp[Act.eval,Act.put]) (by simp[Act.eval,Act.put]) (f _ _ _) ?_)
 go_wp2_with (at_builtin;refine wpList_copy_runI _ rfl _ _ 99 99 rfl _ _ rfl rfl (q _ (λ_=>rfl) (λ_=>rfl) _ _) ?_)
 go_ret
 first|exact⟨rfl,rfl⟩|exact⟨rfl,by rw[a]⟩
end
section
open Go.RowKit Go.Shelf Go.Lib Go.Gv
set_option maxRecDepth 100000
set_option maxHeartbeats 4000000
def a6S(b off n c i:Nat)(vs:ar)(w:World)(f:n+1<=c)(s:c<=9223372036854775807)(h:vs.length=3)
  (m:∀j,j<c*3->(w.cell? ⟨b,off+j,none⟩).isSome=true) (p:∀j,j<c*3->w.frozen? ⟨b,off+j,none⟩=false) (l:bG w i 0 vs) (q:∀v∈vs,v.oneCell'=true) :
  Calls prog 433 #[.slice (some ⟨b,off,none⟩) n c,.int .i64 n,.slice (some ⟨i,0,none⟩) 1 1] w λe w'=>
   e=.returned (.slice (some ⟨b,off,none⟩) (n+1) c)/\w'=w.setCells b (off+n*3) vs:=by
 have z:=run_underlying underlying99;have k:=aJ;obtain⟨t,o,y,a,x⟩:=BE;have g:Src prog t.size 99 (.slice (some ⟨i,0,none⟩) 1 1) 1 vs w:=by rw[a];exact Src.ofSlice w underlying99 ⟨i,0,none⟩ 1 1 vs aa (λj u r=>by rw[Addr.add_lit];exact l j u r) q
 have d:=run_append_room_src w 99 99 99 217 t underlying99 o b off n c (.slice (some ⟨i,0,none⟩) 1 1) 1 vs g f (by rw[a,h];exact λj r=>by rw[HE];exact m _ aa) (by rw[a,h];exact λj r=>by rw[HE];exact p _ aa);rw[a] at d
 go_enter func433,ntmps433
 go_wp2_with (at_builtin;refine Lib.wpList_append_run _ rfl _ _ _ _ rfl _ _ rfl rfl _ _ d ?_)
 go_ret
 exact⟨rfl,rfl⟩
def bB2(base:Option Addr)(n c m:Nat)(cs vs:ar)(w:World)(D:n<=c)(b:c<n+1)(k:n+1<=1073741824)(y:cs.length=n*3)(C:vs.length=3)(f:base=none->n=0)
  (x:∀a,base=some a->∀j v,cs[j]?=some v->w.cell? (a.add j)=some v) (s:bG w m 0 vs) (z:∀v∈vs,v.oneCell'=true) :
  Calls prog 433 #[.slice base n c,.int .i64 n,.slice (some ⟨m,0,none⟩) 1 1] w λe w'=>
   e=.returned (.slice (some ⟨w.heap.size,0,none⟩) (n+1) (grownCap w (n+1) c 217)) /\
   w'=w.drew.alloc (.cells ((cs++vs).toArray++Builtin.zeroCells (.agg #[.int .i64 0,.bool false,.int .i64 0]:Value).cells (grownCap w (n+1) c 217-(n+1))) 217):=by
 have F:=run_underlying underlying99;have p:=aJ;obtain⟨o,t,r,l,q⟩:=BE;have g:Src prog o.size 99 (.slice (some ⟨m,0,none⟩) 1 1) 1 vs w:=by rw[l];exact Src.ofSlice w underlying99 ⟨m,0,none⟩ 1 1 vs aa (λj u A=>by rw[Addr.add_lit];exact s j u A) z
 have h:(Builtin.firstCells o.size n (.slice base n c)).run prog w.drew=.ok cs.toArray w.drew:=by
  rw[l];cases base with
  |none=>
   have B:=f rfl;subst B;rw[List.length_eq_zero_iff.1 (by omega:cs.length=0)];exact run_firstCells_none w.drew 3 0 0 c
  |some a=>exact run_firstCells_some w.drew 3 n a n c cs y (λj v A=>x a rfl j v A)
 have i:Builtin.nextslicecap (n+1) c*o.bytes<=281474976710656:=growslice_fits b (oB (aIM k q) ai);have d:=run_append_grow_src w 99 99 99 217 o _ underlying99 t r base n c cs h _ 1 vs g b aa i
 go_enter func433,ntmps433
 cases base with
 |none=>
  have B:=f rfl;subst B
  go_wp2_with (at_builtin;refine Lib.wpList_append_run _ rfl _ _ _ _ rfl _ _ rfl rfl _ _ d ?_)
  go_ret
  exact⟨rfl,rfl⟩
 |some a=>
  obtain⟨ab,G,E⟩:=a
  go_wp2_with (at_builtin;refine Lib.wpList_append_run _ rfl _ _ _ _ rfl _ _ rfl rfl _ _ d ?_)
  all_goals (go_ret;exact⟨rfl,rfl⟩)
def a6T(b off n c i r:Nat)(cs vs:ar)(w:World)(hi:i<n)(hnc:n<=c)(s:c<n+1)(E:n+1<=1073741824)(T:cs.length=n*3)(R:vs.length=3)
  (z:bG w b off cs) (I:bG w r 0 vs) (h1c:∀v∈cs,v.oneCell'=true) (h1v:∀v∈vs,v.oneCell'=true) :
  Calls prog 433 #[.slice (some ⟨b,off,none⟩) n c,.int .i64 i,.slice (some ⟨r,0,none⟩) 1 1] w λe w'=>
   e=.returned (.slice (some ⟨w.heap.size,0,none⟩) (n+1) (grownCap w (n+1) c 217)) /\
   w'=(((w.alloc (.cells ((cs.take (i*3)).toArray++Builtin.zeroCells (.agg #[.int .i64 0,.bool false,.int .i64 0]:Value).cells (n+1-i)++Builtin.zeroCells (.agg #[.int .i64 0,.bool false,.int .i64 0]:Value).cells (grownCap w (n+1) c 217-(n+1))) 217)).drew.setCells w.heap.size (i*3) vs).drew).setCells w.heap.size ((i+1)*3) (cs.drop (i*3)):=by
 have u0:=run_underlying underlying99;have u3:=run_underlying underlying3;have O:=aJ;obtain⟨i0,L,P,F,H⟩:=BE;have hz2:¬((i:Int)=(n:Int)):=aa
 have hz3:(c:Int)<(n:Int)+1:=aa
 have J:(prog.info? 217).map (·.size)=some 3:=by rw[L];simp[F]
 have U:b<w.heap.size:=block_lt_of_cell (z 0 _ (iS aa));have Q:r<w.heap.size:=block_lt_of_cell (I 0 _ (iS aa));have K:(n:Int)+1-(i:Int)=((n+1-i:Nat):Int):=aa
 have y:i+(n+1-i)=n+1:=aa
 have u:(cs.take (i*3)).length=i*3:=by rw[aF6];omega
 have p:(Builtin.firstCells i0.size i (.slice (some ⟨b,off,none⟩) i c)).run prog w.drew=.ok (cs.take (i*3)).toArray w.drew:=by
  rw[F];exact run_firstCells_some w.drew 3 i ⟨b,off,none⟩ i c (cs.take (i*3)) u (λj v f=>by
   rw[Addr.add_lit];rw[aIJ] at f;split at f
   .exact z j v f
   .cases f)
 have C:Builtin.nextslicecap (n+1) c*i0.bytes<=281474976710656:=growslice_fits s (oB (aIM E H) ai);have o:∀l,(Builtin.append_ #[99,3] l #[.slice (some ⟨b,off,none⟩) i c,.int .i64 ((n:Int)+1-(i:Int))]).run prog w =
   .ok (.slice (some ⟨w.heap.size,0,none⟩) (n+1) (grownCap w (n+1) c 217)) (w.drew.alloc (.cells ((cs.take (i*3)).toArray++Builtin.zeroCells (.agg #[.int .i64 0,.bool false,.int .i64 0]:Value).cells (n+1-i)++Builtin.zeroCells (.agg #[.int .i64 0,.bool false,.int .i64 0]:Value).cells (grownCap w (n+1) c 217-(n+1))) 217)):=λl=>by
  have h:=Lib.run_append_grow_zeros w 99 3 l 217 i0 _ .i64 .i64 underlying99 underlying3 L P (some ⟨b,off,none⟩) i c (cs.take (i*3)) p (n+1-i) aa aa aa aa (oB (aIM (show n+1-i<=1073741824 by omega) H) ai) (by rw[y];exact C);rw[y] at h;rw[K];exact h
 obtain⟨G,N⟩:∃G,G=grownCap w (n+1) c 217:=⟨_,rfl⟩;obtain⟨a,g⟩:∃a:bw,a=(cs.take (i*3)).toArray++Builtin.zeroCells (.agg #[.int .i64 0,.bool false,.int .i64 0]:Value).cells (n+1-i)++Builtin.zeroCells (.agg #[.int .i64 0,.bool false,.int .i64 0]:Value).cells (G-(n+1)):=⟨_,rfl⟩;rw[<-N] at o ⊢;rw[<-g] at o ⊢;have X:(n+1)*3<=a.size:=by rw[g];simp only[Array.size_append,aRB,u,size_zeroCells];have:(.agg #[.int .i64 0,.bool false,.int .i64 0]:Value).cells.size=3:=rfl;rw[this];omega
 obtain⟨m,d⟩:∃m,m=w.drew.alloc (.cells a 217):=⟨_,rfl⟩;rw[<-d] at o;have hN:∀j,j<(n+1)*3->(m.cell? ⟨w.heap.size,j,none⟩).isSome=true:=λj f=>by rw[d,World.cell?_alloc_at (w:=w.drew) a _ w.heap.size j rfl,Array.getElem?_eq_getElem aa];rfl
 have M:∀j,m.frozen? ⟨w.heap.size,j,none⟩=false:=λj=>by rw[d];exact World.frozen?_alloc_at (w:=w.drew) a _ w.heap.size j rfl
 have Z:∀j v,w.cell? ⟨b,j,none⟩=some v->m.cell? ⟨b,j,none⟩=some v:=λj v h=>by rw[d,World.cell?_alloc_past (w:=w.drew) _ b j U];exact h
 have Y:∀j v,w.cell? ⟨r,j,none⟩=some v->m.cell? ⟨r,j,none⟩=some v:=λj v h=>by rw[d,World.cell?_alloc_past (w:=w.drew) _ r j Q];exact h
 have D:∀(W:World),(∀x,W.cell? x=m.cell? x)->(∀x,W.frozen? x=m.frozen? x)->∀l B,(Builtin.copy_ #[99,99] l #[.slice (some ⟨w.heap.size,i*3,none⟩) (n+1-i) B,.slice (some ⟨r,0,none⟩) 1 1]).run prog W=.ok (goInt 1) (W.setCells w.heap.size (i*3) vs):=λW k A l B=>
  zV W _ _ l 217 3 w.heap.size (i*3) (n+1-i) B ⟨r,0,none⟩ 1 1 1 vs underlying99 J (by simp only[Nat.min_def];split<;>omega) (by rw[R])
   (λj v f=>by rw[Addr.add_lit,k];exact Y _ v (I j v f))
   (λj f=>by rw[k];exact hN _ aa) (λj f=>by rw[A];exact M _) h1v
 have hGn:n+1<=G:=by rw[N];exact grownCap_ge w _ _ _
 have hG63:G<=9223372036854775807:=by have:=grownCap_le_maxLen w (n+1) c 217 (by unfold maxLen;omega);rw[<-N] at this;unfold maxLen at this;omega
 have hGi:¬(G=i):=aa
 have hGim:¬(G=i+1):=aa
 have hci:¬(c=i):=aa
 have V:b≠w.heap.size:=aa
 have S:(cs.drop (i*3)).length=(n-i)*3:=by rw[XC,T];omega
 have q:∀(W:World),(∀x,W.cell? x=(m.setCells w.heap.size (i*3) vs).cell? x)->(∀x,W.frozen? x=(m.setCells w.heap.size (i*3) vs).frozen? x)->∀l B sc,(Builtin.copy_ #[99,99] l #[.slice (some ⟨w.heap.size,(i+1)*3,none⟩) (n-i) B,.slice (some ⟨b,off+i*3,none⟩) (n-i) sc]).run prog W=.ok (goInt (n-i:Nat)) (W.setCells w.heap.size ((i+1)*3) (cs.drop (i*3))):=λW k A l B sc=>
  zV W _ _ l 217 3 w.heap.size ((i+1)*3) (n-i) B ⟨b,off+i*3,none⟩ (n-i) sc (n-i) (cs.drop (i*3)) underlying99 J (by simp only[Nat.min_def];split<;>omega) S
   (λj v f=>by
    rw[Addr.add_lit,k,World.cell?_setCells_out _ _ _ _ _ (λh _=>absurd h V),HE];exact Z _ v (z (i*3+j) v (by rwa [aMY] at f)))
   (λj f=>by rw[k];exact isSome_setCells _ _ _ _ (λt ht=>hN _ aa) _ (hN _ aa))
   (λj f=>by rw[A,World.frozen?_setCells];exact M _) (λv hv=>h1c v (XE hv))
 subst d;have hE1:∀x,((w.alloc (.cells a 217)).drew).cell? x=(w.drew.alloc (.cells a 217)).cell? x:=λx=>rfl;have hE2:∀x,((w.alloc (.cells a 217)).drew).frozen? x=(w.drew.alloc (.cells a 217)).frozen? x:=λx=>rfl;have hF1:∀x,(((w.alloc (.cells a 217)).drew.setCells w.heap.size (i*3) vs).drew).cell? x=((w.drew.alloc (.cells a 217)).setCells w.heap.size (i*3) vs).cell? x:=λx=>rfl;have hF2:∀x,(((w.alloc (.cells a 217)).drew.setCells w.heap.size (i*3) vs).drew).frozen? x=((w.drew.alloc (.cells a 217)).setCells w.heap.size (i*3) vs).frozen? x:=λx=>rfl;have hw1:IntKind.i64.wrap ((i:Int)+1)=(i:Int)+1:=by rw[IntKind.wrap_i64];omega
 have hw2:IntKind.i64.wrap ((n:Int)+1)=(n:Int)+1:=by rw[IntKind.wrap_i64];omega
 have hw3:IntKind.i64.wrap ((n:Int)+1-(i:Int))=(n:Int)+1-(i:Int):=by rw[IntKind.wrap_i64];omega
 have hb1:(0:Int)<=(i:Int)+1:=aa
 have hin:i<=n:=aa
 have htn:((i:Int)+1).toNat=i+1:=aa
 have hb3:(i:Int)<=(n:Int):=aa
 clear K y p g N X u
 go_enter func433,ntmps433
 go_wp2_with (first
  |(at_builtin;refine Lib.wpList_append_run _ rfl _ _ _ _ rfl _ _ rfl rfl _ _ (o _) ?_)
  |(at_builtin;refine wpList_copy_runI _ rfl _ _ 99 99 rfl _ _ rfl rfl (D _ hE1 hE2 _ _) ?_)
  |(at_builtin;refine wpList_copy_runI _ rfl _ _ 99 99 rfl _ _ rfl rfl (q _ (λ_=>rfl) (λ_=>rfl) _ _ _) ?_))
 go_region_law_o (refine step_copy_runI rfl _ _ 99 99 rfl (.slice (some ⟨w.heap.size,(i+1)*3,none⟩) (n-i) (G-(i+1))) (.slice (some ⟨b,off+i*3,none⟩) (n-i) (c-i)) (by simp[Act.eval,Act.put]) (by simp[Act.eval,Act.put]) (q _ hF1 hF2 3 (G-(i+1)) (c-i)) ?_)
 go_wp2
 go_ret
 exact⟨rfl,rfl⟩
end
section
open Go.RowKit Go.Shelf Go.Lib Go.Gv
set_option maxRecDepth 100000
set_option maxHeartbeats 4000000
def a3O(b off n c i d:Nat)(cs vs:ar)(w:World)(hi:i<n)(A:n+1<=c)(U:c<=9223372036854775807)(r:d≠b)(L:cs.length=n*2)(C:vs.length=2)
  (K:bG w b off cs) (l:∀j,j<c*2->(w.cell? ⟨b,off+j,none⟩).isSome=true) (t:∀j,j<c*2->w.frozen? ⟨b,off+j,none⟩=false)
  (B:bG w d 0 vs) (O:∀v∈cs,v.oneCell'=true) (N:∀v∈vs,v.oneCell'=true)
  (X V:TypeId) (S R:Nat) (E:w.shape? d=some (X,S)) (D:w.shape? b=some (V,R)) (G:R≠0) (I:w.frozen? ⟨d,0,none⟩=false) (H:w.frozen? ⟨d,S,none⟩=false) :
  Calls prog 122 #[.slice (some ⟨b,off,none⟩) n c,.int .i64 i,.slice (some ⟨d,0,none⟩) 1 1] w λe w'=>
   e=.returned (.slice (some ⟨b,off,none⟩) (n+1) c)/\w'=(w.drew.setCells b (off+(i+1)*2) (cs.drop (i*2))).setCells b (off+i*2) vs:=by
 have u0:=run_underlying underlying50;have Y:¬((i:Int)=(n:Int)):=aa
 have s:(prog.info? 107).map (·.size)=some 2:=by kernel_rfl
 have F:∀Q T,(callFunc 252 #[.slice (some ⟨d,0,none⟩) 1 1,.slice (some ⟨b,off+(i+1)*2,none⟩) Q T]).run prog w=.ok (.value (.bool false)) w:=λQ T=>by
  rw[run_callFunc_extern func252 (by kernel_rfl) (by kernel_rfl) (by kernel_rfl) (e:=Extern.SlicesOverlaps.overlaps #[50,50] #[4]) (by kernel_rfl),
   Lib.run_overlaps_apart w 50 4 107 underlying50 2 sizeOf107 ⟨d,0,none⟩ ⟨b,off+(i+1)*2,none⟩ 1 1 Q T r X V S R E D G I H]
  rfl
 have J:(cs.drop (i*2)).length=(n-i)*2:=by rw[XC,L];omega
 have z:=aJ;have hw1:IntKind.i64.wrap ((i:Int)+1)=(i:Int)+1:=by rw[IntKind.wrap_i64];omega
 have Z:IntKind.i64.wrap ((n:Int)+1)=(n:Int)+1:=by rw[IntKind.wrap_i64];omega
 have hb1:(0:Int)<=(i:Int)+1:=aa
 have hin:i<=n:=aa
 have htn:((i:Int)+1).toNat=i+1:=aa
 have htm:((n:Int)+1).toNat=n+1:=aa
 have hb2:¬(c=i+1):=aa
 have hb3:(i:Int)<=(n:Int)+1:=aa
 have hb4:¬(c=i):=aa
 have f:∀m o P,(Builtin.copy_ #[50,50] m #[.slice (some ⟨b,off+(i+1)*2,none⟩) (n-i) o,.slice (some ⟨b,off+i*2,none⟩) (n+1-i) P]).run prog w.drew=.ok (goInt (n-i:Nat)) (w.drew.setCells b (off+(i+1)*2) (cs.drop (i*2))):=λm o P=>
  zV w.drew _ _ m 107 2 b (off+(i+1)*2) (n-i) o ⟨b,off+i*2,none⟩ (n+1-i) P (n-i) (cs.drop (i*2)) underlying50 s (by simp only[Nat.min_def];split<;>omega) J
   (λj v g=>by rw[Addr.add_lit,HE];exact K (i*2+j) v (by rwa [aMY] at g))
   (λj g=>by rw[HE];exact l _ aa) (λj g=>by rw[HE];exact t _ aa) (λv hv=>O v (XE hv))
 obtain⟨y,a⟩:∃y,y=w.drew.setCells b (off+(i+1)*2) (cs.drop (i*2)):=⟨_,rfl⟩;have p:∀k,k<c*2->(y.cell? ⟨b,off+k,none⟩).isSome=true:=λk hk=>by rw[a];exact isSome_setCells b _ _ _ (λj g=>by rw[HE];exact l _ aa) _ (l k hk)
 have q:∀(W:World),(∀x,W.cell? x=y.cell? x)->(∀x,W.frozen? x=y.frozen? x)->∀m o,(Builtin.copy_ #[50,50] m #[.slice (some ⟨b,off+i*2,none⟩) (n+1-i) o,.slice (some ⟨d,0,none⟩) 1 1]).run prog W=.ok (goInt 1) (W.setCells b (off+i*2) vs):=λW u M m o=>
  zV W _ _ m 107 2 b (off+i*2) (n+1-i) o ⟨d,0,none⟩ 1 1 1 vs underlying50 s (by simp only[Nat.min_def];split<;>omega) (by rw[C])
   (λj v g=>by
    rw[Addr.add_lit,u,a,World.cell?_setCells_out b _ _ _ _ (λh _=>absurd h r)];exact B j v g)
   (λj g=>by rw[u,HE];exact p _ aa) (λj g=>by rw[M,a,World.frozen?_setCells,HE];exact t _ aa) N
 rw[<-a] at f
 go_enter func122,ntmps122
 go_wp2_with (simp only[F])
 go_region_law_o (refine step_copy_runI rfl _ _ 50 50 rfl _ _ (by simp[Act.eval,Act.put]) (by simp[Act.eval,Act.put]) (f _ _ _) ?_)
 go_wp2_with (at_builtin;refine wpList_copy_runI _ rfl _ _ 50 50 rfl _ _ rfl rfl (q _ (λ_=>rfl) (λ_=>rfl) _ _) ?_)
 go_ret
 first|exact⟨rfl,rfl⟩|exact⟨rfl,by rw[a]⟩
end
section
open Go.RowKit Go.Shelf Go.Lib Go.Gv
set_option maxRecDepth 100000
set_option maxHeartbeats 4000000
def a6U(b off n c i:Nat)(vs:ar)(w:World)(f:n+1<=c)(s:c<=9223372036854775807)(h:vs.length=2)
  (m:∀j,j<c*2->(w.cell? ⟨b,off+j,none⟩).isSome=true) (p:∀j,j<c*2->w.frozen? ⟨b,off+j,none⟩=false) (l:bG w i 0 vs) (q:∀v∈vs,v.oneCell'=true) :
  Calls prog 122 #[.slice (some ⟨b,off,none⟩) n c,.int .i64 n,.slice (some ⟨i,0,none⟩) 1 1] w λe w'=>
   e=.returned (.slice (some ⟨b,off,none⟩) (n+1) c)/\w'=w.setCells b (off+n*2) vs:=by
 have z:=run_underlying underlying50;have k:=aJ;obtain⟨t,o,y,a,x⟩:=dZ;have g:Src prog t.size 50 (.slice (some ⟨i,0,none⟩) 1 1) 1 vs w:=by rw[a];exact Src.ofSlice w underlying50 ⟨i,0,none⟩ 1 1 vs aa (λj u r=>by rw[Addr.add_lit];exact l j u r) q
 have d:=run_append_room_src w 50 50 50 107 t underlying50 o b off n c (.slice (some ⟨i,0,none⟩) 1 1) 1 vs g f (by rw[a,h];exact λj r=>by rw[HE];exact m _ aa) (by rw[a,h];exact λj r=>by rw[HE];exact p _ aa);rw[a] at d
 go_enter func122,ntmps122
 go_wp2_with (at_builtin;refine Lib.wpList_append_run _ rfl _ _ _ _ rfl _ _ rfl rfl _ _ d ?_)
 go_ret
 exact⟨rfl,rfl⟩
def bB3(base:Option Addr)(n c m:Nat)(cs vs:ar)(w:World)(D:n<=c)(b:c<n+1)(k:n+1<=1073741824)(y:cs.length=n*2)(C:vs.length=2)(f:base=none->n=0)
  (x:∀a,base=some a->∀j v,cs[j]?=some v->w.cell? (a.add j)=some v) (s:bG w m 0 vs) (z:∀v∈vs,v.oneCell'=true) :
  Calls prog 122 #[.slice base n c,.int .i64 n,.slice (some ⟨m,0,none⟩) 1 1] w λe w'=>
   e=.returned (.slice (some ⟨w.heap.size,0,none⟩) (n+1) (grownCap w (n+1) c 107)) /\
   w'=w.drew.alloc (.cells ((cs++vs).toArray++Builtin.zeroCells (.agg #[.int .i64 0,.int .i64 0]:Value).cells (grownCap w (n+1) c 107-(n+1))) 107):=by
 have F:=run_underlying underlying50;have p:=aJ;obtain⟨o,t,r,l,q⟩:=dZ;have g:Src prog o.size 50 (.slice (some ⟨m,0,none⟩) 1 1) 1 vs w:=by rw[l];exact Src.ofSlice w underlying50 ⟨m,0,none⟩ 1 1 vs aa (λj u A=>by rw[Addr.add_lit];exact s j u A) z
 have h:(Builtin.firstCells o.size n (.slice base n c)).run prog w.drew=.ok cs.toArray w.drew:=by
  rw[l];cases base with
  |none=>
   have B:=f rfl;subst B;rw[List.length_eq_zero_iff.1 (by omega:cs.length=0)];exact run_firstCells_none w.drew 2 0 0 c
  |some a=>exact run_firstCells_some w.drew 2 n a n c cs y (λj v A=>x a rfl j v A)
 have i:Builtin.nextslicecap (n+1) c*o.bytes<=281474976710656:=growslice_fits b (oB (aIM k q) ai);have d:=run_append_grow_src w 50 50 50 107 o _ underlying50 t r base n c cs h _ 1 vs g b aa i
 go_enter func122,ntmps122
 cases base with
 |none=>
  have B:=f rfl;subst B
  go_wp2_with (at_builtin;refine Lib.wpList_append_run _ rfl _ _ _ _ rfl _ _ rfl rfl _ _ d ?_)
  go_ret
  exact⟨rfl,rfl⟩
 |some a=>
  obtain⟨ab,G,E⟩:=a
  go_wp2_with (at_builtin;refine Lib.wpList_append_run _ rfl _ _ _ _ rfl _ _ rfl rfl _ _ d ?_)
  all_goals (go_ret;exact⟨rfl,rfl⟩)
def a6V(b off n c i r:Nat)(cs vs:ar)(w:World)(hi:i<n)(hnc:n<=c)(s:c<n+1)(E:n+1<=1073741824)(T:cs.length=n*2)(R:vs.length=2)
  (z:bG w b off cs) (I:bG w r 0 vs) (h1c:∀v∈cs,v.oneCell'=true) (h1v:∀v∈vs,v.oneCell'=true) :
  Calls prog 122 #[.slice (some ⟨b,off,none⟩) n c,.int .i64 i,.slice (some ⟨r,0,none⟩) 1 1] w λe w'=>
   e=.returned (.slice (some ⟨w.heap.size,0,none⟩) (n+1) (grownCap w (n+1) c 107)) /\
   w'=(((w.alloc (.cells ((cs.take (i*2)).toArray++Builtin.zeroCells (.agg #[.int .i64 0,.int .i64 0]:Value).cells (n+1-i)++Builtin.zeroCells (.agg #[.int .i64 0,.int .i64 0]:Value).cells (grownCap w (n+1) c 107-(n+1))) 107)).drew.setCells w.heap.size (i*2) vs).drew).setCells w.heap.size ((i+1)*2) (cs.drop (i*2)):=by
 have u0:=run_underlying underlying50;have u3:=run_underlying underlying3;have O:=aJ;obtain⟨i0,L,P,F,H⟩:=dZ;have hz2:¬((i:Int)=(n:Int)):=aa
 have hz3:(c:Int)<(n:Int)+1:=aa
 have J:(prog.info? 107).map (·.size)=some 2:=by rw[L];simp[F]
 have U:b<w.heap.size:=block_lt_of_cell (z 0 _ (iS aa));have Q:r<w.heap.size:=block_lt_of_cell (I 0 _ (iS aa));have K:(n:Int)+1-(i:Int)=((n+1-i:Nat):Int):=aa
 have y:i+(n+1-i)=n+1:=aa
 have u:(cs.take (i*2)).length=i*2:=by rw[aF6];omega
 have p:(Builtin.firstCells i0.size i (.slice (some ⟨b,off,none⟩) i c)).run prog w.drew=.ok (cs.take (i*2)).toArray w.drew:=by
  rw[F];exact run_firstCells_some w.drew 2 i ⟨b,off,none⟩ i c (cs.take (i*2)) u (λj v f=>by
   rw[Addr.add_lit];rw[aIJ] at f;split at f
   .exact z j v f
   .cases f)
 have C:Builtin.nextslicecap (n+1) c*i0.bytes<=281474976710656:=growslice_fits s (oB (aIM E H) ai);have o:∀l,(Builtin.append_ #[50,3] l #[.slice (some ⟨b,off,none⟩) i c,.int .i64 ((n:Int)+1-(i:Int))]).run prog w =
   .ok (.slice (some ⟨w.heap.size,0,none⟩) (n+1) (grownCap w (n+1) c 107)) (w.drew.alloc (.cells ((cs.take (i*2)).toArray++Builtin.zeroCells (.agg #[.int .i64 0,.int .i64 0]:Value).cells (n+1-i)++Builtin.zeroCells (.agg #[.int .i64 0,.int .i64 0]:Value).cells (grownCap w (n+1) c 107-(n+1))) 107)):=λl=>by
  have h:=Lib.run_append_grow_zeros w 50 3 l 107 i0 _ .i64 .i64 underlying50 underlying3 L P (some ⟨b,off,none⟩) i c (cs.take (i*2)) p (n+1-i) aa aa aa aa (oB (aIM (show n+1-i<=1073741824 by omega) H) ai) (by rw[y];exact C);rw[y] at h;rw[K];exact h
 obtain⟨G,N⟩:∃G,G=grownCap w (n+1) c 107:=⟨_,rfl⟩;obtain⟨a,g⟩:∃a:bw,a=(cs.take (i*2)).toArray++Builtin.zeroCells (.agg #[.int .i64 0,.int .i64 0]:Value).cells (n+1-i)++Builtin.zeroCells (.agg #[.int .i64 0,.int .i64 0]:Value).cells (G-(n+1)):=⟨_,rfl⟩;rw[<-N] at o ⊢;rw[<-g] at o ⊢;have X:(n+1)*2<=a.size:=by rw[g];simp only[Array.size_append,aRB,u,size_zeroCells];have:(.agg #[.int .i64 0,.int .i64 0]:Value).cells.size=2:=rfl;rw[this];omega
 obtain⟨m,d⟩:∃m,m=w.drew.alloc (.cells a 107):=⟨_,rfl⟩;rw[<-d] at o;have hN:∀j,j<(n+1)*2->(m.cell? ⟨w.heap.size,j,none⟩).isSome=true:=λj f=>by rw[d,World.cell?_alloc_at (w:=w.drew) a _ w.heap.size j rfl,Array.getElem?_eq_getElem aa];rfl
 have M:∀j,m.frozen? ⟨w.heap.size,j,none⟩=false:=λj=>by rw[d];exact World.frozen?_alloc_at (w:=w.drew) a _ w.heap.size j rfl
 have Z:∀j v,w.cell? ⟨b,j,none⟩=some v->m.cell? ⟨b,j,none⟩=some v:=λj v h=>by rw[d,World.cell?_alloc_past (w:=w.drew) _ b j U];exact h
 have Y:∀j v,w.cell? ⟨r,j,none⟩=some v->m.cell? ⟨r,j,none⟩=some v:=λj v h=>by rw[d,World.cell?_alloc_past (w:=w.drew) _ r j Q];exact h
 have D:∀(W:World),(∀x,W.cell? x=m.cell? x)->(∀x,W.frozen? x=m.frozen? x)->∀l B,(Builtin.copy_ #[50,50] l #[.slice (some ⟨w.heap.size,i*2,none⟩) (n+1-i) B,.slice (some ⟨r,0,none⟩) 1 1]).run prog W=.ok (goInt 1) (W.setCells w.heap.size (i*2) vs):=λW k A l B=>
  zV W _ _ l 107 2 w.heap.size (i*2) (n+1-i) B ⟨r,0,none⟩ 1 1 1 vs underlying50 J (by simp only[Nat.min_def];split<;>omega) (by rw[R])
   (λj v f=>by rw[Addr.add_lit,k];exact Y _ v (I j v f))
   (λj f=>by rw[k];exact hN _ aa) (λj f=>by rw[A];exact M _) h1v
 have hGn:n+1<=G:=by rw[N];exact grownCap_ge w _ _ _
 have hG63:G<=9223372036854775807:=by have:=grownCap_le_maxLen w (n+1) c 107 (by unfold maxLen;omega);rw[<-N] at this;unfold maxLen at this;omega
 have hGi:¬(G=i):=aa
 have hGim:¬(G=i+1):=aa
 have hci:¬(c=i):=aa
 have V:b≠w.heap.size:=aa
 have S:(cs.drop (i*2)).length=(n-i)*2:=by rw[XC,T];omega
 have q:∀(W:World),(∀x,W.cell? x=(m.setCells w.heap.size (i*2) vs).cell? x)->(∀x,W.frozen? x=(m.setCells w.heap.size (i*2) vs).frozen? x)->∀l B sc,(Builtin.copy_ #[50,50] l #[.slice (some ⟨w.heap.size,(i+1)*2,none⟩) (n-i) B,.slice (some ⟨b,off+i*2,none⟩) (n-i) sc]).run prog W=.ok (goInt (n-i:Nat)) (W.setCells w.heap.size ((i+1)*2) (cs.drop (i*2))):=λW k A l B sc=>
  zV W _ _ l 107 2 w.heap.size ((i+1)*2) (n-i) B ⟨b,off+i*2,none⟩ (n-i) sc (n-i) (cs.drop (i*2)) underlying50 J (by simp only[Nat.min_def];split<;>omega) S
   (λj v f=>by
    rw[Addr.add_lit,k,World.cell?_setCells_out _ _ _ _ _ (λh _=>absurd h V),HE];exact Z _ v (z (i*2+j) v (by rwa [aMY] at f)))
   (λj f=>by rw[k];exact isSome_setCells _ _ _ _ (λt ht=>hN _ aa) _ (hN _ aa))
   (λj f=>by rw[A,World.frozen?_setCells];exact M _) (λv hv=>h1c v (XE hv))
 subst d;have hE1:∀x,((w.alloc (.cells a 107)).drew).cell? x=(w.drew.alloc (.cells a 107)).cell? x:=λx=>rfl;have hE2:∀x,((w.alloc (.cells a 107)).drew).frozen? x=(w.drew.alloc (.cells a 107)).frozen? x:=λx=>rfl;have hF1:∀x,(((w.alloc (.cells a 107)).drew.setCells w.heap.size (i*2) vs).drew).cell? x=((w.drew.alloc (.cells a 107)).setCells w.heap.size (i*2) vs).cell? x:=λx=>rfl;have hF2:∀x,(((w.alloc (.cells a 107)).drew.setCells w.heap.size (i*2) vs).drew).frozen? x=((w.drew.alloc (.cells a 107)).setCells w.heap.size (i*2) vs).frozen? x:=λx=>rfl;have hw1:IntKind.i64.wrap ((i:Int)+1)=(i:Int)+1:=by rw[IntKind.wrap_i64];omega
 have hw2:IntKind.i64.wrap ((n:Int)+1)=(n:Int)+1:=by rw[IntKind.wrap_i64];omega
 have hw3:IntKind.i64.wrap ((n:Int)+1-(i:Int))=(n:Int)+1-(i:Int):=by rw[IntKind.wrap_i64];omega
 have hb1:(0:Int)<=(i:Int)+1:=aa
 have hin:i<=n:=aa
 have htn:((i:Int)+1).toNat=i+1:=aa
 have hb3:(i:Int)<=(n:Int):=aa
 clear K y p g N X u
 go_enter func122,ntmps122
 go_wp2_with (first
  |(at_builtin;refine Lib.wpList_append_run _ rfl _ _ _ _ rfl _ _ rfl rfl _ _ (o _) ?_)
  |(at_builtin;refine wpList_copy_runI _ rfl _ _ 50 50 rfl _ _ rfl rfl (D _ hE1 hE2 _ _) ?_)
  |(at_builtin;refine wpList_copy_runI _ rfl _ _ 50 50 rfl _ _ rfl rfl (q _ (λ_=>rfl) (λ_=>rfl) _ _ _) ?_))
 go_region_law_o (refine step_copy_runI rfl _ _ 50 50 rfl (.slice (some ⟨w.heap.size,(i+1)*2,none⟩) (n-i) (G-(i+1))) (.slice (some ⟨b,off+i*2,none⟩) (n-i) (c-i)) (by simp[Act.eval,Act.put]) (by simp[Act.eval,Act.put]) (q _ hF1 hF2 3 (G-(i+1)) (c-i)) ?_)
 go_wp2
 go_ret
 exact⟨rfl,rfl⟩
end
section
open Go Go.RowKit
attribute [local go_sem] Oper.semAt_some
def bMA(x:Nat×Int):bw:=#[.int .i64 (x.1:Int),.int .i64 x.2]
def bTR{n l Bs n₀ z cap len:Nat}{a:Option Addr}{ls:an}{F:Fence}(d:ls.length=len)(L:F.fn 116)(q:F.round=none)(hn:1<=n)(g:len<=9223372036854775807)(p:Bs<n₀/\Bs≠z)(J:List (Nat×Int)->World->Prop)
  (I:∀pre x W,J pre W->(pre.length<len/\ls[len-1-pre.length]?=some x.2)->YieldAt F (n-1) prog l (bMA x) W λe W'=>e=.returned (.bool true)/\J (pre++[x]) W'/\KX n₀ z W W')
  (W:World) (w:W.cell? ⟨Bs,0,none⟩=some (.slice a len cap)) (hc:ls=[]\/∃b off,a=some ⟨b,off,none⟩/\(b<n₀/\b≠z)/\∀j v,ls[j]?=some v->W.cell? ⟨b,off+j,none⟩=some (.int .i64 v)) (M:J [] W) :
  CallsIn F n prog 116 #[.func (.yield l) #[] #[],.pointer (some ⟨Bs,0,none⟩)] W λe W'=>(∃v,e=.returned v)/\∃xs,xs.length=len/\J xs W':=by
 have D:∀{A B:World} {b o:Nat},KX n₀ z A B->b<n₀/\b≠z->B.cell? ⟨b,o,none⟩=A.cell? ⟨b,o,none⟩:=λh p=>World.cell?_of_block (h.L5 _ p.1 p.2);refine callsIn_of_wp func116 rfl L ?_ q;simp only[ntmps116,aRB,H8,List.length_nil,Nat.reduceAdd,Nat.reduceSub,Array.replicate_succ,Array.replicate_zero,List.push_toArray,List.append_toArray,PY,H6]
 gi_wp2
 gi_loopw [3] (λi wr=>∃pre,pre.length<=len/\i=.int .i64 ((len:Int)-1-pre.length)/\J pre wr/\KX n₀ z W wr)
  (λi _=>(intOf i+1).toNat)
 case atStart=>exact⟨[],iT _,ae,M,KX.refl _ _ _⟩
 case round=>
  obtain⟨pre,hk,rfl,f,c⟩:=hrel;have y:=(D (o:=0) c p).trans w;by_cases r:pre.length<len
  .obtain⟨b,off,rfl,t,hc⟩:=hc.resolve_left (by rintro rfl;simp at d;omega);have H:len-1-pre.length<ls.length:=aa
   obtain⟨O,tmps,m,C,E,K⟩:=I _ (len-1-pre.length,ls[len-1-pre.length]) wr f ⟨r,iS H⟩;have c0:=(D (o:=off+(len-1-pre.length)) c t).trans (hc (len-1-pre.length) _ (iS H));have N:((len-1-pre.length:Nat):Int)=(len:Int)-1-pre.length:=aa
   simp only[bMA] at E;rw[N] at E;generalize G:pre.length=k at *
   gi_wp2
   refine K.mono ?_;rintro e P ⟨rfl,u,s⟩
   gi_wp2
   go_roundw
   case rel=>exact⟨_,ah,ah,u,c.trans s⟩
   case measure=>simp[intOf];omega
  .generalize G:pre.length=k at *;obtain rfl:k=len:=aa
   gi_wp2
   go_end0
   exact⟨⟨_,rfl⟩,_,G,f⟩
def bTS{F:Fence}(n:Nat)(c:F.fn 49)(b:F.round=none)(a:Option Addr)(len cap:Nat)(w:World) :
  CallsIn F n prog 49 #[.slice a len cap] w λe w'=>e=.returned (.func (.func 116) #[] #[.pointer (some ⟨w.heap.size,0,none⟩)])/\w'=w.alloc (.cells #[.slice a len cap] 25):=by
 refine callsIn_of_wp func49 rfl c ?_ b;simp only[ntmps49,aRB,H8,List.length_nil,Nat.reduceAdd,Nat.reduceSub,Array.replicate_succ,Array.replicate_zero,List.push_toArray,List.append_toArray,PY,H6]
 gi_wp2
 go_ret
 exact⟨rfl,rfl⟩
def aS1{t:Table}{l:an}:∀{ls:List an} {m:aq},tmL t (ls++[l]) m=(tmL t ls m).bind (tmB t l)
 |[],m=>by simp[tmL]
 |a::ls,m=>by simp only[H6,tmL,Option.bind_assoc];congr 1;funext m';exact aS1
def a92{t:Table}{b:an}{m r:aq}:∀{a:an},tmB t (a++b) m=some r->∃q,tmB t b m=some q
 |[],h=>⟨r,h⟩
 |x::a,h=>by
  simp only[H6,tmB] at h;cases e:tmB t (a++b) m with
  |none=>rw[e] at h;cases h
  |some q=>exact a92 e
def a93{t:Table}:∀{a b:List an} {m r:aq},tmL t (a++b) m=some r->∃q,tmL t a m=some q
 |[],b,m,r,h=>⟨m,rfl⟩
 |x::a,b,m,r,h=>by
  simp only[H6,tmL] at h ⊢;cases e:tmB t x m with
  |none=>rw[e] at h;cases h
  |some q=>rw[e] at h;exact a93 h
structure WF (w:World) (z:Nat) (A:bw) (y:AC) (L:List an) (m:aq) (W:World):Prop where
 below:Below w.heap.size w W
 b1:W.heap[w.heap.size]?=some (.cells A 47 (0,0))
 b3:∃v,W.heap[z]?=some (.cells #[v] 50 (0,0))/\(∃yv:AC,v=yv.v m.length)/\OwZ w.heap.size z W v m
 ls:RdZ z W [y.v L.length] L
def WF.kept{w W W':World}{z:Nat}{A:bw}{y:AC}{L:List an}{m:aq}(h:WF w z A y L m W)(a:Below w.heap.size w W')(hz:w.heap.size≠z)(hk:CK z W W')(b:W'.heap[z]?=W.heap[z]?):WF w z A y L m W':=by obtain⟨v,e,d,c⟩:=h.b3;exact⟨a,(hk _ _ _ _ hz h.b1).trans h.b1,⟨v,b.trans e,d,c.kept hk⟩,h.ls.kept hk⟩
def bMB{w:World}{t:Table}{M K v2 v3 v4 v5 v6 Z V U A u s:Value}{L:List an}{ok:Bool}{r:aq}(hr:tmL t L []=some r)
  (hch:∀W,Below w.heap.size w W->CallsIn Fence.wide 7 prog 48 #[.agg #[M,K,v2,v3,v4,v5,v6,Z,V,U,A,u,s]] W λe W'=>∃y:AC,e=.returned (.tuple #[y.v L.length,.bool ok])/\Below W.heap.size W W'/\∀z,z<W.heap.size->RdZ z W' [y.v L.length] L)
  (hnd:∀n W h nd,Below w.heap.size w W->rB t.aA.Mem.Heap (Int.tmod h 32)=some nd->CallsIn Fence.wide n prog 50 #[.agg #[M,K],.int .i64 (Int.tmod h 32)] W λe W'=>e=.returned (.agg #[.int .i64 nd.Key,.int .i64 nd.dP,.int .i64 nd.Next])/\Below W.heap.size W W')
  (hmp:∀n W z v (m:aq) k x q,w.heap.size<=W.heap.size->z<W.heap.size->(∃yv:AC,v=yv.v m.length)->RdZ z W [v] m->vK m k x=some q->CallsIn Fence.wide n prog 51 #[v,.int .i64 k,.int .i64 x] W λe W'=>∃y:AC,e=.returned (y.v q.length)/\Below W.heap.size W W'/\OwZ w.heap.size z W' (y.v q.length) q) :
  CallsIn Fence.wide 8 prog 15 #[.agg #[M,K,v2,v3,v4,v5,v6,Z,V,U,A,u,s]] w λe W'=>∃y:AC,e=.returned (y.v r.length)/\Below w.heap.size w W'/\OwZ w.heap.size (w.heap.size+2) W' (y.v r.length) r:=by
 refine callsIn_of_wp_marks func15 rfl trivial ?_ rfl;simp only[ntmps15,aRB,H8,List.length_nil,Nat.reduceAdd,Nat.reduceSub,Array.replicate_succ,Array.replicate_zero,List.push_toArray,List.append_toArray,PY,H6]
 gi_wp2
 refine⟨trivial,(hch _ ?_).mono ?_⟩
 .exact(((Below.refl _ w).alloc (jE _) _).alloc ae _).alloc ah _
 .rintro e W0 ⟨y,rfl,hb0,hL0⟩;simp only[]
  go_at_K
  gi_wp2
  have Q:Below w.heap.size w W0:=((((Below.refl _ w).alloc (jE _) _).alloc ae _).alloc ah _).trans (hb0.mono ah);refine wpIn_loop (λa' W'=>∃(k:Nat) (u7 u20 u21 u22 u23 u24 u40:Value) (ds:List Deferred) (m:aq),k<=L.length/\tmL t (L.take k) []=some m/\WF w (w.heap.size+2) #[M,K,v2,v3,v4,v5,v6,Z,V,U,A,u,s] y L m W'/\(Mks ds W'/\∀D,mkD D∈ds->w.heap.size+2<D)/\a'=⟨#[.agg #[M,K,v2,v3,v4,v5,v6,Z,V,U,A,u,s],.pointer (some ⟨w.heap.size,0,none⟩),.slice none 0 0,.pointer (some ⟨w.heap.size+1+1,0,none⟩),y.v L.length,.bool ok,undef,u7,undef,undef,undef,.slice (some ⟨w.heap.size+1,0,none⟩) 0 0,.tuple #[y.v L.length,.bool ok],.agg #[M,K,v2,v3,v4,v5,v6,Z,V,U,A,u,s],.tuple #[y.v L.length,.bool ok],y.v L.length,.bool ok,y.v L.length,.int .i64 L.length,.int .i64 k,u20,u21,u22,u23,u24,undef,undef,undef,undef,undef,undef,undef,undef,undef,undef,undef,undef,undef,undef,undef,u40,undef],ds⟩) (λa' _=>L.length-(intOf (a'.tmps.getD 19 undef)).toNat) ?_ ?_
  .refine⟨0,_,_,_,_,_,_,_,[],[],iT _,rfl,⟨Q,?_,⟨_,?_,⟨⟨some ⟨w.heap.size+1,0,none⟩,0⟩,rfl⟩,bL2 _ _⟩,hL0 _ ae⟩,⟨trivial,λD h=>by cases h⟩,rfl⟩
   .exact(hb0.block _ ah).trans (((Below.heap_alloc _ _ _ ah).trans (Below.heap_alloc _ _ _ ae)).trans (World.alloc_heap_new w _))
   .have b2:=λo o' o''=>World.alloc_heap_new ((w.alloc o).alloc o') o'';simp only[World.size_alloc] at b2;exact(hb0.block _ ae).trans (b2 _ _ _)
  .rintro a' W ⟨k,u7,u20,u21,u22,u23,u24,u40,ds,m,hk,hm,hw,⟨P,hd2⟩,rfl⟩;by_cases B:k<L.length
   .obtain⟨ya,yc,ye,q1,q2,q3⟩:=(show sN _ _ _ _ from hw.ls);obtain⟨yb,yo,rfl,q4⟩:=q3.resolve_left (by rintro rfl;simp at B);obtain⟨ec,g1,g2,g3⟩:=q4 k B;obtain⟨la,lc,rfl,p1,p2,p3⟩:=(show sN _ _ _ _ from g3);injection ye with ye
    rw[ye];have hc0:W.cell? ⟨yb,yo+k,none⟩=some (.slice la L[k].length lc):=by simpa[show aN.n an=1 from rfl] using g1 0 _ rfl
    have hin:L[k]=[]\/∃b off,la=some ⟨b,off,none⟩/\(b<W.heap.size/\b≠w.heap.size+2)/\∀j v,L[k][j]?=some v->W.cell? ⟨b,off+j,none⟩=some (.int .i64 v):=by
     refine Decidable.or_iff_not_imp_left.2 λhne=>?_;obtain⟨b,off,e,h⟩:=p3.resolve_left hne;have key:∀j v,L[k][j]?=some v->b≠w.heap.size+2/\W.cell? ⟨b,off+j,none⟩=some (.int .i64 v):=λj v hj=>by obtain⟨B,rfl⟩:=DZ.1 hj;obtain⟨ec,c1,c2,c3⟩:=h j B;have c3:ec=[.int .i64 L[k][j]]:=c3;subst c3;simp only[show aN.n Int=1 from rfl,Nat.mul_one] at c1 c2;exact⟨(c2 (off+j) ⟨rfl,aa,ae⟩).1,by simpa using c1 0 _ rfl⟩
     have h0:=key 0 _ (iS (List.length_pos_iff.2 hne));exact⟨b,off,e,⟨World.block_lt_of_cell? W _ h0.2,h0.1⟩,λj v hj=>(key j v hj).2⟩
    have hsuc:∃m',tmB t L[k] m=some m'/\tmL t (L.take (k+1)) []=some m':=by obtain⟨q,hq⟩:=a93 (a:=L.take (k+1)) (b:=L.drop (k+1)) (by rw[aGA];exact hr);rw[N5 B,aS1,hm] at hq;exact⟨q,hq,by rw[N5 B,aS1,hm];exact hq⟩
    obtain⟨m',hm1,hm2⟩:=hsuc;have hLl:L.length<=9223372036854775807:=by have:=q1;simp only[maxLen] at q2;omega
    have hlen:L[k].length<=9223372036854775807:=by have:=p1;have:=p2;simp only[maxLen] at p2;omega
    clear g1 g2 g3 p1 p2 p3 q3 q4;generalize L[k]=ls at *
    gi_wp2
    refine⟨trivial,(bTS (F:=Fence.wide) 7 trivial rfl _ _ _ _).mono ?_⟩;rintro e C ⟨rfl,rfl⟩;simp only[]
    go_at_K
    gi_wp2
    have hdB:∀D,mkD D∈ds->D<W.heap.size:=λD G=>(aNM.1 (P.at D G)).1;have hzW:w.heap.size+2<W.heap.size:=(let ⟨_,h,_⟩:=hw.b3;(aNM.1 h).1);refine bGN (F:=Fence.wide) rfl ai (gf:=116) (lb:=#[.pointer (some ⟨W.heap.size,0,none⟩)]) (n₀:=W.heap.size+1) (z:=w.heap.size+2) (encs:=bMA) (S:=λxs=>xs.length=ls.length) (R:=λpre x=>pre.length<ls.length/\ls[ls.length-1-pre.length]?=some x.2) (w0:=W.alloc (.cells #[.slice la ls.length lc] 25)) rfl trivial call116 ?hseq ae (Below.refl _ _) (λ_=>rfl)
     (λpre W'=>∃m',tmB t (ls.drop (ls.length-pre.length)) m=some m'/\WF w (w.heap.size+2) #[M,K,v2,v3,v4,v5,v6,Z,V,U,A,u,s] y L m' W'/\Mks ds W') ?hI ?h0 (λx=>⟨#[.agg #[M,K,v2,v3,v4,v5,v6,Z,V,U,A,u,s],.pointer (some ⟨w.heap.size,0,none⟩),.slice none 0 0,.pointer (some ⟨w.heap.size+1+1,0,none⟩),.slice (some ⟨yb,yo,none⟩) L.length yc,.bool ok,undef,.slice la ls.length lc,undef,.int .i64 x.2,undef,.slice (some ⟨w.heap.size+1,0,none⟩) 0 0,.tuple #[.slice (some ⟨yb,yo,none⟩) L.length yc,.bool ok],.agg #[M,K,v2,v3,v4,v5,v6,Z,V,U,A,u,s],.tuple #[.slice (some ⟨yb,yo,none⟩) L.length yc,.bool ok],.slice (some ⟨yb,yo,none⟩) L.length yc,.bool ok,.slice (some ⟨yb,yo,none⟩) L.length yc,.int .i64 L.length,.int .i64 k,.bool true,.pointer (some ⟨yb,yo+k,none⟩),.slice la ls.length lc,.slice la ls.length lc,.func (.func 116) #[] #[.pointer (some ⟨W.heap.size,0,none⟩)],.int .i64 (x.1:Int),.int .i64 x.2,undef,undef,undef,undef,undef,undef,undef,undef,undef,undef,undef,undef,undef,u40,undef],[]⟩) ?hassign ?hbody ?hdone
    case hassign=>
     rintro l x W'
     gi_wp2
     exact⟨by simp[bMA],trivial⟩
    case hbody=>
     rintro l pre x W' hs ⟨hp1,hp2⟩ ⟨N,e1,g,e3⟩;obtain⟨_,f1,⟨yv,rfl⟩,f3⟩:=g.b3;have hnx:∃nd q,rB t.aA.Mem.Heap (Int.tmod x.2 32)=some nd/\vK N nd.Key nd.dP=some q/\tmB t (ls.drop (ls.length-(pre++[x]).length)) m=some q:=by
      obtain⟨hi,hx⟩:=DZ.1 hp2;have hdr:ls.drop (ls.length-(pre++[x]).length)=x.2::ls.drop (ls.length-pre.length):=by rw[show ls.length-(pre++[x]).length=ls.length-1-pre.length by simp;omega,vA hi,hx];congr 2;omega
      obtain⟨q,hq⟩:=a92 (a:=ls.take (ls.length-(pre++[x]).length)) (by rw[aGA];exact hm1);have H:=hq;rw[hdr] at H;simp only[tmB,e1,aI] at H;cases en:rB t.aA.Mem.Heap (Int.tmod x.2 32) with
      |none=>rw[en] at H;cases H
      |some nd=>rw[en] at H;exact⟨nd,q,rfl,H,hq⟩
     obtain⟨nd,q,d1,d2,d3⟩:=hnx;have hx0:W'.cell? ⟨w.heap.size,0,none⟩=some (M):=by simp[World.cell?,g.b1]
     have hx1:W'.cell? ⟨w.heap.size,1,none⟩=some (K):=by simp[World.cell?,g.b1]
     gi_wp2
     refine⟨trivial,(show CallsIn (Fence.wide.inRound l) 5 _ _ _ _ _ from hnd 5 W' x.2 nd g.below d1).mono ?_⟩;rintro e C ⟨rfl,Q⟩;simp only[]
     go_at_K
     have O:w.heap.size+2<W'.heap.size:=(aNM.1 f1).1;have i:Below W'.heap.size W' (C.alloc (.cells #[.int .i64 nd.Key,.int .i64 nd.dP,.int .i64 nd.Next] 95)):=Q.trans (((Below.refl _ C).alloc (jE _) _).mono Q.size);have c2:(C.alloc (.cells #[.int .i64 nd.Key,.int .i64 nd.dP,.int .i64 nd.Next] 95)).heap[C.heap.size]?=some (.cells #[.int .i64 nd.Key,.int .i64 nd.dP,.int .i64 nd.Next] 95):=World.alloc_heap_new C _;have c20:(C.alloc (.cells #[.int .i64 nd.Key,.int .i64 nd.dP,.int .i64 nd.Next] 95)).cell? ⟨C.heap.size,0,none⟩=some (.int .i64 nd.Key):=by simp only[World.cell?,c2];rfl
     have c21:(C.alloc (.cells #[.int .i64 nd.Key,.int .i64 nd.dP,.int .i64 nd.Next] 95)).cell? ⟨C.heap.size,1,none⟩=some (.int .i64 nd.dP):=by simp only[World.cell?,c2];rfl
     have c2z:(C.alloc (.cells #[.int .i64 nd.Key,.int .i64 nd.dP,.int .i64 nd.Next] 95)).heap[w.heap.size+1+1]?=some (.cells #[yv.v N.length] 50 (0,0)):=(i.block _ O).trans f1;have c23:(C.alloc (.cells #[.int .i64 nd.Key,.int .i64 nd.dP,.int .i64 nd.Next] 95)).cell? ⟨w.heap.size+1+1,0,none⟩=some (yv.v N.length):=by simp only[World.cell?,c2z];rfl
     gi_wp2
     refine⟨trivial,(show CallsIn (Fence.wide.inRound l) 5 _ _ _ _ _ from hmp 5 (C.alloc (.cells #[.int .i64 nd.Key,.int .i64 nd.dP,.int .i64 nd.Next] 95)) (w.heap.size+2) _ N nd.Key nd.dP q (oB g.below.size i.size) (LN O i.size) ⟨yv,rfl⟩ (f3.kept (CK.below i)).rdZ d2).mono ?_⟩;rintro e W3 ⟨y3,rfl,hb3,hr3⟩;simp only[]
     go_at_K
     have d:Below W'.heap.size W' W3:=i.trans (hb3.mono i.size);have c3z:W3.heap[w.heap.size+1+1]?=some (.cells #[yv.v N.length] 50 (0,0)):=(d.block _ O).trans f1;have c30:W3.cell? ⟨w.heap.size+1+1,0,none⟩=some (yv.v N.length):=by simp[World.cell?,c3z]
     have c31:W3.frozen? ⟨w.heap.size+1+1,0,none⟩=false:=by simp[World.frozen?,c3z]
     gi_wp2
     rw[a3B c3z];have p:∃W4,W4=W3.putObj (w.heap.size+1+1) (.cells (#[yv.v N.length].setIfInBounds 0 (.slice y3.a q.length y3.c)) 50 (0,0)):=⟨_,rfl⟩;obtain⟨W4,p⟩:=p;rw[<-p];have o4:∀b,b≠w.heap.size+2->W4.heap[b]?=W3.heap[b]?:=λb I=>by rw[p];exact World.putObj_heap_other I
     have z4:W4.heap[w.heap.size+2]?=some (.cells #[y3.v q.length] 50 (0,0)):=by rw[p];exact World.putObj_heap_same (LN O d.size)
     have s4':W4.heap.size=W3.heap.size:=by rw[p];simp[World.putObj]
     have k4:CK (w.heap.size+2) W3 W4:=λb _ _ _ I _=>o4 b I;simp only[World.size_alloc] at hs;refine⟨⟨by rw[s4'];exact d.size,λk o hk ho hoc=>?_⟩,⟨by rw[s4'];exact d.size,λk hk hz=>(o4 k hz).trans (d.block k aa)⟩,q,d3,⟨⟨?_,?_,?_,?_,λk hk=>?_⟩,(o4 _ aa).trans ((d.block _ (by have:=g.below.size;omega)).trans g.b1),⟨_,z4,⟨y3,rfl⟩,hr3.kept k4⟩,g.ls.kept ((CK.below d).trans k4)⟩,e3.kept λD G _=>(o4 D (by have:=hd2 D G;omega)).trans (d.block D (by have:=hdB D G;omega))⟩
     .simp only[World.size_alloc] at hk;exact(o4 k aa).trans ((d.block k (aNM.1 ho).1).trans ho)
     .rw[p];exact d.os.trans g.below.os
     .rw[p];exact d.tape.trans g.below.tape
     .rw[p];exact d.output.trans g.below.output
     .rw[s4'];exact oB g.below.size d.size
     .exact(o4 k aa).trans ((d.block k (by have:=g.below.size;omega)).trans (g.below.block k hk))
    case hI=>
     rintro pre X Y row ⟨N,e1,g,e3⟩ hg hr;simp only[World.size_alloc] at hr;have T:∀j,row=some j->W.heap.size<j:=λj e=>by have:=(hr j e).1;omega
     have nc:∀b t c f,X.heap[b]?=some (Obj.cells c t f)->Y.heap[b]?=X.heap[b]?:=λb t c f I=>hg.block b (aNM.1 I).1 λe=>by obtain⟨_,o,ho,hoc⟩:=hr b e.symm;rw[I] at ho;cases ho;cases hoc
     refine⟨N,e1,g.kept (g.below.grown hg g.below.size λj e=>by have:=T j e;omega) aa (λb t c f _ I=>nc b t c f I) (let ⟨_,h,_⟩:=g.b3;nc _ _ _ _ h),e3.kept λD G h=>hg.block D (aNM.1 h).1 λe=>by have:=T D e.symm;have:=hdB D G;omega⟩
    case h0=>
     have ba:Below W.heap.size W (W.alloc (.cells #[.slice la ls.length lc] 25)):=(Below.refl _ W).alloc (jE _) _;exact⟨m,by simp[tmB],hw.kept (hw.below.trans (ba.mono hw.below.size)) aa (CK.below ba) (ba.block _ hzW),P.kept λD G _=>ba.block D (hdB D G)⟩
    case hseq=>
     intro l J W' I _ hY hJ;have hb':Below W.heap.size W W':=((Below.refl _ W).alloc (jE _) _).trans (I.mono ae);refine bTR (F:=Fence.wide) (n:=7) (l:=l) (Bs:=W.heap.size) (n₀:=W.heap.size+1) (z:=w.heap.size+2) (ls:=ls) (a:=la) (cap:=lc) rfl trivial rfl ai ?_ ⟨aa,aa⟩ J (λpre x C h1 h2=>hY pre x C h1 h2) W' ?_ ?_ hJ
     .have:=hlen;omega
     .exact(World.cell?_of_block (I.block W.heap.size ae)).trans (by simp only[World.cell?,World.alloc_heap_new];rfl)
     .exact hin.imp id λ⟨b,off,e,hbz,hc⟩=>⟨b,off,e,⟨aa,hbz.2⟩,λj v hj=>(World.cell?_of_block (hb'.block b hbz.1)).trans (hc j v hj)⟩
    case hdone=>
     rintro D xs W' G hxs ⟨N,e1,g,e3⟩ hK;rw[hxs,Nat.sub_self,PW,hm1] at e1;cases e1
     gi_wp2
     simp only[World.size_alloc] at G;refine⟨⟨k+1,_,_,_,_,_,_,_,mkD D::ds,m',B,hm2,g,⟨⟨D,rfl,hK,λE hE=>by have:=hdB E hE;omega,e3⟩,λE hE=>?_⟩,rfl⟩,?_⟩
     .obtain e|e:=lO.1 hE
      .simp only[mkD,Deferred.mk.injEq,Target.collected.injEq] at e;omega
      .exact hd2 E e
     .simp[intOf];omega
   .obtain rfl:k=L.length:=aa
    rw[List.take_length,hr] at hm;cases hm;obtain⟨_,f1,⟨yv,rfl⟩,f3⟩:=hw.b3;have c0:W.cell? ⟨w.heap.size+1+1,0,none⟩=some (yv.v r.length):=by simp only[World.cell?,f1];rfl
    gi_wp2
    refine P.leave λW' h2 h3 ⟨o1,o2,o3⟩=>⟨yv.v r.length,?_,yv,rfl,⟨o1.trans hw.below.os,o2.trans hw.below.tape,o3.trans hw.below.output,by rw[h3];exact hw.below.size,λk hk=>(h2 k λD G=>by have:=hd2 D G;omega).trans (hw.below.block k hk)⟩,f3.kept λb t' c f hz I=>h2 b λD G e=>?_⟩
    .simp[results,f15,go_sem]
    .have:=P.at D G;rw[<-e,I] at this;cases this
end
end Go.Proofs.YtdooodokcphomaaGreat
end
