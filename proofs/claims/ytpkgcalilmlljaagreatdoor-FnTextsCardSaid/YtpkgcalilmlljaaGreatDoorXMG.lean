import Derived.Test.YtpkgcalilmlljaaGreatDoorXMD
import Derived.Test.YtpkgcalilmlljaaGreatDoorRows
import Derived.OpenShut
import Derived.Stop.LaidErr
import Derived.Lib.LaidTab
import Derived.Lib.LaidU8
import Derived.MakeChecks
import Derived.Shelf.Vars
set_option linter.unusedVariables false
set_option linter.unusedSimpArgs false
set_option linter.unusedSectionVars false
set_option linter.unnecessarySimpa false
set_option linter.constructorNameAsVariable false
section
/- Texts: what the listed variables give the walks. -/
namespace Go.Proofs.YtpkgcalilmlljaaGreatDoor
open Go.RowKit Go.ChangeShapes
set_option maxRecDepth 100000
theorem star_err : "*" ++ "errors.errorString" = "*errors.errorString" := by decide
theorem row_err (u : TypeId) (h : Tryz.prog.typeName? 3 u = some "*errors.errorString") : u = 138 :=
  typeName_ptr_named (nm := "errors.errorString") (by rw [star_err]; kernel_rfl) (by kernel_rfl) (by decide) u (by rw [star_err]; exact h)
theorem g6 : Tryz.prog.globalNamed (nmL 2) = some 6 := by kernel_rfl
theorem g6t : (Tryz.prog.globals[6]?).map (·.type) = some 133 := by kernel_rfl
theorem g0 : Tryz.prog.globalNamed (nmL 6) = some 0 := by kernel_rfl
theorem g0t : (Tryz.prog.globals[0]?).map (·.type) = some 56 := by kernel_rfl
theorem c9 : Tryz.prog.cellsOf 9 = 1 := by kernel_rfl
theorem c56 : Tryz.prog.cellsOf 56 = 4 := by kernel_rfl
theorem c133 : Tryz.prog.cellsOf 133 = 20 := by kernel_rfl
theorem pow_tab : (Rows.fnTextsRow.laid.map (·.2)).getD 2 .nil = Lib.tabData .u64 Lib.pow10Tab := by kernel_rfl
theorem words_tab : (Rows.fnTextsRow.laid.map (·.2)).getD 6 .nil = (.agg [.lit (.string [103, 101, 116]), .lit (.string [112, 117, 116]), .lit (.string [100, 101, 108]), .lit (.string [97, 100, 100])] : DataW Unit) := by kernel_rfl
theorem plain_laid : (Rows.fnTextsRow.laid.all fun x => x.2.handleName?.isNone) = true := by kernel_rfl
theorem bytes_eq {s : ByteArray} {l : List UInt8} (h : s.data.toList = l) : s = ⟨l.toArray⟩ := by
  cases s; subst h; rfl
theorem gw_of_laid {W : World} (hL : laidMetH Tryz.prog Rows.fnTextsRow.laid W) (hsh : W.ShapedOpen Tryz.prog) : GW W := by
  rw [MakeChecks.laidMetH_plain _ _ _ plain_laid] at hL
  have e : Rows.fnTextsRow.laid = Rows.fnTextsRow.laid := rfl
  have h2 := laidMet.tail (laidMet.tail hL)
  have h4 := laidMet.tail (laidMet.tail h2)
  have h5 := laidMet.tail h4
  refine ⟨?_, ?_, ?_, ?_, ?_⟩
  · exact Lib.tabIs_of_head (name := nmL 2) (k := .u64) (zs := Lib.pow10Tab) g6 g6t Tryz.underlying133 Tryz.underlying114 (by kernel_rfl) c133 h2
  · obtain ⟨a, s, h, _⟩ := laid_sentinel (g := 5) h4 (by kernel_rfl) (by kernel_rfl) Tryz.underlying83 row_err Tryz.underlying138 Tryz.underlying140 rfl rfl Tryz.underlying9 (by kernel_rfl) c9
    exact ⟨_, _, h⟩
  · obtain ⟨a, s, h, _⟩ := laid_sentinel (g := 4) h5 (by kernel_rfl) (by kernel_rfl) Tryz.underlying83 row_err Tryz.underlying138 Tryz.underlying140 rfl rfl Tryz.underlying9 (by kernel_rfl) c9
    exact ⟨_, _, h⟩
  · have hr : Lib.VarReads Tryz.prog W (nmL 6) ((Rows.fnTextsRow.laid.map (·.2)).getD 6 .nil) := Lib.laidMet.reads hL (by
      have : Rows.fnTextsRow.laid[6]? = some (nmL 6, (Rows.fnTextsRow.laid.map (·.2)).getD 6 .nil) := by kernel_rfl
      exact List.mem_of_getElem? this)
    rw [words_tab] at hr
    obtain ⟨g, t, cs, fuel, p, h1, h2, h3, hd⟩ := hr
    obtain rfl := Option.some.inj (g0.symm.trans h1)
    obtain rfl := Option.some.inj (g0t.symm.trans h2)
    obtain ⟨xs, m, rfl, ex, hcl, hxl, hel⟩ := DataW.trod_array Tryz.underlying56 hd
    rw [c56] at hcl
    rw [c9] at hel
    have ex' := (DataW.agg.inj (Prod.mk.inj ex).1).symm
    rw [h3]
    congr 1
    obtain ⟨l⟩ := cs
    match l, hcl with
    | [v0, v1, v2, v3], _ =>
      match xs, hxl with
      | [x0, x1, x2, x3], _ =>
        simp only [List.map_cons, List.map_nil, List.cons.injEq, and_true] at ex'
        obtain ⟨e0, e1, e2, e3⟩ := ex'
        have one : ∀ (v : Value) (x : DataW Unit × List MemPlace) (b : List UInt8), DataW.trod (fun _ => ()) Tryz.prog W 0 (fun _ => true) false m 9 [v] = some x → x.1 = .lit (.string b) → v = .string ⟨b.toArray⟩ := fun v x b h1 h2 => by
          obtain ⟨s, hs, hx, _⟩ := DataW.trod_string Tryz.underlying9 h1
          rw [hx] at h2
          have hb : s.data.toList = b := by injection h2 with h2; injection h2
          rw [(List.cons.inj hs).1, bytes_eq hb]
        rw [one v0 x0 _ (hel 0 (by decide)) e0, one v1 x1 _ (hel 1 (by decide)) e1, one v2 x2 _ (hel 2 (by decide)) e2, one v3 x3 _ (hel 3 (by decide)) e3]
  · exact cell_of_shapedOpen_int (g := 1) (t := 3) (zero := #[.int .i64 0]) hsh (of_decide_eq_true (by kernel_rfl)) (by kernel_rfl) rfl (by kernel_rfl) (by kernel_rfl) Tryz.underlying3
end Go.Proofs.YtpkgcalilmlljaaGreatDoor
end
