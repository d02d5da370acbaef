/- The row of FnExactCivilFix, over its walk and its plain law: it speaks of every input that can be read, without a condition of its own. -/
import Derived.Test.YtleblmimoamdmaaRows
import Derived.Test.YtleblmimoamdmaaPureFnExactCivilFix
import Derived.WalkKit
import Derived.ProofKit
import Derived.OpenShut
import Derived.ShutString
import Derived.ChangeOld
import Derived.Below
import Derived.SizedLaws
import Derived.Lib.SmallJoins
import Derived.Deep.Strs
import Derived.Test.YtleblmimoamdmaaWSized
namespace Go.Proofs.Ytleblmimoamdmaa.fnExactCivilFix
open Go.ChangeShapes Go.WideShapes Go.ChangeAt Go.RowKit Go.Joins Go.Deep Go.Proofs.YtleblmimoamdmaaW.PrintWords Go.Proofs.YtleblmimoamdmaaW
open Go.ChangeMaps (open_string shut_string)
set_option linter.unusedVariables false
theorem own : ownKnob Try.prog.godebug = none := by kernel_rfl
theorem laidOut : laidOutB Try.prog = true := by kernel_rfl
def IsRow (k : IntKind) (w : World) (a : Option Addr) (len cap : Nat) (zs : List Int) : Prop :=
  (a = none ∧ len = 0 ∧ cap = 0 ∧ zs = []) ∨
  ∃ x, a = some x ∧ len ≤ cap ∧ cap ≤ maxLen ∧ zs.length = cap ∧ (∀ i, i < zs.length → w.cell? (x.add i) = some (.int k (zs.getD i 0))) ∧ ∀ n ∈ zs, (Lit.int k n).wf = true
theorem list5 {α : Type} {l : List α} (h : l.length = 5) : ∃ c0 c1 c2 c3 c4, l = [c0, c1, c2, c3, c4] := by
  match l, h with
  | [c0, c1, c2, c3, c4], _ => exact ⟨c0, c1, c2, c3, c4, rfl⟩
set_option maxRecDepth 100000 in
theorem lifted (os : Os) (started : os.Started) (H : Type) (enc : TypeId × Value → H) :
    ReturnsInHanded {} Try.checked os 4 .any (Rows.fnExactCivilFixSpec.pre6 enc Try.prog Try.f4 Rows.fnExactCivilFixRow.domain false) (Rows.fnExactCivilFixSpec.post enc Try.prog Try.f4 false true false false) := by
  refine returnsInHanded_of_change_sized (C := Try.checked) own started (by kernel_rfl) Try.func4
    (ChangeSpec.witness6 (enc := enc) (C := Try.checked) false ⟨#[], #[.agg #[.int .i64 0, .int .i64 0, .int .i64 0, .int .i64 0, .int .i64 0]], []⟩ 8 (by kernel_rfl) (by kernel_rfl) (by kernel_rfl) (by kernel_rfl)) ?_
  intro W base args ds gs before hval0 hW hcnd hsz0 _
  have hsz : (DataW.weightsEach Try.prog (Try.f4.params.toList ++ Rows.fnExactCivilFixSpec.plain.varTypes Try.prog) (ds ++ gs)).all (· ≤ reachBytes) = true := hsz0
  have hval : ∀ (j : Nat) t v, Try.f4.params[j]? = some t → args[j]? = some v → Value.okWide Try.prog W .any base t v := hval0
  have hW' := hW
  obtain ⟨p, q, hA0, hV, rfl, hfz, hnd⟩ := hW
  have hA : DataW.TrodAll enc Try.prog W 0 (fun _ => true) true Try.f4.params.toList args.toList ds p := hA0
  rw [Try.params4] at hA hval hsz
  obtain ⟨v0, vs0, d0, ds0, p0, q0, hargs, rfl, rfl, h0, r0⟩ := trodAll_cons hA
  obtain ⟨rfl, rfl, rfl⟩ := trodAll_nil r0
  obtain rfl : args = #[v0] := by cases args; simp_all
  obtain ⟨rfl, rfl⟩ := trodVars_none hV
  have k0 := h0
  have lt0 : ∀ x ∈ p0, x.block < W.heap.size := by obtain ⟨m, hm⟩ := k0; exact DataW.trod_lt m _ _ _ hm
  obtain ⟨a0_0, a0_1, a0_2, a0_3, a0_4, rfl⟩ : ∃ a b c d e : Int, v0 = .agg #[.int .i64 a, .int .i64 b, .int .i64 c, .int .i64 d, .int .i64 e] := by
    obtain ⟨cs, rfl, hsz⟩ := okWide_struct Try.underlying25 (hval 0 25 v0 rfl rfl)
    have c1 : Try.prog.cellsOf 3 = 1 := by kernel_rfl
    have c3 : Try.prog.cellsOf 23 = 3 := by kernel_rfl
    have c5 : Try.prog.cellsOf 25 = 5 := by kernel_rfl
    obtain ⟨l⟩ := cs
    have hl5 : l.length = 5 := hsz.trans c5
    obtain ⟨x0, x1, x2, x3, x4, rfl⟩ := list5 hl5
    obtain ⟨fuel, hf⟩ := h0
    obtain ⟨y0, y1, y2, n, _, _, g0, g1, g2⟩ := trod_struct3 Try.underlying25 hf
    obtain ⟨z0, z1, z2, m, _, _, k0, k1, k2⟩ := trod_struct3 Try.underlying23 g0
    obtain ⟨a, e0, _, _⟩ := DataW.trod_int Try.underlying3 k0
    obtain ⟨b, e1, _, _⟩ := DataW.trod_int Try.underlying3 k1
    obtain ⟨c, e2, _, _⟩ := DataW.trod_int Try.underlying3 k2
    obtain ⟨d, e3, _, _⟩ := DataW.trod_int Try.underlying3 g1
    obtain ⟨e, e4, _, _⟩ := DataW.trod_int Try.underlying3 g2
    simp [Value.cells, c1, c3] at e0 e1 e2 e3 e4
    exact ⟨a, b, c, d, e, by rw [e0, e1, e2, e3, e4]⟩
  clear hA0 hval0 hsz0 hsz
  obtain ⟨k, hk⟩ := Pure.FnExactCivilFix a0_0 a0_1 a0_2 a0_3 a0_4
  refine (PFnExactCivilFix.laws_FnExactCivilFix.calls k a0_0 a0_1 a0_2 a0_3 a0_4 true W  hk).mono fun e W' ⟨he, bel⟩ => ?_
  subst he
  exact ⟨_, rfl, _, _, _, [], _, [], hW', trodAll_mk1 (shut_bool Try.underlying4 _), (trodAll_cons_mk (Below.trod laidOut (by kernel_rfl) (of_decide_eq_true (by kernel_rfl)) k0 bel lt0) trodAll_mk0), rfl, bel.frame _, fun h => by cases h⟩
theorem over : Rows.fnExactCivilFixRow.holds Try.pinned (OpenSpec.ofChange Rows.fnExactCivilFixSpec) :=
  OpenClaim.holds_of_wide 4 Try.f4 rfl rfl rfl rfl rfl rfl rfl ⟨rfl, rfl, rfl, rfl, rfl⟩ rfl rfl rfl rfl rfl (by kernel_rfl) Try.func4 (by kernel_rfl)
    (of_decide_eq_true (by kernel_rfl)) (by unfold Func.isWrapper; first | (rw [if_pos (by decide +kernel)]; kernel_rfl) | (rw [if_neg (by decide +kernel)]; exact ⟨rfl, rfl⟩))
    (fun os started H enc _ => lifted os started H enc)
theorem proved : Rows.FnExactCivilFixSaid := over
#print axioms proved
end Go.Proofs.Ytleblmimoamdmaa.fnExactCivilFix
namespace Go.Proofs.Ytleblmimoamdmaa
/-- The row, under a short name, for the claim. -/
theorem fnExactCivilFix_holds : Rows.FnExactCivilFixSaid := fnExactCivilFix.proved
end Go.Proofs.Ytleblmimoamdmaa
