/- The frame of the parse laws' rows: a row whose contract is handed the listed variables and the world's shape; what those give the walks (Tc). No condition of its own. -/
import Derived.Test.YtdggcfpimjdckaaGreatDoorTc
import Derived.Handed
import Derived.SizedLaws
import Derived.Stop.LaidErr
import Derived.Lib.LaidTab
namespace Go.Proofs.YtdggcfpimjdckaaGreatDoor
open Go Go.RowKit
theorem handed_shaped {H : Type} {enc : TypeId × Value → H} {a : Assume} {C : Checked} {os : Os} {f : FuncId} {fn : Func} {s : ChangeSpec} {apart fresh handsOn again : Bool} {X : World → Array Value → Prop}
    (hX : ∀ (w w' : World) (args : Array Value), w.heap = w'.heap → X w args → X w' args)
    (own : ownKnob C.prog.godebug = none) (started : os.Started) (noInit : C.prog.inits.idxOf? f = none) (hfn : C.prog.funcs[f]? = some fn)
    (witness : ∃ (w : World) (tape : Tape) (i : Input), w.os = os ∧ (w.forCall tape i).Shaped C.prog ∧ i.vars = [] ∧ Input.okWide C.prog (w.forCall tape i) .any w.heap.size f i ∧
      ((s.pre enc C.prog fn [] apart (w.forCall tape i).memory i.args ∧ X (w.forCall tape i).memory i.args) ∧ sizedMet enc C.prog fn (OpenSpec.ofChange s) apart (w.forCall tape i).memory i.args) ∧ a.holds C.prog (lone (Frame.enter C.prog f i.args .normal) [] (w.forCall tape i)))
    (contract : ∀ (W : World) (base : Nat) (args : Array Value) (ds gs : List (DataW H)) (before : List MemPlace),
      (∀ (j : Nat) t v, fn.params[j]? = some t → args[j]? = some v → Value.okWide C.prog W .any base t v) →
      DataW.Whole enc C.prog fn.params.toList s.vars apart W args.toList ds gs before →
      (DataW.weightsEach C.prog (fn.params.toList ++ s.plain.varTypes C.prog) (ds ++ gs)).all (· ≤ reachBytes) = true → X W args → W.ShapedOpen C.prog →
      Calls C.prog f args W fun e W' => ∃ v, e = .returned v ∧ s.post enc C.prog fn apart fresh handsOn again W args v W') :
    ReturnsInHanded a C os f .any (fun w args => (s.pre enc C.prog fn [] apart w args ∧ X w args) ∧ sizedMet enc C.prog fn (OpenSpec.ofChange s) apart w args) (s.post enc C.prog fn apart fresh handsOn again) := by
  refine returnsInHanded_of_calls own started noInit witness ?_
  intro w tape i _ hsh _ hok hpre _
  obtain ⟨_, _, _, fn', hfn', _, _, _, _, hval⟩ := hok
  obtain rfl : fn' = fn := Option.some.inj (hfn'.symm.trans hfn)
  obtain ⟨⟨⟨ds, gs, before, hw, _⟩, hx⟩, hz⟩ := hpre
  refine (contract (w.forCall tape i) w.heap.size i.args ds gs before hval (DataW.Whole.of_heap (w' := w.forCall tape i) (by rfl) hw) (hz.weights hw) (hX _ _ _ (by rfl) hx) hsh).mono fun e W' ⟨v, he, hp⟩ => ?_
  subst he
  exact ChangeSpec.post_blind hp
theorem err_cell {P : Program} {x : String × DataW Unit} {n nm : String} {d : DataW Unit} {r : List (String × DataW Unit)} {W : World} {g : Nat} {ti : TypeId} {ms : Array (String × TypeId)}
    (h : laidMet P (x :: r) W) (hx : x = (n, .iface nm d)) (hg : P.globalNamed n = some g) (ht : (P.globals[g]?).map (·.type) = some ti) (hi : P.underlying ti = some (.interface ms)) :
    ∃ te pe, W.cell? ⟨g, 0, none⟩ = some (.iface te pe) := by
  subst hx
  obtain ⟨ps, ⟨g0, t0, cs0, f0, p0, q0, hg0, ht0, hv0, hd0, _, e0⟩, _, _⟩ := h
  obtain rfl := Option.some.inj (hg.symm.trans hg0)
  obtain rfl := Option.some.inj (ht.symm.trans ht0)
  obtain ⟨l0⟩ := cs0
  obtain ⟨_, u, v, e, _, _⟩ := iface_of_trod hi hd0
  have e' : l0 = [.iface u v] := e
  subst e'
  exact ⟨u, v, by simpa using World.var?_cell hg hv0 0⟩
/-- What the listed variables and the world's shape give. -/
theorem tc_of {W : World} {r : List (String × DataW Unit)} {x y z : String × DataW Unit} {nm nm' : String} {d d' : DataW Unit}
    (h : laidMet Tryz.prog (x :: y :: (tabName, Lib.tabData .u64 Lib.pow10Tab) :: z :: ("strconv.ErrRange", .iface nm d) :: ("strconv.ErrSyntax", .iface nm' d') :: r) W) (hsh : W.ShapedOpen Tryz.prog) : Tc W :=
  ⟨Lib.tabIs_of_head (g := 3) (t := 118) (e := 107) (n := 20) (by kernel_rfl) (by kernel_rfl) Tryz.underlying118 Tryz.underlying107 (by kernel_rfl) (by kernel_rfl) h.tail.tail,
    Tryz.laysM146.s1_3 W hsh,
    err_cell h.tail.tail.tail.tail.tail rfl (by kernel_rfl) (by kernel_rfl) Tryz.underlying64,
    err_cell h.tail.tail.tail.tail rfl (by kernel_rfl) (by kernel_rfl) Tryz.underlying64⟩
end Go.Proofs.YtdggcfpimjdckaaGreatDoor
