/-
  A PROOF OF 'Rows.LawS930015QABWholeSaid': the given shell, its one hole filled: the walk, parted on the six symbols and the rest.
-/
import Derived.Test.YmwhayRows
import Derived.WalkKit
import Derived.ProofKit
import Derived.OpenShut
import Derived.ShutString
namespace Go.Proofs.Ymwhay.lawS930015QABWhole
open Go.ChangeShapes Go.WideShapes Go.ChangeAt Go.RowKit
open Go.ChangeMaps (open_string shut_string)
set_option linter.unusedVariables false      -- a walk need not use every 'w<i>' (that an integer argument fits its kind)

theorem own : ownKnob Yayv.prog.godebug = none := by kernel_rfl

/-! ### STEP 1: THE WALK: the Go text returns true. 'Grown w w'': the world has at most new blocks. Seven ways: each of the six symbols, then every other byte. -/
set_option maxHeartbeats 400000 in
theorem walk (a0 : Int) (w0 : (Lit.int .u8 a0).wf = true) (w : World) :
    Calls Yayv.prog 4 #[.int .u8 a0] w fun e w' => e = .returned (.bool true) ∧ Grown w w' := by
  by_cases c1 : a0 = 43
  · subst c1
    go_enter Yayv.func4, Yayv.ntmps4
    go_wp2
    go_ret
    exact ⟨rfl, by repeat (first | exact Grown.refl _ | apply Grown.drew | apply Grown.alloc)⟩
  by_cases c2 : a0 = 45
  · subst c2
    go_enter Yayv.func4, Yayv.ntmps4
    go_wp2
    go_ret
    exact ⟨rfl, by repeat (first | exact Grown.refl _ | apply Grown.drew | apply Grown.alloc)⟩
  by_cases c3 : a0 = 42
  · subst c3
    go_enter Yayv.func4, Yayv.ntmps4
    go_wp2
    go_ret
    exact ⟨rfl, by repeat (first | exact Grown.refl _ | apply Grown.drew | apply Grown.alloc)⟩
  by_cases c4 : a0 = 47
  · subst c4
    go_enter Yayv.func4, Yayv.ntmps4
    go_wp2
    go_ret
    exact ⟨rfl, by repeat (first | exact Grown.refl _ | apply Grown.drew | apply Grown.alloc)⟩
  by_cases c5 : a0 = 40
  · subst c5
    go_enter Yayv.func4, Yayv.ntmps4
    go_wp2
    go_ret
    exact ⟨rfl, by repeat (first | exact Grown.refl _ | apply Grown.drew | apply Grown.alloc)⟩
  by_cases c6 : a0 = 41
  · subst c6
    go_enter Yayv.func4, Yayv.ntmps4
    go_wp2
    go_ret
    exact ⟨rfl, by repeat (first | exact Grown.refl _ | apply Grown.drew | apply Grown.alloc)⟩
  have e1 : (a0 == 43) = false := by simpa using c1
  have e2 : (a0 == 45) = false := by simpa using c2
  have e3 : (a0 == 42) = false := by simpa using c3
  have e4 : (a0 == 47) = false := by simpa using c4
  have e5 : (a0 == 40) = false := by simpa using c5
  have e6 : (a0 == 41) = false := by simpa using c6
  clear c1 c2 c3 c4 c5 c6
  go_enter Yayv.func4, Yayv.ntmps4
  go_wp2
  go_ret
  exact ⟨rfl, by repeat (first | exact Grown.refl _ | apply Grown.drew | apply Grown.alloc)⟩

/-! ### THE ROW's STEP: WRITTEN OUT: LEAVE IT -/
set_option maxRecDepth 100000 in
theorem lifted (os : Os) (started : os.Started) (H : Type) (enc : TypeId × Value → H) :
    ReturnsInHanded {} Yayv.checked os 4 .any (Rows.lawS930015QABWholeSpec.pre6 enc Yayv.prog Yayv.f4 Rows.lawS930015QABWholeRow.domain false) (Rows.lawS930015QABWholeSpec.post enc Yayv.prog Yayv.f4 false true false false) := by
  refine returnsInHanded_of_change (C := Yayv.checked) own started (by kernel_rfl) Yayv.func4
    (ChangeSpec.witness6 (enc := enc) (C := Yayv.checked) false ⟨#[], #[.int .u8 0], []⟩ 8 (by kernel_rfl) (by kernel_rfl) (by kernel_rfl) (by kernel_rfl)) ?_
  intro W base args ds gs before hval0 hW hcnd _
  have hval : ∀ (j : Nat) t v, Yayv.f4.params[j]? = some t → args[j]? = some v → Value.okWide Yayv.prog W .any base t v := hval0
  have hW' := hW
  obtain ⟨p, q, hA0, hV, rfl, hfz, hnd⟩ := hW
  have hA : DataW.TrodAll enc Yayv.prog W 0 (fun _ => true) true Yayv.f4.params.toList args.toList ds p := hA0
  rw [Yayv.params4] at hA hval
  obtain ⟨v0, vs0, d0, ds0, p0, q0, hargs, rfl, rfl, h0, r0⟩ := trodAll_cons hA
  obtain ⟨rfl, rfl, rfl⟩ := trodAll_nil r0
  obtain rfl : args = #[v0] := by cases args; simp_all
  obtain ⟨rfl, rfl⟩ := trodVars_none hV
  obtain ⟨a0, rfl, rfl, rfl, w0⟩ := open_int Yayv.underlying5 (hval 0 5 v0 rfl rfl) h0
  clear hA0 hval0
  simp only [List.append_nil] at hW'
  refine (walk a0 w0 W).mono fun e W' ⟨he, hg⟩ => ?_
  subst he
  exact ⟨_, rfl, post_of_same (pa := []) (pv := []) hW' (fun _ _ _ => (trodAll_cons_mk (shut_bool Yayv.underlying4 _) trodAll_mk0)) (fun sp _ => (trodAll_cons_mk (shut_int Yayv.underlying5 w0) trodAll_mk0)) (fun _ _ => rfl) rfl
    (hg.frame _) hg.2.1 (ok_one (by kernel_rfl) rfl (okWide_bool_mk Yayv.underlying4 _))⟩

theorem over : Rows.lawS930015QABWholeRow.holds Yayv.pinned (OpenSpec.ofChange Rows.lawS930015QABWholeSpec) :=
  OpenClaim.holds_of_wide 4 Yayv.f4 rfl rfl rfl rfl rfl rfl rfl ⟨rfl, rfl, rfl, rfl, rfl⟩ rfl rfl rfl rfl rfl (by kernel_rfl) Yayv.func4 (by kernel_rfl)
    (of_decide_eq_true (by kernel_rfl)) (by unfold Func.isWrapper; first | (rw [if_pos (by decide +kernel)]; kernel_rfl) | (rw [if_neg (by decide +kernel)]; exact ⟨rfl, rfl⟩))
    (fun os started H enc _ => lifted os started H enc)

/-- ████ THE STATEMENT ████ -/
theorem proved : Rows.LawS930015QABWholeSaid :=
  over
#print axioms proved
end Go.Proofs.Ymwhay.lawS930015QABWhole
