/-
  A PROOF OF 'Rows.LawS930015QAAWholeSaid': the given shell, its one hole filled: the walk, parted on 'sel % 4', then on 'kind % 8' or on 'kind'.
-/
import Derived.Test.YmwhayRows
import Derived.WalkKit
import Derived.ProofKit
import Derived.OpenShut
import Derived.ShutString
namespace Go.Proofs.Ymwhay.lawS930015QAAWhole
open Go.ChangeShapes Go.WideShapes Go.ChangeAt Go.RowKit
open Go.ChangeMaps (open_string shut_string)
set_option linter.unusedVariables false      -- a walk need not use every 'w<i>' (that an integer argument fits its kind)

theorem own : ownKnob Yayv.prog.godebug = none := by kernel_rfl

/-! ### STEP 1: THE WALK: the Go text returns true. 'Grown w w'': the world has at most new blocks. -/
/-! The way through 'case 1': the byte is drawn out of the array of eight, at each index. (One theorem an index: eight walks in one ran out of the default heartbeats.) -/
theorem drawn0 (a0 a1 : Int) (h0 : 0 ≤ a0 ∧ a0 ≤ 255) (h1 : 0 ≤ a1 ∧ a1 ≤ 255) (s : (a1 % 4 == 1) = true) (m : a0 % 8 = 0) (w : World) :
    Calls Yayv.prog 3 #[.int .u8 a0, .int .u8 a1] w fun e w' => e = .returned (.bool true) ∧ Grown w w' := by
  go_enter Yayv.func3, Yayv.ntmps3
  go_wp2
  go_ret
  exact ⟨rfl, by repeat (first | exact Grown.refl _ | apply Grown.drew | apply Grown.alloc)⟩

theorem drawn1 (a0 a1 : Int) (h0 : 0 ≤ a0 ∧ a0 ≤ 255) (h1 : 0 ≤ a1 ∧ a1 ≤ 255) (s : (a1 % 4 == 1) = true) (m : a0 % 8 = 1) (w : World) :
    Calls Yayv.prog 3 #[.int .u8 a0, .int .u8 a1] w fun e w' => e = .returned (.bool true) ∧ Grown w w' := by
  go_enter Yayv.func3, Yayv.ntmps3
  go_wp2
  go_ret
  exact ⟨rfl, by repeat (first | exact Grown.refl _ | apply Grown.drew | apply Grown.alloc)⟩

theorem drawn2 (a0 a1 : Int) (h0 : 0 ≤ a0 ∧ a0 ≤ 255) (h1 : 0 ≤ a1 ∧ a1 ≤ 255) (s : (a1 % 4 == 1) = true) (m : a0 % 8 = 2) (w : World) :
    Calls Yayv.prog 3 #[.int .u8 a0, .int .u8 a1] w fun e w' => e = .returned (.bool true) ∧ Grown w w' := by
  go_enter Yayv.func3, Yayv.ntmps3
  go_wp2
  go_ret
  exact ⟨rfl, by repeat (first | exact Grown.refl _ | apply Grown.drew | apply Grown.alloc)⟩

theorem drawn3 (a0 a1 : Int) (h0 : 0 ≤ a0 ∧ a0 ≤ 255) (h1 : 0 ≤ a1 ∧ a1 ≤ 255) (s : (a1 % 4 == 1) = true) (m : a0 % 8 = 3) (w : World) :
    Calls Yayv.prog 3 #[.int .u8 a0, .int .u8 a1] w fun e w' => e = .returned (.bool true) ∧ Grown w w' := by
  go_enter Yayv.func3, Yayv.ntmps3
  go_wp2
  go_ret
  exact ⟨rfl, by repeat (first | exact Grown.refl _ | apply Grown.drew | apply Grown.alloc)⟩

theorem drawn4 (a0 a1 : Int) (h0 : 0 ≤ a0 ∧ a0 ≤ 255) (h1 : 0 ≤ a1 ∧ a1 ≤ 255) (s : (a1 % 4 == 1) = true) (m : a0 % 8 = 4) (w : World) :
    Calls Yayv.prog 3 #[.int .u8 a0, .int .u8 a1] w fun e w' => e = .returned (.bool true) ∧ Grown w w' := by
  go_enter Yayv.func3, Yayv.ntmps3
  go_wp2
  go_ret
  exact ⟨rfl, by repeat (first | exact Grown.refl _ | apply Grown.drew | apply Grown.alloc)⟩

theorem drawn5 (a0 a1 : Int) (h0 : 0 ≤ a0 ∧ a0 ≤ 255) (h1 : 0 ≤ a1 ∧ a1 ≤ 255) (s : (a1 % 4 == 1) = true) (m : a0 % 8 = 5) (w : World) :
    Calls Yayv.prog 3 #[.int .u8 a0, .int .u8 a1] w fun e w' => e = .returned (.bool true) ∧ Grown w w' := by
  go_enter Yayv.func3, Yayv.ntmps3
  go_wp2
  go_ret
  exact ⟨rfl, by repeat (first | exact Grown.refl _ | apply Grown.drew | apply Grown.alloc)⟩

theorem drawn6 (a0 a1 : Int) (h0 : 0 ≤ a0 ∧ a0 ≤ 255) (h1 : 0 ≤ a1 ∧ a1 ≤ 255) (s : (a1 % 4 == 1) = true) (m : a0 % 8 = 6) (w : World) :
    Calls Yayv.prog 3 #[.int .u8 a0, .int .u8 a1] w fun e w' => e = .returned (.bool true) ∧ Grown w w' := by
  go_enter Yayv.func3, Yayv.ntmps3
  go_wp2
  go_ret
  exact ⟨rfl, by repeat (first | exact Grown.refl _ | apply Grown.drew | apply Grown.alloc)⟩

theorem drawn7 (a0 a1 : Int) (h0 : 0 ≤ a0 ∧ a0 ≤ 255) (h1 : 0 ≤ a1 ∧ a1 ≤ 255) (s : (a1 % 4 == 1) = true) (m : a0 % 8 = 7) (w : World) :
    Calls Yayv.prog 3 #[.int .u8 a0, .int .u8 a1] w fun e w' => e = .returned (.bool true) ∧ Grown w w' := by
  go_enter Yayv.func3, Yayv.ntmps3
  go_wp2
  go_ret
  exact ⟨rfl, by repeat (first | exact Grown.refl _ | apply Grown.drew | apply Grown.alloc)⟩

/-! The other way: the byte stays 'kind': one of the four operators; then none of them. -/
set_option maxHeartbeats 400000 in
theorem kept (a0 a1 : Int) (h1 : 0 ≤ a1 ∧ a1 ≤ 255) (s : (a1 % 4 == 1) = false) (hk : a0 = 43 ∨ a0 = 45 ∨ a0 = 42 ∨ a0 = 47) (w : World) :
    Calls Yayv.prog 3 #[.int .u8 a0, .int .u8 a1] w fun e w' => e = .returned (.bool true) ∧ Grown w w' := by
  rcases hk with rfl | rfl | rfl | rfl
  · go_enter Yayv.func3, Yayv.ntmps3
    go_wp2
    go_ret
    exact ⟨rfl, by repeat (first | exact Grown.refl _ | apply Grown.drew | apply Grown.alloc)⟩
  · go_enter Yayv.func3, Yayv.ntmps3
    go_wp2
    go_ret
    exact ⟨rfl, by repeat (first | exact Grown.refl _ | apply Grown.drew | apply Grown.alloc)⟩
  · go_enter Yayv.func3, Yayv.ntmps3
    go_wp2
    go_ret
    exact ⟨rfl, by repeat (first | exact Grown.refl _ | apply Grown.drew | apply Grown.alloc)⟩
  · go_enter Yayv.func3, Yayv.ntmps3
    go_wp2
    go_ret
    exact ⟨rfl, by repeat (first | exact Grown.refl _ | apply Grown.drew | apply Grown.alloc)⟩

theorem plain (a0 a1 : Int) (h1 : 0 ≤ a1 ∧ a1 ≤ 255) (s : (a1 % 4 == 1) = false) (e1 : (a0 == 43) = false) (e2 : (a0 == 45) = false) (e3 : (a0 == 42) = false) (e4 : (a0 == 47) = false) (w : World) :
    Calls Yayv.prog 3 #[.int .u8 a0, .int .u8 a1] w fun e w' => e = .returned (.bool true) ∧ Grown w w' := by
  go_enter Yayv.func3, Yayv.ntmps3
  go_wp2
  go_ret
  exact ⟨rfl, by repeat (first | exact Grown.refl _ | apply Grown.drew | apply Grown.alloc)⟩

theorem walk (a0 : Int) (a1 : Int) (w0 : (Lit.int .u8 a0).wf = true) (w1 : (Lit.int .u8 a1).wf = true) (w : World) :
    Calls Yayv.prog 3 #[.int .u8 a0, .int .u8 a1] w fun e w' => e = .returned (.bool true) ∧ Grown w w' := by
  have hb0 := bounds_u8 w0
  have hb1 := bounds_u8 w1
  by_cases s : (a1 % 4 == 1) = true
  · have hk : a0 % 8 = 0 ∨ a0 % 8 = 1 ∨ a0 % 8 = 2 ∨ a0 % 8 = 3 ∨ a0 % 8 = 4 ∨ a0 % 8 = 5 ∨ a0 % 8 = 6 ∨ a0 % 8 = 7 := by omega
    rcases hk with m | m | m | m | m | m | m | m
    · exact drawn0 a0 a1 hb0 hb1 s m w
    · exact drawn1 a0 a1 hb0 hb1 s m w
    · exact drawn2 a0 a1 hb0 hb1 s m w
    · exact drawn3 a0 a1 hb0 hb1 s m w
    · exact drawn4 a0 a1 hb0 hb1 s m w
    · exact drawn5 a0 a1 hb0 hb1 s m w
    · exact drawn6 a0 a1 hb0 hb1 s m w
    · exact drawn7 a0 a1 hb0 hb1 s m w
  · have s' : (a1 % 4 == 1) = false := by simpa using s
    by_cases c : a0 = 43 ∨ a0 = 45 ∨ a0 = 42 ∨ a0 = 47
    · exact kept a0 a1 hb1 s' c w
    · exact plain a0 a1 hb1 s' (by simp; omega) (by simp; omega) (by simp; omega) (by simp; omega) w

/-! ### THE ROW's STEP: WRITTEN OUT: LEAVE IT -/
set_option maxRecDepth 100000 in
theorem lifted (os : Os) (started : os.Started) (H : Type) (enc : TypeId × Value → H) :
    ReturnsInHanded {} Yayv.checked os 3 .any (Rows.lawS930015QAAWholeSpec.pre6 enc Yayv.prog Yayv.f3 Rows.lawS930015QAAWholeRow.domain false) (Rows.lawS930015QAAWholeSpec.post enc Yayv.prog Yayv.f3 false true false false) := by
  refine returnsInHanded_of_change (C := Yayv.checked) own started (by kernel_rfl) Yayv.func3
    (ChangeSpec.witness6 (enc := enc) (C := Yayv.checked) false ⟨#[], #[.int .u8 0, .int .u8 0], []⟩ 8 (by kernel_rfl) (by kernel_rfl) (by kernel_rfl) (by kernel_rfl)) ?_
  intro W base args ds gs before hval0 hW hcnd _
  have hval : ∀ (j : Nat) t v, Yayv.f3.params[j]? = some t → args[j]? = some v → Value.okWide Yayv.prog W .any base t v := hval0
  have hW' := hW
  obtain ⟨p, q, hA0, hV, rfl, hfz, hnd⟩ := hW
  have hA : DataW.TrodAll enc Yayv.prog W 0 (fun _ => true) true Yayv.f3.params.toList args.toList ds p := hA0
  rw [Yayv.params3] at hA hval
  obtain ⟨v0, vs0, d0, ds0, p0, q0, hargs, rfl, rfl, h0, r0⟩ := trodAll_cons hA
  obtain ⟨v1, vs1, d1, ds1, p1, q1, rfl, rfl, rfl, h1, r1⟩ := trodAll_cons r0
  obtain ⟨rfl, rfl, rfl⟩ := trodAll_nil r1
  obtain rfl : args = #[v0, v1] := by cases args; simp_all
  obtain ⟨rfl, rfl⟩ := trodVars_none hV
  obtain ⟨a0, rfl, rfl, rfl, w0⟩ := open_int Yayv.underlying5 (hval 0 5 v0 rfl rfl) h0
  obtain ⟨a1, rfl, rfl, rfl, w1⟩ := open_int Yayv.underlying5 (hval 1 5 v1 rfl rfl) h1
  clear hA0 hval0
  simp only [List.append_nil] at hW'
  refine (walk a0 a1 w0 w1 W).mono fun e W' ⟨he, hg⟩ => ?_
  subst he
  exact ⟨_, rfl, post_of_same (pa := []) (pv := []) hW' (fun _ _ _ => (trodAll_cons_mk (shut_bool Yayv.underlying4 _) trodAll_mk0)) (fun sp _ => (trodAll_cons_mk (shut_int Yayv.underlying5 w0) (trodAll_cons_mk (shut_int Yayv.underlying5 w1) trodAll_mk0))) (fun _ _ => rfl) rfl
    (hg.frame _) hg.2.1 (ok_one (by kernel_rfl) rfl (okWide_bool_mk Yayv.underlying4 _))⟩

theorem over : Rows.lawS930015QAAWholeRow.holds Yayv.pinned (OpenSpec.ofChange Rows.lawS930015QAAWholeSpec) :=
  OpenClaim.holds_of_wide 3 Yayv.f3 rfl rfl rfl rfl rfl rfl rfl ⟨rfl, rfl, rfl, rfl, rfl⟩ rfl rfl rfl rfl rfl (by kernel_rfl) Yayv.func3 (by kernel_rfl)
    (of_decide_eq_true (by kernel_rfl)) (by unfold Func.isWrapper; first | (rw [if_pos (by decide +kernel)]; kernel_rfl) | (rw [if_neg (by decide +kernel)]; exact ⟨rfl, rfl⟩))
    (fun os started H enc _ => lifted os started H enc)

/-- ████ THE STATEMENT ████ -/
theorem proved : Rows.LawS930015QAAWholeSaid :=
  over
#print axioms proved
end Go.Proofs.Ymwhay.lawS930015QAAWhole
