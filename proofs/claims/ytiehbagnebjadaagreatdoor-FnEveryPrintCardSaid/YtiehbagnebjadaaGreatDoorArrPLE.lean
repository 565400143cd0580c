-- Plain lemmas on logs.
import Derived.Test.YtiehbagnebjadaaGreatDoorQx6
import Derived.Test.YtiehbagnebjadaaGreatDoorQx8
import Derived.Test.YtiehbagnebjadaaGreatDoorQx10
import Derived.Test.YtiehbagnebjadaaGreatDoorQx12
import Derived.Test.YtiehbagnebjadaaGreatDoorQx14
import Derived.Test.YtiehbagnebjadaaGreatDoorArrPLR
namespace Go.Proofs.YtiehbagnebjadaaGreatDoor.PL
open Go.RowKit Go.Proofs.YtiehbagnebjadaaGreatDoor.Q Go.Proofs.YtiehbagnebjadaaGreatDoorW.PrintWords Go.Proofs.YtiehbagnebjadaaGreatDoorW.PrintLast Go.Proofs.YtiehbagnebjadaaGreatDoorW.PrintMore
set_option linter.unusedVariables false
set_option linter.unusedSimpArgs false
theorem L_linedLe (b : UInt8) (m : Nat) : ∀ L : List (List UInt8), (∀ x ∈ L, x.length ≤ m) → (D_lined b L).length ≤ (m + 1) * L.length
  | [], _ => by simp [D_lined]
  | x :: t, h => by
    have h1 := h x (by simp)
    have h2 := L_linedLe b m t (fun y hy => h y (List.mem_cons_of_mem _ hy))
    rw [D_lined, List.length_append, List.length_cons, List.length_cons, Nat.mul_add]
    omega

theorem L_tlSize (P : List S116) (S : List S89) (h : D_okLog P S) : (D_mk (D_TL P S)).size ≤ 1048576 := by
  have hf := (L_curveFacts h.1).1
  have hb := L_joinLen P (L_okPt h.1) hf.2
  rw [L_joinGlue] at hb
  have hS := h.2.1.2
  rw [L_mkSz]
  unfold D_TL
  have := L_linedLe 10 300 (D_crv P :: S.map D_sl) (fun x hx => by
    rcases List.mem_cons.1 hx with rfl | hx
    · exact hb
    · obtain ⟨s, hs, rfl⟩ := List.mem_map.1 hx
      have h1 := h.2.1.1 s hs
      have h2 := L_decLen 6 s.f1.toNat (by omega) (by omega)
      unfold D_sl
      rw [List.length_append, L_hexNLen, List.length_cons]
      omega)
  rw [List.length_cons, List.length_map] at this
  have h3 : 301 * (S.length + 1) ≤ 301 * 31 := Nat.mul_le_mul_left _ (by omega)
  omega

theorem L_everyOk (P : List S116) (S : List S89) (h : D_okLog P S) : impl_LogText.f 100 P S = some (D_mk (D_TL P S)) ∧ impl_ReadLog.f (D_mk (D_TL P S)) = some (P, S, 0) := by
  refine ⟨?_, L_implLogOf _ (L_tlSize P S h) P S h (L_mkData _)⟩
  have hf := (L_curveFacts h.1).1
  have h16 : D_i16s P := fun p hp => by have := L_okPt h.1 p hp; omega
  have h8 : D_i8s S := fun s hs => by have := h.2.1.1 s hs; omega
  unfold impl_LogText.f
  rw [L_implCurve P h16 (by omega) (by omega)]
  simp only [Option.bind_some]
  rw [if_pos h.1, L_implSteps S h8]
  simp only [Option.bind_some]
  rw [if_pos (decide_eq_true h.2.1), L_implLogTL P S h (by omega)]
  rfl


-- L_everyOk
end Go.Proofs.YtiehbagnebjadaaGreatDoor.PL
