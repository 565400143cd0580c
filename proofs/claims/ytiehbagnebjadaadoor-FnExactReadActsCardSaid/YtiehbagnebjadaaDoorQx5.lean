-- Written by wip/mk.py of this repository (a run of the kit's print with hand-proved leaves added); Lean checks it.
import Derived.Test.YtiehbagnebjadaaDoorQx0
import Derived.Test.YtiehbagnebjadaaDoorQx1
import Derived.Test.YtiehbagnebjadaaDoorQx4
namespace Go.Proofs.YtiehbagnebjadaaDoor.Q
open Go.RowKit Go.Proofs.YtiehbagnebjadaaDoorW.PrintWords Go.Proofs.YtiehbagnebjadaaDoorW.PrintLast Go.Proofs.YtiehbagnebjadaaDoorW.PrintMore
attribute [local go_sem] max2_int min2_int max_two min_two max_three min_three max_four min_four   -- for this text's walks alone
set_option linter.unusedVariables false
set_option linter.unusedSimpArgs false

/-! ### impl_Act_81: function 81 -/
set_option maxHeartbeats 8000000 in
set_option maxRecDepth 100000 in
theorem impl_Act_81.gen (g : Nat) (caps : Array Value) (q : S56 → Option Bool) (w : World) (he : ∀ (args : Array Value) (W : World), (callFunc g args).run Tryd.prog W = .ok (.enter g args) W)
    (hq : ∀ (x : S56) (b : Bool) (W : World), Below w.heap.size w W → q x = some b → Calls Tryd.prog g (#[.agg #[.int .i8 x.f0, .int .i64 x.f1]] ++ caps) W fun e W' => e = .returned (.bool b) ∧ Below W.heap.size W W')
    (A0 : Option Addr) (c0 : Nat) (l0 : List (S56)) (r : Int) (hr0 : Kd.C k56 w A0 l0.length l0) (_hc0 : l0.length ≤ c0) (h : D_idx q l0 0 = some r) :
    Calls Tryd.prog 81 #[.slice A0 l0.length c0, .func (.func g) #[] caps] w fun e w' => e = .returned (.int .i64 r) ∧ Below w.heap.size w w' := by
  have HR0 := Aside0.mk hr0
  have HQ := Aside0.mk hq
  have H := Aside0.mk h
  have hlen : l0.length ≤ 9223372036854775807 := hr0.2.1
  clear hr0 hq h
  go_enter Tryd.func81, Tryd.ntmps81
  go_wp2
  go_loopw [8] (fun i wr => ∃ k : Int, 0 ≤ k ∧ k ≤ l0.length ∧ i = .int .i64 k ∧ Aside0 (D_idx q (l0.drop k.toNat) k = some r) ∧ Aside0 (Below w.heap.size w wr)) (fun i _ => l0.length - (intOf i).toNat)
  case atStart => exact ⟨0, by omega, by omega, rfl, H, ⟨Below.refl _ _⟩⟩
  case round =>
    obtain ⟨k, hk0, hk, rfl, HK, HB⟩ := hrel
    by_cases hlt : k < (l0.length : Int)
    · have HK2 := HK.out
      have hkn : k.toNat < l0.length := by omega
      rw [D_idx_drop q l0 k.toNat hkn] at HK2
      replace HK2 := Option.bind_eq_some_iff.mp HK2
      obtain ⟨b, hb, HK3⟩ := HK2
      have e1 : l0[k.toNat]'hkn = rd_T56 l0 k := by unfold rd_T56; rw [List.getD_eq_getElem?_getD, List.getElem?_eq_getElem hkn]; rfl
      rw [e1] at hb
      have e2 : k.toNat + 1 = (k + 1).toNat := by omega
      rw [e2] at HK3
      have HB3 := Aside0.mk hb
      have HK4 := Aside0.mk HK3
      clear hb HK3 HK e1 e2 hkn
      obtain ⟨ad, e0, hcell0, hcell1⟩ := at_T56 (Kd.C_below HR0.out HB.out) k hk0 hlt
      cases e0
      have p0 := eq_true hk0
      have p1 := eq_true hlt
      have H5 := Aside0.mk he
      go_wp2
      refine (HQ.out _ b _ HB.out HB3.out).mono ?_
      rintro e w1 ⟨rfl, hb1⟩
      have HB1 : Aside0 (Below w.heap.size w w1) := ⟨below_step HB.out hb1⟩
      clear hb1
      cases b
      · have HK5 : Aside0 (D_idx q (l0.drop (k + 1).toNat) (k + 1) = some r) := ⟨by have := HK4.out; simpa using this⟩
        clear HK4
        have hk1 : k + 1 ≤ (l0.length : Int) := by omega
        go_wp2
        go_roundw
        case measure => simp [intOf]; omega
        case rel => exact ⟨k + 1, by omega, by omega, rfl, HK5, HB1⟩
      · obtain rfl : k = r := by have := HK4.out; simpa using this
        clear HK4
        go_wp2
        go_ret
        exact ⟨rfl, HB1.out⟩
    · have hkl : k.toNat = l0.length := by omega
      have HK2 := HK.out
      rw [hkl, List.drop_length] at HK2
      obtain rfl : -1 = r := by simpa [D_idx] using HK2
      clear HK HK2 H hkl
      go_wp2
      go_ret
      exact ⟨rfl, HB.out⟩
def impl_Act_81.f (l0 : List (S56)) (a1 : Nat) : Option Int :=
if a1 = 80 then (D_idx (fun x : S56 => impl_areKinds_1.f x.f0 x.f1) l0 0) else
if a1 = 65 then (D_idx (fun x : S56 => impl_areTold_1.f x.f0 x.f1) l0 0) else
  none
theorem impl_Act_81.calls (A0 : Option Addr) (c0 : Nat) (l0 : List (S56)) (a1 : Nat) (r : Int) (w : World) (hr0 : Kd.C k56 w A0 l0.length l0) (hc0 : l0.length ≤ c0) (h : impl_Act_81.f l0 a1 = some r) :
    Calls Tryd.prog 81 #[.slice A0 l0.length c0, .func (.func a1) #[] #[]] w fun e w' => e = .returned (.int .i64 r) ∧ Below w.heap.size w w' := by
  unfold impl_Act_81.f at h
  by_cases e0 : a1 = 80
  · subst e0
    rw [if_pos rfl] at h
    exact impl_Act_81.gen 80 #[] _ w (fun args W => enters_ Tryd.func80 (by kernel_rfl) rfl args W) (fun x b W _ hb => (impl_areKinds_1.calls x.f0 x.f1 b W hb).mono fun e W' hh => ⟨hh.1, by first | exact hh.2 | exact hh.2.below⟩) A0 c0 l0 r hr0 hc0 h
  rw [if_neg e0] at h
  by_cases e1 : a1 = 65
  · subst e1
    rw [if_pos rfl] at h
    exact impl_Act_81.gen 65 #[] _ w (fun args W => enters_ Tryd.func65 (by kernel_rfl) rfl args W) (fun x b W _ hb => (impl_areTold_1.calls x.f0 x.f1 b W hb).mono fun e W' hh => ⟨hh.1, by first | exact hh.2 | exact hh.2.below⟩) A0 c0 l0 r hr0 hc0 h
  rw [if_neg e1] at h
  cases h



/-! ### impl_Act_64: function 64 -/
set_option maxHeartbeats 8000000 in
set_option maxRecDepth 100000 in
theorem impl_Act_64.gen (v : Value) (w : World) (r : Int) (a : Value)
    (h : Calls Tryd.prog 81 #[a, v] w fun e w' => e = .returned (.int .i64 r) ∧ Below w.heap.size w w') :
    Calls Tryd.prog 64 #[a, v] w fun e w' => e = .returned (.bool (decide (0 ≤ r))) ∧ Below w.heap.size w w' := by
  have H := Aside0.mk h
  clear h
  go_enter Tryd.func64, Tryd.ntmps64
  go_wp2_with (first | ((with_reducible refine gate_callee (f := 81) rfl ?_); go_at_call 81; refine H.out.mono ?_; rintro e w1 ⟨rfl, hb⟩) | (go_at_call 81; refine H.out.mono ?_; rintro e w1 ⟨rfl, hb⟩))
  go_ret
  exact ⟨by first | rfl | (simp; done), by assumption⟩
def impl_Act_64.f (l0 : List (S56)) (a1 : Nat) : Option Bool := (impl_Act_81.f l0 a1).bind fun r => some (decide (0 ≤ r))
theorem impl_Act_64.calls (A0 : Option Addr) (c0 : Nat) (l0 : List (S56)) (a1 : Nat) (r : Bool) (w : World) (hr0 : Kd.C k56 w A0 l0.length l0) (hc0 : l0.length ≤ c0) (h : impl_Act_64.f l0 a1 = some r) :
    Calls Tryd.prog 64 #[.slice A0 l0.length c0, .func (.func a1) #[] #[]] w fun e w' => e = .returned (.bool r) ∧ Below w.heap.size w w' := by
  unfold impl_Act_64.f at h
  obtain ⟨i, h1, h2⟩ := Option.bind_eq_some_iff.mp h
  obtain rfl := Option.some.inj h2
  exact impl_Act_64.gen _ w i _ (impl_Act_81.calls A0 c0 l0 a1 i w hr0 hc0 h1)


/-! ### impl_areKinds: function 63 -/
def impl_areKinds.f (l0 : List (S56)) : Option (Bool) := (impl_Act_64.f l0 80).bind fun t160 => (some (!t160))
set_option maxHeartbeats 8000000 in
set_option maxRecDepth 100000 in
theorem impl_areKinds.calls (A0 : Option Addr) (c0 : Nat) (l0 : List (S56)) (r : Bool) (w : World) (hr0 : Kd.C k56 w A0 l0.length l0) (hc0 : l0.length ≤ c0) (h : impl_areKinds.f l0 = some r) :
    Calls Tryd.prog 63 #[.slice A0 l0.length c0] w fun e w' => e = .returned (.bool r) ∧ Below w.heap.size w w' := by
  have HR0 := Aside0.mk hr0
  have HC0 := Aside0.mk hc0
  clear hr0 hc0
  have HB := Aside0.mk (Below.refl w.heap.size w)
  have H : ((impl_Act_64.f l0 80).bind fun t160 => (some (!t160))) = some r := h
  clear h
  replace H := Option.bind_eq_some_iff.mp H
  obtain ⟨t160, A20, H⟩ := H
  replace H : (some (!t160)) = some r := H
  have A2 := Aside0.mk A20
  clear A20
  obtain rfl := Option.some.inj H
  go_enter Tryd.func63, Tryd.ntmps63
  go_wp2_with (first | ((with_reducible refine gate_callee (f := 64) rfl ?_); refine goesL_ (some 4) rfl rfl Tryd.func64 (by kernel_rfl) rfl #[.slice A0 l0.length c0, .func (.func 80) #[] #[]] rfl (by (try simp only [List.map_toArray, List.map_cons, List.map_nil]); first | done | rfl | (simp only [List.length_drop, List.length_take]; rfl)) ?_; (with_reducible refine (impl_Act_64.calls _ _ l0 80 t160 _ ?side1 ?side2 A2.out).mono ?_); (case side1 => repeat (first | exact HR0.out | (with_reducible refine Kd.C_alloc ?_ _) | (with_reducible refine Kd.C_drewN ?_ _) | (with_reducible refine Kd.C_drew ?_))); (case side2 => exact HC0.out); rintro e w3 ⟨rfl, hb⟩; refine ⟨_, rfl, ?_⟩; have n0_ := Aside0.mk (below_step HB.out hb); clear HB; have HB := n0_; clear n0_; (try clear hb); (try clear hb2); (try clear hk); (try clear hi)))
  go_ret
  exact ⟨by first | rfl | (simp [errW_none, errW_some] <;> rfl) | (simp [*, errW_none, errW_some] <;> rfl), by repeat (first | (with_reducible first | exact HB.out | apply below_alloc | apply pw_below_drewN | apply below_drew1) | exact HB.out)⟩

/-! ### impl_areTold: function 34 -/
def impl_areTold.f (l0 : List (S56)) : Option (Bool) := if (l0.length : Int) ≤ 60 then ((impl_areKinds.f l0).bind fun t161 => (if t161 = true then ((impl_Act_64.f l0 65).bind fun t162 => (some (!t162))) else (some false))) else (some false)
set_option maxHeartbeats 8000000 in
set_option maxRecDepth 100000 in
theorem impl_areTold.calls (A0 : Option Addr) (c0 : Nat) (l0 : List (S56)) (r : Bool) (w : World) (hr0 : Kd.C k56 w A0 l0.length l0) (hc0 : l0.length ≤ c0) (h : impl_areTold.f l0 = some r) :
    Calls Tryd.prog 34 #[.slice A0 l0.length c0] w fun e w' => e = .returned (.bool r) ∧ Below w.heap.size w w' := by
  have HR0 := Aside0.mk hr0
  have HC0 := Aside0.mk hc0
  clear hr0 hc0
  have HB := Aside0.mk (Below.refl w.heap.size w)
  have H : (if (l0.length : Int) ≤ 60 then ((impl_areKinds.f l0).bind fun t161 => (if t161 = true then ((impl_Act_64.f l0 65).bind fun t162 => (some (!t162))) else (some false))) else (some false)) = some r := h
  clear h
  by_cases c2 : (l0.length : Int) ≤ 60
  · rw [if_pos c2] at H
    have c2b0 : decide ((l0.length : Int) ≤ 60) = true := decide_eq_true c2
    have c2b1 : decide (l0.length ≤ 60) = true := decide_eq_true (by omega)
    clear c2
    replace H := Option.bind_eq_some_iff.mp H
    obtain ⟨t161, A30, H⟩ := H
    replace H : (if t161 = true then ((impl_Act_64.f l0 65).bind fun t162 => (some (!t162))) else (some false)) = some r := H
    have A3 := Aside0.mk A30
    clear A30
    by_cases c4 : t161 = true
    · subst c4
      have H1 : ((impl_Act_64.f l0 65).bind fun t162 => (some (!t162))) = some r := by rw [if_pos rfl] at H; exact H
      clear H
      have H := H1
      clear H1
      replace H := Option.bind_eq_some_iff.mp H
      obtain ⟨t162, A50, H⟩ := H
      replace H : (some (!t162)) = some r := H
      have A5 := Aside0.mk A50
      clear A50
      obtain rfl := Option.some.inj H
      go_enter Tryd.func34, Tryd.ntmps34
      go_wp2_with (first | (go_at_call 63; (with_reducible refine (impl_areKinds.calls _ _ l0 true _ ?side1 ?side2 A3.out).mono ?_); (case side1 => repeat (first | exact HR0.out | (with_reducible refine Kd.C_alloc ?_ _) | (with_reducible refine Kd.C_drewN ?_ _) | (with_reducible refine Kd.C_drew ?_))); (case side2 => exact HC0.out); rintro e w6 ⟨rfl, hb⟩; have n0_ := Aside0.mk (below_step HB.out hb); clear HB; have HB := n0_; clear n0_; (try clear hb); (try clear hb2); (try clear hk); (try clear hi)) | (go_at_call 64; (with_reducible refine (impl_Act_64.calls _ _ l0 65 t162 _ ?side1 ?side2 A5.out).mono ?_); (case side1 => repeat (first | exact (Kd.C_below HR0.out HB.out) | (with_reducible refine Kd.C_alloc ?_ _) | (with_reducible refine Kd.C_drewN ?_ _) | (with_reducible refine Kd.C_drew ?_))); (case side2 => exact HC0.out); rintro e w7 ⟨rfl, hb⟩; have n0_ := Aside0.mk (below_step HB.out hb); clear HB; have HB := n0_; clear n0_; (try clear hb); (try clear hb2); (try clear hk); (try clear hi)))
      go_ret
      exact ⟨by first | rfl | (simp [errW_none, errW_some] <;> rfl) | (simp [*, errW_none, errW_some] <;> rfl), by repeat (first | (with_reducible first | exact HB.out | apply below_alloc | apply pw_below_drewN | apply below_drew1) | exact HB.out)⟩
    · replace c4 := Bool.eq_false_iff.mpr c4
      subst c4
      have H1 : (some false) = some r := by rw [if_neg (show ¬ (false = true) by decide)] at H; exact H
      clear H
      have H := H1
      clear H1
      obtain rfl := Option.some.inj H
      go_enter Tryd.func34, Tryd.ntmps34
      go_wp2_with (first | (go_at_call 63; (with_reducible refine (impl_areKinds.calls _ _ l0 false _ ?side1 ?side2 A3.out).mono ?_); (case side1 => repeat (first | exact HR0.out | (with_reducible refine Kd.C_alloc ?_ _) | (with_reducible refine Kd.C_drewN ?_ _) | (with_reducible refine Kd.C_drew ?_))); (case side2 => exact HC0.out); rintro e w8 ⟨rfl, hb⟩; have n0_ := Aside0.mk (below_step HB.out hb); clear HB; have HB := n0_; clear n0_; (try clear hb); (try clear hb2); (try clear hk); (try clear hi)))
      go_ret
      exact ⟨by first | rfl | (simp [errW_none, errW_some] <;> rfl) | (simp [*, errW_none, errW_some] <;> rfl), by repeat (first | (with_reducible first | exact HB.out | apply below_alloc | apply pw_below_drewN | apply below_drew1) | exact HB.out)⟩
  · rw [if_neg c2] at H
    have c2b0 : decide ((l0.length : Int) ≤ 60) = false := decide_eq_false c2
    have c2b1 : decide (l0.length ≤ 60) = false := decide_eq_false (by omega)
    clear c2
    obtain rfl := Option.some.inj H
    go_enter Tryd.func34, Tryd.ntmps34
    go_wp2
    go_ret
    exact ⟨by first | rfl | (simp [errW_none, errW_some] <;> rfl) | (simp [*, errW_none, errW_some] <;> rfl), by repeat (first | (with_reducible first | exact HB.out | apply below_alloc | apply pw_below_drewN | apply below_drew1) | exact HB.out)⟩

/-! ### impl_actWords: function 54 -/
def impl_actWords.f  : Option (List ByteArray) := some (([(⟨#[115, 104, 101, 101, 116]⟩ : ByteArray), (⟨#[114, 101, 115, 116]⟩ : ByteArray), (⟨#[114, 101, 112, 108, 101, 110, 105, 115, 104]⟩ : ByteArray)] : List ByteArray))
set_option maxHeartbeats 8000000 in
set_option maxRecDepth 100000 in
theorem impl_actWords.calls  (r : List ByteArray) (w : World) (h : impl_actWords.f  = some r) :
    Calls Tryd.prog 54 #[] w fun e w' => ∃ v0_ : Value, e = .returned (v0_) ∧ Kd.R Kd.string 9 w' w.heap.size (fun _ => True) v0_ r ∧ Below w.heap.size w w' := by
  have HB := Aside0.mk (Below.refl w.heap.size w)
  have H : (some (([(⟨#[115, 104, 101, 101, 116]⟩ : ByteArray), (⟨#[114, 101, 115, 116]⟩ : ByteArray), (⟨#[114, 101, 112, 108, 101, 110, 105, 115, 104]⟩ : ByteArray)] : List ByteArray))) = some r := h
  clear h
  obtain ⟨y163, hy163⟩ : ∃ y_ : List ByteArray, y_ = (([(⟨#[115, 104, 101, 101, 116]⟩ : ByteArray), (⟨#[114, 101, 115, 116]⟩ : ByteArray), (⟨#[114, 101, 112, 108, 101, 110, 105, 115, 104]⟩ : ByteArray)] : List ByteArray)) := ⟨_, rfl⟩
  replace H : (some y163) = some r := by first | (rw [hy163]; with_reducible exact H) | (have H2_ := (Option.bind_some _ _).symm.trans H; rw [hy163]; with_reducible exact H2_) | (have H2_ := (Option.bind_some _ _).symm.trans H; with_reducible exact H2_) | with_reducible exact H | (rw [hy163]; exact H) | exact H
  have Ny163 := Aside0.mk hy163
  clear hy163
  obtain rfl := Option.some.inj H
  go_enter Tryd.func54, Tryd.ntmps54
  go_wp2_with (first | ((with_reducible refine gate_dst (N := 1) rfl ?_); refine Kd.R_lit Kd.string _ 9 ?hg (N := 1) ?hd (xs := ([(⟨#[115, 104, 101, 101, 116]⟩ : ByteArray), (⟨#[114, 101, 115, 116]⟩ : ByteArray), (⟨#[114, 101, 112, 108, 101, 110, 105, 115, 104]⟩ : ByteArray)] : List ByteArray)) (inner := [.string (⟨#[115, 104, 101, 101, 116]⟩ : ByteArray), .string (⟨#[114, 101, 115, 116]⟩ : ByteArray), .string (⟨#[114, 101, 112, 108, 101, 110, 105, 115, 104]⟩ : ByteArray)]) (ok := fun _ => True) (okp := fun _ => True) ?hr ?hp (fun _ hk => hk) trivial (Below.refl _ _) (Nat.le_refl _) (by simp) ?_; (case hd => rfl); (case hg => rfl); (case hr => first | (go_simp; done) | (go_simp; rfl)); (case hp => exact (Reps.one (show Kd.M Kd.string _ _ _ (⟨#[115, 104, 101, 101, 116]⟩ : ByteArray) [.string (⟨#[115, 104, 101, 101, 116]⟩ : ByteArray)] from rfl) (Reps.one (show Kd.M Kd.string _ _ _ (⟨#[114, 101, 115, 116]⟩ : ByteArray) [.string (⟨#[114, 101, 115, 116]⟩ : ByteArray)] from rfl) (Reps.one (show Kd.M Kd.string _ _ _ (⟨#[114, 101, 112, 108, 101, 110, 105, 115, 104]⟩ : ByteArray) [.string (⟨#[114, 101, 112, 108, 101, 110, 105, 115, 104]⟩ : ByteArray)] from rfl) (Reps.none _ _))))); intro v164 w1 ho2 hb hg_ hnew_; clear hg_ hnew_; (first | rw [← Ny163.out] at ho2 | (simp only [Int.reduceToNat] at ho2; rw [← Ny163.out] at ho2)); have n0_ := Aside0.mk (Kd.R_lower ho2 (below_size HB.out)); have n1_ := Aside0.mk (below_step HB.out hb); clear HB; have HO165 := n0_; have HB := n1_; clear n0_ n1_; clear hb ho2))
  go_ret
  exact ⟨_, by first | rfl | (simp [errW_none, errW_some] <;> rfl) | (simp [*, errW_none, errW_some] <;> rfl), by (with_reducible repeat (first | apply Kd.R_alloc | apply Kd.R_drewN | apply Kd.R_drew)); exact HO165.out, by repeat (first | (with_reducible first | exact HB.out | apply below_alloc | apply pw_below_drewN | apply below_drew1) | exact HB.out)⟩

/-! ### impl_decimal: function 61 -/
def impl_decimal.f (a0 : Int) : Option (ByteArray) := if -9223372036854775808 ≤ a0 then (if a0 ≤ 9223372036854775807 then (some ⟨(Lib.itoa a0).toArray⟩) else (none)) else (none)
set_option maxHeartbeats 8000000 in
set_option maxRecDepth 100000 in
theorem impl_decimal.calls (a0 : Int) (r : ByteArray) (w : World) (h : impl_decimal.f a0 = some r) (hT : Tab10 w) :
    Calls Tryd.prog 61 #[.int .i64 a0] w fun e w' => e = .returned (.string r) ∧ Below w.heap.size w w' := by
  have h0 : -9223372036854775808 ≤ a0 := by unfold impl_decimal.f at h; split at h <;> simp_all
  have h1 : a0 ≤ 9223372036854775807 := by unfold impl_decimal.f at h; rw [if_pos h0] at h; split at h <;> simp_all
  have hr : (⟨(Lib.itoa a0).toArray⟩ : ByteArray) = r := by unfold impl_decimal.f at h; rw [if_pos h0, if_pos h1] at h; exact Option.some.inj h
  clear h
  subst hr
  have HB := Aside0.mk (Below.refl w.heap.size w)
  go_enter Tryd.func61, Tryd.ntmps61
  go_wp2_with fail
  refine (Any.strconv_FormatInt_10 Tryd.lays173 a0 h0 h1 _ hT.pow).mono ?_
  rintro e w' ⟨rfl, k, os, rfl⟩
  go_wp2_with fail
  go_ret
  exact ⟨rfl, below_grow _ _ _⟩


theorem impl_actsText.imp_ {P : Program} {md : Region.Mode} {ops : Array Oper} {Q : Exit → Act → World → Prop} {S S' : World → Prop} (hSS : ∀ w, S' w → S w) : ∀ (fuel : Nat) (l : Array Bool) (a : Act) (w : World), S' w → wpAnyLast P md ops Q S' [] fuel l a w → wpAnyLast P md ops Q S [] fuel l a w
  | 0, _, _, _, _, h => h
  | fuel + 1, _, _, _, hS, h => ⟨h.1, fun i hi => wpOp_mono (fun a' w' h' => ⟨fun _ _ => hSS _ (h'.1 (by simp) hS), impl_actsText.imp_ hSS fuel _ a' w' (h'.1 (by simp) hS) h'.2⟩) (h.2 i hi)⟩
/-! ### impl_actsText: function 35 -/
def impl_actsText.l0 : Nat → ByteArray → List (S56) → Int → Int → Option (ByteArray)
  | 0, _, _, _, _ => none
  | k + 1, x3, x6, x7, x8 => if x8 < x7 then (if 0 ≤ x8 then (if x8 < (x6.length : Int) then ((impl_actWords.f).bind fun t168 => (if 0 ≤ ((rd_T56 x6 x8).f0) then (if ((rd_T56 x6 x8).f0) < (t168.length : Int) then (if (rdOf ByteArray.empty t168 ((rd_T56 x6 x8).f0)).size + 1 ≤ 9223372036854775807 then ((impl_decimal.f ((rd_T56 x6 x8).f1)).bind fun t172 => (if ((rdOf ByteArray.empty t168 ((rd_T56 x6 x8).f0)) ++ (⟨#[32]⟩ : ByteArray)).size + t172.size ≤ 9223372036854775807 then (if (((rdOf ByteArray.empty t168 ((rd_T56 x6 x8).f0)) ++ (⟨#[32]⟩ : ByteArray)) ++ t172).size + 1 ≤ 9223372036854775807 then (if x3.size + ((((rdOf ByteArray.empty t168 ((rd_T56 x6 x8).f0)) ++ (⟨#[32]⟩ : ByteArray)) ++ t172) ++ (⟨#[10]⟩ : ByteArray)).size ≤ 9223372036854775807 then (impl_actsText.l0 k (x3 ++ ((((rdOf ByteArray.empty t168 ((rd_T56 x6 x8).f0)) ++ (⟨#[32]⟩ : ByteArray)) ++ t172) ++ (⟨#[10]⟩ : ByteArray))) x6 x7 (wrap64 (x8 + 1))) else (none)) else (none)) else (none))) else (none)) else (none)) else (none))) else (none)) else (none)) else (some x3)
def impl_actsText.f (k : Nat) (l0 : List (S56)) : Option (ByteArray) := impl_actsText.l0 k (⟨#[]⟩ : ByteArray) l0 (l0.length : Int) 0
theorem impl_actsText.mono_l : ∀ k, (∀ y0 y1 y2 y3, LeO (impl_actsText.l0 k y0 y1 y2 y3) (impl_actsText.l0 (k + 1) y0 y1 y2 y3))
  | 0 => fun _ _ _ _ r h => by simp [impl_actsText.l0] at h
  | k + 1 => by
    have ih0 := impl_actsText.mono_l k
    · intro y0 y1 y2 y3
      unfold impl_actsText.l0
      repeat' first
      | (with_reducible exact ih0 _ _ _ _)
      | (with_reducible exact LeO.refl _)
      | (with_reducible exact LeO.none _)
      | (with_reducible refine LeO.ite ?_ ?_)
      | (with_reducible refine LeO.bind ?_ (fun _ => ?_))
      | exact ih0 _ _ _ _
      | exact LeO.none _
      | refine LeO.ite ?_ ?_
      | refine LeO.bind ?_ (fun _ => ?_)
theorem impl_actsText.mono : ∀ a0 k, LeO (impl_actsText.f k a0) (impl_actsText.f (k + 1) a0) := by
  intro a0 k
  have ih0 := impl_actsText.mono_l k
  unfold impl_actsText.f
  repeat' first
      | (with_reducible exact ih0 _ _ _ _)
      | (with_reducible exact LeO.refl _)
      | (with_reducible exact LeO.none _)
      | (with_reducible refine LeO.ite ?_ ?_)
      | (with_reducible refine LeO.bind ?_ (fun _ => ?_))
      | exact ih0 _ _ _ _
      | exact LeO.none _
      | refine LeO.ite ?_ ?_
      | refine LeO.bind ?_ (fun _ => ?_)
def impl_actsText.T5 : Bool × List (List Nat × List Nat) := (true, [([], []), ([], []), ([], []), ([2], [2]), ([1, 3], [1, 3]), ([4], [4]), ([5], [5]), ([], []), ([7], [7]), ([8, 1], [8]), ([6, 9], [6, 9]), ([10], [10]), ([0, 11], [0, 11]), ([12, 9, 0, 1, 2, 3, 4, 5, 6, 7, 8, 9, 10, 11, 12], [0, 12])])
def impl_actsText.B5 : List Nat := [0, 0, 0, 4, 14, 30, 62, 0, 128, 386, 1022, 2046, 4095, 8191]
theorem impl_actsText.tab5 : rtab .any (opsOf Tryd.f35 5) = impl_actsText.T5 := by kernel_rfl
theorem impl_actsText.bits5 : waitsOk impl_actsText.T5.2 impl_actsText.B5 = true := by kernel_rfl
set_option maxHeartbeats 8000000 in
set_option maxRecDepth 100000 in
theorem impl_actsText.calls (k : Nat) (A0 : Option Addr) (c0 : Nat) (l0 : List (S56)) (r : ByteArray) (w : World) (hr0 : Kd.C k56 w A0 l0.length l0) (hc0 : l0.length ≤ c0) (h : impl_actsText.f k l0 = some r) (hT10 : Tab10 w) :
    Calls Tryd.prog 35 #[.slice A0 l0.length c0] w fun e w' => e = .returned (.string r) ∧ Below w.heap.size w w' := by
  have HT10 := Aside0.mk hT10
  clear hT10
  have hu56 := Tryd.underlying56
  have HR0 := Aside0.mk hr0
  have HC0 := Aside0.mk hc0
  clear hr0 hc0
  have HB := Aside0.mk (Below.refl w.heap.size w)
  have H : (impl_actsText.l0 k (⟨#[]⟩ : ByteArray) l0 (l0.length : Int) 0) = some r := h
  clear h
  have H' := Aside0.mk H
  clear H
  go_enter Tryd.func35, Tryd.ntmps35
  go_wp2
  go_loopg [3, 8] k (fun kq v3 v8 w' => ∃ (x3_1 : ByteArray) (x8_1 : Int), v3 = .string x3_1 ∧ v8 = .int .i64 x8_1 ∧ Aside0 (impl_actsText.l0 kq x3_1 l0 (l0.length : Int) x8_1 = some r) ∧ Aside0 (kq ≤ k) ∧ Aside0 (Below w.heap.size w w'))
  case atStart => exact ⟨((⟨#[]⟩ : ByteArray)), (0), (by first | rfl | (simp; done) | (simp [*]; done)), (by first | rfl | (simp; done) | (simp [*]; done)), H', ⟨Nat.le_refl _⟩, ⟨by repeat (first | (with_reducible first | exact HB.out | apply below_alloc | apply pw_below_drewN | apply below_drew1) | exact HB.out)⟩⟩
  case round =>
    clear H'
    obtain ⟨x3_1, x8_1, rfl, rfl, HA, HK1, HB⟩ := hrel
    cases gk with
    | zero => exact absurd HA.out (by simp [impl_actsText.l0])
    | succ k1 =>
      have H := HA.out
      clear HA
      simp only [impl_actsText.l0] at H
      by_cases c2 : x8_1 < (l0.length : Int)
      · rw [if_pos c2] at H
        have c2b0 : decide (x8_1 < (l0.length : Int)) = true := decide_eq_true c2
        clear c2
        by_cases c3 : 0 ≤ x8_1
        · rw [if_pos c3] at H
          have c3b0 : decide (0 ≤ x8_1) = true := decide_eq_true c3
          clear c3
          by_cases c4 : x8_1 < (l0.length : Int)
          · rw [if_pos c4] at H
            have c4b0 : decide (x8_1 < (l0.length : Int)) = true := decide_eq_true c4
            clear c4
            replace H := Option.bind_eq_some_iff.mp H
            obtain ⟨t168, A50, H⟩ := H
            replace H : (if 0 ≤ ((rd_T56 l0 x8_1).f0) then (if ((rd_T56 l0 x8_1).f0) < (t168.length : Int) then (if (rdOf ByteArray.empty t168 ((rd_T56 l0 x8_1).f0)).size + 1 ≤ 9223372036854775807 then ((impl_decimal.f ((rd_T56 l0 x8_1).f1)).bind fun t172 => (if ((rdOf ByteArray.empty t168 ((rd_T56 l0 x8_1).f0)) ++ (⟨#[32]⟩ : ByteArray)).size + t172.size ≤ 9223372036854775807 then (if (((rdOf ByteArray.empty t168 ((rd_T56 l0 x8_1).f0)) ++ (⟨#[32]⟩ : ByteArray)) ++ t172).size + 1 ≤ 9223372036854775807 then (if x3_1.size + ((((rdOf ByteArray.empty t168 ((rd_T56 l0 x8_1).f0)) ++ (⟨#[32]⟩ : ByteArray)) ++ t172) ++ (⟨#[10]⟩ : ByteArray)).size ≤ 9223372036854775807 then (impl_actsText.l0 k1 (x3_1 ++ ((((rdOf ByteArray.empty t168 ((rd_T56 l0 x8_1).f0)) ++ (⟨#[32]⟩ : ByteArray)) ++ t172) ++ (⟨#[10]⟩ : ByteArray))) l0 (l0.length : Int) (wrap64 (x8_1 + 1))) else (none)) else (none)) else (none))) else (none)) else (none)) else (none)) = some r := H
            have A5 := Aside0.mk A50
            clear A50
            by_cases c6 : 0 ≤ ((rd_T56 l0 x8_1).f0)
            · rw [if_pos c6] at H
              have c6b0 : decide (0 ≤ ((rd_T56 l0 x8_1).f0)) = true := decide_eq_true c6
              clear c6
              by_cases c7 : ((rd_T56 l0 x8_1).f0) < (t168.length : Int)
              · rw [if_pos c7] at H
                have c7b0 : decide (((rd_T56 l0 x8_1).f0) < (t168.length : Int)) = true := decide_eq_true c7
                clear c7
                by_cases c8 : (rdOf ByteArray.empty t168 ((rd_T56 l0 x8_1).f0)).size + 1 ≤ 9223372036854775807
                · rw [if_pos c8] at H
                  have c8b0 := eq_true c8
                  have c8b1 : decide ((rdOf ByteArray.empty t168 ((rd_T56 l0 x8_1).f0)).size + 1 ≤ 9223372036854775807) = true := decide_eq_true c8
                  try have c8b2 : (9223372036854775807 < (rdOf ByteArray.empty t168 ((rd_T56 l0 x8_1).f0)).size + 1) = False := eq_false (Nat.not_lt.2 c8)
                  try have c8b3 := c8b2
                  try simp only [ByteArray.size_append, show (⟨#[10]⟩ : ByteArray).size = 1 from rfl, show (⟨#[32]⟩ : ByteArray).size = 1 from rfl] at c8b3
                  replace H := Option.bind_eq_some_iff.mp H
                  obtain ⟨t172, A90, H⟩ := H
                  replace H : (if ((rdOf ByteArray.empty t168 ((rd_T56 l0 x8_1).f0)) ++ (⟨#[32]⟩ : ByteArray)).size + t172.size ≤ 9223372036854775807 then (if (((rdOf ByteArray.empty t168 ((rd_T56 l0 x8_1).f0)) ++ (⟨#[32]⟩ : ByteArray)) ++ t172).size + 1 ≤ 9223372036854775807 then (if x3_1.size + ((((rdOf ByteArray.empty t168 ((rd_T56 l0 x8_1).f0)) ++ (⟨#[32]⟩ : ByteArray)) ++ t172) ++ (⟨#[10]⟩ : ByteArray)).size ≤ 9223372036854775807 then (impl_actsText.l0 k1 (x3_1 ++ ((((rdOf ByteArray.empty t168 ((rd_T56 l0 x8_1).f0)) ++ (⟨#[32]⟩ : ByteArray)) ++ t172) ++ (⟨#[10]⟩ : ByteArray))) l0 (l0.length : Int) (wrap64 (x8_1 + 1))) else (none)) else (none)) else (none)) = some r := H
                  have A9 := Aside0.mk A90
                  clear A90
                  by_cases c10 : ((rdOf ByteArray.empty t168 ((rd_T56 l0 x8_1).f0)) ++ (⟨#[32]⟩ : ByteArray)).size + t172.size ≤ 9223372036854775807
                  · rw [if_pos c10] at H
                    have c10b0 := eq_true c10
                    have c10b1 : decide (((rdOf ByteArray.empty t168 ((rd_T56 l0 x8_1).f0)) ++ (⟨#[32]⟩ : ByteArray)).size + t172.size ≤ 9223372036854775807) = true := decide_eq_true c10
                    try have c10b2 : (9223372036854775807 < ((rdOf ByteArray.empty t168 ((rd_T56 l0 x8_1).f0)) ++ (⟨#[32]⟩ : ByteArray)).size + t172.size) = False := eq_false (Nat.not_lt.2 c10)
                    try have c10b3 := c10b2
                    try simp only [ByteArray.size_append, show (⟨#[10]⟩ : ByteArray).size = 1 from rfl, show (⟨#[32]⟩ : ByteArray).size = 1 from rfl] at c10b3
                    by_cases c11 : (((rdOf ByteArray.empty t168 ((rd_T56 l0 x8_1).f0)) ++ (⟨#[32]⟩ : ByteArray)) ++ t172).size + 1 ≤ 9223372036854775807
                    · rw [if_pos c11] at H
                      have c11b0 := eq_true c11
                      have c11b1 : decide ((((rdOf ByteArray.empty t168 ((rd_T56 l0 x8_1).f0)) ++ (⟨#[32]⟩ : ByteArray)) ++ t172).size + 1 ≤ 9223372036854775807) = true := decide_eq_true c11
                      try have c11b2 : (9223372036854775807 < (((rdOf ByteArray.empty t168 ((rd_T56 l0 x8_1).f0)) ++ (⟨#[32]⟩ : ByteArray)) ++ t172).size + 1) = False := eq_false (Nat.not_lt.2 c11)
                      try have c11b3 := c11b2
                      try simp only [ByteArray.size_append, show (⟨#[10]⟩ : ByteArray).size = 1 from rfl, show (⟨#[32]⟩ : ByteArray).size = 1 from rfl] at c11b3
                      by_cases c12 : x3_1.size + ((((rdOf ByteArray.empty t168 ((rd_T56 l0 x8_1).f0)) ++ (⟨#[32]⟩ : ByteArray)) ++ t172) ++ (⟨#[10]⟩ : ByteArray)).size ≤ 9223372036854775807
                      · rw [if_pos c12] at H
                        have c12b0 := eq_true c12
                        have c12b1 : decide (x3_1.size + ((((rdOf ByteArray.empty t168 ((rd_T56 l0 x8_1).f0)) ++ (⟨#[32]⟩ : ByteArray)) ++ t172) ++ (⟨#[10]⟩ : ByteArray)).size ≤ 9223372036854775807) = true := decide_eq_true c12
                        try have c12b2 : (9223372036854775807 < x3_1.size + ((((rdOf ByteArray.empty t168 ((rd_T56 l0 x8_1).f0)) ++ (⟨#[32]⟩ : ByteArray)) ++ t172) ++ (⟨#[10]⟩ : ByteArray)).size) = False := eq_false (Nat.not_lt.2 c12)
                        try have c12b3 := c12b2
                        try simp only [ByteArray.size_append, show (⟨#[10]⟩ : ByteArray).size = 1 from rfl, show (⟨#[32]⟩ : ByteArray).size = 1 from rfl] at c12b3
                        have H' := Aside0.mk H
                        clear H
                        have p166 : 0 ≤ (x8_1 : Int) := of_decide_eq_true (by first | (with_reducible assumption) | assumption)
                        have q166 : x8_1 < (l0.length : Int) := of_decide_eq_true (by first | (with_reducible assumption) | assumption)
                        obtain ⟨ad166, e166, hx166_0, hx166_1⟩ := at_T56 HR0.out x8_1 p166 q166
                        cases e166
                        replace hx166_0 := (HB.out.cell (World.block_lt_of_cell? w _ hx166_0)).trans hx166_0
                        replace hx166_1 := (HB.out.cell (World.block_lt_of_cell? w _ hx166_1)).trans hx166_1
                        replace p166 := eq_true p166
                        replace q166 := eq_true q166
                        try go_wp2_with (first | ((with_reducible refine gate_dst (N := 5) rfl ?_); refine box_event ?hg (N := 5) ?hd (cs := #[.int .i8 0, .int .i64 0]) (t := 56) ?hr ?_; (case hd => rfl); (case hg => rfl); (case hr => first | (go_simp; done) | (go_simp; rfl)); intro gb167 hg w13 hbox hb; have n0_ := Aside0.mk (below_step HB.out hb); have n1_ := Aside0.mk (hbox); have n2_ := Aside0.mk ((by rw [hg]; exact (below_size HB.out) : w.heap.size ≤ gb167)); have n3_ := Aside0.mk ((by rw [hg]; exact (below_size HB.out) : w.heap.size ≤ gb167)); clear HB; have HB := n0_; have BK167 := n1_; have GW167 := n2_; have GE167 := n3_; clear n0_ n1_ n2_ n3_; clear hb hbox hg; have hcz14_0 := blk_c BK167.out 0 rfl; have hcz14_1 := blk_c BK167.out 1 rfl; have hfz14_0 := blk_frozen BK167.out 0; have hfz14_1 := blk_frozen BK167.out 1))
                        have n0_ : Aside0 (((w13.setCell ⟨gb167, 0, none⟩ (.int .i8 ((rd_T56 l0 x8_1).f0))).setCell ⟨gb167, 1, none⟩ (.int .i64 ((rd_T56 l0 x8_1).f1))).heap[gb167]? = some (.cells #[.int .i8 ((rd_T56 l0 x8_1).f0), .int .i64 ((rd_T56 l0 x8_1).f1)] 56 (0, 0))) := ⟨by (with_reducible repeat (first | refine blk_drewN ?_ _ | refine blk_drew ?_ | refine blk_alloc ?_ _)); refine blk_put (cs := #[.int .i8 ((rd_T56 l0 x8_1).f0), .int .i64 0]) ?_ 1 _ rfl; (with_reducible repeat (first | refine blk_drewN ?_ _ | refine blk_drew ?_ | refine blk_alloc ?_ _)); refine blk_put (cs := #[.int .i8 0, .int .i64 0]) ?_ 0 _ rfl; (with_reducible repeat (first | refine blk_drewN ?_ _ | refine blk_drew ?_ | refine blk_alloc ?_ _)); exact BK167.out⟩
                        have n1_ : Aside0 (Below w.heap.size w ((w13.setCell ⟨gb167, 0, none⟩ (.int .i8 ((rd_T56 l0 x8_1).f0))).setCell ⟨gb167, 1, none⟩ (.int .i64 ((rd_T56 l0 x8_1).f1)))) := ⟨by repeat (first | (with_reducible first | exact HB.out | apply below_alloc | apply pw_below_drewN | apply below_drew1 | refine below_set ?_ GE167.out) | exact HB.out)⟩
                        (try clear BK167)
                        (try clear HB)
                        generalize ((w13.setCell ⟨gb167, 0, none⟩ (.int .i8 ((rd_T56 l0 x8_1).f0))).setCell ⟨gb167, 1, none⟩ (.int .i64 ((rd_T56 l0 x8_1).f1))) = w15 at n0_ n1_ ⊢
                        have BK167 := n0_
                        have HB := n1_
                        clear n0_ n1_
                        have n0_ := Aside0.mk (blk_drew BK167.out)
                        have n1_ := Aside0.mk (below_drew1 HB.out)
                        clear BK167
                        clear HB
                        have BK167 := n0_
                        have HB := n1_
                        clear n0_ n1_
                        refine start_ (n := 14) (S := fun w' => w'.cell? ⟨gb167, 0, none⟩ = some (.int .i8 ((rd_T56 l0 x8_1).f0)) ∧ w'.cell? ⟨gb167, 1, none⟩ = some (.int .i64 ((rd_T56 l0 x8_1).f1))) (ds := []) #[false, false, false, false, false, false, false, false, false, false, false, false, false, false] (by kernel_rfl) rfl rfl ⟨(blk_cell BK167.out 0).trans rfl, (blk_cell BK167.out 1).trans rfl⟩ (fun hHeld => ?_); refine with_tabW impl_actsText.tab5 impl_actsText.bits5 (fun HT_ HW_ => ?_)
                        generalize w15.drew = w16 at BK167 HB hHeld ⊢
                        refine pure_ (i := 0) (N := some 12) (v := ?_) (a' := ?_) #[true, false, false, false, false, false, false, false, false, false, false, false, false, false] rfl rfl (any_of HT_.out (by kernel_rfl)) (fun _ _ _ h => h) (Or.inl ⟨by rfl, ?_⟩) ?_ ?_
                        rotate_left
                        · intro w'
                          go_simp
                          first | with_reducible rfl | (rw [if_neg (by (try simp only [ByteArray.size_append, show (⟨#[10]⟩ : ByteArray).size = 1 from rfl, show (⟨#[32]⟩ : ByteArray).size = 1 from rfl] at c8); (try simp only [ByteArray.size_append, show (⟨#[10]⟩ : ByteArray).size = 1 from rfl, show (⟨#[32]⟩ : ByteArray).size = 1 from rfl] at c10); (try simp only [ByteArray.size_append, show (⟨#[10]⟩ : ByteArray).size = 1 from rfl, show (⟨#[32]⟩ : ByteArray).size = 1 from rfl] at c11); (try simp only [ByteArray.size_append, show (⟨#[10]⟩ : ByteArray).size = 1 from rfl, show (⟨#[32]⟩ : ByteArray).size = 1 from rfl] at c12); omega)]; try with_reducible rfl)
                        rotate_left
                        · simp only [Act.put, List.setIfInBounds_toArray, List.set_cons_zero, List.set_cons_succ, i64_w, i32_w]
                          rfl
                        refine pure_ (i := 2) (N := some 14) (v := ?_) (a' := ?_) #[true, false, true, false, false, false, false, false, false, false, false, false, false, false] rfl rfl (any_of HT_.out (by kernel_rfl)) (fun _ _ _ h => h) (Or.inl ⟨by rfl, ?_⟩) ?_ ?_
                        rotate_left
                        · intro w'
                          go_simp
                          first | with_reducible rfl | (rw [if_neg (by (try simp only [ByteArray.size_append, show (⟨#[10]⟩ : ByteArray).size = 1 from rfl, show (⟨#[32]⟩ : ByteArray).size = 1 from rfl] at c8); (try simp only [ByteArray.size_append, show (⟨#[10]⟩ : ByteArray).size = 1 from rfl, show (⟨#[32]⟩ : ByteArray).size = 1 from rfl] at c10); (try simp only [ByteArray.size_append, show (⟨#[10]⟩ : ByteArray).size = 1 from rfl, show (⟨#[32]⟩ : ByteArray).size = 1 from rfl] at c11); (try simp only [ByteArray.size_append, show (⟨#[10]⟩ : ByteArray).size = 1 from rfl, show (⟨#[32]⟩ : ByteArray).size = 1 from rfl] at c12); omega)]; try with_reducible rfl)
                        rotate_left
                        · simp only [Act.put, List.setIfInBounds_toArray, List.set_cons_zero, List.set_cons_succ, i64_w, i32_w]
                          rfl
                        refine pure_ (i := 7) (N := some 19) (v := ?_) (a' := ?_) #[true, false, true, false, false, false, false, true, false, false, false, false, false, false] rfl rfl (any_of HT_.out (by kernel_rfl)) (fun _ _ _ h => h) (Or.inl ⟨by rfl, ?_⟩) ?_ ?_
                        rotate_left
                        · intro w'
                          go_simp
                          first | with_reducible rfl | (rw [if_neg (by (try simp only [ByteArray.size_append, show (⟨#[10]⟩ : ByteArray).size = 1 from rfl, show (⟨#[32]⟩ : ByteArray).size = 1 from rfl] at c8); (try simp only [ByteArray.size_append, show (⟨#[10]⟩ : ByteArray).size = 1 from rfl, show (⟨#[32]⟩ : ByteArray).size = 1 from rfl] at c10); (try simp only [ByteArray.size_append, show (⟨#[10]⟩ : ByteArray).size = 1 from rfl, show (⟨#[32]⟩ : ByteArray).size = 1 from rfl] at c11); (try simp only [ByteArray.size_append, show (⟨#[10]⟩ : ByteArray).size = 1 from rfl, show (⟨#[32]⟩ : ByteArray).size = 1 from rfl] at c12); omega)]; try with_reducible rfl)
                        rotate_left
                        · simp only [Act.put, List.setIfInBounds_toArray, List.set_cons_zero, List.set_cons_succ, i64_w, i32_w]
                          rfl
                        refine take_ (i := 3) (N := some 15) (v := ?_) (a' := ?_) #[true, false, true, true, false, false, false, true, false, false, false, false, false, false] rfl rfl (take_ofW HT_.out HW_.out (by kernel_rfl)) (fun _ _ _ h => h) (Or.inl ⟨by rfl, ?_⟩) hHeld ?_ ?_
                        rotate_left
                        · rintro w' ⟨s0, s1⟩
                          go_simp
                          first | with_reducible rfl | (rw [if_neg (by (try simp only [ByteArray.size_append, show (⟨#[10]⟩ : ByteArray).size = 1 from rfl, show (⟨#[32]⟩ : ByteArray).size = 1 from rfl] at c8); (try simp only [ByteArray.size_append, show (⟨#[10]⟩ : ByteArray).size = 1 from rfl, show (⟨#[32]⟩ : ByteArray).size = 1 from rfl] at c10); (try simp only [ByteArray.size_append, show (⟨#[10]⟩ : ByteArray).size = 1 from rfl, show (⟨#[32]⟩ : ByteArray).size = 1 from rfl] at c11); (try simp only [ByteArray.size_append, show (⟨#[10]⟩ : ByteArray).size = 1 from rfl, show (⟨#[32]⟩ : ByteArray).size = 1 from rfl] at c12); omega)]; try with_reducible rfl)
                        rotate_left
                        · simp only [Act.put, List.setIfInBounds_toArray, List.set_cons_zero, List.set_cons_succ, i64_w, i32_w]
                          rfl
                        refine take_ (i := 8) (N := some 20) (v := ?_) (a' := ?_) #[true, false, true, true, false, false, false, true, true, false, false, false, false, false] rfl rfl (take_ofW HT_.out HW_.out (by kernel_rfl)) (fun _ _ _ h => h) (Or.inl ⟨by rfl, ?_⟩) hHeld ?_ ?_
                        rotate_left
                        · rintro w' ⟨s0, s1⟩
                          go_simp
                          first | with_reducible rfl | (rw [if_neg (by (try simp only [ByteArray.size_append, show (⟨#[10]⟩ : ByteArray).size = 1 from rfl, show (⟨#[32]⟩ : ByteArray).size = 1 from rfl] at c8); (try simp only [ByteArray.size_append, show (⟨#[10]⟩ : ByteArray).size = 1 from rfl, show (⟨#[32]⟩ : ByteArray).size = 1 from rfl] at c10); (try simp only [ByteArray.size_append, show (⟨#[10]⟩ : ByteArray).size = 1 from rfl, show (⟨#[32]⟩ : ByteArray).size = 1 from rfl] at c11); (try simp only [ByteArray.size_append, show (⟨#[10]⟩ : ByteArray).size = 1 from rfl, show (⟨#[32]⟩ : ByteArray).size = 1 from rfl] at c12); omega)]; try with_reducible rfl)
                        rotate_left
                        · simp only [Act.put, List.setIfInBounds_toArray, List.set_cons_zero, List.set_cons_succ, i64_w, i32_w]
                          rfl
                        refine one_ (i := 1) (N := some 13) #[true, true, true, true, false, false, false, true, true, false, false, false, false, false] rfl rfl (one_of HT_.out (by kernel_rfl)) (by decide) (fun K hK => ?_)
                        refine goes_ Tryd.func54 (by kernel_rfl) rfl #[] (by rfl) rfl rfl (by (try simp only [List.map_toArray, List.map_cons, List.map_nil]); first | done | rfl | (simp only [List.length_drop, List.length_take]; rfl)) ?_
                        with_reducible refine (impl_actWords.calls  t168 _ A5.out).mono ?_
                        rintro e w17 ⟨v169, rfl, ho0, hb⟩
                        refine ⟨_, rfl, ?_⟩
                        have n0_ := Aside0.mk (Kd.R_lower ho0 (below_size HB.out))
                        have n1_ := Aside0.mk (blk_below BK167.out hb)
                        have n2_ := Aside0.mk (below_step HB.out hb)
                        clear BK167
                        clear HB
                        have HO170 := n0_
                        have BK167 := n1_
                        have HB := n2_
                        clear n0_ n1_ n2_
                        (try clear hb)
                        (try clear hb2)
                        (try clear hk)
                        (try clear hi)
                        (try clear ho0)
                        obtain ⟨Ao18, co18, eo18⟩ := Kd.R_slice HO170.out
                        (first | subst eo18 | (injection eo18 with f1_ f2_ f3_; have f4_ := f1_.symm; have f5_ := f3_.symm; clear f1_ f2_ f3_; subst f4_; subst f5_))
                        have p171 : 0 ≤ (((rd_T56 l0 x8_1).f0) : Int) := of_decide_eq_true (by first | (with_reducible assumption) | assumption)
                        have q171 : ((rd_T56 l0 x8_1).f0) < (t168.length : Int) := of_decide_eq_true (by first | (with_reducible assumption) | assumption)
                        obtain ⟨ad171, e171, hx171_0⟩ := Kd.at_string (Kd.R_reads' HO170.out).2.2 ((rd_T56 l0 x8_1).f0) p171 q171
                        cases e171
                        replace p171 := eq_true p171
                        replace q171 := eq_true q171
                        refine hK.out _ _ ⟨(blk_cell BK167.out 0).trans rfl, (blk_cell BK167.out 1).trans rfl⟩ (fun hHeld => ?_)
                        clear hK K
                        have hHeld := And.intro (hHeld.1) (And.intro (hHeld.2) (hx171_0))
                        refine impl_actsText.imp_ (S' := fun w' => w'.cell? ⟨gb167, 0, none⟩ = some (.int .i8 ((rd_T56 l0 x8_1).f0)) ∧ w'.cell? ⟨gb167, 1, none⟩ = some (.int .i64 ((rd_T56 l0 x8_1).f1)) ∧ w'.cell? (ad171.add (((rd_T56 l0 x8_1).f0)).toNat) = some (.string (rdOf ByteArray.empty t168 ((rd_T56 l0 x8_1).f0)))) (fun _ h => ⟨h.1, h.2.1⟩) _ _ _ _ hHeld ?_
                        refine norm_ (a' := ?_) ?_ ?_
                        rotate_left
                        · show Act.put _ (some 13) _ = _
                          simp only [Act.put, List.setIfInBounds_toArray, List.set_cons_zero, List.set_cons_succ, i64_w, i32_w]
                          rfl
                        refine pure_ (i := 4) (N := some 16) (v := ?_) (a' := ?_) #[true, true, true, true, true, false, false, true, true, false, false, false, false, false] rfl rfl (any_of HT_.out (by kernel_rfl)) (fun _ _ _ h => h) (Or.inl ⟨by rfl, ?_⟩) ?_ ?_
                        rotate_left
                        · intro w'
                          go_simp
                          first | with_reducible rfl | (rw [if_neg (by (try simp only [ByteArray.size_append, show (⟨#[10]⟩ : ByteArray).size = 1 from rfl, show (⟨#[32]⟩ : ByteArray).size = 1 from rfl] at c8); (try simp only [ByteArray.size_append, show (⟨#[10]⟩ : ByteArray).size = 1 from rfl, show (⟨#[32]⟩ : ByteArray).size = 1 from rfl] at c10); (try simp only [ByteArray.size_append, show (⟨#[10]⟩ : ByteArray).size = 1 from rfl, show (⟨#[32]⟩ : ByteArray).size = 1 from rfl] at c11); (try simp only [ByteArray.size_append, show (⟨#[10]⟩ : ByteArray).size = 1 from rfl, show (⟨#[32]⟩ : ByteArray).size = 1 from rfl] at c12); omega)]; try with_reducible rfl)
                        rotate_left
                        · simp only [Act.put, List.setIfInBounds_toArray, List.set_cons_zero, List.set_cons_succ, i64_w, i32_w]
                          rfl
                        refine take_ (i := 5) (N := some 17) (v := ?_) (a' := ?_) #[true, true, true, true, true, true, false, true, true, false, false, false, false, false] rfl rfl (take_ofW HT_.out HW_.out (by kernel_rfl)) (fun _ _ _ h => h) (Or.inl ⟨by rfl, ?_⟩) hHeld ?_ ?_
                        rotate_left
                        · rintro w' ⟨s0, s1, s2⟩
                          go_simp
                          first | with_reducible rfl | (rw [if_neg (by (try simp only [ByteArray.size_append, show (⟨#[10]⟩ : ByteArray).size = 1 from rfl, show (⟨#[32]⟩ : ByteArray).size = 1 from rfl] at c8); (try simp only [ByteArray.size_append, show (⟨#[10]⟩ : ByteArray).size = 1 from rfl, show (⟨#[32]⟩ : ByteArray).size = 1 from rfl] at c10); (try simp only [ByteArray.size_append, show (⟨#[10]⟩ : ByteArray).size = 1 from rfl, show (⟨#[32]⟩ : ByteArray).size = 1 from rfl] at c11); (try simp only [ByteArray.size_append, show (⟨#[10]⟩ : ByteArray).size = 1 from rfl, show (⟨#[32]⟩ : ByteArray).size = 1 from rfl] at c12); omega)]; try with_reducible rfl)
                        rotate_left
                        · simp only [Act.put, List.setIfInBounds_toArray, List.set_cons_zero, List.set_cons_succ, i64_w, i32_w]
                          rfl
                        refine pure_ (i := 6) (N := some 18) (v := ?_) (a' := ?_) #[true, true, true, true, true, true, true, true, true, false, false, false, false, false] rfl rfl (any_of HT_.out (by kernel_rfl)) (fun _ _ _ h => h) (Or.inl ⟨by rfl, ?_⟩) ?_ ?_
                        rotate_left
                        · intro w'
                          go_simp
                          first | with_reducible rfl | (rw [if_neg (by (try simp only [ByteArray.size_append, show (⟨#[10]⟩ : ByteArray).size = 1 from rfl, show (⟨#[32]⟩ : ByteArray).size = 1 from rfl] at c8); (try simp only [ByteArray.size_append, show (⟨#[10]⟩ : ByteArray).size = 1 from rfl, show (⟨#[32]⟩ : ByteArray).size = 1 from rfl] at c10); (try simp only [ByteArray.size_append, show (⟨#[10]⟩ : ByteArray).size = 1 from rfl, show (⟨#[32]⟩ : ByteArray).size = 1 from rfl] at c11); (try simp only [ByteArray.size_append, show (⟨#[10]⟩ : ByteArray).size = 1 from rfl, show (⟨#[32]⟩ : ByteArray).size = 1 from rfl] at c12); omega)]; try with_reducible rfl)
                        rotate_left
                        · simp only [Act.put, List.setIfInBounds_toArray, List.set_cons_zero, List.set_cons_succ, i64_w, i32_w]
                          rfl
                        refine one_ (i := 9) (N := some 21) #[true, true, true, true, true, true, true, true, true, true, false, false, false, false] rfl rfl (one_of HT_.out (by kernel_rfl)) (by decide) (fun K hK => ?_)
                        refine goes_ Tryd.func61 (by kernel_rfl) rfl #[.int .i64 ((rd_T56 l0 x8_1).f1)] (by rfl) rfl rfl (by (try simp only [List.map_toArray, List.map_cons, List.map_nil]); first | done | rfl | (simp only [List.length_drop, List.length_take]; rfl)) ?_
                        with_reducible refine (impl_decimal.calls ((rd_T56 l0 x8_1).f1) t172 _ A9.out (by repeat (first | exact HT10.out.below HB.out | exact HT10.out | exact HT10.out.below (by repeat (first | (with_reducible first | exact HB.out | apply below_alloc | apply pw_below_drewN | apply below_drew1) | refine below_set ?_ (Aside0.out (by assumption)) | exact HB.out)) | refine Tab10.alloc ?_ _ | refine Tab10.drewN ?_ _ | refine Tab10.drew ?_))).mono ?_
                        rintro e w19 ⟨rfl, hb⟩
                        have HS2_ := (hb.cell (World.block_lt_of_cell? _ _ (hHeld.2.2))).trans (hHeld.2.2)
                        refine ⟨_, rfl, ?_⟩
                        have n0_ := Aside0.mk (Kd.R_below HO170.out hb)
                        have n1_ := Aside0.mk (blk_below BK167.out hb)
                        have n2_ := Aside0.mk (below_step HB.out hb)
                        clear HO170
                        clear BK167
                        clear HB
                        have HO170 := n0_
                        have BK167 := n1_
                        have HB := n2_
                        clear n0_ n1_ n2_
                        (try clear hb)
                        (try clear hb2)
                        (try clear hk)
                        (try clear hi)
                        refine hK.out _ _ ⟨(blk_cell BK167.out 0).trans rfl, (blk_cell BK167.out 1).trans rfl, HS2_⟩ (fun hHeld => ?_)
                        clear hK K
                        refine norm_ (a' := ?_) ?_ ?_
                        rotate_left
                        · show Act.put _ (some 21) _ = _
                          simp only [Act.put, List.setIfInBounds_toArray, List.set_cons_zero, List.set_cons_succ, i64_w, i32_w]
                          rfl
                        refine pure_ (i := 10) (N := some 22) (v := ?_) (a' := ?_) #[true, true, true, true, true, true, true, true, true, true, true, false, false, false] rfl rfl (any_of HT_.out (by kernel_rfl)) (fun _ _ _ h => h) (Or.inl ⟨by rfl, ?_⟩) ?_ ?_
                        rotate_left
                        · intro w'
                          go_simp
                          first | with_reducible rfl | (rw [if_neg (by (try simp only [ByteArray.size_append, show (⟨#[10]⟩ : ByteArray).size = 1 from rfl, show (⟨#[32]⟩ : ByteArray).size = 1 from rfl] at c8); (try simp only [ByteArray.size_append, show (⟨#[10]⟩ : ByteArray).size = 1 from rfl, show (⟨#[32]⟩ : ByteArray).size = 1 from rfl] at c10); (try simp only [ByteArray.size_append, show (⟨#[10]⟩ : ByteArray).size = 1 from rfl, show (⟨#[32]⟩ : ByteArray).size = 1 from rfl] at c11); (try simp only [ByteArray.size_append, show (⟨#[10]⟩ : ByteArray).size = 1 from rfl, show (⟨#[32]⟩ : ByteArray).size = 1 from rfl] at c12); omega)]; try with_reducible rfl)
                        rotate_left
                        · simp only [Act.put, List.setIfInBounds_toArray, List.set_cons_zero, List.set_cons_succ, i64_w, i32_w]
                          rfl
                        refine pure_ (i := 11) (N := some 23) (v := ?_) (a' := ?_) #[true, true, true, true, true, true, true, true, true, true, true, true, false, false] rfl rfl (any_of HT_.out (by kernel_rfl)) (fun _ _ _ h => h) (Or.inl ⟨by rfl, ?_⟩) ?_ ?_
                        rotate_left
                        · intro w'
                          go_simp
                          first | with_reducible rfl | (rw [if_neg (by (try simp only [ByteArray.size_append, show (⟨#[10]⟩ : ByteArray).size = 1 from rfl, show (⟨#[32]⟩ : ByteArray).size = 1 from rfl] at c8); (try simp only [ByteArray.size_append, show (⟨#[10]⟩ : ByteArray).size = 1 from rfl, show (⟨#[32]⟩ : ByteArray).size = 1 from rfl] at c10); (try simp only [ByteArray.size_append, show (⟨#[10]⟩ : ByteArray).size = 1 from rfl, show (⟨#[32]⟩ : ByteArray).size = 1 from rfl] at c11); (try simp only [ByteArray.size_append, show (⟨#[10]⟩ : ByteArray).size = 1 from rfl, show (⟨#[32]⟩ : ByteArray).size = 1 from rfl] at c12); omega)]; try with_reducible rfl)
                        rotate_left
                        · simp only [Act.put, List.setIfInBounds_toArray, List.set_cons_zero, List.set_cons_succ, i64_w, i32_w]
                          rfl
                        refine pure_ (i := 12) (N := some 24) (v := ?_) (a' := ?_) #[true, true, true, true, true, true, true, true, true, true, true, true, true, false] rfl rfl (any_of HT_.out (by kernel_rfl)) (fun _ _ _ h => h) (Or.inl ⟨by rfl, ?_⟩) ?_ ?_
                        rotate_left
                        · intro w'
                          go_simp
                          first | with_reducible rfl | (rw [if_neg (by (try simp only [ByteArray.size_append, show (⟨#[10]⟩ : ByteArray).size = 1 from rfl, show (⟨#[32]⟩ : ByteArray).size = 1 from rfl] at c8); (try simp only [ByteArray.size_append, show (⟨#[10]⟩ : ByteArray).size = 1 from rfl, show (⟨#[32]⟩ : ByteArray).size = 1 from rfl] at c10); (try simp only [ByteArray.size_append, show (⟨#[10]⟩ : ByteArray).size = 1 from rfl, show (⟨#[32]⟩ : ByteArray).size = 1 from rfl] at c11); (try simp only [ByteArray.size_append, show (⟨#[10]⟩ : ByteArray).size = 1 from rfl, show (⟨#[32]⟩ : ByteArray).size = 1 from rfl] at c12); omega)]; try with_reducible rfl)
                        rotate_left
                        · simp only [Act.put, List.setIfInBounds_toArray, List.set_cons_zero, List.set_cons_succ, i64_w, i32_w]
                          rfl
                        refine pure_ (i := 13) (N := some 3) (v := ?_) (a' := ?_) #[true, true, true, true, true, true, true, true, true, true, true, true, true, true] rfl rfl (any_of HT_.out (by kernel_rfl)) (fun _ _ _ h => h) (Or.inl ⟨by rfl, ?_⟩) ?_ ?_
                        rotate_left
                        · intro w'
                          go_simp
                          first | with_reducible rfl | (rw [if_neg (by (try simp only [ByteArray.size_append, show (⟨#[10]⟩ : ByteArray).size = 1 from rfl, show (⟨#[32]⟩ : ByteArray).size = 1 from rfl] at c8); (try simp only [ByteArray.size_append, show (⟨#[10]⟩ : ByteArray).size = 1 from rfl, show (⟨#[32]⟩ : ByteArray).size = 1 from rfl] at c10); (try simp only [ByteArray.size_append, show (⟨#[10]⟩ : ByteArray).size = 1 from rfl, show (⟨#[32]⟩ : ByteArray).size = 1 from rfl] at c11); (try simp only [ByteArray.size_append, show (⟨#[10]⟩ : ByteArray).size = 1 from rfl, show (⟨#[32]⟩ : ByteArray).size = 1 from rfl] at c12); omega)]; try with_reducible rfl)
                        rotate_left
                        · simp only [Act.put, List.setIfInBounds_toArray, List.set_cons_zero, List.set_cons_succ, i64_w, i32_w]
                          rfl
                        refine done_ (done_of HT_.out (by kernel_rfl)) ?_
                        try go_wp2
                        go_roundg k1
                        case measure => have := HK1.out; omega
                        case rel => exact ⟨(x3_1 ++ ((((rdOf ByteArray.empty t168 ((rd_T56 l0 x8_1).f0)) ++ (⟨#[32]⟩ : ByteArray)) ++ t172) ++ (⟨#[10]⟩ : ByteArray))), (wrap64 (x8_1 + 1)), (by first | rfl | (simp; done) | (simp [*]; done)), (by first | rfl | (simp; done) | (simp [*]; done)), H', ⟨by have := HK1.out; omega⟩, ⟨by repeat (first | (with_reducible first | exact HB.out | apply below_alloc | apply pw_below_drewN | apply below_drew1 | refine below_set ?_ GE167.out) | exact HB.out)⟩⟩
                      · rw [if_neg c12] at H
                        exact absurd H (by simp)
                    · rw [if_neg c11] at H
                      exact absurd H (by simp)
                  · rw [if_neg c10] at H
                    exact absurd H (by simp)
                · rw [if_neg c8] at H
                  exact absurd H (by simp)
              · rw [if_neg c7] at H
                exact absurd H (by simp)
            · rw [if_neg c6] at H
              exact absurd H (by simp)
          · rw [if_neg c4] at H
            exact absurd H (by simp)
        · rw [if_neg c3] at H
          exact absurd H (by simp)
      · rw [if_neg c2] at H
        have c2b0 : decide (x8_1 < (l0.length : Int)) = false := decide_eq_false c2
        clear c2
        obtain rfl := Option.some.inj H
        go_wp2
        go_ret
        exact ⟨by first | rfl | (simp [errW_none, errW_some] <;> rfl) | (simp [*, errW_none, errW_some] <;> rfl), by repeat (first | (with_reducible first | exact HB.out | apply below_alloc | apply pw_below_drewN | apply below_drew1) | exact HB.out)⟩

/-! ### impl_ReadActs: function 24 -/
def readWords : List ByteArray := [(⟨#[115, 104, 101, 101, 116]⟩ : ByteArray), (⟨#[114, 101, 115, 116]⟩ : ByteArray), (⟨#[114, 101, 112, 108, 101, 110, 105, 115, 104]⟩ : ByteArray)]
/-- what a line of acts says -/
def D_readLine (s : ByteArray) : Option S56 :=
  match Lib.parseIntB 64 (Lib.cut s.data.toList [32]).2.1 with
  | .ok v => some ⟨IntKind.i8.wrap (Lib.idxOfS readWords ⟨(Lib.cut s.data.toList [32]).1.toArray⟩), v⟩
  | _ => none
def D_readOut : List ByteArray → List S56 → List S56
  | [], o => o
  | s :: r, o => D_readOut r (match D_readLine s with | some x => o ++ [x] | none => o)
def D_readLines (a : ByteArray) : List ByteArray := Lib.splitB ⟨#[10]⟩ 0 (min 62 (a.size + 1) - 1) a
theorem readacts_some {s : ByteArray} {v : Int} (h : Lib.parseIntB 64 (⟨(Lib.cut s.data.toList [32]).2.1.toArray⟩ : ByteArray).data.toList = .ok v) : D_readLine s = some ⟨IntKind.i8.wrap (Lib.idxOfS readWords ⟨(Lib.cut s.data.toList [32]).1.toArray⟩), v⟩ := by
  simp only [List.toList_toArray] at h
  unfold D_readLine
  rw [h]
theorem readacts_none {s : ByteArray} (h : ∀ v, Lib.parseIntB 64 (⟨(Lib.cut s.data.toList [32]).2.1.toArray⟩ : ByteArray).data.toList ≠ .ok v) : D_readLine s = none := by
  simp only [List.toList_toArray] at h
  unfold D_readLine
  split
  · rename_i v hv; exact absurd hv (h v)
  · rfl
theorem readacts_parse (s : ByteArray) (hs : s.size ≤ 2097152) (w : World) (hT : Tab10 w) :
    Calls Tryd.prog 52 #[.string s, .int .i64 10, .int .i64 64] w fun e w' => ∃ (n : Int) (ev : Value), e = .returned (.tuple #[.int .i64 n, ev]) ∧ (match Lib.parseIntB 64 s.data.toList with | .ok v => n = v ∧ ev = .nilIface | _ => ∃ t p, ev = .iface t p) ∧ Below w.heap.size w w' := by
  rcases h : Lib.parseIntB 64 s.data.toList with v | _ | _
  · refine (Any.strconv_ParseInt_10_at64_ok Tryd.lays174 s (by omega) v h w).mono ?_
    rintro e w' ⟨rfl, hw⟩
    refine ⟨v, .nilIface, rfl, ⟨rfl, rfl⟩, ?_⟩
    rcases hw with rfl | ⟨t, rfl⟩
    · exact Below.refl _ _
    · exact Lib.bytesWorld_below _ _ _
  · obtain ⟨ev, he, hev⟩ := hT.syn
    refine (Any.strconv_ParseInt_10_at64_syntax Tryd.lays174 s (by omega) h ev w he hev).mono ?_
    rintro e w' ⟨N, rfl, _, _, hb⟩
    exact ⟨_, _, rfl, ⟨_, _, rfl⟩, hb⟩
  · obtain ⟨ev, he, hev⟩ := hT.ran
    refine (Any.strconv_ParseInt_10_at64_range Tryd.lays174 s (by omega) h ev w he hev).mono ?_
    rintro e w' ⟨N, rfl, _, _, hb⟩
    exact ⟨_, _, rfl, ⟨_, _, rfl⟩, hb⟩
theorem readacts_cell {W : World} {g : Nat} {L : List ByteArray} {cap : Nat} {T : TypeId} (h : W.heap[g]? = some (.cells (Lib.cellsOf L cap) T (0, 0))) (j : Nat) (hj : j < L.length) : W.cell? ⟨g, j, none⟩ = some (.string (L[j]'hj)) := by
  rw [cell_of_row _ g j (Lib.cellsOf L cap) T (0, 0) h]
  simp [Lib.cellsOf, List.getElem?_append_left, hj]
theorem readacts_size (sep : ByteArray) : ∀ (k : Nat) (s x : ByteArray), x ∈ Lib.splitB sep 0 k s → x.size ≤ s.size
  | 0, s, x, h => by
    rw [Lib.splitB_zero] at h
    rw [List.mem_singleton.1 h]
    exact Nat.le_refl _
  | k + 1, s, x, h => by
    unfold Lib.splitB at h
    split at h
    · rw [List.mem_singleton.1 h]; exact Nat.le_refl _
    · rcases List.mem_cons.1 h with rfl | h
      · rw [ByteArray.size_extract]; omega
      · have := readacts_size sep k _ x h
        rw [ByteArray.size_extract] at this
        omega
theorem readacts_cut (l : List UInt8) : (Lib.cut l [32]).2.1.length ≤ l.length := by
  unfold Lib.cut
  split
  · simp only [List.length_drop]; omega
  · simp
set_option maxHeartbeats 8000000 in
set_option maxRecDepth 100000 in
theorem impl_ReadActs.walk (a0 : ByteArray) (hs : a0.size ≤ 1048576) (w : World) (m : Int) (hm : w.cell? ⟨0, 0, none⟩ = some (.int .i64 m)) (hT : Tab10 w) (t : Bool) (ht : impl_areTold.f (D_readOut (D_readLines a0) []) = some t) (k : Nat) (x : ByteArray) (hx : t = true → impl_actsText.f k (D_readOut (D_readLines a0) []) = some x) (r1 : List S56) (r2 : Int) (hr : (r1, r2) = if t = true then (if x.toList = a0.toList then (D_readOut (D_readLines a0) [], 0) else ([], 5)) else ([], 5)) :
    Calls Tryd.prog 24 #[.string a0] w fun e w' => ∃ v0_ : Value, e = .returned (.tuple #[v0_, .int .i64 r2]) ∧ Kd.R k56 56 w' w.heap.size (fun _ => True) v0_ r1 ∧ Below w.heap.size w w' := by
  have HB := Aside0.mk (Below.refl w.heap.size w)
  have HM := Aside0.mk hm
  have HTB := Aside0.mk hT
  have HTT := Aside0.mk ht
  have HTX := Aside0.mk hx
  have HRR := Aside0.mk hr
  clear hT ht hx hr
  have HSZ := Aside0.mk hs
  clear hm hs
  go_enter Tryd.func24, Tryd.ntmps24
  go_wp2_with (first | ((with_reducible refine gate_dst (N := 12) rfl ?_); refine Kd.R_lit k56 _ 56 ?hg (N := 12) ?hd (xs := ([] : List S56)) (inner := []) (ok := fun _ => True) (okp := fun _ => True) ?hr ?hp (fun _ hk => hk) trivial (Below.refl _ _) (Nat.le_refl _) (by simp) ?_; (case hd => rfl); (case hg => rfl); (case hr => first | (go_simp; done) | (go_simp; rfl)); (case hp => exact (Reps.none _ _)); intro v12 w7 ho hb hg_ hnew_; have HO := Aside0.mk ho; have HB1 := Aside0.mk (below_step HB.out hb); clear hg_ hnew_ ho hb HB))
  refine (Any.strings_SplitN { Tryd.lays147 with } Tryd.lays147.i9 a0 ⟨#[10]⟩ 62 m _ (by have := HSZ.out; omega) ((HB1.out.cell (World.block_lt_of_cell? _ _ HM.out)).trans HM.out) (by decide) (by omega) (by omega)).mono ?_
  rintro e w' ⟨rfl, rfl⟩
  obtain ⟨L, hL⟩ : ∃ L, L = D_readLines a0 := ⟨_, rfl⟩
  have hLL : L.length ≤ min 62 (a0.size + 1) := by
    have := Lib.splitB_length_le (⟨#[10]⟩ : ByteArray) 0 (min 62 (a0.size + 1) - 1) a0
    rw [hL]
    unfold D_readLines
    omega
  rw [show Lib.splitB ⟨#[10]⟩ 0 (min 62 (a0.size + 1) - 1) a0 = L from hL.symm]
  obtain ⟨cap, hcap⟩ : ∃ cap, cap = min 62 (a0.size + 1) := ⟨_, rfl⟩
  rw [← hcap] at hLL ⊢
  have HC := Aside0.mk (heap_alloc_new w7 (.cells (Lib.cellsOf L cap) (Tryd.lays147_ren.t 9)))
  have HO2 := Aside0.mk (Kd.R_reok (ok := fun k_ => k_ ≠ w7.heap.size) rfl (Kd.R_alloc HO.out (.cells (Lib.cellsOf L cap) (Tryd.lays147_ren.t 9))) (fun k_ e_ => by have := Kd.R_lt HO.out k_ e_; omega))
  have HB2 := Aside0.mk (below_alloc HB1.out (.cells (Lib.cellsOf L cap) (Tryd.lays147_ren.t 9)))
  have HGB := Aside0.mk (below_size HB1.out)
  have HL := Aside0.mk hL
  have HL62 := Aside0.mk (show L.length ≤ 62 by omega)
  clear hL hLL hcap HO HB1
  go_wp2_with fail
  go_loopg [16, 4] L.length (fun kq v16 v4 w' => ∃ (i : Nat) (o : List S56) (W : World), W = w' ∧ v16 = .int .i64 (i : Int) ∧ Aside0 (i + kq = L.length) ∧ Aside0 (D_readOut (L.drop i) o = D_readOut L []) ∧ Aside0 (Kd.R k56 56 W w.heap.size (fun k_ => k_ ≠ w7.heap.size) v4 o) ∧ Aside0 (o.length ≤ i) ∧ Aside0 (W.heap[w7.heap.size]? = some (.cells (Lib.cellsOf L cap) (Tryd.lays147_ren.t 9) (0, 0))) ∧ Aside0 (Below w.heap.size w W))
  case atStart => exact ⟨0, [], _, rfl, rfl, ⟨by omega⟩, ⟨rfl⟩, ⟨HO2.out⟩, ⟨Nat.le_refl _⟩, ⟨HC.out⟩, ⟨HB2.out⟩⟩
  case round =>
    obtain ⟨i, o, W, rfl, rfl, HI, HD, HO, HOL, HCC, HB⟩ := hrel
    cases gk with
    | zero =>
      have hi : i = L.length := by have := HI.out; omega
      have hdec : decide ((i : Int) < (L.length : Int)) = false := decide_eq_false (by omega)
      have ho : o = D_readOut (D_readLines a0) [] := by
        rw [← HL.out, ← HD.out, hi, List.drop_length]
        rfl
      have HTT2 := Aside0.mk HTT.out
      have HTX2 := Aside0.mk HTX.out
      have HRR2 := Aside0.mk HRR.out
      rw [← ho] at HTT2 HTX2 HRR2
      clear HTT HTX HRR ho
      obtain ⟨Ao, co, eo⟩ := Kd.R_slice HO.out
      subst eo
      have hC := (Kd.R_reads' HO.out).2.2
      have hCC := (Kd.R_reads' HO.out).2.1
      go_wp2_with fail
      refine (impl_areTold.calls _ _ o t _ hC hCC HTT2.out).mono ?_
      rintro e w2 ⟨rfl, hb⟩
      have HB2 := Aside0.mk (below_step HB.out hb)
      have HO2 := Aside0.mk (Kd.R_below HO.out hb)
      clear hC hCC hb
      cases t with
      | false =>
        obtain ⟨rfl, rfl⟩ := Prod.mk.inj (HRR2.out.trans (if_neg (by simp)))
        go_wp2_with fail
        go_ret2
        exact ⟨_, rfl, Kd.R_nil _ _ _ _ _, HB2.out⟩
      | true =>
        have hx := HTX2.out rfl
        have hC := (Kd.R_reads' HO2.out).2.2
        have hCC := (Kd.R_reads' HO2.out).2.1
        go_wp2_with fail
        refine (impl_actsText.calls k _ _ o x _ hC hCC hx (HTB.out.below HB2.out)).mono ?_
        rintro e w3 ⟨rfl, hb⟩
        have HB3 := Aside0.mk (below_step HB2.out hb)
        have HO3 := Aside0.mk (Kd.R_below HO2.out hb)
        clear hC hCC hb hx
        by_cases hq : x.toList = a0.toList
        · have hrr := HRR2.out
          simp only [if_true, hq, Prod.mk.injEq] at hrr
          obtain ⟨rfl, rfl⟩ := hrr
          go_wp2_with fail
          go_ret2
          exact ⟨_, rfl, Kd.R_mono HO3.out (fun _ _ => trivial), HB3.out⟩
        · have hrr := HRR2.out
          simp only [if_true, hq, if_false, Prod.mk.injEq] at hrr
          obtain ⟨rfl, rfl⟩ := hrr
          have hq1 : (x.toList == a0.toList) = false := beq_eq_false_iff_ne.mpr hq
          have hq2 : (x.toList != a0.toList) = true := bne_iff_ne.mpr hq
          have hq3 : decide (x.toList = a0.toList) = false := decide_eq_false hq
          go_wp2_with fail
          go_ret2
          exact ⟨_, rfl, Kd.R_nil _ _ _ _ _, HB3.out⟩
    | succ k1 =>
      have hi : i < L.length := by have := HI.out; omega
      have hdec : decide ((i : Int) < (L.length : Int)) = true := decide_eq_true (by omega)
      have hcc := readacts_cell HCC.out i hi
      obtain ⟨x, hx⟩ : ∃ x, x = L[i]'hi := ⟨_, rfl⟩
      rw [← hx] at hcc
      have HX := Aside0.mk hx
      have HXS : Aside0 (x.size ≤ 1048576) := ⟨by
        have h1 := readacts_size ⟨#[10]⟩ (min 62 (a0.size + 1) - 1) a0 x (by rw [hx]; have hmem : ∀ y, y ∈ L → y ∈ Lib.splitB ⟨#[10]⟩ 0 (min 62 (a0.size + 1) - 1) a0 := fun y hy => by { rw [HL.out] at hy; exact hy }; exact hmem _ (List.getElem_mem hi))
        have := HSZ.out
        omega⟩
      have HE := Aside0.mk (show wrap64 ((i : Int) + 1) = ((i + 1 : Nat) : Int) by have := HL62.out; unfold wrap64; omega)
      clear hx
      go_wp2_with fail
      refine (Any.strings_Cut Tryd.lays145 x ⟨#[32]⟩ m _ (by have := HXS.out; omega) ((HB.out.cell (World.block_lt_of_cell? _ _ HM.out)).trans HM.out)).mono ?_
      rintro e w' ⟨rfl, n, rfl⟩
      obtain ⟨cw, hcw⟩ : ∃ cw : ByteArray, cw = ⟨(Lib.cut x.data.toList [32]).1.toArray⟩ := ⟨_, rfl⟩
      obtain ⟨cn, hcn⟩ : ∃ cn : ByteArray, cn = ⟨(Lib.cut x.data.toList [32]).2.1.toArray⟩ := ⟨_, rfl⟩
      rw [show (⟨#[32]⟩ : ByteArray).data.toList = [32] from rfl, ← hcw, ← hcn]
      generalize (Lib.cut x.data.toList [32]).2.2 = cb
      have HW := Aside0.mk hcw
      have HN := Aside0.mk hcn
      have HNS : Aside0 (cn.size ≤ 2097152) := ⟨by
        have h1 := readacts_cut x.data.toList
        have h2 := HXS.out
        rw [hcn]
        have h3 : x.data.toList.length = x.size := by rw [Array.length_toList]; rfl
        show (Lib.cut x.data.toList [32]).2.1.toArray.size ≤ 2097152
        rw [List.size_toArray]
        omega⟩
      clear hcw hcn
      go_wp2_with fail
      refine (readacts_parse cn HNS.out _ (HTB.out.below (pw_below_drewN HB.out n))).mono ?_
      rintro e w2 ⟨v, ev, rfl, hev, hb⟩
      have HB2 := Aside0.mk (below_step (pw_below_drewN HB.out n) hb)
      have HO2 := Aside0.mk (Kd.R_below (Kd.R_drewN HO.out n) hb)
      have HC2 := Aside0.mk (blk_below (blk_drewN HCC.out n) hb)
      have HEV := Aside0.mk hev
      clear hev hb hcc
      rcases hp : Lib.parseIntB 64 cn.data.toList with pv | _ | _
      · have hev := HEV.out
        rw [hp] at hev
        obtain ⟨rfl, rfl⟩ := hev
        have HP := Aside0.mk hp
        clear hp HEV
        go_wp2_with fail
        refine (impl_actWords.calls readWords _ rfl).mono ?_
        rintro e w3 ⟨vw, rfl, how, hb⟩
        have HB3 := Aside0.mk (below_step HB2.out hb)
        have HO3 := Aside0.mk (Kd.R_below HO2.out hb)
        have HC3 := Aside0.mk (blk_below HC2.out hb)
        obtain ⟨gw, capw, rfl, _, hgl, _⟩ := Kd.R_form how (by decide)
        have HWC : ∀ j : Nat, j < readWords.length → w3.cell? ⟨gw, 0 + j, none⟩ = some (.string (readWords.getD j ByteArray.empty)) := fun j hj => by
          obtain ⟨ad, e, hc⟩ := Kd.at_string (Kd.R_reads' how).2.2 (j : Int) (by omega) (by omega)
          obtain rfl := Option.some.inj e
          rw [Int.toNat_natCast, show (Addr.add ⟨gw, 0, none⟩ j) = ⟨gw, j, none⟩ by unfold Addr.add; split <;> simp_all] at hc
          rw [Nat.zero_add, hc]
          simp [rdOf, List.getD]
        have HWC2 := Aside0.mk HWC
        clear HWC how hb HB2 HO2 HC2
        go_wp2_with fail
        refine (Any.slices_Index_string Tryd.lays109 gw 0 readWords.length capw readWords cw _ (Nat.le_refl _) (by decide) HWC2.out).mono ?_
        rintro e w4 ⟨rfl, hw4⟩
        replace hw4 := hw4.symm
        subst hw4
        rw [List.take_length]
        obtain ⟨kd, hkd⟩ : ∃ kd, kd = Lib.idxOfS readWords cw := ⟨_, rfl⟩
        rw [← hkd]
        have HKD := Aside0.mk hkd
        clear hkd HWC2
        go_wp2_with (first | ((with_reducible refine gate_builtin (b := .append) (xs := #[.tmp 33, .tmp 40]) rfl ?_); at_builtin; refine Kd.R_append k56 (w0 := w) w.heap.size rfl (.tmp 33) (.tmp 40) 32 56 (.agg #[(.int .i8 0), (.int .i64 0)]) 16 rfl Tryd.underlying32 info56 rfl (by decide) (by omega) u4 o (⟨IntKind.i8.wrap kd, v⟩ : S56) [.int .i8 (IntKind.i8.wrap kd), .int .i64 v] (fun k_ => k_ ≠ w7.heap.size) (fun _ => False) rfl (by show Value.slice (some ⟨w3.heap.size, 0, none⟩) 1 1 = _; simp) ?aP (fun _ hk => hk.elim) ?aF ?aO ?aB ?aS ?aL ?_; (case aP => exact k56_mkM _ _ _ (⟨IntKind.i8.wrap kd, v⟩ : S56)); (case aB => exact HB3.out); (case aF => exact fun k_ hk_ e_ => by have := blk_lt HC3.out; omega); (case aO => exact HO3.out); (case aS => exact below_size HB3.out); (case aL => have := HOL.out; have := HL62.out; omega); intro v73 w8 ho hb hg hat; have HB8 := Aside0.mk hb; have HO8 := Aside0.mk ho; have HC8 := Aside0.mk (blk_grown HC3.out hg (fun e_ => HO3.out.1 _ e_.symm rfl)); clear ho hb hg hat))
        go_roundg k1
        case measure => omega
        case rel =>
          refine ⟨i + 1, o ++ [(⟨IntKind.i8.wrap kd, v⟩ : S56)], _, rfl, by rw [HE.out], ⟨by have := HI.out; omega⟩, ⟨?_⟩, HO8, ⟨by have := HOL.out; simp only [List.length_append, List.length_cons, List.length_nil]; omega⟩, HC8, HB8⟩
          rw [← HD.out, List.drop_eq_getElem_cons hi, ← HX.out, D_readOut, readacts_some (v := v) (by rw [← HN.out]; exact HP.out), ← HW.out, ← HKD.out]
      · have HP := Aside0.mk hp
        have hev := HEV.out
        rw [hp] at hev
        obtain ⟨te, pe, rfl⟩ := hev
        clear hp HEV
        go_wp2_with fail
        go_roundg k1
        case measure => omega
        case rel =>
          refine ⟨i + 1, o, _, rfl, by rw [HE.out], ⟨by have := HI.out; omega⟩, ⟨?_⟩, HO2, ⟨by have := HOL.out; omega⟩, HC2, HB2⟩
          rw [← HD.out, List.drop_eq_getElem_cons hi, ← HX.out, D_readOut, readacts_none (by rw [← HN.out, HP.out]; simp)]
      · have HP := Aside0.mk hp
        have hev := HEV.out
        rw [hp] at hev
        obtain ⟨te, pe, rfl⟩ := hev
        clear hp HEV
        go_wp2_with fail
        go_roundg k1
        case measure => omega
        case rel =>
          refine ⟨i + 1, o, _, rfl, by rw [HE.out], ⟨by have := HI.out; omega⟩, ⟨?_⟩, HO2, ⟨by have := HOL.out; omega⟩, HC2, HB2⟩
          rw [← HD.out, List.drop_eq_getElem_cons hi, ← HX.out, D_readOut, readacts_none (by rw [← HN.out, HP.out]; simp)]
def impl_ReadActs.f (a0 : ByteArray) : Option (List S56 × Int) := if a0.size ≤ 1048576 then ((impl_areTold.f (D_readOut (D_readLines a0) [])).bind fun t => (if t = true then ((impl_actsText.f ((D_readOut (D_readLines a0) []).length + 1) (D_readOut (D_readLines a0) [])).bind fun x => some (if x.toList = a0.toList then (D_readOut (D_readLines a0) [], 0) else ([], 5))) else some ([], 5))) else none
theorem impl_ReadActs.calls (a0 : ByteArray) (r1 : List S56) (r2 : Int) (w : World) (h : impl_ReadActs.f a0 = some (r1, r2)) (hT : Tab10 w) :
    Calls Tryd.prog 24 #[.string a0] w fun e w' => ∃ v0_ : Value, e = .returned (.tuple #[v0_, .int .i64 r2]) ∧ Kd.R k56 56 w' w.heap.size (fun _ => True) v0_ r1 ∧ Below w.heap.size w w' := by
  unfold impl_ReadActs.f at h
  by_cases hs : a0.size ≤ 1048576
  · rw [if_pos hs] at h
    obtain ⟨t, ht, h⟩ := Option.bind_eq_some_iff.mp h
    obtain ⟨m, hm⟩ := hT.len
    cases t with
    | false =>
      rw [if_neg (by simp)] at h
      exact impl_ReadActs.walk a0 hs w m hm hT false ht 0 ⟨#[]⟩ (fun e => by cases e) r1 r2 (by rw [if_neg (by simp)]; exact (Option.some.inj h).symm)
    | true =>
      rw [if_pos rfl] at h
      obtain ⟨x, hx, h⟩ := Option.bind_eq_some_iff.mp h
      exact impl_ReadActs.walk a0 hs w m hm hT true ht _ x (fun _ => hx) r1 r2 (by rw [if_pos rfl]; exact (Option.some.inj h).symm)
  · rw [if_neg hs] at h; simp at h


end Go.Proofs.YtiehbagnebjadaaDoor.Q
