-- Written by wip/mk.py of this repository (a run of the kit's print with hand-proved leaves added); Lean checks it.
import Derived.Test.YtjonocgmofcieaaGreatDoorQx0
import Derived.Test.YtjonocgmofcieaaGreatDoorQx3
import Derived.Test.YtjonocgmofcieaaGreatDoorQx7
import Derived.Test.YtjonocgmofcieaaGreatDoorQx10
import Derived.Test.YtjonocgmofcieaaGreatDoorQx11
namespace Go.Proofs.YtjonocgmofcieaaGreatDoor.Q
open Go.RowKit Go.Proofs.YtjonocgmofcieaaGreatDoorW.PrintWords Go.Proofs.YtjonocgmofcieaaGreatDoorW.PrintLast Go.Proofs.YtjonocgmofcieaaGreatDoorW.PrintMore
attribute [local go_sem] max2_int min2_int max_two min_two max_three min_three max_four min_four   -- for this text's walks alone
set_option linter.unusedVariables false
set_option linter.unusedSimpArgs false

/-! ### impl_logText: function 41 -/
def impl_logText.l0 : Nat → ByteArray → List (S55) → Int → Int → Option (ByteArray)
 | 0, _, _, _, _ => none
 | k + 1, x5, x12, x13, x14 => if x14 < x13 then (if 0 ≤ x14 then (if x14 < (x12.length : Int) then ((strconv_FormatUint.f ((rd_T55 x12 x14).f0) 16).bind fun t261 => ((strings_Repeat.f (⟨#[48]⟩ : ByteArray) (wrap64 (16 - (t261.size : Int)))).bind fun t262 => (if t262.size + t261.size ≤ 9223372036854775807 then (if (t262 ++ t261).size + 1 ≤ 9223372036854775807 then ((impl_decimal.f (wrap64 ((rd_T55 x12 x14).f1))).bind fun t263 => (if ((t262 ++ t261) ++ (⟨#[32]⟩ : ByteArray)).size + t263.size ≤ 9223372036854775807 then (if (((t262 ++ t261) ++ (⟨#[32]⟩ : ByteArray)) ++ t263).size + 1 ≤ 9223372036854775807 then (if x5.size + ((((t262 ++ t261) ++ (⟨#[32]⟩ : ByteArray)) ++ t263) ++ (⟨#[10]⟩ : ByteArray)).size ≤ 9223372036854775807 then (impl_logText.l0 k (x5 ++ ((((t262 ++ t261) ++ (⟨#[32]⟩ : ByteArray)) ++ t263) ++ (⟨#[10]⟩ : ByteArray))) x12 x13 (wrap64 (x14 + 1))) else (none)) else (none)) else (none))) else (none)) else (none)))) else (none)) else (none)) else (some x5)
def impl_logText.f (k : Nat) (l0 : List (S102)) (l1 : List (S55)) : Option (ByteArray) := (impl_curveText.f k l0).bind fun t258 => (if t258.size + 1 ≤ 9223372036854775807 then (impl_logText.l0 k (t258 ++ (⟨#[10]⟩ : ByteArray)) l1 (l1.length : Int) 0) else (none))
theorem impl_logText.mono_l : ∀ k, (∀ y0 y1 y2 y3, LeO (impl_logText.l0 k y0 y1 y2 y3) (impl_logText.l0 (k + 1) y0 y1 y2 y3))
 | 0 => fun _ _ _ _ r h => by simp [impl_logText.l0] at h
 | k + 1 => by
  have ih0 := impl_logText.mono_l k
  intro y0 y1 y2 y3
  unfold impl_logText.l0
  repeat' first
  | (with_reducible exact ih0 _ _ _ _)
  | (with_reducible exact impl_curveText.mono _ _)
  | (with_reducible exact LeO.refl _)
  | (with_reducible exact LeO.none _)
  | (with_reducible refine LeO.ite ?_ ?_)
  | (with_reducible refine LeO.bind ?_ (fun _ => ?_))
  | exact ih0 _ _ _ _
  | exact impl_curveText.mono _ _
  | exact LeO.none _
  | refine LeO.ite ?_ ?_
  | refine LeO.bind ?_ (fun _ => ?_)
theorem impl_logText.mono : ∀ a0 a1 k, LeO (impl_logText.f k a0 a1) (impl_logText.f (k + 1) a0 a1) := by
 intro a0 a1 k
 have ih0 := impl_logText.mono_l k
 unfold impl_logText.f
 repeat' first
   | (with_reducible exact ih0 _ _ _ _)
   | (with_reducible exact impl_curveText.mono _ _)
   | (with_reducible exact LeO.refl _)
   | (with_reducible exact LeO.none _)
   | (with_reducible refine LeO.ite ?_ ?_)
   | (with_reducible refine LeO.bind ?_ (fun _ => ?_))
   | exact ih0 _ _ _ _
   | exact impl_curveText.mono _ _
   | exact LeO.none _
   | refine LeO.ite ?_ ?_
   | refine LeO.bind ?_ (fun _ => ?_)
def impl_logText.T6 : Bool × List (List Nat × List Nat) := (true, [([], []), ([], []), ([1], [1]), ([2], [2]), ([3], [3]), ([], []), ([4, 5], [4, 5]), ([6], [6]), ([], []), ([8], [8]), ([9], [9]), ([10, 4], [10]), ([7, 11], [7, 11]), ([12], [12]), ([0, 13], [0, 13]), ([14, 11, 0, 1, 2, 3, 4, 5, 6, 7, 8, 9, 10, 11, 12, 13, 14], [0, 14])])
def impl_logText.B6 : List Nat := [0, 0, 2, 6, 14, 0, 62, 126, 0, 256, 768, 1822, 4094, 8190, 16383, 32767]
theorem impl_logText.tab6 : rtab .any (opsOf Tryz.f41 6) = impl_logText.T6 := by kernel_rfl
theorem impl_logText.bits6 : waitsOk impl_logText.T6.2 impl_logText.B6 = true := by kernel_rfl
set_option maxHeartbeats 8000000 in
set_option maxRecDepth 100000 in
theorem impl_logText.calls (k : Nat) (A0 : Option Addr) (c0 : Nat) (l0 : List (S102)) (A1 : Option Addr) (c1 : Nat) (l1 : List (S55)) (r : ByteArray) (w : World) (hr0 : Kd.C k102 w A0 l0.length l0) (hc0 : l0.length ≤ c0) (hr1 : Kd.C k55 w A1 l1.length l1) (hc1 : l1.length ≤ c1) (h : impl_logText.f k l0 l1 = some r) (hT10 : Tab10 w) :
  Calls Tryz.prog 41 #[.slice A0 l0.length c0, .slice A1 l1.length c1] w fun e w' => e = .returned (.string r) ∧ Below w.heap.size w w' := by
 have HT10 := Aside0.mk hT10
 clear hT10
 have hu55 := Tryz.underlying55
 have HR0 := Aside0.mk hr0
 have HC0 := Aside0.mk hc0
 clear hr0 hc0
 have HR1 := Aside0.mk hr1
 have HC1 := Aside0.mk hc1
 clear hr1 hc1
 have HB := Aside0.mk (Below.refl w.heap.size w)
 have H : ((impl_curveText.f k l0).bind fun t258 => (if t258.size + 1 ≤ 9223372036854775807 then (impl_logText.l0 k (t258 ++ (⟨#[10]⟩ : ByteArray)) l1 (l1.length : Int) 0) else (none))) = some r := h
 clear h
 replace H := Option.bind_eq_some_iff.mp H
 obtain ⟨t258, A30, H⟩ := H
 replace H : (if t258.size + 1 ≤ 9223372036854775807 then (impl_logText.l0 k (t258 ++ (⟨#[10]⟩ : ByteArray)) l1 (l1.length : Int) 0) else (none)) = some r := H
 have A3 := Aside0.mk A30
 clear A30
 by_cases c4 : t258.size + 1 ≤ 9223372036854775807
 ·rw [if_pos c4] at H
  have c4b0 := eq_true c4
  have c4b1 : decide (t258.size + 1 ≤ 9223372036854775807) = true := decide_eq_true c4
  try have c4b2 : (9223372036854775807 < t258.size + 1) = False := eq_false (Nat.not_lt.2 c4)
  have H' := Aside0.mk H
  clear H
  go_enter Tryz.func41, Tryz.ntmps41
  go_wp2_with (first | ((with_reducible refine gate_callee (f := 77) rfl ?_); refine goesL_ (some 10) rfl rfl Tryz.func77 (by kernel_rfl) rfl #[.slice A0 l0.length c0] rfl (by (try simp only [List.map_toArray, List.map_cons, List.map_nil]); first | done | rfl | (simp only [List.length_drop, List.length_take]; rfl)) ?_; (with_reducible refine (impl_curveText.calls k _ _ l0 t258 _ ?side1 ?side2 A3.out (by repeat (first | exact HT10.out.below HB.out | exact HT10.out | exact HT10.out.below (by repeat (first | (with_reducible first | exact HB.out | apply below_alloc | apply pw_below_drewN | apply below_drew1) | refine below_set ?_ (Aside0.out (by assumption)) | exact HB.out)) | refine Tab10.alloc ?_ _ | refine Tab10.drewN ?_ _ | refine Tab10.drew ?_))).mono ?_); (case side1 => repeat (first | exact HR0.out | (with_reducible refine Kd.C_alloc ?_ _) | (with_reducible refine Kd.C_drewN ?_ _) | (with_reducible refine Kd.C_drew ?_))); (case side2 => exact HC0.out); rintro e w5 ⟨rfl, hb⟩; refine ⟨_, rfl, ?_⟩; have n0_ := Aside0.mk (below_step (by repeat (first | (with_reducible first | exact HB.out | apply below_alloc | apply pw_below_drewN | apply below_drew1) | exact HB.out)) hb); clear HB; have HB := n0_; clear n0_; (try clear hb); (try clear hb2); (try clear hk); (try clear hi)))
  go_loopg [5, 14] k (fun kq v5 v14 w' => ∃ (x5_1 : ByteArray) (x14_1 : Int), v5 = .string x5_1 ∧ v14 = .int .i64 x14_1 ∧ Aside0 (impl_logText.l0 kq x5_1 l1 (l1.length : Int) x14_1 = some r) ∧ Aside0 (kq ≤ k) ∧ Aside0 (Below w.heap.size w w'))
  case atStart => exact ⟨(t258 ++ (⟨#[10]⟩ : ByteArray)), (0), (by first | rfl | (simp; done) | (simp [*]; done)), (by first | rfl | (simp; done) | (simp [*]; done)), H', ⟨Nat.le_refl _⟩, ⟨by repeat (first | (with_reducible first | exact HB.out | apply below_alloc | apply pw_below_drewN | apply below_drew1) | exact HB.out)⟩⟩
  clear H'
  try clear c1
  try clear p2
  try clear c4
  try clear c4b0
  try clear c4b1
  try clear c4b2
  obtain ⟨x5_1, x14_1, rfl, rfl, HA, HK1, HB⟩ := hrel
  cases gk with
  | zero => exact absurd HA.out (by simp [impl_logText.l0])
  | succ k1 =>
   have H := HA.out
   clear HA
   simp only [impl_logText.l0] at H
   by_cases c6 : x14_1 < (l1.length : Int)
   ·rw [if_pos c6] at H
    have c6b0 : decide (x14_1 < (l1.length : Int)) = true := decide_eq_true c6
    clear c6
    by_cases c7 : 0 ≤ x14_1
    ·rw [if_pos c7] at H
     have c7b0 : decide (0 ≤ x14_1) = true := decide_eq_true c7
     clear c7
     by_cases c8 : x14_1 < (l1.length : Int)
     ·rw [if_pos c8] at H
      have c8b0 : decide (x14_1 < (l1.length : Int)) = true := decide_eq_true c8
      clear c8
      replace H := Option.bind_eq_some_iff.mp H
      obtain ⟨t261, A90, H⟩ := H
      replace H : ((strings_Repeat.f (⟨#[48]⟩ : ByteArray) (wrap64 (16 - (t261.size : Int)))).bind fun t262 => (if t262.size + t261.size ≤ 9223372036854775807 then (if (t262 ++ t261).size + 1 ≤ 9223372036854775807 then ((impl_decimal.f (wrap64 ((rd_T55 l1 x14_1).f1))).bind fun t263 => (if ((t262 ++ t261) ++ (⟨#[32]⟩ : ByteArray)).size + t263.size ≤ 9223372036854775807 then (if (((t262 ++ t261) ++ (⟨#[32]⟩ : ByteArray)) ++ t263).size + 1 ≤ 9223372036854775807 then (if x5_1.size + ((((t262 ++ t261) ++ (⟨#[32]⟩ : ByteArray)) ++ t263) ++ (⟨#[10]⟩ : ByteArray)).size ≤ 9223372036854775807 then (impl_logText.l0 k1 (x5_1 ++ ((((t262 ++ t261) ++ (⟨#[32]⟩ : ByteArray)) ++ t263) ++ (⟨#[10]⟩ : ByteArray))) l1 (l1.length : Int) (wrap64 (x14_1 + 1))) else (none)) else (none)) else (none))) else (none)) else (none))) = some r := H
      have A9 := Aside0.mk A90
      clear A90
      replace H := Option.bind_eq_some_iff.mp H
      obtain ⟨t262, A100, H⟩ := H
      replace H : (if t262.size + t261.size ≤ 9223372036854775807 then (if (t262 ++ t261).size + 1 ≤ 9223372036854775807 then ((impl_decimal.f (wrap64 ((rd_T55 l1 x14_1).f1))).bind fun t263 => (if ((t262 ++ t261) ++ (⟨#[32]⟩ : ByteArray)).size + t263.size ≤ 9223372036854775807 then (if (((t262 ++ t261) ++ (⟨#[32]⟩ : ByteArray)) ++ t263).size + 1 ≤ 9223372036854775807 then (if x5_1.size + ((((t262 ++ t261) ++ (⟨#[32]⟩ : ByteArray)) ++ t263) ++ (⟨#[10]⟩ : ByteArray)).size ≤ 9223372036854775807 then (impl_logText.l0 k1 (x5_1 ++ ((((t262 ++ t261) ++ (⟨#[32]⟩ : ByteArray)) ++ t263) ++ (⟨#[10]⟩ : ByteArray))) l1 (l1.length : Int) (wrap64 (x14_1 + 1))) else (none)) else (none)) else (none))) else (none)) else (none)) = some r := H
      have A10 := Aside0.mk A100
      clear A100
      by_cases c11 : t262.size + t261.size ≤ 9223372036854775807
      ·rw [if_pos c11] at H
       have c11b0 := eq_true c11
       have c11b1 : decide (t262.size + t261.size ≤ 9223372036854775807) = true := decide_eq_true c11
       try have c11b2 : (9223372036854775807 < t262.size + t261.size) = False := eq_false (Nat.not_lt.2 c11)
       by_cases c12 : (t262 ++ t261).size + 1 ≤ 9223372036854775807
       ·rw [if_pos c12] at H
        have c12b0 := eq_true c12
        have c12b1 : decide ((t262 ++ t261).size + 1 ≤ 9223372036854775807) = true := decide_eq_true c12
        try have c12b2 : (9223372036854775807 < (t262 ++ t261).size + 1) = False := eq_false (Nat.not_lt.2 c12)
        replace H := Option.bind_eq_some_iff.mp H
        obtain ⟨t263, A130, H⟩ := H
        replace H : (if ((t262 ++ t261) ++ (⟨#[32]⟩ : ByteArray)).size + t263.size ≤ 9223372036854775807 then (if (((t262 ++ t261) ++ (⟨#[32]⟩ : ByteArray)) ++ t263).size + 1 ≤ 9223372036854775807 then (if x5_1.size + ((((t262 ++ t261) ++ (⟨#[32]⟩ : ByteArray)) ++ t263) ++ (⟨#[10]⟩ : ByteArray)).size ≤ 9223372036854775807 then (impl_logText.l0 k1 (x5_1 ++ ((((t262 ++ t261) ++ (⟨#[32]⟩ : ByteArray)) ++ t263) ++ (⟨#[10]⟩ : ByteArray))) l1 (l1.length : Int) (wrap64 (x14_1 + 1))) else (none)) else (none)) else (none)) = some r := H
        have A13 := Aside0.mk A130
        clear A130
        by_cases c14 : ((t262 ++ t261) ++ (⟨#[32]⟩ : ByteArray)).size + t263.size ≤ 9223372036854775807
        ·rw [if_pos c14] at H
         have c14b0 := eq_true c14
         have c14b1 : decide (((t262 ++ t261) ++ (⟨#[32]⟩ : ByteArray)).size + t263.size ≤ 9223372036854775807) = true := decide_eq_true c14
         try have c14b2 : (9223372036854775807 < ((t262 ++ t261) ++ (⟨#[32]⟩ : ByteArray)).size + t263.size) = False := eq_false (Nat.not_lt.2 c14)
         try have c14b3 := c14b2
         try simp only [ByteArray.size_append, show (⟨#[10]⟩ : ByteArray).size = 1 from rfl, show (⟨#[32]⟩ : ByteArray).size = 1 from rfl, show (⟨#[48]⟩ : ByteArray).size = 1 from rfl] at c14b3
         by_cases c15 : (((t262 ++ t261) ++ (⟨#[32]⟩ : ByteArray)) ++ t263).size + 1 ≤ 9223372036854775807
         ·rw [if_pos c15] at H
          have c15b0 := eq_true c15
          have c15b1 : decide ((((t262 ++ t261) ++ (⟨#[32]⟩ : ByteArray)) ++ t263).size + 1 ≤ 9223372036854775807) = true := decide_eq_true c15
          try have c15b2 : (9223372036854775807 < (((t262 ++ t261) ++ (⟨#[32]⟩ : ByteArray)) ++ t263).size + 1) = False := eq_false (Nat.not_lt.2 c15)
          try have c15b3 := c15b2
          try simp only [ByteArray.size_append, show (⟨#[10]⟩ : ByteArray).size = 1 from rfl, show (⟨#[32]⟩ : ByteArray).size = 1 from rfl, show (⟨#[48]⟩ : ByteArray).size = 1 from rfl] at c15b3
          by_cases c16 : x5_1.size + ((((t262 ++ t261) ++ (⟨#[32]⟩ : ByteArray)) ++ t263) ++ (⟨#[10]⟩ : ByteArray)).size ≤ 9223372036854775807
          ·rw [if_pos c16] at H
           have c16b0 := eq_true c16
           have c16b1 : decide (x5_1.size + ((((t262 ++ t261) ++ (⟨#[32]⟩ : ByteArray)) ++ t263) ++ (⟨#[10]⟩ : ByteArray)).size ≤ 9223372036854775807) = true := decide_eq_true c16
           try have c16b2 : (9223372036854775807 < x5_1.size + ((((t262 ++ t261) ++ (⟨#[32]⟩ : ByteArray)) ++ t263) ++ (⟨#[10]⟩ : ByteArray)).size) = False := eq_false (Nat.not_lt.2 c16)
           try have c16b3 := c16b2
           try simp only [ByteArray.size_append, show (⟨#[10]⟩ : ByteArray).size = 1 from rfl, show (⟨#[32]⟩ : ByteArray).size = 1 from rfl, show (⟨#[48]⟩ : ByteArray).size = 1 from rfl] at c16b3
           have H' := Aside0.mk H
           clear H
           have p259 : 0 ≤ (x14_1 : Int) := of_decide_eq_true (by first | (with_reducible assumption) | assumption)
           have q259 : x14_1 < (l1.length : Int) := of_decide_eq_true (by first | (with_reducible assumption) | assumption)
           obtain ⟨ad259, e259, hx259_0, hx259_1⟩ := at_T55 HR1.out x14_1 p259 q259
           cases e259
           replace hx259_0 := (HB.out.cell (World.block_lt_of_cell? w _ hx259_0)).trans hx259_0
           replace hx259_1 := (HB.out.cell (World.block_lt_of_cell? w _ hx259_1)).trans hx259_1
           replace p259 := eq_true p259
           replace q259 := eq_true q259
           try go_wp2_with (first | ((with_reducible refine gate_dst (N := 7) rfl ?_); refine box_event ?hg (N := 7) ?hd (cs := #[.int .u64 0, .int .i8 0]) (t := 55) ?hr ?_; (case hd => rfl); (case hg => rfl); (case hr => first | (go_simp; done) | (go_simp; rfl)); intro gb260 hg w17 hbox hb; have n0_ := Aside0.mk (below_step (by repeat (first | (with_reducible first | exact HB.out | apply below_alloc | apply pw_below_drewN | apply below_drew1) | exact HB.out)) hb); have n1_ := Aside0.mk (hbox); have n2_ := Aside0.mk ((by rw [hg]; exact (below_size (by repeat (first | (with_reducible first | exact HB.out | apply below_alloc | apply pw_below_drewN | apply below_drew1) | exact HB.out))) : w.heap.size ≤ gb260)); have n3_ := Aside0.mk ((by rw [hg]; exact (below_size (by repeat (first | (with_reducible first | exact HB.out | apply below_alloc | apply pw_below_drewN | apply below_drew1) | exact HB.out))) : w.heap.size ≤ gb260)); clear HB; have HB := n0_; have BK260 := n1_; have GW260 := n2_; have GE260 := n3_; clear n0_ n1_ n2_ n3_; clear hb hbox hg; have hcz18_0 : w17.cell? ⟨gb260, 0, none⟩ = some (.int .u64 0) := (blk_cell BK260.out 0).trans rfl; have hcz18_1 : w17.cell? ⟨gb260, 1, none⟩ = some (.int .i8 0) := (blk_cell BK260.out 1).trans rfl; have hfz18_0 := blk_frozen BK260.out 0; have hfz18_1 := blk_frozen BK260.out 1) | ((with_reducible refine gate_callee (f := 78) rfl ?_); refine goesL_ (some 20) rfl rfl Tryz.func78 (by kernel_rfl) rfl #[.int .u64 ((rd_T55 l1 x14_1).f0), .int .i64 16] rfl (by (try simp only [List.map_toArray, List.map_cons, List.map_nil]); first | done | rfl | (simp only [List.length_drop, List.length_take]; rfl)) ?_; (with_reducible refine (strconv_FormatUint.calls ((rd_T55 l1 x14_1).f0) 16 t261 _ A9.out (by repeat (first | exact HT10.out.below HB.out | exact HT10.out | exact HT10.out.below (by repeat (first | (with_reducible first | exact HB.out | apply below_alloc | apply pw_below_drewN | apply below_drew1) | refine below_set ?_ (Aside0.out (by assumption)) | exact HB.out)) | refine Tab10.alloc ?_ _ | refine Tab10.drewN ?_ _ | refine Tab10.drew ?_))).mono ?_); rintro e w19 ⟨rfl, hb⟩; refine ⟨_, rfl, ?_⟩; have n0_ := Aside0.mk (blk_below (g := gb260) (o := .cells #[.int .u64 ((rd_T55 l1 x14_1).f0), .int .i8 ((rd_T55 l1 x14_1).f1)] 55 (0, 0)) (by (with_reducible repeat (first | refine blk_drewN ?_ _ | refine blk_drew ?_ | refine blk_alloc ?_ _)); refine blk_put (cs := #[.int .u64 ((rd_T55 l1 x14_1).f0), .int .i8 0]) ?_ 1 _ rfl; (with_reducible repeat (first | refine blk_drewN ?_ _ | refine blk_drew ?_ | refine blk_alloc ?_ _)); refine blk_put (cs := #[.int .u64 0, .int .i8 0]) ?_ 0 _ rfl; (with_reducible repeat (first | refine blk_drewN ?_ _ | refine blk_drew ?_ | refine blk_alloc ?_ _)); exact BK260.out) hb); have n1_ := Aside0.mk (below_step (by repeat (first | (with_reducible first | exact HB.out | apply below_alloc | apply pw_below_drewN | apply below_drew1 | refine below_set ?_ GE260.out) | exact HB.out)) hb); clear BK260; clear HB; have BK260 := n0_; have HB := n1_; clear n0_ n1_; (try clear hb); (try clear hb2); (try clear hk); (try clear hi)))
           have n0_ := Aside0.mk (blk_drew BK260.out)
           have n1_ := Aside0.mk (below_drew1 HB.out)
           clear BK260
           clear HB
           have BK260 := n0_
           have HB := n1_
           clear n0_ n1_
           refine start_ (n := 16) (S := fun w' => w'.cell? ⟨gb260, 0, none⟩ = some (.int .u64 ((rd_T55 l1 x14_1).f0)) ∧ w'.cell? ⟨gb260, 1, none⟩ = some (.int .i8 ((rd_T55 l1 x14_1).f1))) (ds := []) #[false, false, false, false, false, false, false, false, false, false, false, false, false, false, false, false] (by kernel_rfl) rfl rfl ⟨(blk_cell BK260.out 0).trans rfl, (blk_cell BK260.out 1).trans rfl⟩ (fun hHeld => ?_); refine with_tabW impl_logText.tab6 impl_logText.bits6 (fun HT_ HW_ => ?_)
           generalize w19.drew = w20 at BK260 HB hHeld ⊢
           refine pure_ (i := 0) (N := some 21) (v := ?_) (a' := ?_) #[true, false, false, false, false, false, false, false, false, false, false, false, false, false, false, false] rfl rfl (any_of HT_.out (by kernel_rfl)) (fun _ _ _ h => h) (Or.inl ⟨by rfl, ?_⟩) ?_ ?_
           rotate_left
           ·intro w'
            go_simp
            first | with_reducible rfl | (rw [if_neg (by (try simp only [ByteArray.size_append, show (⟨#[10]⟩ : ByteArray).size = 1 from rfl, show (⟨#[32]⟩ : ByteArray).size = 1 from rfl, show (⟨#[48]⟩ : ByteArray).size = 1 from rfl] at c4); (try simp only [ByteArray.size_append, show (⟨#[10]⟩ : ByteArray).size = 1 from rfl, show (⟨#[32]⟩ : ByteArray).size = 1 from rfl, show (⟨#[48]⟩ : ByteArray).size = 1 from rfl] at c11); (try simp only [ByteArray.size_append, show (⟨#[10]⟩ : ByteArray).size = 1 from rfl, show (⟨#[32]⟩ : ByteArray).size = 1 from rfl, show (⟨#[48]⟩ : ByteArray).size = 1 from rfl] at c12); (try simp only [ByteArray.size_append, show (⟨#[10]⟩ : ByteArray).size = 1 from rfl, show (⟨#[32]⟩ : ByteArray).size = 1 from rfl, show (⟨#[48]⟩ : ByteArray).size = 1 from rfl] at c14); (try simp only [ByteArray.size_append, show (⟨#[10]⟩ : ByteArray).size = 1 from rfl, show (⟨#[32]⟩ : ByteArray).size = 1 from rfl, show (⟨#[48]⟩ : ByteArray).size = 1 from rfl] at c15); (try simp only [ByteArray.size_append, show (⟨#[10]⟩ : ByteArray).size = 1 from rfl, show (⟨#[32]⟩ : ByteArray).size = 1 from rfl, show (⟨#[48]⟩ : ByteArray).size = 1 from rfl] at c16); omega)]; try with_reducible rfl)
           rotate_left
           ·simp only [Act.put, List.setIfInBounds_toArray, List.set_cons_zero, List.set_cons_succ, i64_w, i32_w]
            rfl
           refine pure_ (i := 1) (N := some 22) (v := ?_) (a' := ?_) #[true, true, false, false, false, false, false, false, false, false, false, false, false, false, false, false] rfl rfl (any_of HT_.out (by kernel_rfl)) (fun _ _ _ h => h) (Or.inl ⟨by rfl, ?_⟩) ?_ ?_
           rotate_left
           ·intro w'
            go_simp
            first | with_reducible rfl | (rw [if_neg (by (try simp only [ByteArray.size_append, show (⟨#[10]⟩ : ByteArray).size = 1 from rfl, show (⟨#[32]⟩ : ByteArray).size = 1 from rfl, show (⟨#[48]⟩ : ByteArray).size = 1 from rfl] at c4); (try simp only [ByteArray.size_append, show (⟨#[10]⟩ : ByteArray).size = 1 from rfl, show (⟨#[32]⟩ : ByteArray).size = 1 from rfl, show (⟨#[48]⟩ : ByteArray).size = 1 from rfl] at c11); (try simp only [ByteArray.size_append, show (⟨#[10]⟩ : ByteArray).size = 1 from rfl, show (⟨#[32]⟩ : ByteArray).size = 1 from rfl, show (⟨#[48]⟩ : ByteArray).size = 1 from rfl] at c12); (try simp only [ByteArray.size_append, show (⟨#[10]⟩ : ByteArray).size = 1 from rfl, show (⟨#[32]⟩ : ByteArray).size = 1 from rfl, show (⟨#[48]⟩ : ByteArray).size = 1 from rfl] at c14); (try simp only [ByteArray.size_append, show (⟨#[10]⟩ : ByteArray).size = 1 from rfl, show (⟨#[32]⟩ : ByteArray).size = 1 from rfl, show (⟨#[48]⟩ : ByteArray).size = 1 from rfl] at c15); (try simp only [ByteArray.size_append, show (⟨#[10]⟩ : ByteArray).size = 1 from rfl, show (⟨#[32]⟩ : ByteArray).size = 1 from rfl, show (⟨#[48]⟩ : ByteArray).size = 1 from rfl] at c16); omega)]; try with_reducible rfl)
           rotate_left
           ·simp only [Act.put, List.setIfInBounds_toArray, List.set_cons_zero, List.set_cons_succ, i64_w, i32_w]
            rfl
           refine pure_ (i := 2) (N := some 23) (v := ?_) (a' := ?_) #[true, true, true, false, false, false, false, false, false, false, false, false, false, false, false, false] rfl rfl (any_of HT_.out (by kernel_rfl)) (fun _ _ _ h => h) (Or.inl ⟨by rfl, ?_⟩) ?_ ?_
           rotate_left
           ·intro w'
            go_simp
            first | with_reducible rfl | (rw [if_neg (by (try simp only [ByteArray.size_append, show (⟨#[10]⟩ : ByteArray).size = 1 from rfl, show (⟨#[32]⟩ : ByteArray).size = 1 from rfl, show (⟨#[48]⟩ : ByteArray).size = 1 from rfl] at c4); (try simp only [ByteArray.size_append, show (⟨#[10]⟩ : ByteArray).size = 1 from rfl, show (⟨#[32]⟩ : ByteArray).size = 1 from rfl, show (⟨#[48]⟩ : ByteArray).size = 1 from rfl] at c11); (try simp only [ByteArray.size_append, show (⟨#[10]⟩ : ByteArray).size = 1 from rfl, show (⟨#[32]⟩ : ByteArray).size = 1 from rfl, show (⟨#[48]⟩ : ByteArray).size = 1 from rfl] at c12); (try simp only [ByteArray.size_append, show (⟨#[10]⟩ : ByteArray).size = 1 from rfl, show (⟨#[32]⟩ : ByteArray).size = 1 from rfl, show (⟨#[48]⟩ : ByteArray).size = 1 from rfl] at c14); (try simp only [ByteArray.size_append, show (⟨#[10]⟩ : ByteArray).size = 1 from rfl, show (⟨#[32]⟩ : ByteArray).size = 1 from rfl, show (⟨#[48]⟩ : ByteArray).size = 1 from rfl] at c15); (try simp only [ByteArray.size_append, show (⟨#[10]⟩ : ByteArray).size = 1 from rfl, show (⟨#[32]⟩ : ByteArray).size = 1 from rfl, show (⟨#[48]⟩ : ByteArray).size = 1 from rfl] at c16); omega)]; try with_reducible rfl)
           rotate_left
           ·simp only [Act.put, List.setIfInBounds_toArray, List.set_cons_zero, List.set_cons_succ, i64_w, i32_w]
            rfl
           refine pure_ (i := 3) (N := some 24) (v := ?_) (a' := ?_) #[true, true, true, true, false, false, false, false, false, false, false, false, false, false, false, false] rfl rfl (any_of HT_.out (by kernel_rfl)) (fun _ _ _ h => h) (Or.inl ⟨by rfl, ?_⟩) ?_ ?_
           rotate_left
           ·intro w'
            go_simp
            first | with_reducible rfl | (rw [if_neg (by (try simp only [ByteArray.size_append, show (⟨#[10]⟩ : ByteArray).size = 1 from rfl, show (⟨#[32]⟩ : ByteArray).size = 1 from rfl, show (⟨#[48]⟩ : ByteArray).size = 1 from rfl] at c4); (try simp only [ByteArray.size_append, show (⟨#[10]⟩ : ByteArray).size = 1 from rfl, show (⟨#[32]⟩ : ByteArray).size = 1 from rfl, show (⟨#[48]⟩ : ByteArray).size = 1 from rfl] at c11); (try simp only [ByteArray.size_append, show (⟨#[10]⟩ : ByteArray).size = 1 from rfl, show (⟨#[32]⟩ : ByteArray).size = 1 from rfl, show (⟨#[48]⟩ : ByteArray).size = 1 from rfl] at c12); (try simp only [ByteArray.size_append, show (⟨#[10]⟩ : ByteArray).size = 1 from rfl, show (⟨#[32]⟩ : ByteArray).size = 1 from rfl, show (⟨#[48]⟩ : ByteArray).size = 1 from rfl] at c14); (try simp only [ByteArray.size_append, show (⟨#[10]⟩ : ByteArray).size = 1 from rfl, show (⟨#[32]⟩ : ByteArray).size = 1 from rfl, show (⟨#[48]⟩ : ByteArray).size = 1 from rfl] at c15); (try simp only [ByteArray.size_append, show (⟨#[10]⟩ : ByteArray).size = 1 from rfl, show (⟨#[32]⟩ : ByteArray).size = 1 from rfl, show (⟨#[48]⟩ : ByteArray).size = 1 from rfl] at c16); omega)]; try with_reducible rfl)
           rotate_left
           ·simp only [Act.put, List.setIfInBounds_toArray, List.set_cons_zero, List.set_cons_succ, i64_w, i32_w]
            rfl
           refine pure_ (i := 5) (N := some 26) (v := ?_) (a' := ?_) #[true, true, true, true, false, true, false, false, false, false, false, false, false, false, false, false] rfl rfl (any_of HT_.out (by kernel_rfl)) (fun _ _ _ h => h) (Or.inl ⟨by rfl, ?_⟩) ?_ ?_
           rotate_left
           ·intro w'
            go_simp
            first | with_reducible rfl | (rw [if_neg (by (try simp only [ByteArray.size_append, show (⟨#[10]⟩ : ByteArray).size = 1 from rfl, show (⟨#[32]⟩ : ByteArray).size = 1 from rfl, show (⟨#[48]⟩ : ByteArray).size = 1 from rfl] at c4); (try simp only [ByteArray.size_append, show (⟨#[10]⟩ : ByteArray).size = 1 from rfl, show (⟨#[32]⟩ : ByteArray).size = 1 from rfl, show (⟨#[48]⟩ : ByteArray).size = 1 from rfl] at c11); (try simp only [ByteArray.size_append, show (⟨#[10]⟩ : ByteArray).size = 1 from rfl, show (⟨#[32]⟩ : ByteArray).size = 1 from rfl, show (⟨#[48]⟩ : ByteArray).size = 1 from rfl] at c12); (try simp only [ByteArray.size_append, show (⟨#[10]⟩ : ByteArray).size = 1 from rfl, show (⟨#[32]⟩ : ByteArray).size = 1 from rfl, show (⟨#[48]⟩ : ByteArray).size = 1 from rfl] at c14); (try simp only [ByteArray.size_append, show (⟨#[10]⟩ : ByteArray).size = 1 from rfl, show (⟨#[32]⟩ : ByteArray).size = 1 from rfl, show (⟨#[48]⟩ : ByteArray).size = 1 from rfl] at c15); (try simp only [ByteArray.size_append, show (⟨#[10]⟩ : ByteArray).size = 1 from rfl, show (⟨#[32]⟩ : ByteArray).size = 1 from rfl, show (⟨#[48]⟩ : ByteArray).size = 1 from rfl] at c16); omega)]; try with_reducible rfl)
           rotate_left
           ·simp only [Act.put, List.setIfInBounds_toArray, List.set_cons_zero, List.set_cons_succ, i64_w, i32_w]
            rfl
           refine pure_ (i := 8) (N := some 29) (v := ?_) (a' := ?_) #[true, true, true, true, false, true, false, false, true, false, false, false, false, false, false, false] rfl rfl (any_of HT_.out (by kernel_rfl)) (fun _ _ _ h => h) (Or.inl ⟨by rfl, ?_⟩) ?_ ?_
           rotate_left
           ·intro w'
            go_simp
            first | with_reducible rfl | (rw [if_neg (by (try simp only [ByteArray.size_append, show (⟨#[10]⟩ : ByteArray).size = 1 from rfl, show (⟨#[32]⟩ : ByteArray).size = 1 from rfl, show (⟨#[48]⟩ : ByteArray).size = 1 from rfl] at c4); (try simp only [ByteArray.size_append, show (⟨#[10]⟩ : ByteArray).size = 1 from rfl, show (⟨#[32]⟩ : ByteArray).size = 1 from rfl, show (⟨#[48]⟩ : ByteArray).size = 1 from rfl] at c11); (try simp only [ByteArray.size_append, show (⟨#[10]⟩ : ByteArray).size = 1 from rfl, show (⟨#[32]⟩ : ByteArray).size = 1 from rfl, show (⟨#[48]⟩ : ByteArray).size = 1 from rfl] at c12); (try simp only [ByteArray.size_append, show (⟨#[10]⟩ : ByteArray).size = 1 from rfl, show (⟨#[32]⟩ : ByteArray).size = 1 from rfl, show (⟨#[48]⟩ : ByteArray).size = 1 from rfl] at c14); (try simp only [ByteArray.size_append, show (⟨#[10]⟩ : ByteArray).size = 1 from rfl, show (⟨#[32]⟩ : ByteArray).size = 1 from rfl, show (⟨#[48]⟩ : ByteArray).size = 1 from rfl] at c15); (try simp only [ByteArray.size_append, show (⟨#[10]⟩ : ByteArray).size = 1 from rfl, show (⟨#[32]⟩ : ByteArray).size = 1 from rfl, show (⟨#[48]⟩ : ByteArray).size = 1 from rfl] at c16); omega)]; try with_reducible rfl)
           rotate_left
           ·simp only [Act.put, List.setIfInBounds_toArray, List.set_cons_zero, List.set_cons_succ, i64_w, i32_w]
            rfl
           refine take_ (i := 9) (N := some 30) (v := ?_) (a' := ?_) #[true, true, true, true, false, true, false, false, true, true, false, false, false, false, false, false] rfl rfl (take_ofW HT_.out HW_.out (by kernel_rfl)) (fun _ _ _ h => h) (Or.inl ⟨by rfl, ?_⟩) hHeld ?_ ?_
           rotate_left
           ·rintro w' ⟨s0, s1⟩
            go_simp
            first | with_reducible rfl | (rw [if_neg (by (try simp only [ByteArray.size_append, show (⟨#[10]⟩ : ByteArray).size = 1 from rfl, show (⟨#[32]⟩ : ByteArray).size = 1 from rfl, show (⟨#[48]⟩ : ByteArray).size = 1 from rfl] at c4); (try simp only [ByteArray.size_append, show (⟨#[10]⟩ : ByteArray).size = 1 from rfl, show (⟨#[32]⟩ : ByteArray).size = 1 from rfl, show (⟨#[48]⟩ : ByteArray).size = 1 from rfl] at c11); (try simp only [ByteArray.size_append, show (⟨#[10]⟩ : ByteArray).size = 1 from rfl, show (⟨#[32]⟩ : ByteArray).size = 1 from rfl, show (⟨#[48]⟩ : ByteArray).size = 1 from rfl] at c12); (try simp only [ByteArray.size_append, show (⟨#[10]⟩ : ByteArray).size = 1 from rfl, show (⟨#[32]⟩ : ByteArray).size = 1 from rfl, show (⟨#[48]⟩ : ByteArray).size = 1 from rfl] at c14); (try simp only [ByteArray.size_append, show (⟨#[10]⟩ : ByteArray).size = 1 from rfl, show (⟨#[32]⟩ : ByteArray).size = 1 from rfl, show (⟨#[48]⟩ : ByteArray).size = 1 from rfl] at c15); (try simp only [ByteArray.size_append, show (⟨#[10]⟩ : ByteArray).size = 1 from rfl, show (⟨#[32]⟩ : ByteArray).size = 1 from rfl, show (⟨#[48]⟩ : ByteArray).size = 1 from rfl] at c16); omega)]; try with_reducible rfl)
           rotate_left
           ·simp only [Act.put, List.setIfInBounds_toArray, List.set_cons_zero, List.set_cons_succ, i64_w, i32_w]
            rfl
           refine pure_ (i := 10) (N := some 31) (v := ?_) (a' := ?_) #[true, true, true, true, false, true, false, false, true, true, true, false, false, false, false, false] rfl rfl (any_of HT_.out (by kernel_rfl)) (fun _ _ _ h => h) (Or.inl ⟨by rfl, ?_⟩) ?_ ?_
           rotate_left
           ·intro w'
            go_simp
            first | with_reducible rfl | (rw [if_neg (by (try simp only [ByteArray.size_append, show (⟨#[10]⟩ : ByteArray).size = 1 from rfl, show (⟨#[32]⟩ : ByteArray).size = 1 from rfl, show (⟨#[48]⟩ : ByteArray).size = 1 from rfl] at c4); (try simp only [ByteArray.size_append, show (⟨#[10]⟩ : ByteArray).size = 1 from rfl, show (⟨#[32]⟩ : ByteArray).size = 1 from rfl, show (⟨#[48]⟩ : ByteArray).size = 1 from rfl] at c11); (try simp only [ByteArray.size_append, show (⟨#[10]⟩ : ByteArray).size = 1 from rfl, show (⟨#[32]⟩ : ByteArray).size = 1 from rfl, show (⟨#[48]⟩ : ByteArray).size = 1 from rfl] at c12); (try simp only [ByteArray.size_append, show (⟨#[10]⟩ : ByteArray).size = 1 from rfl, show (⟨#[32]⟩ : ByteArray).size = 1 from rfl, show (⟨#[48]⟩ : ByteArray).size = 1 from rfl] at c14); (try simp only [ByteArray.size_append, show (⟨#[10]⟩ : ByteArray).size = 1 from rfl, show (⟨#[32]⟩ : ByteArray).size = 1 from rfl, show (⟨#[48]⟩ : ByteArray).size = 1 from rfl] at c15); (try simp only [ByteArray.size_append, show (⟨#[10]⟩ : ByteArray).size = 1 from rfl, show (⟨#[32]⟩ : ByteArray).size = 1 from rfl, show (⟨#[48]⟩ : ByteArray).size = 1 from rfl] at c16); omega)]; try with_reducible rfl)
           rotate_left
           ·simp only [Act.put, List.setIfInBounds_toArray, List.set_cons_zero, List.set_cons_succ, i64_w, i32_w]
            rfl
           refine one_ (i := 4) (N := some 25) #[true, true, true, true, true, true, false, false, true, true, true, false, false, false, false, false] rfl rfl (one_of HT_.out (by kernel_rfl)) (by decide) (fun K hK => ?_)
           refine goes_ Tryz.func79 (by kernel_rfl) rfl #[.string (⟨#[48]⟩ : ByteArray), .int .i64 (wrap64 (16 - (t261.size : Int)))] (by rfl) rfl rfl (by (try simp only [List.map_toArray, List.map_cons, List.map_nil]); first | done | rfl | (simp only [List.length_drop, List.length_take]; rfl)) ?_
           with_reducible refine (strings_Repeat.calls (⟨#[48]⟩ : ByteArray) (wrap64 (16 - (t261.size : Int))) t262 _ A10.out).mono ?_
           rintro e w21 ⟨rfl, hb⟩
           refine ⟨_, rfl, ?_⟩
           have n0_ := Aside0.mk (blk_below BK260.out hb)
           have n1_ := Aside0.mk (below_step HB.out hb)
           clear BK260
           clear HB
           have BK260 := n0_
           have HB := n1_
           clear n0_ n1_
           (try clear hb)
           (try clear hb2)
           (try clear hk)
           (try clear hi)
           refine hK.out _ _ ⟨(blk_cell BK260.out 0).trans rfl, (blk_cell BK260.out 1).trans rfl⟩ (fun hHeld => ?_)
           clear hK K
           refine norm_ (a' := ?_) ?_ ?_
           rotate_left
           ·show Act.put _ (some 25) _ = _
            simp only [Act.put, List.setIfInBounds_toArray, List.set_cons_zero, List.set_cons_succ, i64_w, i32_w]
            rfl
           refine pure_ (i := 6) (N := some 27) (v := ?_) (a' := ?_) #[true, true, true, true, true, true, true, false, true, true, true, false, false, false, false, false] rfl rfl (any_of HT_.out (by kernel_rfl)) (fun _ _ _ h => h) (Or.inl ⟨by rfl, ?_⟩) ?_ ?_
           rotate_left
           ·intro w'
            go_simp
            first | with_reducible rfl | (rw [if_neg (by (try simp only [ByteArray.size_append, show (⟨#[10]⟩ : ByteArray).size = 1 from rfl, show (⟨#[32]⟩ : ByteArray).size = 1 from rfl, show (⟨#[48]⟩ : ByteArray).size = 1 from rfl] at c4); (try simp only [ByteArray.size_append, show (⟨#[10]⟩ : ByteArray).size = 1 from rfl, show (⟨#[32]⟩ : ByteArray).size = 1 from rfl, show (⟨#[48]⟩ : ByteArray).size = 1 from rfl] at c11); (try simp only [ByteArray.size_append, show (⟨#[10]⟩ : ByteArray).size = 1 from rfl, show (⟨#[32]⟩ : ByteArray).size = 1 from rfl, show (⟨#[48]⟩ : ByteArray).size = 1 from rfl] at c12); (try simp only [ByteArray.size_append, show (⟨#[10]⟩ : ByteArray).size = 1 from rfl, show (⟨#[32]⟩ : ByteArray).size = 1 from rfl, show (⟨#[48]⟩ : ByteArray).size = 1 from rfl] at c14); (try simp only [ByteArray.size_append, show (⟨#[10]⟩ : ByteArray).size = 1 from rfl, show (⟨#[32]⟩ : ByteArray).size = 1 from rfl, show (⟨#[48]⟩ : ByteArray).size = 1 from rfl] at c15); (try simp only [ByteArray.size_append, show (⟨#[10]⟩ : ByteArray).size = 1 from rfl, show (⟨#[32]⟩ : ByteArray).size = 1 from rfl, show (⟨#[48]⟩ : ByteArray).size = 1 from rfl] at c16); omega)]; try with_reducible rfl)
           rotate_left
           ·simp only [Act.put, List.setIfInBounds_toArray, List.set_cons_zero, List.set_cons_succ, i64_w, i32_w]
            rfl
           refine pure_ (i := 7) (N := some 28) (v := ?_) (a' := ?_) #[true, true, true, true, true, true, true, true, true, true, true, false, false, false, false, false] rfl rfl (any_of HT_.out (by kernel_rfl)) (fun _ _ _ h => h) (Or.inl ⟨by rfl, ?_⟩) ?_ ?_
           rotate_left
           ·intro w'
            go_simp
            first | with_reducible rfl | (rw [if_neg (by (try simp only [ByteArray.size_append, show (⟨#[10]⟩ : ByteArray).size = 1 from rfl, show (⟨#[32]⟩ : ByteArray).size = 1 from rfl, show (⟨#[48]⟩ : ByteArray).size = 1 from rfl] at c4); (try simp only [ByteArray.size_append, show (⟨#[10]⟩ : ByteArray).size = 1 from rfl, show (⟨#[32]⟩ : ByteArray).size = 1 from rfl, show (⟨#[48]⟩ : ByteArray).size = 1 from rfl] at c11); (try simp only [ByteArray.size_append, show (⟨#[10]⟩ : ByteArray).size = 1 from rfl, show (⟨#[32]⟩ : ByteArray).size = 1 from rfl, show (⟨#[48]⟩ : ByteArray).size = 1 from rfl] at c12); (try simp only [ByteArray.size_append, show (⟨#[10]⟩ : ByteArray).size = 1 from rfl, show (⟨#[32]⟩ : ByteArray).size = 1 from rfl, show (⟨#[48]⟩ : ByteArray).size = 1 from rfl] at c14); (try simp only [ByteArray.size_append, show (⟨#[10]⟩ : ByteArray).size = 1 from rfl, show (⟨#[32]⟩ : ByteArray).size = 1 from rfl, show (⟨#[48]⟩ : ByteArray).size = 1 from rfl] at c15); (try simp only [ByteArray.size_append, show (⟨#[10]⟩ : ByteArray).size = 1 from rfl, show (⟨#[32]⟩ : ByteArray).size = 1 from rfl, show (⟨#[48]⟩ : ByteArray).size = 1 from rfl] at c16); omega)]; try with_reducible rfl)
           rotate_left
           ·simp only [Act.put, List.setIfInBounds_toArray, List.set_cons_zero, List.set_cons_succ, i64_w, i32_w]
            rfl
           refine one_ (i := 11) (N := some 32) #[true, true, true, true, true, true, true, true, true, true, true, true, false, false, false, false] rfl rfl (one_of HT_.out (by kernel_rfl)) (by decide) (fun K hK => ?_)
           refine goes_ Tryz.func80 (by kernel_rfl) rfl #[.int .i64 (wrap64 ((rd_T55 l1 x14_1).f1))] (by rfl) rfl rfl (by (try simp only [List.map_toArray, List.map_cons, List.map_nil]); first | done | rfl | (simp only [List.length_drop, List.length_take]; rfl)) ?_
           with_reducible refine (impl_decimal.calls (wrap64 ((rd_T55 l1 x14_1).f1)) t263 _ A13.out (by repeat (first | exact HT10.out.below HB.out | exact HT10.out | exact HT10.out.below (by repeat (first | (with_reducible first | exact HB.out | apply below_alloc | apply pw_below_drewN | apply below_drew1) | refine below_set ?_ (Aside0.out (by assumption)) | exact HB.out)) | refine Tab10.alloc ?_ _ | refine Tab10.drewN ?_ _ | refine Tab10.drew ?_))).mono ?_
           rintro e w22 ⟨rfl, hb⟩
           refine ⟨_, rfl, ?_⟩
           have n0_ := Aside0.mk (blk_below BK260.out hb)
           have n1_ := Aside0.mk (below_step HB.out hb)
           clear BK260
           clear HB
           have BK260 := n0_
           have HB := n1_
           clear n0_ n1_
           (try clear hb)
           (try clear hb2)
           (try clear hk)
           (try clear hi)
           refine hK.out _ _ ⟨(blk_cell BK260.out 0).trans rfl, (blk_cell BK260.out 1).trans rfl⟩ (fun hHeld => ?_)
           clear hK K
           refine norm_ (a' := ?_) ?_ ?_
           rotate_left
           ·show Act.put _ (some 32) _ = _
            simp only [Act.put, List.setIfInBounds_toArray, List.set_cons_zero, List.set_cons_succ, i64_w, i32_w]
            rfl
           refine pure_ (i := 12) (N := some 33) (v := ?_) (a' := ?_) #[true, true, true, true, true, true, true, true, true, true, true, true, true, false, false, false] rfl rfl (any_of HT_.out (by kernel_rfl)) (fun _ _ _ h => h) (Or.inl ⟨by rfl, ?_⟩) ?_ ?_
           rotate_left
           ·intro w'
            go_simp
            first | with_reducible rfl | (rw [if_neg (by (try simp only [ByteArray.size_append, show (⟨#[10]⟩ : ByteArray).size = 1 from rfl, show (⟨#[32]⟩ : ByteArray).size = 1 from rfl, show (⟨#[48]⟩ : ByteArray).size = 1 from rfl] at c4); (try simp only [ByteArray.size_append, show (⟨#[10]⟩ : ByteArray).size = 1 from rfl, show (⟨#[32]⟩ : ByteArray).size = 1 from rfl, show (⟨#[48]⟩ : ByteArray).size = 1 from rfl] at c11); (try simp only [ByteArray.size_append, show (⟨#[10]⟩ : ByteArray).size = 1 from rfl, show (⟨#[32]⟩ : ByteArray).size = 1 from rfl, show (⟨#[48]⟩ : ByteArray).size = 1 from rfl] at c12); (try simp only [ByteArray.size_append, show (⟨#[10]⟩ : ByteArray).size = 1 from rfl, show (⟨#[32]⟩ : ByteArray).size = 1 from rfl, show (⟨#[48]⟩ : ByteArray).size = 1 from rfl] at c14); (try simp only [ByteArray.size_append, show (⟨#[10]⟩ : ByteArray).size = 1 from rfl, show (⟨#[32]⟩ : ByteArray).size = 1 from rfl, show (⟨#[48]⟩ : ByteArray).size = 1 from rfl] at c15); (try simp only [ByteArray.size_append, show (⟨#[10]⟩ : ByteArray).size = 1 from rfl, show (⟨#[32]⟩ : ByteArray).size = 1 from rfl, show (⟨#[48]⟩ : ByteArray).size = 1 from rfl] at c16); omega)]; try with_reducible rfl)
           rotate_left
           ·simp only [Act.put, List.setIfInBounds_toArray, List.set_cons_zero, List.set_cons_succ, i64_w, i32_w]
            rfl
           refine pure_ (i := 13) (N := some 34) (v := ?_) (a' := ?_) #[true, true, true, true, true, true, true, true, true, true, true, true, true, true, false, false] rfl rfl (any_of HT_.out (by kernel_rfl)) (fun _ _ _ h => h) (Or.inl ⟨by rfl, ?_⟩) ?_ ?_
           rotate_left
           ·intro w'
            go_simp
            first | with_reducible rfl | (rw [if_neg (by (try simp only [ByteArray.size_append, show (⟨#[10]⟩ : ByteArray).size = 1 from rfl, show (⟨#[32]⟩ : ByteArray).size = 1 from rfl, show (⟨#[48]⟩ : ByteArray).size = 1 from rfl] at c4); (try simp only [ByteArray.size_append, show (⟨#[10]⟩ : ByteArray).size = 1 from rfl, show (⟨#[32]⟩ : ByteArray).size = 1 from rfl, show (⟨#[48]⟩ : ByteArray).size = 1 from rfl] at c11); (try simp only [ByteArray.size_append, show (⟨#[10]⟩ : ByteArray).size = 1 from rfl, show (⟨#[32]⟩ : ByteArray).size = 1 from rfl, show (⟨#[48]⟩ : ByteArray).size = 1 from rfl] at c12); (try simp only [ByteArray.size_append, show (⟨#[10]⟩ : ByteArray).size = 1 from rfl, show (⟨#[32]⟩ : ByteArray).size = 1 from rfl, show (⟨#[48]⟩ : ByteArray).size = 1 from rfl] at c14); (try simp only [ByteArray.size_append, show (⟨#[10]⟩ : ByteArray).size = 1 from rfl, show (⟨#[32]⟩ : ByteArray).size = 1 from rfl, show (⟨#[48]⟩ : ByteArray).size = 1 from rfl] at c15); (try simp only [ByteArray.size_append, show (⟨#[10]⟩ : ByteArray).size = 1 from rfl, show (⟨#[32]⟩ : ByteArray).size = 1 from rfl, show (⟨#[48]⟩ : ByteArray).size = 1 from rfl] at c16); omega)]; try with_reducible rfl)
           rotate_left
           ·simp only [Act.put, List.setIfInBounds_toArray, List.set_cons_zero, List.set_cons_succ, i64_w, i32_w]
            rfl
           refine pure_ (i := 14) (N := some 35) (v := ?_) (a' := ?_) #[true, true, true, true, true, true, true, true, true, true, true, true, true, true, true, false] rfl rfl (any_of HT_.out (by kernel_rfl)) (fun _ _ _ h => h) (Or.inl ⟨by rfl, ?_⟩) ?_ ?_
           rotate_left
           ·intro w'
            go_simp
            first | with_reducible rfl | (rw [if_neg (by (try simp only [ByteArray.size_append, show (⟨#[10]⟩ : ByteArray).size = 1 from rfl, show (⟨#[32]⟩ : ByteArray).size = 1 from rfl, show (⟨#[48]⟩ : ByteArray).size = 1 from rfl] at c4); (try simp only [ByteArray.size_append, show (⟨#[10]⟩ : ByteArray).size = 1 from rfl, show (⟨#[32]⟩ : ByteArray).size = 1 from rfl, show (⟨#[48]⟩ : ByteArray).size = 1 from rfl] at c11); (try simp only [ByteArray.size_append, show (⟨#[10]⟩ : ByteArray).size = 1 from rfl, show (⟨#[32]⟩ : ByteArray).size = 1 from rfl, show (⟨#[48]⟩ : ByteArray).size = 1 from rfl] at c12); (try simp only [ByteArray.size_append, show (⟨#[10]⟩ : ByteArray).size = 1 from rfl, show (⟨#[32]⟩ : ByteArray).size = 1 from rfl, show (⟨#[48]⟩ : ByteArray).size = 1 from rfl] at c14); (try simp only [ByteArray.size_append, show (⟨#[10]⟩ : ByteArray).size = 1 from rfl, show (⟨#[32]⟩ : ByteArray).size = 1 from rfl, show (⟨#[48]⟩ : ByteArray).size = 1 from rfl] at c15); (try simp only [ByteArray.size_append, show (⟨#[10]⟩ : ByteArray).size = 1 from rfl, show (⟨#[32]⟩ : ByteArray).size = 1 from rfl, show (⟨#[48]⟩ : ByteArray).size = 1 from rfl] at c16); omega)]; try with_reducible rfl)
           rotate_left
           ·simp only [Act.put, List.setIfInBounds_toArray, List.set_cons_zero, List.set_cons_succ, i64_w, i32_w]
            rfl
           refine pure_ (i := 15) (N := some 5) (v := ?_) (a' := ?_) #[true, true, true, true, true, true, true, true, true, true, true, true, true, true, true, true] rfl rfl (any_of HT_.out (by kernel_rfl)) (fun _ _ _ h => h) (Or.inl ⟨by rfl, ?_⟩) ?_ ?_
           rotate_left
           ·intro w'
            go_simp
            first | with_reducible rfl | (rw [if_neg (by (try simp only [ByteArray.size_append, show (⟨#[10]⟩ : ByteArray).size = 1 from rfl, show (⟨#[32]⟩ : ByteArray).size = 1 from rfl, show (⟨#[48]⟩ : ByteArray).size = 1 from rfl] at c4); (try simp only [ByteArray.size_append, show (⟨#[10]⟩ : ByteArray).size = 1 from rfl, show (⟨#[32]⟩ : ByteArray).size = 1 from rfl, show (⟨#[48]⟩ : ByteArray).size = 1 from rfl] at c11); (try simp only [ByteArray.size_append, show (⟨#[10]⟩ : ByteArray).size = 1 from rfl, show (⟨#[32]⟩ : ByteArray).size = 1 from rfl, show (⟨#[48]⟩ : ByteArray).size = 1 from rfl] at c12); (try simp only [ByteArray.size_append, show (⟨#[10]⟩ : ByteArray).size = 1 from rfl, show (⟨#[32]⟩ : ByteArray).size = 1 from rfl, show (⟨#[48]⟩ : ByteArray).size = 1 from rfl] at c14); (try simp only [ByteArray.size_append, show (⟨#[10]⟩ : ByteArray).size = 1 from rfl, show (⟨#[32]⟩ : ByteArray).size = 1 from rfl, show (⟨#[48]⟩ : ByteArray).size = 1 from rfl] at c15); (try simp only [ByteArray.size_append, show (⟨#[10]⟩ : ByteArray).size = 1 from rfl, show (⟨#[32]⟩ : ByteArray).size = 1 from rfl, show (⟨#[48]⟩ : ByteArray).size = 1 from rfl] at c16); omega)]; try with_reducible rfl)
           rotate_left
           ·simp only [Act.put, List.setIfInBounds_toArray, List.set_cons_zero, List.set_cons_succ, i64_w, i32_w]
            rfl
           refine done_ (done_of HT_.out (by kernel_rfl)) ?_
           try go_wp2
           go_roundg k1
           case measure => have := HK1.out; omega
           case rel => exact ⟨(x5_1 ++ ((((t262 ++ t261) ++ (⟨#[32]⟩ : ByteArray)) ++ t263) ++ (⟨#[10]⟩ : ByteArray))), (wrap64 (x14_1 + 1)), (by first | rfl | (simp; done) | (simp [*]; done)), (by first | rfl | (simp; done) | (simp [*]; done)), H', ⟨by have := HK1.out; omega⟩, ⟨by repeat (first | (with_reducible first | exact HB.out | apply below_alloc | apply pw_below_drewN | apply below_drew1 | refine below_set ?_ GE260.out) | exact HB.out)⟩⟩
          rw [if_neg c16] at H
          exact absurd H (by simp)
         rw [if_neg c15] at H
         exact absurd H (by simp)
        rw [if_neg c14] at H
        exact absurd H (by simp)
       rw [if_neg c12] at H
       exact absurd H (by simp)
      rw [if_neg c11] at H
      exact absurd H (by simp)
     rw [if_neg c8] at H
     exact absurd H (by simp)
    rw [if_neg c7] at H
    exact absurd H (by simp)
   rw [if_neg c6] at H
   have c6b0 : decide (x14_1 < (l1.length : Int)) = false := decide_eq_false c6
   clear c6
   obtain rfl := Option.some.inj H
   go_wp2
   go_ret
   exact ⟨by first | rfl | (simp [errW_none, errW_some] <;> rfl) | (simp [*, errW_none, errW_some] <;> rfl), by repeat (first | (with_reducible first | exact HB.out | apply below_alloc | apply pw_below_drewN | apply below_drew1) | exact HB.out)⟩
 rw [if_neg c4] at H
 exact absurd H (by simp)

/-! ### impl_ReadCurve: function 43 -/
/-- what a word of a curve's text says -/
def D_readPoint (s : ByteArray) : Option S102 :=
 match Lib.parseIntB 16 (Lib.cut s.data.toList [58]).1 with
 | .ok a => match Lib.parseIntB 16 (Lib.cut s.data.toList [58]).2.1 with
  | .ok b => some ⟨IntKind.i16.wrap a, IntKind.i16.wrap b⟩
  | _ => none
 | _ => none
def D_readPts : List ByteArray → List S102 → Option (List S102)
 | [], o => some o
 | s :: r, o => match D_readPoint s with | some x => D_readPts r (o ++ [x]) | none => none
def D_readWords13 (a : ByteArray) : List ByteArray := Lib.splitB ⟨#[32]⟩ 0 (min 13 (a.size + 1) - 1) a
theorem readc_some {s : ByteArray} {a b : Int} (h : Lib.parseIntB 16 (⟨(Lib.cut s.data.toList [58]).1.toArray⟩ : ByteArray).data.toList = .ok a) (h2 : Lib.parseIntB 16 (⟨(Lib.cut s.data.toList [58]).2.1.toArray⟩ : ByteArray).data.toList = .ok b) : D_readPoint s = some ⟨IntKind.i16.wrap a, IntKind.i16.wrap b⟩ := by
 simp only [List.toList_toArray] at h h2
 unfold D_readPoint
 rw [h]
 simp only []
 rw [h2]
theorem readc_none1 {s : ByteArray} (h : ∀ v, Lib.parseIntB 16 (⟨(Lib.cut s.data.toList [58]).1.toArray⟩ : ByteArray).data.toList ≠ .ok v) : D_readPoint s = none := by
 simp only [List.toList_toArray] at h
 unfold D_readPoint
 split
 ·rename_i v hv; exact absurd hv (h v)
 rfl
theorem readc_none2 {s : ByteArray} (h : ∀ v, Lib.parseIntB 16 (⟨(Lib.cut s.data.toList [58]).2.1.toArray⟩ : ByteArray).data.toList ≠ .ok v) : D_readPoint s = none := by
 simp only [List.toList_toArray] at h
 unfold D_readPoint
 split
 ·split
  ·rename_i v hv; exact absurd hv (h v)
  rfl
 rfl
theorem readc_parse (s : ByteArray) (hs : s.size ≤ 2097152) (w : World) (hT : Tab10 w) :
  Calls Tryz.prog 46 #[.string s, .int .i64 10, .int .i64 16] w fun e w' => ∃ (n : Int) (ev : Value), e = .returned (.tuple #[.int .i64 n, ev]) ∧ ((Lib.parseIntB 16 s.data.toList = .ok n ∧ ev = .nilIface) ∨ ((∀ v, Lib.parseIntB 16 s.data.toList ≠ .ok v) ∧ ∃ t p, ev = .iface t p)) ∧ Below w.heap.size w w' := by
 rcases h : Lib.parseIntB 16 s.data.toList with v | _ | _
 ·refine (Any.strconv_ParseInt_10_at16_ok Tryz.lays174 s (by omega) v h w).mono ?_
  rintro e w' ⟨rfl, hw⟩
  refine ⟨v, .nilIface, rfl, Or.inl ⟨rfl, rfl⟩, ?_⟩
  rcases hw with rfl | ⟨t, rfl⟩
  ·exact Below.refl _ _
  exact Lib.bytesWorld_below _ _ _
 ·obtain ⟨ev, he, hev⟩ := hT.syn
  refine (Any.strconv_ParseInt_10_at16_syntax Tryz.lays174 s (by omega) h ev w he hev).mono ?_
  rintro e w' ⟨N, rfl, _, _, hb⟩
  exact ⟨_, _, rfl, Or.inr ⟨(by simp), _, _, rfl⟩, hb⟩
 obtain ⟨ev, he, hev⟩ := hT.ran
 refine (Any.strconv_ParseInt_10_at16_range Tryz.lays174 s (by omega) h ev w he hev).mono ?_
 rintro e w' ⟨N, rfl, _, _, hb⟩
 exact ⟨_, _, rfl, Or.inr ⟨(by simp), _, _, rfl⟩, hb⟩
theorem readc_cell {W : World} {g : Nat} {L : List ByteArray} {cap : Nat} {T : TypeId} (h : W.heap[g]? = some (.cells (Lib.cellsOf L cap) T (0, 0))) (j : Nat) (hj : j < L.length) : W.cell? ⟨g, j, none⟩ = some (.string (L[j]'hj)) := by
 rw [cell_of_row _ g j (Lib.cellsOf L cap) T (0, 0) h]
 simp [Lib.cellsOf, List.getElem?_append_left, hj]
theorem readc_size (sep : ByteArray) : ∀ (k : Nat) (s x : ByteArray), x ∈ Lib.splitB sep 0 k s → x.size ≤ s.size
 | 0, s, x, h => by
  rw [Lib.splitB_zero] at h
  rw [List.mem_singleton.1 h]
  exact Nat.le_refl _
 | k + 1, s, x, h => by
  unfold Lib.splitB at h
  split at h
  ·rw [List.mem_singleton.1 h]; exact Nat.le_refl _
  rcases List.mem_cons.1 h with rfl | h
  ·rw [ByteArray.size_extract]; omega
  have := readc_size sep k _ x h
  rw [ByteArray.size_extract] at this
  omega
theorem readc_cut (l s : List UInt8) : (Lib.cut l s).1.length ≤ l.length ∧ (Lib.cut l s).2.1.length ≤ l.length := by
 unfold Lib.cut
 split
 ·simp only [List.length_drop, List.length_take]; omega
 simp
theorem readc_arr (l : List UInt8) (x : ByteArray) (h1 : l.length ≤ x.data.toList.length) (h2 : x.size ≤ 1048576) : (⟨l.toArray⟩ : ByteArray).size ≤ 2097152 := by
 have h3 : x.data.toList.length = x.size := by rw [Array.length_toList]; rfl
 show l.toArray.size ≤ 2097152
 rw [List.size_toArray]
 omega
set_option maxHeartbeats 8000000 in
set_option maxRecDepth 100000 in
theorem impl_ReadCurve.walk (a0 : ByteArray) (hs : a0.size ≤ 1048576) (w : World) (m : Int) (hm : w.cell? ⟨0, 0, none⟩ = some (.int .i64 m)) (hT : Tab10 w) (O : Option (List S102)) (hO : D_readPts (D_readWords13 a0) [] = O) (t : Bool) (kt : Nat) (ht : ∀ o, O = some o → impl_ValidCurve.f kt o = some t) (k : Nat) (x : ByteArray) (hx : ∀ o, O = some o → t = true → impl_curveText.f k o = some x) (r1 : List S102) (r2 : Int) (hr : ∀ o, O = some o → (r1, r2) = if t = true then (if x.toList = a0.toList then (o, 0) else ([], 5)) else ([], 5)) (hr0 : O = none → (r1, r2) = ([], 5)) :
  Calls Tryz.prog 43 #[.string a0] w fun e w' => ∃ v0_ : Value, e = .returned (.tuple #[v0_, .int .i64 r2]) ∧ Kd.R k102 102 w' w.heap.size (fun _ => True) v0_ r1 ∧ Below w.heap.size w w' := by
 have HB := Aside0.mk (Below.refl w.heap.size w)
 have HM := Aside0.mk hm
 have HTB := Aside0.mk hT
 have HTT := Aside0.mk ht
 have HTX := Aside0.mk hx
 have HRR := Aside0.mk hr
 have HR0 := Aside0.mk hr0
 have HOO := Aside0.mk hO
 clear hT ht hx hr hr0 hO
 have HSZ := Aside0.mk hs
 clear hm hs
 go_enter Tryz.func43, Tryz.ntmps43
 go_wp2_with (first | ((with_reducible refine gate_dst (N := 14) rfl ?_); refine Kd.R_lit k102 _ 102 ?hg (N := 14) ?hd (xs := ([] : List S102)) (inner := []) (ok := fun _ => True) (okp := fun _ => True) ?hr ?hp (fun _ hk => hk) trivial (Below.refl _ _) (Nat.le_refl _) (by simp) ?_; (case hd => rfl); (case hg => rfl); (case hr => first | (go_simp; done) | (go_simp; rfl)); (case hp => exact (Reps.none _ _)); intro v12 w7 ho hb hg_ hnew_; have HO := Aside0.mk ho; have HB1 := Aside0.mk (below_step HB.out hb); clear hg_ hnew_ ho hb HB))
 refine (Any.strings_SplitN { Tryz.lays147 with } Tryz.lays147.i9 a0 ⟨#[32]⟩ 13 m _ (by have := HSZ.out; omega) ((HB1.out.cell (World.block_lt_of_cell? _ _ HM.out)).trans HM.out) (by decide) (by omega) (by omega)).mono ?_
 rintro e w' ⟨rfl, rfl⟩
 obtain ⟨L, hL⟩ : ∃ L, L = D_readWords13 a0 := ⟨_, rfl⟩
 have hLL : L.length ≤ min 13 (a0.size + 1) := by
  have := Lib.splitB_length_le (⟨#[32]⟩ : ByteArray) 0 (min 13 (a0.size + 1) - 1) a0
  rw [hL]
  unfold D_readWords13
  omega
 rw [show Lib.splitB ⟨#[32]⟩ 0 (min 13 (a0.size + 1) - 1) a0 = L from hL.symm]
 obtain ⟨cap, hcap⟩ : ∃ cap, cap = min 13 (a0.size + 1) := ⟨_, rfl⟩
 rw [← hcap] at hLL ⊢
 have HC := Aside0.mk (heap_alloc_new w7 (.cells (Lib.cellsOf L cap) (Tryz.lays147_ren.t 9)))
 have HO2 := Aside0.mk (Kd.R_reok (ok := fun k_ => k_ ≠ w7.heap.size) rfl (Kd.R_alloc HO.out (.cells (Lib.cellsOf L cap) (Tryz.lays147_ren.t 9))) (fun k_ e_ => by have := Kd.R_lt HO.out k_ e_; omega))
 have HB2 := Aside0.mk (below_alloc HB1.out (.cells (Lib.cellsOf L cap) (Tryz.lays147_ren.t 9)))
 have HGB := Aside0.mk (below_size HB1.out)
 have HL := Aside0.mk hL
 have HL62 := Aside0.mk (show L.length ≤ 13 by omega)
 clear hL hLL hcap HO HB1
 go_wp2_with fail
 go_loopg [18, 4] L.length (fun kq v18 v4 w' => ∃ (i : Nat) (o : List S102) (W : World), W = w' ∧ v18 = .int .i64 (i : Int) ∧ Aside0 (i + kq = L.length) ∧ Aside0 (D_readPts (L.drop i) o = D_readPts L []) ∧ Aside0 (Kd.R k102 102 W w.heap.size (fun k_ => k_ ≠ w7.heap.size) v4 o) ∧ Aside0 (o.length ≤ i) ∧ Aside0 (W.heap[w7.heap.size]? = some (.cells (Lib.cellsOf L cap) (Tryz.lays147_ren.t 9) (0, 0))) ∧ Aside0 (Below w.heap.size w W))
 case atStart => exact ⟨0, [], _, rfl, rfl, ⟨by omega⟩, ⟨rfl⟩, ⟨HO2.out⟩, ⟨Nat.le_refl _⟩, ⟨HC.out⟩, ⟨HB2.out⟩⟩
 obtain ⟨i, o, W, rfl, rfl, HI, HD, HO, HOL, HCC, HB⟩ := hrel
 cases gk with
 | zero =>
  have hi : i = L.length := by have := HI.out; omega
  have hdec : decide ((i : Int) < (L.length : Int)) = false := decide_eq_false (by omega)
  have ho : O = some o := by
   rw [← HOO.out, ← HL.out, ← HD.out, hi, List.drop_length]
   rfl
  have HTT2 := Aside0.mk (HTT.out o ho)
  have HTX2 := Aside0.mk (HTX.out o ho)
  have HRR2 := Aside0.mk (HRR.out o ho)
  clear HTT HTX HRR ho HR0
  obtain ⟨Ao, co, eo⟩ := Kd.R_slice HO.out
  subst eo
  have hC := (Kd.R_reads' HO.out).2.2
  have hCC := (Kd.R_reads' HO.out).2.1
  go_wp2_with fail
  refine (impl_ValidCurve.calls kt _ _ o t _ hC hCC HTT2.out).mono ?_
  rintro e w2 ⟨rfl, hb⟩
  have HB2 := Aside0.mk (below_step HB.out hb)
  have HO2 := Aside0.mk (Kd.R_below HO.out hb)
  clear hC hCC hb
  cases t with
  | false =>
   obtain ⟨rfl, rfl⟩ := Prod.mk.inj (HRR2.out.trans (if_neg (by simp)))
   go_wp2_with fail
   go_ret2
   exact ⟨_, rfl, Kd.R_nil _ _ _ _ _, HB2.out⟩
  | true =>
   have hx := HTX2.out rfl
   have hC := (Kd.R_reads' HO2.out).2.2
   have hCC := (Kd.R_reads' HO2.out).2.1
   go_wp2_with fail
   refine (impl_curveText.calls k _ _ o x _ hC hCC hx (HTB.out.below HB2.out)).mono ?_
   rintro e w3 ⟨rfl, hb⟩
   have HB3 := Aside0.mk (below_step HB2.out hb)
   have HO3 := Aside0.mk (Kd.R_below HO2.out hb)
   clear hC hCC hb hx
   by_cases hq : x.toList = a0.toList
   ·have hrr := HRR2.out
    simp only [if_true, hq, Prod.mk.injEq] at hrr
    obtain ⟨rfl, rfl⟩ := hrr
    go_wp2_with fail
    go_ret2
    exact ⟨_, rfl, Kd.R_mono HO3.out (fun _ _ => trivial), HB3.out⟩
   have hrr := HRR2.out
   simp only [if_true, hq, if_false, Prod.mk.injEq] at hrr
   obtain ⟨rfl, rfl⟩ := hrr
   have hq1 : (x.toList == a0.toList) = false := beq_eq_false_iff_ne.mpr hq
   have hq2 : (x.toList != a0.toList) = true := bne_iff_ne.mpr hq
   have hq3 : decide (x.toList = a0.toList) = false := decide_eq_false hq
   go_wp2_with fail
   go_ret2
   exact ⟨_, rfl, Kd.R_nil _ _ _ _ _, HB3.out⟩
 | succ k1 =>
  have hi : i < L.length := by have := HI.out; omega
  have hdec : decide ((i : Int) < (L.length : Int)) = true := decide_eq_true (by omega)
  have hcc := readc_cell HCC.out i hi
  obtain ⟨x, hx⟩ : ∃ x, x = L[i]'hi := ⟨_, rfl⟩
  rw [← hx] at hcc
  have HX := Aside0.mk hx
  have HXS : Aside0 (x.size ≤ 1048576) := ⟨by
   have h1 := readc_size ⟨#[32]⟩ (min 13 (a0.size + 1) - 1) a0 x (by rw [hx]; have hmem : ∀ y, y ∈ L → y ∈ Lib.splitB ⟨#[32]⟩ 0 (min 13 (a0.size + 1) - 1) a0 := fun y hy => by { rw [HL.out] at hy; exact hy }; exact hmem _ (List.getElem_mem hi))
   have := HSZ.out
   omega⟩
  have HE := Aside0.mk (show wrap64 ((i : Int) + 1) = ((i + 1 : Nat) : Int) by have := HL62.out; unfold wrap64; omega)
  clear hx
  go_wp2_with fail
  refine (Any.strings_Cut Tryz.lays145 x ⟨#[58]⟩ m _ (by have := HXS.out; omega) ((HB.out.cell (World.block_lt_of_cell? _ _ HM.out)).trans HM.out)).mono ?_
  rintro e w' ⟨rfl, n, rfl⟩
  obtain ⟨cw, hcw⟩ : ∃ cw : ByteArray, cw = ⟨(Lib.cut x.data.toList [58]).1.toArray⟩ := ⟨_, rfl⟩
  obtain ⟨cn, hcn⟩ : ∃ cn : ByteArray, cn = ⟨(Lib.cut x.data.toList [58]).2.1.toArray⟩ := ⟨_, rfl⟩
  rw [show (⟨#[58]⟩ : ByteArray).data.toList = [58] from rfl, ← hcw, ← hcn]
  generalize (Lib.cut x.data.toList [58]).2.2 = cb
  have HW := Aside0.mk hcw
  have HN := Aside0.mk hcn
  have HNS : Aside0 (cn.size ≤ 2097152) := ⟨by rw [hcn]; exact readc_arr _ x (readc_cut _ _).2 HXS.out⟩
  have HWS : Aside0 (cw.size ≤ 2097152) := ⟨by rw [hcw]; exact readc_arr _ x (readc_cut _ _).1 HXS.out⟩
  clear hcw hcn
  go_wp2_with fail
  refine (readc_parse cw HWS.out _ (HTB.out.below (pw_below_drewN HB.out n))).mono ?_
  rintro e w2 ⟨v, ev, rfl, hev, hb⟩
  have HB2 := Aside0.mk (below_step (pw_below_drewN HB.out n) hb)
  have HO2 := Aside0.mk (Kd.R_below (Kd.R_drewN HO.out n) hb)
  have HC2 := Aside0.mk (blk_below (blk_drewN HCC.out n) hb)
  have HEV := Aside0.mk hev
  clear hev hb hcc
  go_wp2_with fail
  refine (readc_parse cn HNS.out _ (HTB.out.below HB2.out)).mono ?_
  rintro e w3 ⟨v2, ev2, rfl, hev2, hb⟩
  have HB3 := Aside0.mk (below_step HB2.out hb)
  have HO3 := Aside0.mk (Kd.R_below HO2.out hb)
  have HC3 := Aside0.mk (blk_below HC2.out hb)
  have HEV2 := Aside0.mk hev2
  clear hev2 hb HB2 HO2 HC2
  have hnone : ∀ x0, L[i]'hi = x0 → D_readPoint x0 = none → O = none := fun x0 e0 h0 => by
   rw [← HOO.out, ← HL.out, ← HD.out, List.drop_eq_getElem_cons hi, e0, D_readPts, h0]
  have HNO := Aside0.mk (hnone x HX.out.symm)
  clear hnone
  rcases HEV.out with ⟨hp1, rfl⟩ | ⟨hp1, te, pe, rfl⟩
  ·rcases HEV2.out with ⟨hp2, rfl⟩ | ⟨hp2, te, pe, rfl⟩
   ·have HP1 := Aside0.mk hp1
    have HP2 := Aside0.mk hp2
    clear hp1 hp2 HEV HEV2 HNO
    go_wp2_with (first | ((with_reducible refine gate_builtin (b := .append) (xs := #[.tmp 44, .tmp 50]) rfl ?_); at_builtin; refine Kd.R_append k102 (w0 := w) w.heap.size rfl (.tmp 44) (.tmp 50) 29 102 (.agg #[(.int .i16 0), (.int .i16 0)]) 4 rfl Tryz.underlying29 info102 rfl (by decide) (by omega) u4 o (⟨IntKind.i16.wrap v, IntKind.i16.wrap v2⟩ : S102) [.int .i16 (IntKind.i16.wrap v), .int .i16 (IntKind.i16.wrap v2)] (fun k_ => k_ ≠ w7.heap.size) (fun _ => False) rfl (by show Value.slice (some ⟨w3.heap.size, 0, none⟩) 1 1 = _; simp) ?aP (fun _ hk => hk.elim) ?aF ?aO ?aB ?aS ?aL ?_; (case aP => exact k102_mkM _ _ _ (⟨IntKind.i16.wrap v, IntKind.i16.wrap v2⟩ : S102)); (case aB => exact HB3.out); (case aF => exact fun k_ hk_ e_ => by have := blk_lt HC3.out; omega); (case aO => exact HO3.out); (case aS => exact below_size HB3.out); (case aL => have := HOL.out; have := HL62.out; omega); intro v73 w8 ho hb hg hat; have HB8 := Aside0.mk hb; have HO8 := Aside0.mk ho; have HC8 := Aside0.mk (blk_grown HC3.out hg (fun e_ => HO3.out.1 _ e_.symm rfl)); clear ho hb hg hat))
    go_roundg k1
    case measure => omega
    refine ⟨i + 1, o ++ [(⟨IntKind.i16.wrap v, IntKind.i16.wrap v2⟩ : S102)], _, rfl, by rw [HE.out], ⟨by have := HI.out; omega⟩, ⟨?_⟩, HO8, ⟨by have := HOL.out; simp only [List.length_append, List.length_cons, List.length_nil]; omega⟩, HC8, HB8⟩
    rw [← HD.out, List.drop_eq_getElem_cons hi, ← HX.out, D_readPts, readc_some (a := v) (b := v2) (by rw [← HW.out]; exact HP1.out) (by rw [← HN.out]; exact HP2.out)]
   obtain ⟨rfl, rfl⟩ := Prod.mk.inj (HR0.out (HNO.out (readc_none2 (by rw [← HN.out]; exact hp2))))
   clear hp1 hp2 HEV HEV2 HNO
   go_wp2_with fail
   go_ret2
   exact ⟨_, rfl, Kd.R_nil _ _ _ _ _, HB3.out⟩
  obtain ⟨rfl, rfl⟩ := Prod.mk.inj (HR0.out (HNO.out (readc_none1 (by rw [← HW.out]; exact hp1))))
  clear hp1 HEV HEV2 HNO
  go_wp2_with fail
  go_ret2
  exact ⟨_, rfl, Kd.R_nil _ _ _ _ _, HB3.out⟩
def impl_ReadCurve.f (a0 : ByteArray) : Option (List S102 × Int) := if a0.size ≤ 1048576 then (match D_readPts (D_readWords13 a0) [] with | none => some ([], 5) | some o => (impl_ValidCurve.f 100 o).bind fun t => (if t = true then ((impl_curveText.f 100 o).bind fun x => some (if x.toList = a0.toList then (o, 0) else ([], 5))) else some ([], 5))) else none
theorem impl_ReadCurve.calls (a0 : ByteArray) (r1 : List S102) (r2 : Int) (w : World) (h : impl_ReadCurve.f a0 = some (r1, r2)) (hT : Tab10 w) :
  Calls Tryz.prog 43 #[.string a0] w fun e w' => ∃ v0_ : Value, e = .returned (.tuple #[v0_, .int .i64 r2]) ∧ Kd.R k102 102 w' w.heap.size (fun _ => True) v0_ r1 ∧ Below w.heap.size w w' := by
 unfold impl_ReadCurve.f at h
 by_cases hs : a0.size ≤ 1048576
 ·rw [if_pos hs] at h
  obtain ⟨m, hm⟩ := hT.len
  cases hO : D_readPts (D_readWords13 a0) [] with
  | none =>
   rw [hO] at h
   exact impl_ReadCurve.walk a0 hs w m hm hT none hO false 0 (fun _ e => by cases e) 0 ⟨#[]⟩ (fun _ e => by cases e) r1 r2 (fun _ e => by cases e) (fun _ => (Option.some.inj h).symm)
  | some o =>
   rw [hO] at h
   simp only [] at h
   obtain ⟨t, ht, h⟩ := Option.bind_eq_some_iff.mp h
   cases t with
   | false =>
    rw [if_neg (by simp)] at h
    exact impl_ReadCurve.walk a0 hs w m hm hT (some o) hO false 100 (fun _ e => by cases e; exact ht) 0 ⟨#[]⟩ (fun _ _ e => by cases e) r1 r2 (fun _ e => by cases e; rw [if_neg (by simp)]; exact (Option.some.inj h).symm) (fun e => by cases e)
   | true =>
    rw [if_pos rfl] at h
    obtain ⟨x, hx, h⟩ := Option.bind_eq_some_iff.mp h
    exact impl_ReadCurve.walk a0 hs w m hm hT (some o) hO true 100 (fun _ e => by cases e; exact ht) 100 x (fun _ e _ => by cases e; exact hx) r1 r2 (fun _ e => by cases e; rw [if_pos rfl]; exact (Option.some.inj h).symm) (fun e => by cases e)
 rw [if_neg hs] at h; simp at h


end Go.Proofs.YtjonocgmofcieaaGreatDoor.Q
