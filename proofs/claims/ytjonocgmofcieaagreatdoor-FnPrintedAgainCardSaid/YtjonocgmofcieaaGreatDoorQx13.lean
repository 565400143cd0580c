-- Written by wip/mk.py of this repository (a run of the kit's print with hand-proved leaves added); Lean checks it.
import Derived.Test.YtjonocgmofcieaaGreatDoorQx0
import Derived.Test.YtjonocgmofcieaaGreatDoorQx2
import Derived.Test.YtjonocgmofcieaaGreatDoorQx3
import Derived.Test.YtjonocgmofcieaaGreatDoorQx5
import Derived.Test.YtjonocgmofcieaaGreatDoorQx7
import Derived.Test.YtjonocgmofcieaaGreatDoorQx12
namespace Go.Proofs.YtjonocgmofcieaaGreatDoor.Q
open Go.RowKit Go.Proofs.YtjonocgmofcieaaGreatDoorW.PrintWords Go.Proofs.YtjonocgmofcieaaGreatDoorW.PrintLast Go.Proofs.YtjonocgmofcieaaGreatDoorW.PrintMore
attribute [local go_sem] max2_int min2_int max_two min_two max_three min_three max_four min_four   -- for this text's walks alone
set_option linter.unusedVariables false
set_option linter.unusedSimpArgs false

attribute [local go_sem high] eqA102
/-! ### impl_ReadLog: function 12 -/
def D_uintT (T : TypeId) : Option (Option Nat) → Value
 | some (some n) => .tuple #[.int .u64 n, .nilIface]
 | none => .tuple #[.int .u64 0, .iface T (.int .i64 2)]
 | some none => .tuple #[.int .u64 18446744073709551615, .iface T (.int .i64 1)]
/-- what the digits of a hex numeral say: as strconv.ParseUint reads them -/
def D_hexU (acc : Nat) : List UInt8 → Option (Option Nat)
 | [] => some (some acc)
 | c :: r =>
  if 48 ≤ c.toNat ∧ c.toNat ≤ 57 then
   if 1152921504606846976 ≤ acc then some none else D_hexU (acc * 16 + (c.toNat - 48)) r
  else if 97 ≤ bits .or .u8 (c.toNat : Int) 32 ∧ bits .or .u8 (c.toNat : Int) 32 ≤ 122 then
   if 102 < bits .or .u8 (c.toNat : Int) 32 then none
   else if 1152921504606846976 ≤ acc then some none else D_hexU (acc * 16 + (bits .or .u8 (c.toNat : Int) 32 - 87).toNat) r
  else none
theorem hexU_lower (c lo : Int) (h : bits .or .u8 c 32 = lo) (w : World) :
  Calls Tryz.prog 112 #[.int .u8 c] w fun e w' => e = .returned (.int .u8 lo) ∧ w' = w := by
 rw [← h]
 exact AnyPu.internal_strconv_lower { Tryz.laysPu14 with } c w
set_option maxRecDepth 100000 in
theorem hexU_empty (w : World) (t : ByteArray) (h0 : t.size = 0) :
  Calls Tryz.prog 83 #[.string t, .int .i64 16, .int .i64 64] w fun e w' => e = .returned (D_uintT 141 none) ∧ w' = w := by
 obtain rfl : t = ⟨#[]⟩ := by
  cases t with
  | mk d => have : d = #[] := Array.eq_empty_of_size_eq_zero h0; rw [this]
 go_enter Tryz.func83, Tryz.ntmps83
 go_wp2
 go_ret2
 exact ⟨rfl, rfl⟩
set_option maxHeartbeats 32000000 in
set_option maxRecDepth 100000 in
theorem hexU_walk (t : ByteArray) (hne : t.size ≠ 0) (hmax : t.size ≤ 2097152) (w : World) :
  Calls Tryz.prog 83 #[.string t, .int .i64 16, .int .i64 64] w fun e w' => e = .returned (D_uintT 141 (D_hexU 0 t.data.toList)) ∧ w' = Lib.bytesWorld w (5) t := by
 have hemp : t.toList.isEmpty = false := by
  rw [← decide_eq_emptyBytes]
  exact decide_eq_false (fun h => hne (by rw [h]; rfl))
 have hcv := Lib.run_convert_string_bytes (P := Tryz.prog) w (9) (22) (5) t (u := .string) Tryz.laysPu14.t9 Tryz.laysPu14.t37 Tryz.laysPu14.t5
 have hB : ∀ j, j < t.size → (Lib.bytesWorld w (5) t).cell? ⟨w.heap.size, j, none⟩ = some (.int .u8 (t.data.toList.getD j 0).toNat) := fun j hj => Lib.bytesWorld_cell w (5) t j hj
 obtain ⟨W1, hW1⟩ : ∃ W1, W1 = Lib.bytesWorld w (5) t := ⟨_, rfl⟩
 rw [← hW1] at hcv hB ⊢
 clear hW1
 obtain ⟨bs, hL⟩ : ∃ bs, bs = t.data.toList := ⟨_, rfl⟩
 have hLn : bs.length = t.size := by rw [hL, Lib.size_eq]
 rw [← hL] at hB ⊢
 clear hL
 have hmv : IntKind.u64.wrap (IntKind.u64.wrap 18446744073709551616 - 1) = 18446744073709551615 := by
  rw [IntKind.wrap_u64, IntKind.wrap_u64]
  decide
 go_enter Tryz.func83, Tryz.ntmps83
 go_wp2
 go_loop [12, 13, 101] (fun vu vn vi => ∃ (k acc : Nat) (a : Int), vu = .bool false ∧ vn = .int .u64 a ∧ vi = .int .i64 k ∧ k ≤ t.size ∧ Hid (a = (acc : Int) ∧ acc < 18446744073709551616 ∧ D_hexU 0 bs = D_hexU acc (bs.drop k)))
  (fun _ _ vi => t.size - (intOf vi).toNat)
 case atStart => exact ⟨0, 0, 0, rfl, rfl, rfl, by omega, rfl, by omega, rfl⟩
 obtain ⟨k, acc, a, rfl, rfl, rfl, hk, hh⟩ := hrel
 obtain ⟨ha, hacc, hdec⟩ := hh.out
 clear hh
 have a0 : 0 ≤ a := by omega
 have a1 : a < 18446744073709551616 := by omega
 by_cases hkn : k < t.size
 ·have hc := hB k hkn
  have hdrop : bs.drop k = bs[k]'(by omega) :: bs.drop (k + 1) := List.drop_eq_getElem_cons (by omega)
  have hget : bs.getD k 0 = bs[k]'(by omega) := by simp [List.getD, List.getElem?_eq_getElem (show k < bs.length by omega)]
  rw [hdrop] at hdec
  rw [hget] at hc
  generalize bs[k]'(by omega) = c at hc hdec
  have hc256 : c.toNat < 256 := c.toNat_lt
  clear hB hdrop hget
  have hv0 := bits_lo_u8 .or (c.toNat : Int) 32
  have hv1 := bits_hi_u8 .or (c.toNat : Int) 32
  by_cases hdig : 48 ≤ c.toNat ∧ c.toNat ≤ 57
  ·obtain ⟨hd0, hd1⟩ := hdig
   by_cases hcut : 1152921504606846976 ≤ acc
   ·have hF : D_hexU acc (c :: bs.drop (k + 1)) = some none := by simp [D_hexU, hd0, hd1, hcut]
    rw [hF] at hdec
    have icut : 1152921504606846976 ≤ a := by omega
    clear hcut hacc hF ha
    go_wp2
    go_ret2
    exact ⟨rfl, rfl⟩
   have hF : D_hexU acc (c :: bs.drop (k + 1)) = D_hexU (acc * 16 + (c.toNat - 48)) (bs.drop (k + 1)) := by simp [D_hexU, hd0, hd1, hcut]
   have HN : Hid (a * 16 + ((c.toNat : Int) - 48) = ((acc * 16 + (c.toNat - 48) : Nat) : Int) ∧ acc * 16 + (c.toNat - 48) < 18446744073709551616 ∧ D_hexU 0 bs = D_hexU (acc * 16 + (c.toNat - 48)) (bs.drop (k + 1))) := Lib.hid ⟨by omega, by omega, hdec.trans hF⟩
   have icut : a < 1152921504606846976 := by omega
   clear hcut hacc hF hdec ha
   go_wp2
   refine ⟨⟨k + 1, acc * 16 + (c.toNat - 48), a * 16 + ((c.toNat : Int) - 48), rfl, (by first | rfl | (congr 1; omega)), (by first | rfl | (congr 1; omega)), by omega, HN⟩, by simp [intOf]; omega⟩
  by_cases hus : c.toNat = 95
  ·have hlo : bits .or .u8 ((95 : Nat) : Int) 32 = 127 := by decide +kernel
   have hF : D_hexU acc (c :: bs.drop (k + 1)) = none := by
    unfold D_hexU
    rw [hus, hlo]
    simp
   rw [hF] at hdec
   rw [show c.toNat = 95 from hus] at hc
   clear hacc hF ha hv0 hv1 hlo hdig hc256
   clear hus
   go_wp2_with (refine (hexU_lower _ 127 (by decide +kernel) _).mono ?_; rintro e w' ⟨rfl, rfl⟩)
   all_goals go_ret2
   all_goals first | exact ⟨rfl, rfl⟩ | exact ⟨by rw [hdec]; rfl, rfl⟩
  have hus2 : ((c.toNat : Int) = 95) = False := by simp; omega
  obtain ⟨lo, hlo⟩ : ∃ lo, bits .or .u8 (c.toNat : Int) 32 = lo := ⟨_, rfl⟩
  rw [hlo] at hv0 hv1
  have HLO : Hid (bits .or .u8 (c.toNat : Int) 32 = lo) := Lib.hid hlo
  by_cases hlet : 97 ≤ lo ∧ lo ≤ 122
  ·obtain ⟨hl0, hl1⟩ := hlet
   by_cases hbig : 102 < lo
   ·have hF : D_hexU acc (c :: bs.drop (k + 1)) = none := by simp [D_hexU, hdig, hlo, hl0, hl1, hbig]
    rw [hF] at hdec
    clear hacc hF ha hlo
    go_wp2_with (refine (hexU_lower _ lo HLO.out _).mono ?_; rintro e w' ⟨rfl, rfl⟩)
    all_goals go_ret2
    all_goals first | exact ⟨rfl, rfl⟩ | exact ⟨by rw [hdec]; rfl, rfl⟩
   by_cases hcut : 1152921504606846976 ≤ acc
   ·have hF : D_hexU acc (c :: bs.drop (k + 1)) = some none := by simp [D_hexU, hdig, hlo, hl0, hl1, hbig, hcut]
    rw [hF] at hdec
    have icut : 1152921504606846976 ≤ a := by omega
    clear hcut hacc hF ha hlo
    go_wp2_with (refine (hexU_lower _ lo HLO.out _).mono ?_; rintro e w' ⟨rfl, rfl⟩)
    all_goals go_ret2
    all_goals first | exact ⟨rfl, rfl⟩ | exact ⟨by rw [hdec]; rfl, rfl⟩
   have hF : D_hexU acc (c :: bs.drop (k + 1)) = D_hexU (acc * 16 + (lo - 87).toNat) (bs.drop (k + 1)) := by simp [D_hexU, hdig, hlo, hl0, hl1, hbig, hcut]
   have HN : Hid (a * 16 + (lo - 87) = ((acc * 16 + (lo - 87).toNat : Nat) : Int) ∧ acc * 16 + (lo - 87).toNat < 18446744073709551616 ∧ D_hexU 0 bs = D_hexU (acc * 16 + (lo - 87).toNat) (bs.drop (k + 1))) := Lib.hid ⟨by omega, by omega, hdec.trans hF⟩
   have icut : a < 1152921504606846976 := by omega
   clear hcut hacc hF hdec ha hlo
   go_wp2_with (refine (hexU_lower _ lo HLO.out _).mono ?_; rintro e w' ⟨rfl, rfl⟩)
   all_goals refine ⟨⟨k + 1, acc * 16 + (lo - 87).toNat, a * 16 + (lo - 87), rfl, (by first | rfl | (congr 1; omega)), (by first | rfl | (congr 1; omega)), by omega, HN⟩, by simp [intOf]; omega⟩
  have hF : D_hexU acc (c :: bs.drop (k + 1)) = none := by simp [D_hexU, hdig, hlo, hlet]
  rw [hF] at hdec
  clear hacc hF ha hlo
  go_wp2_with (refine (hexU_lower _ lo HLO.out _).mono ?_; rintro e w' ⟨rfl, rfl⟩)
  all_goals go_ret2
  all_goals first | exact ⟨rfl, rfl⟩ | exact ⟨by rw [hdec]; rfl, rfl⟩
 have hkk : k = t.size := by omega
 subst hkk
 have hF : D_hexU acc (bs.drop t.size) = some (some acc) := by rw [List.drop_eq_nil_of_le (by omega)]; rfl
 rw [hF] at hdec
 subst ha
 clear hacc hF a0 a1
 go_wp2
 go_ret2
 exact ⟨rfl, rfl⟩
def D_hexOf (l : List UInt8) : Option (Option Nat) := if l = [] then none else D_hexU 0 l
theorem hexU_both (t : ByteArray) (hmax : t.size ≤ 2097152) (w : World) :
  Calls Tryz.prog 83 #[.string t, .int .i64 16, .int .i64 64] w fun e w' => e = .returned (D_uintT 141 (D_hexOf t.data.toList)) ∧ Below w.heap.size w w' := by
 by_cases h0 : t.size = 0
 ·refine (hexU_empty w t h0).mono ?_
  rintro e w' ⟨rfl, rfl⟩
  have h1 : t.data.toList = [] := by
   have : t.data.toList.length = 0 := by rw [Array.length_toList]; exact h0
   exact List.length_eq_zero_iff.mp this
  unfold D_hexOf
  rw [if_pos h1]
  exact ⟨rfl, Below.refl _ _⟩
 refine (hexU_walk t h0 hmax w).mono ?_
 rintro e w' ⟨rfl, rfl⟩
 have h1 : t.data.toList ≠ [] := fun h => by
  have : t.data.toList.length = 0 := by rw [h]; rfl
  rw [Array.length_toList] at this
  exact h0 this
 unfold D_hexOf
 rw [if_neg h1]
 exact ⟨rfl, Lib.bytesWorld_below _ _ _⟩
set_option maxHeartbeats 8000000 in
set_option maxRecDepth 100000 in
theorem hexU_at (s : ByteArray) (hs : s.size ≤ 2097152) (w : World) (hT : Tab10 w) :
  Calls Tryz.prog 45 #[.string s, .int .i64 16, .int .i64 64] w fun e w' => ∃ (n : Int) (ev : Value), e = .returned (.tuple #[.int .u64 n, ev]) ∧ (match D_hexOf s.data.toList with | some (some v) => n = v ∧ ev = .nilIface | _ => ∃ ty p, ev = .iface ty p) ∧ Below w.heap.size w w' := by
 have hI := hexU_both s hs w
 rcases h : D_hexOf s.data.toList with _ | _ | v
 ·obtain ⟨ev, hv, hev⟩ := hT.syn
  rw [h] at hI
  have hI : Calls Tryz.prog 83 #[.string s, .int .i64 16, .int .i64 64] w fun e w' => e = .returned (.tuple #[.int .u64 0, .iface 141 (.int .i64 2)]) ∧ Below w.heap.size w w' := hI
  clear h
  go_enter Tryz.func45, Tryz.ntmps45
  go_wp2_with (refine hI.mono ?_)
  rintro e W1 ⟨rfl, hb1⟩
  have hv1 : W1.cell? ⟨1, 0, none⟩ = some ev := (hb1.cell (World.block_lt_of_cell? _ _ hv)).trans hv
  go_wp2_with (refine (AnyPu.strconv_toError_syntax { Tryz.laysPu14 with } ⟨#[80, 97, 114, 115, 101, 85, 105, 110, 116]⟩ s 16 64 ev _ (by omega) ?_ hev).mono ?_)
  ·exact hv1
  rintro e W2 ⟨N, rfl, h1, h2, h3⟩
  go_wp2
  go_ret2
  exact ⟨_, _, rfl, ⟨_, _, rfl⟩, hb1.trans (h3.mono hb1.size)⟩
 ·obtain ⟨ev, hv, hev⟩ := hT.ran
  rw [h] at hI
  have hI : Calls Tryz.prog 83 #[.string s, .int .i64 16, .int .i64 64] w fun e w' => e = .returned (.tuple #[.int .u64 18446744073709551615, .iface 141 (.int .i64 1)]) ∧ Below w.heap.size w w' := hI
  clear h
  go_enter Tryz.func45, Tryz.ntmps45
  go_wp2_with (refine hI.mono ?_)
  rintro e W1 ⟨rfl, hb1⟩
  have hv1 : W1.cell? ⟨2, 0, none⟩ = some ev := (hb1.cell (World.block_lt_of_cell? _ _ hv)).trans hv
  go_wp2_with (refine (AnyPu.strconv_toError_range { Tryz.laysPu14 with } ⟨#[80, 97, 114, 115, 101, 85, 105, 110, 116]⟩ s 16 64 ev _ (by omega) ?_ hev).mono ?_)
  ·exact hv1
  rintro e W2 ⟨N, rfl, h1, h2, h3⟩
  go_wp2
  go_ret2
  exact ⟨_, _, rfl, ⟨_, _, rfl⟩, hb1.trans (h3.mono hb1.size)⟩
 rw [h] at hI
 have hI : Calls Tryz.prog 83 #[.string s, .int .i64 16, .int .i64 64] w fun e w' => e = .returned (.tuple #[.int .u64 v, .nilIface]) ∧ Below w.heap.size w w' := hI
 clear h
 go_enter Tryz.func45, Tryz.ntmps45
 go_wp2_with (refine hI.mono ?_; rintro e W1 ⟨rfl, hW⟩)
 go_wp2
 go_ret2
 exact ⟨_, _, rfl, ⟨rfl, rfl⟩, hW⟩
/-- the lines of a log's text behind the first -/
def D_readSteps : List ByteArray → List S55 → Option (List S55)
 | [], o => some o
 | s :: r, o =>
  if (Lib.cut s.data.toList [32]).2.2 = true then
   match D_hexOf (Lib.cut s.data.toList [32]).1 with
   | some (some m) => match Lib.parseIntB 8 (Lib.cut s.data.toList [32]).2.1 with
    | .ok n => D_readSteps r (o ++ [⟨(m : Int), IntKind.i8.wrap n⟩])
    | _ => none
   | _ => none
  else D_readSteps r o
def D_readLines33 (a : ByteArray) : List ByteArray := Lib.splitB ⟨#[10]⟩ 0 (min 33 (a.size + 1) - 1) a
theorem readl_ne (a : ByteArray) : D_readLines33 a ≠ [] := by
 unfold D_readLines33
 generalize min 33 (a.size + 1) - 1 = k
 cases k with
 | zero => rw [Lib.splitB_zero]; simp
 | succ k =>
  unfold Lib.splitB
  split <;> simp
theorem readl_ok {s : ByteArray} {r : List ByteArray} {o : List S55} {m : Nat} {n : Int} (h0 : (Lib.cut s.data.toList [32]).2.2 = true) (h1 : D_hexOf (⟨(Lib.cut s.data.toList [32]).1.toArray⟩ : ByteArray).data.toList = some (some m)) (h2 : Lib.parseIntB 8 (⟨(Lib.cut s.data.toList [32]).2.1.toArray⟩ : ByteArray).data.toList = .ok n) : D_readSteps (s :: r) o = D_readSteps r (o ++ [⟨(m : Int), IntKind.i8.wrap n⟩]) := by
 simp only [List.toList_toArray] at h1 h2
 rw [D_readSteps, if_pos h0, h1]
 simp only []
 rw [h2]
theorem readl_none1 {s : ByteArray} {r : List ByteArray} {o : List S55} (h0 : (Lib.cut s.data.toList [32]).2.2 = true) (h1 : ∀ v, D_hexOf (⟨(Lib.cut s.data.toList [32]).1.toArray⟩ : ByteArray).data.toList ≠ some (some v)) : D_readSteps (s :: r) o = none := by
 simp only [List.toList_toArray] at h1
 rw [D_readSteps, if_pos h0]
 split
 ·rename_i v hv; exact absurd hv (h1 v)
 rfl
theorem readl_none2 {s : ByteArray} {r : List ByteArray} {o : List S55} (h0 : (Lib.cut s.data.toList [32]).2.2 = true) (h2 : ∀ v, Lib.parseIntB 8 (⟨(Lib.cut s.data.toList [32]).2.1.toArray⟩ : ByteArray).data.toList ≠ .ok v) : D_readSteps (s :: r) o = none := by
 simp only [List.toList_toArray] at h2
 rw [D_readSteps, if_pos h0]
 split
 ·split
  ·rename_i v hv; exact absurd hv (h2 v)
  rfl
 rfl
theorem readl_skip {s : ByteArray} {r : List ByteArray} {o : List S55} (h0 : (Lib.cut s.data.toList [32]).2.2 = false) : D_readSteps (s :: r) o = D_readSteps r o := by
 rw [D_readSteps, if_neg (by rw [h0]; simp)]
theorem readl_hex (s : ByteArray) (hs : s.size ≤ 2097152) (w : World) (hT : Tab10 w) :
  Calls Tryz.prog 45 #[.string s, .int .i64 16, .int .i64 64] w fun e w' => ∃ (n : Int) (ev : Value), e = .returned (.tuple #[.int .u64 n, ev]) ∧ ((∃ v : Nat, D_hexOf s.data.toList = some (some v) ∧ n = (v : Int) ∧ ev = .nilIface) ∨ ((∀ v, D_hexOf s.data.toList ≠ some (some v)) ∧ ∃ t p, ev = .iface t p)) ∧ Below w.heap.size w w' := by
 refine (hexU_at s hs w hT).mono ?_
 rintro e w' ⟨n, ev, rfl, h, hb⟩
 refine ⟨n, ev, rfl, ?_, hb⟩
 rcases hD : D_hexOf s.data.toList with _ | _ | v
 ·rw [hD] at h; exact Or.inr ⟨by simp, h⟩
 ·rw [hD] at h; exact Or.inr ⟨by simp, h⟩
 rw [hD] at h; exact Or.inl ⟨v, rfl, h.1, h.2⟩
theorem readl_parse (s : ByteArray) (hs : s.size ≤ 2097152) (w : World) (hT : Tab10 w) :
  Calls Tryz.prog 46 #[.string s, .int .i64 10, .int .i64 8] w fun e w' => ∃ (n : Int) (ev : Value), e = .returned (.tuple #[.int .i64 n, ev]) ∧ ((Lib.parseIntB 8 s.data.toList = .ok n ∧ ev = .nilIface) ∨ ((∀ v, Lib.parseIntB 8 s.data.toList ≠ .ok v) ∧ ∃ t p, ev = .iface t p)) ∧ Below w.heap.size w w' := by
 rcases h : Lib.parseIntB 8 s.data.toList with v | _ | _
 ·refine (Any.strconv_ParseInt_10_at8_ok Tryz.lays174 s (by omega) v h w).mono ?_
  rintro e w' ⟨rfl, hw⟩
  refine ⟨v, .nilIface, rfl, Or.inl ⟨rfl, rfl⟩, ?_⟩
  rcases hw with rfl | ⟨t, rfl⟩
  ·exact Below.refl _ _
  exact Lib.bytesWorld_below _ _ _
 ·obtain ⟨ev, he, hev⟩ := hT.syn
  refine (Any.strconv_ParseInt_10_at8_syntax Tryz.lays174 s (by omega) h ev w he hev).mono ?_
  rintro e w' ⟨N, rfl, _, _, hb⟩
  exact ⟨_, _, rfl, Or.inr ⟨(by simp), _, _, rfl⟩, hb⟩
 obtain ⟨ev, he, hev⟩ := hT.ran
 refine (Any.strconv_ParseInt_10_at8_range Tryz.lays174 s (by omega) h ev w he hev).mono ?_
 rintro e w' ⟨N, rfl, _, _, hb⟩
 exact ⟨_, _, rfl, Or.inr ⟨(by simp), _, _, rfl⟩, hb⟩
set_option maxHeartbeats 16000000 in
set_option maxRecDepth 100000 in
theorem impl_ReadLog.walk (a0 : ByteArray) (hs : a0.size ≤ 1048576) (w : World) (m : Int) (hm : w.cell? ⟨0, 0, none⟩ = some (.int .i64 m)) (hT : Tab10 w) (l0 : ByteArray) (rest : List ByteArray) (hL : D_readLines33 a0 = l0 :: rest) (P : List S102) (C : Int) (hP : impl_ReadCurve.f l0 = some (P, C)) (O : Option (List S55)) (hO : D_readSteps rest [] = O) (t : Bool) (ht : C = 0 → ∀ o, O = some o → impl_ValidSteps.f o = some t) (k : Nat) (x : ByteArray) (hx : C = 0 → ∀ o, O = some o → t = true → impl_logText.f k P o = some x) (r1 : List S102) (r2 : List S55) (r3 : Int) (hr : C = 0 → ∀ o, O = some o → (r1, r2, r3) = if t = true then (if x.toList = a0.toList then (P, o, 0) else ([], [], 5)) else ([], [], 5)) (hr0 : C = 0 → O = none → (r1, r2, r3) = ([], [], 5)) (hrc : C ≠ 0 → (r1, r2, r3) = ([], [], 5)) :
  Calls Tryz.prog 12 #[.string a0] w fun e w' => ∃ v0_ v1_ : Value, e = .returned (.tuple #[v0_, v1_, .int .i64 r3]) ∧ Kd.R k102 102 w' w.heap.size (fun _ => True) v0_ r1 ∧ Kd.R k55 55 w' w.heap.size (fun _ => True) v1_ r2 ∧ Below w.heap.size w w' := by
 have HB := Aside0.mk (Below.refl w.heap.size w)
 have HM := Aside0.mk hm
 have HTB := Aside0.mk hT
 have HTT := Aside0.mk ht
 have HTX := Aside0.mk hx
 have HRR := Aside0.mk hr
 have HR0 := Aside0.mk hr0
 have HRC := Aside0.mk hrc
 have HOO := Aside0.mk hO
 have HPP := Aside0.mk hP
 have HLL := Aside0.mk hL
 clear hT ht hx hr hr0 hrc hO hP hL
 have HSZ := Aside0.mk hs
 clear hm hs
 go_enter Tryz.func12, Tryz.ntmps12
 go_wp2_with fail
 refine (Any.strings_SplitN { Tryz.lays147 with } Tryz.lays147.i9 a0 ⟨#[10]⟩ 33 m _ (by have := HSZ.out; omega) HM.out (by decide) (by omega) (by omega)).mono ?_
 rintro e w' ⟨rfl, rfl⟩
 have hLen : rest.length + 1 ≤ min 33 (a0.size + 1) := by
  have := Lib.splitB_length_le (⟨#[10]⟩ : ByteArray) 0 (min 33 (a0.size + 1) - 1) a0
  have h2 : (Lib.splitB (⟨#[10]⟩ : ByteArray) 0 (min 33 (a0.size + 1) - 1) a0).length = rest.length + 1 := by
   have h3 := HLL.out
   unfold D_readLines33 at h3
   rw [h3]
   rfl
  omega
 rw [show Lib.splitB ⟨#[10]⟩ 0 (min 33 (a0.size + 1) - 1) a0 = l0 :: rest from HLL.out]
 obtain ⟨cap, hcap⟩ : ∃ cap, cap = min 33 (a0.size + 1) := ⟨_, rfl⟩
 rw [← hcap] at hLen ⊢
 have HC := Aside0.mk (heap_alloc_new w (.cells (Lib.cellsOf (l0 :: rest) cap) (Tryz.lays147_ren.t 9)))
 have HB1 := Aside0.mk (below_alloc HB.out (.cells (Lib.cellsOf (l0 :: rest) cap) (Tryz.lays147_ren.t 9)))
 have HSIZES : ∀ y, y ∈ l0 :: rest → y.size ≤ 1048576 := fun y hy => by
  have h1 := readc_size ⟨#[10]⟩ (min 33 (a0.size + 1) - 1) a0 y (by have h3 := HLL.out; unfold D_readLines33 at h3; rw [h3]; exact hy)
  have := HSZ.out
  omega
 have HYS := Aside0.mk HSIZES
 clear HSIZES
 have HL33 := Aside0.mk (show rest.length ≤ 32 by omega)
 rw [show (l0 :: rest).length = rest.length + 1 from rfl]
 have hcap1 : rest.length + 1 ≤ cap := hLen
 have hcap2 : cap ≤ 33 := by omega
 clear hLen hcap
 have hc0 := readc_cell HC.out 0 (by simp)
 rw [show (l0 :: rest)[0]'(by simp) = l0 from rfl] at hc0
 go_wp2_with (first | ((with_reducible refine gate_dst (N := 20) rfl ?_); refine Kd.R_lit k55 (w0 := w) w.heap.size 55 ?hg (N := 20) ?hd (xs := ([] : List S55)) (inner := []) (ok := fun k_ => k_ ≠ w.heap.size) (okp := fun _ => False) ?hr ?hp (fun _ hk => hk.elim) (fun e_ => by have := blk_lt HC.out; omega) HB1.out (below_size HB1.out) (by simp) ?_; (case hd => rfl); (case hg => rfl); (case hr => first | (go_simp; done) | (go_simp; rfl)); (case hp => exact (Reps.none _ _)); intro v20 w3 ho hb hg_ hnew_; have HO := Aside0.mk ho; have HB2 := Aside0.mk hb; have HC2 := Aside0.mk (blk_grown HC.out hg_ (by simp)); replace hc0 := readc_cell HC2.out 0 (by simp); rw [show (l0 :: rest)[0]'(by simp) = l0 from rfl] at hc0; clear hg_ hnew_ ho hb HB HB1 HC))
 refine (impl_ReadCurve.calls l0 P C _ HPP.out (HTB.out.below HB2.out)).mono ?_
 rintro e w4 ⟨vp, rfl, hop, hb⟩
 have HP := Aside0.mk (Kd.R_lower hop (below_size HB2.out))
 have HB3 := Aside0.mk (below_step HB2.out hb)
 have HO3 := Aside0.mk (Kd.R_below HO.out hb)
 have HC3 := Aside0.mk (blk_below HC2.out hb)
 clear hop hb hc0 HB2 HO HC2
 obtain ⟨ad, had⟩ : ∃ ad : Addr, ad = if cap = 1 then ⟨w.heap.size, 0, none⟩ else ⟨w.heap.size, 1, none⟩ := ⟨_, rfl⟩
 have hsl : ∀ W : World, (Instr.slice 75 (.slice (some ⟨w.heap.size, 0, none⟩) (rest.length + 1) cap) (some (.int .i64 1)) none none).run Tryz.prog W = .ok (.slice (some ad) rest.length (cap - 1)) W := fun W => by
  rw [run_slice_l W 75 (some ⟨w.heap.size, 0, none⟩) (rest.length + 1) cap (by kernel_rfl) .i64 1 (by omega) (by omega), show Tryz.prog.elem 75 = 9 from by kernel_rfl, Tryz.sizeOf9]
  rw [had]
  by_cases h1 : cap = 1
  ·simp [Result.andThen, sliced, h1]
  simp [Result.andThen, sliced, h1, Addr.add]
 have hsl2 : ∀ W : World, (Instr.sliceAt 75 (.slice (some ⟨w.heap.size, 0, none⟩) (rest.length + 1) cap) (some (.int .i64 1)) none none).run Tryz.prog W = .ok (.slice (some ad) rest.length (cap - 1)) W := fun W => by
  rw [run_sliceAt_slice W 75 _ _ _ _ (by kernel_rfl), hsl]
 have HAD : Aside0 (1 ≤ rest.length → ad = ⟨w.heap.size, 1, none⟩) := ⟨fun h => by rw [had, if_neg (by omega)]⟩
 clear had
 by_cases hC : C = 0
 ·have HTT1 := Aside0.mk (HTT.out hC)
  have HTX1 := Aside0.mk (HTX.out hC)
  have HRR1 := Aside0.mk (HRR.out hC)
  have HR01 := Aside0.mk (HR0.out hC)
  clear HTT HTX HRR HR0 HRC
  subst hC
  go_wp2_with fail
  clear hsl hsl2
  go_loopg [33, 6] rest.length (fun kq v33 v6 w' => ∃ (i : Nat) (o : List S55) (W : World), W = w' ∧ v33 = .int .i64 (i : Int) ∧ Aside0 (i + kq = rest.length) ∧ Aside0 (D_readSteps (rest.drop i) o = D_readSteps rest []) ∧ Aside0 (Kd.R k55 55 W w.heap.size (fun k_ => k_ ≠ w.heap.size) v6 o) ∧ Aside0 (o.length ≤ i) ∧ Aside0 (W.heap[w.heap.size]? = some (.cells (Lib.cellsOf (l0 :: rest) cap) (Tryz.lays147_ren.t 9) (0, 0))) ∧ Aside0 (Kd.R k102 102 W w.heap.size (fun _ => True) vp P) ∧ Aside0 (Below w.heap.size w W))
  case atStart => exact ⟨0, [], _, rfl, rfl, ⟨by omega⟩, ⟨rfl⟩, ⟨HO3.out⟩, ⟨Nat.le_refl _⟩, ⟨HC3.out⟩, ⟨HP.out⟩, ⟨HB3.out⟩⟩
  obtain ⟨i, o, W, rfl, rfl, HI, HD, HO, HOL, HCC, HP, HB⟩ := hrel
  cases gk with
  | zero =>
   have hi : i = rest.length := by have := HI.out; omega
   have hdec : decide ((i : Int) < (rest.length : Int)) = false := decide_eq_false (by omega)
   have ho : O = some o := by
    rw [← HOO.out, ← HD.out, hi, List.drop_length]
    rfl
   have HTT2 := Aside0.mk (HTT1.out o ho)
   have HTX2 := Aside0.mk (HTX1.out o ho)
   have HRR2 := Aside0.mk (HRR1.out o ho)
   clear HTT1 HTX1 HRR1 ho HR01
   obtain ⟨Ao, co, eo⟩ := Kd.R_slice HO.out
   subst eo
   obtain ⟨Ap, cp, ep⟩ := Kd.R_slice HP.out
   subst ep
   have hC := (Kd.R_reads' HO.out).2.2
   have hCC := (Kd.R_reads' HO.out).2.1
   go_wp2_with fail
   refine (impl_ValidSteps.calls _ _ o t _ hC hCC HTT2.out).mono ?_
   rintro e w2 ⟨rfl, hb⟩
   have HB2 := Aside0.mk (below_step HB.out hb)
   have HO2 := Aside0.mk (Kd.R_below HO.out hb)
   have HP2 := Aside0.mk (Kd.R_below HP.out hb)
   clear hC hCC hb
   cases t with
   | false =>
    obtain ⟨rfl, h2⟩ := Prod.mk.inj (HRR2.out.trans (if_neg (by simp)))
    obtain ⟨rfl, rfl⟩ := Prod.mk.inj h2
    go_wp2_with fail
    go_ret3
    exact ⟨_, _, rfl, Kd.R_nil _ _ _ _ _, Kd.R_nil _ _ _ _ _, HB2.out⟩
   | true =>
    have hx := HTX2.out rfl
    have hC := (Kd.R_reads' HO2.out).2.2
    have hCC := (Kd.R_reads' HO2.out).2.1
    have hD := (Kd.R_reads' HP2.out).2.2
    have hDD := (Kd.R_reads' HP2.out).2.1
    go_wp2_with fail
    refine (impl_logText.calls k _ _ P _ _ o x _ hD hDD hC hCC hx (HTB.out.below HB2.out)).mono ?_
    rintro e w3 ⟨rfl, hb⟩
    have HB3 := Aside0.mk (below_step HB2.out hb)
    have HO3 := Aside0.mk (Kd.R_below HO2.out hb)
    have HP3 := Aside0.mk (Kd.R_below HP2.out hb)
    clear hC hCC hb hx hD hDD
    by_cases hq : x.toList = a0.toList
    ·have hrr := HRR2.out
     simp only [if_true, hq, Prod.mk.injEq] at hrr
     obtain ⟨rfl, rfl, rfl⟩ := hrr
     go_wp2_with fail
     go_ret3
     exact ⟨_, _, rfl, Kd.R_mono HP3.out (fun _ _ => trivial), Kd.R_mono HO3.out (fun _ _ => trivial), HB3.out⟩
    have hrr := HRR2.out
    simp only [if_true, hq, if_false, Prod.mk.injEq] at hrr
    obtain ⟨rfl, rfl, rfl⟩ := hrr
    have hq1 : (x.toList == a0.toList) = false := beq_eq_false_iff_ne.mpr hq
    have hq2 : (x.toList != a0.toList) = true := bne_iff_ne.mpr hq
    have hq3 : decide (x.toList = a0.toList) = false := decide_eq_false hq
    go_wp2_with fail
    go_ret3
    exact ⟨_, _, rfl, Kd.R_nil _ _ _ _ _, Kd.R_nil _ _ _ _ _, HB3.out⟩
  | succ k1 =>
   have hi : i < rest.length := by have := HI.out; omega
   have hdec : decide ((i : Int) < (rest.length : Int)) = true := decide_eq_true (by omega)
   obtain ⟨x, hx⟩ : ∃ x, x = rest[i]'hi := ⟨_, rfl⟩
   have hcc : W.cell? (ad.add i) = some (.string x) := by
    rw [HAD.out (by omega), hx, show (Addr.add ⟨w.heap.size, 1, none⟩ i) = ⟨w.heap.size, i + 1, none⟩ by unfold Addr.add; split <;> simp_all [Nat.add_comm]]
    exact readc_cell HCC.out (i + 1) (by simpa using hi)
   have HX := Aside0.mk hx
   have HXS : Aside0 (x.size ≤ 1048576) := ⟨HYS.out x (by rw [hx]; exact List.mem_cons_of_mem _ (List.getElem_mem hi))⟩
   have HE := Aside0.mk (show wrap64 ((i : Int) + 1) = ((i + 1 : Nat) : Int) by have := HL33.out; unfold wrap64; omega)
   clear hx
   go_wp2_with fail
   refine (Any.strings_Cut Tryz.lays145 x ⟨#[32]⟩ m _ (by have := HXS.out; omega) ((HB.out.cell (World.block_lt_of_cell? _ _ HM.out)).trans HM.out)).mono ?_
   rintro e w' ⟨rfl, n, rfl⟩
   obtain ⟨cw, hcw⟩ : ∃ cw : ByteArray, cw = ⟨(Lib.cut x.data.toList [32]).1.toArray⟩ := ⟨_, rfl⟩
   obtain ⟨cn, hcn⟩ : ∃ cn : ByteArray, cn = ⟨(Lib.cut x.data.toList [32]).2.1.toArray⟩ := ⟨_, rfl⟩
   obtain ⟨cb, hcb⟩ : ∃ cb : Bool, cb = (Lib.cut x.data.toList [32]).2.2 := ⟨_, rfl⟩
   rw [show (⟨#[32]⟩ : ByteArray).data.toList = [32] from rfl, ← hcw, ← hcn, ← hcb]
   have HW := Aside0.mk hcw
   have HN := Aside0.mk hcn
   have HCB := Aside0.mk hcb
   have HNS : Aside0 (cn.size ≤ 2097152) := ⟨by rw [hcn]; exact readc_arr _ x (readc_cut _ _).2 HXS.out⟩
   have HWS : Aside0 (cw.size ≤ 2097152) := ⟨by rw [hcw]; exact readc_arr _ x (readc_cut _ _).1 HXS.out⟩
   clear hcw hcn hcb hcc
   have HO1 := Aside0.mk (Kd.R_drewN HO.out n)
   have HP1 := Aside0.mk (Kd.R_drewN HP.out n)
   have HC1 := Aside0.mk (blk_drewN HCC.out n)
   have HB1 := Aside0.mk (pw_below_drewN HB.out n)
   clear HO HP HCC HB
   cases cb with
   | false =>
    go_wp2_with fail
    go_roundg k1
    case measure => omega
    refine ⟨i + 1, o, _, rfl, by (first | (rw [HE.out]; done) | rfl | (simp; done)), ⟨by have := HI.out; omega⟩, ⟨?_⟩, HO1, ⟨by have := HOL.out; omega⟩, HC1, HP1, HB1⟩
    rw [← HD.out, List.drop_eq_getElem_cons hi, ← HX.out, readl_skip HCB.out.symm]
   | true =>
    go_wp2_with fail
    refine (readl_hex cw HWS.out _ (HTB.out.below HB1.out)).mono ?_
    rintro e w2 ⟨v, ev, rfl, hev, hb⟩
    have HB2 := Aside0.mk (below_step HB1.out hb)
    have HO2 := Aside0.mk (Kd.R_below HO1.out hb)
    have HP2 := Aside0.mk (Kd.R_below HP1.out hb)
    have HC2 := Aside0.mk (blk_below HC1.out hb)
    have HEV := Aside0.mk hev
    clear hev hb HB1 HO1 HP1 HC1
    go_wp2_with fail
    refine (readl_parse cn HNS.out _ (HTB.out.below HB2.out)).mono ?_
    rintro e w3 ⟨v2, ev2, rfl, hev2, hb⟩
    have HB3 := Aside0.mk (below_step HB2.out hb)
    have HO3 := Aside0.mk (Kd.R_below HO2.out hb)
    have HP3 := Aside0.mk (Kd.R_below HP2.out hb)
    have HC3 := Aside0.mk (blk_below HC2.out hb)
    have HEV2 := Aside0.mk hev2
    clear hev2 hb HB2 HO2 HC2 HP2
    have hnone : D_readSteps (x :: rest.drop (i + 1)) o = none → O = none := fun h0 => by
     rw [← HOO.out, ← HD.out, List.drop_eq_getElem_cons hi, ← HX.out, h0]
    have HNO := Aside0.mk hnone
    clear hnone
    rcases HEV.out with ⟨vm, hp1, rfl, rfl⟩ | ⟨hp1, te, pe, rfl⟩
    ·rcases HEV2.out with ⟨hp2, rfl⟩ | ⟨hp2, te, pe, rfl⟩
     ·have HP_1 := Aside0.mk hp1
      have HP_2 := Aside0.mk hp2
      clear hp1 hp2 HEV HEV2 HNO
      go_wp2_with (first | ((with_reducible refine gate_builtin (b := .append) (xs := #[.tmp 61, .tmp 66]) rfl ?_); at_builtin; refine Kd.R_append k55 (w0 := w) w.heap.size rfl (.tmp 61) (.tmp 66) 31 55 (.agg #[(.int .u64 0), (.int .i8 0)]) 16 rfl Tryz.underlying31 info55 rfl (by decide) (by omega) u6 o (⟨(vm : Int), IntKind.i8.wrap v2⟩ : S55) [.int .u64 (vm : Int), .int .i8 (IntKind.i8.wrap v2)] (fun k_ => k_ ≠ w.heap.size) (fun _ => False) rfl (by show Value.slice (some ⟨w3.heap.size, 0, none⟩) 1 1 = _; simp) ?aP (fun _ hk => hk.elim) ?aF ?aO ?aB ?aS ?aL ?_; (case aP => exact k55_mkM _ _ _ (⟨(vm : Int), IntKind.i8.wrap v2⟩ : S55)); (case aB => exact HB3.out); (case aF => exact fun k_ hk_ e_ => by have := blk_lt HC3.out; omega); (case aO => exact HO3.out); (case aS => exact below_size HB3.out); (case aL => have := HOL.out; have := HL33.out; omega); intro v73 w8 ho hb hg hat; have HB8 := Aside0.mk hb; have HO8 := Aside0.mk ho; have HC8 := Aside0.mk (blk_grown HC3.out hg (fun e_ => HO3.out.1 _ e_.symm rfl)); have HP8 := Aside0.mk (Kd.R_over' HP3.out (Kd.R_typed HO3.out) (by decide) hg); clear ho hb hg hat))
      go_roundg k1
      case measure => omega
      refine ⟨i + 1, o ++ [(⟨(vm : Int), IntKind.i8.wrap v2⟩ : S55)], _, rfl, by (first | (rw [HE.out]; done) | rfl | (simp; done)), ⟨by have := HI.out; omega⟩, ⟨?_⟩, HO8, ⟨by have := HOL.out; simp only [List.length_append, List.length_cons, List.length_nil]; omega⟩, HC8, HP8, HB8⟩
      rw [← HD.out, List.drop_eq_getElem_cons hi, ← HX.out, readl_ok HCB.out.symm (by rw [← HW.out]; exact HP_1.out) (by rw [← HN.out]; exact HP_2.out)]
     obtain ⟨rfl, h2⟩ := Prod.mk.inj (HR01.out (HNO.out (readl_none2 HCB.out.symm (by rw [← HN.out]; exact hp2))))
     obtain ⟨rfl, rfl⟩ := Prod.mk.inj h2
     clear hp1 hp2 HEV HEV2 HNO
     go_wp2_with fail
     go_ret3
     exact ⟨_, _, rfl, Kd.R_nil _ _ _ _ _, Kd.R_nil _ _ _ _ _, HB3.out⟩
    obtain ⟨rfl, h2⟩ := Prod.mk.inj (HR01.out (HNO.out (readl_none1 HCB.out.symm (by rw [← HW.out]; exact hp1))))
    obtain ⟨rfl, rfl⟩ := Prod.mk.inj h2
    clear hp1 HEV HEV2 HNO
    go_wp2_with fail
    go_ret3
    exact ⟨_, _, rfl, Kd.R_nil _ _ _ _ _, Kd.R_nil _ _ _ _ _, HB3.out⟩
 obtain ⟨rfl, h2⟩ := Prod.mk.inj (HRC.out hC)
 obtain ⟨rfl, rfl⟩ := Prod.mk.inj h2
 clear hsl hsl2
 have hq1 : (C == 0) = false := beq_eq_false_iff_ne.mpr hC
 have hq2 : (C != 0) = true := bne_iff_ne.mpr hC
 have hq3 : decide (C = 0) = false := decide_eq_false hC
 go_wp2_with fail
 go_ret3
 exact ⟨_, _, rfl, Kd.R_nil _ _ _ _ _, Kd.R_nil _ _ _ _ _, HB3.out⟩
def impl_ReadLog.f (a0 : ByteArray) : Option (List S102 × List S55 × Int) := if a0.size ≤ 1048576 then ((impl_ReadCurve.f ((D_readLines33 a0).headD ⟨#[]⟩)).bind fun p => (if p.2 = 0 then (match D_readSteps ((D_readLines33 a0).drop 1) [] with | none => some ([], [], 5) | some o => (impl_ValidSteps.f o).bind fun t => (if t = true then ((impl_logText.f 100 p.1 o).bind fun x => some (if x.toList = a0.toList then (p.1, o, 0) else ([], [], 5))) else some ([], [], 5))) else some ([], [], 5))) else none
theorem impl_ReadLog.calls (a0 : ByteArray) (r1 : List S102) (r2 : List S55) (r3 : Int) (w : World) (h : impl_ReadLog.f a0 = some (r1, r2, r3)) (hT : Tab10 w) :
  Calls Tryz.prog 12 #[.string a0] w fun e w' => ∃ v0_ v1_ : Value, e = .returned (.tuple #[v0_, v1_, .int .i64 r3]) ∧ Kd.R k102 102 w' w.heap.size (fun _ => True) v0_ r1 ∧ Kd.R k55 55 w' w.heap.size (fun _ => True) v1_ r2 ∧ Below w.heap.size w w' := by
 unfold impl_ReadLog.f at h
 by_cases hs : a0.size ≤ 1048576
 ·rw [if_pos hs] at h
  obtain ⟨m, hm⟩ := hT.len
  obtain ⟨l0, rest, hL⟩ : ∃ l0 rest, D_readLines33 a0 = l0 :: rest := by
   cases hl : D_readLines33 a0 with
   | nil => exact absurd hl (readl_ne a0)
   | cons x r => exact ⟨x, r, rfl⟩
  rw [hL] at h
  obtain ⟨⟨P, C⟩, hP, h⟩ := Option.bind_eq_some_iff.mp h
  have hP : impl_ReadCurve.f l0 = some (P, C) := hP
  simp only [List.drop_succ_cons, List.drop_zero] at h
  by_cases hC : C = 0
  ·rw [if_pos hC] at h
   cases hO : D_readSteps rest [] with
   | none =>
    rw [hO] at h
    exact impl_ReadLog.walk a0 hs w m hm hT l0 rest hL P C hP none hO false (fun _ _ e => by cases e) 0 ⟨#[]⟩ (fun _ _ e => by cases e) r1 r2 r3 (fun _ _ e => by cases e) (fun _ _ => (Option.some.inj h).symm) (fun e => absurd hC e)
   | some o =>
    rw [hO] at h
    simp only [] at h
    obtain ⟨t, ht, h⟩ := Option.bind_eq_some_iff.mp h
    cases t with
    | false =>
     rw [if_neg (by simp)] at h
     exact impl_ReadLog.walk a0 hs w m hm hT l0 rest hL P C hP (some o) hO false (fun _ _ e => by cases e; exact ht) 0 ⟨#[]⟩ (fun _ _ _ e => by cases e) r1 r2 r3 (fun _ _ e => by cases e; rw [if_neg (by simp)]; exact (Option.some.inj h).symm) (fun _ e => by cases e) (fun e => absurd hC e)
    | true =>
     rw [if_pos rfl] at h
     obtain ⟨x, hx, h⟩ := Option.bind_eq_some_iff.mp h
     exact impl_ReadLog.walk a0 hs w m hm hT l0 rest hL P C hP (some o) hO true (fun _ _ e => by cases e; exact ht) 100 x (fun _ _ e _ => by cases e; exact hx) r1 r2 r3 (fun _ _ e => by cases e; rw [if_pos rfl]; exact (Option.some.inj h).symm) (fun _ e => by cases e) (fun e => absurd hC e)
  rw [if_neg hC] at h
  exact impl_ReadLog.walk a0 hs w m hm hT l0 rest hL P C hP _ rfl false (fun e => absurd e hC) 0 ⟨#[]⟩ (fun e => absurd e hC) r1 r2 r3 (fun e => absurd e hC) (fun e => absurd e hC) (fun _ => (Option.some.inj h).symm)
 rw [if_neg hs] at h; simp at h


-- NOT PRINTED: function 10 (impl_RedoLog)

/-! ### impl_LogText: function 11 -/
def impl_LogText.f (k : Nat) (l0 : List (S102)) (l1 : List (S55)) : Option (ByteArray) := (impl_ValidCurve.f k l0).bind fun t264 => (if t264 = true then ((impl_ValidSteps.f l1).bind fun t265 => (if t265 = true then ((impl_logText.f k l0 l1).bind fun t266 => (some t266)) else (some (⟨#[]⟩ : ByteArray)))) else (some (⟨#[]⟩ : ByteArray)))
theorem impl_LogText.mono : ∀ a0 a1 k, LeO (impl_LogText.f k a0 a1) (impl_LogText.f (k + 1) a0 a1) := by
 intro a0 a1 k
 unfold impl_LogText.f
 repeat' first
   | (with_reducible exact impl_ValidCurve.mono _ _)
   | (with_reducible exact impl_logText.mono _ _ _)
   | (with_reducible exact LeO.refl _)
   | (with_reducible exact LeO.none _)
   | (with_reducible refine LeO.ite ?_ ?_)
   | (with_reducible refine LeO.bind ?_ (fun _ => ?_))
   | exact impl_ValidCurve.mono _ _
   | exact impl_logText.mono _ _ _
   | exact LeO.none _
   | refine LeO.ite ?_ ?_
   | refine LeO.bind ?_ (fun _ => ?_)
set_option maxHeartbeats 8000000 in
set_option maxRecDepth 100000 in
theorem impl_LogText.calls (k : Nat) (A0 : Option Addr) (c0 : Nat) (l0 : List (S102)) (A1 : Option Addr) (c1 : Nat) (l1 : List (S55)) (r : ByteArray) (w : World) (hr0 : Kd.C k102 w A0 l0.length l0) (hc0 : l0.length ≤ c0) (hr1 : Kd.C k55 w A1 l1.length l1) (hc1 : l1.length ≤ c1) (h : impl_LogText.f k l0 l1 = some r) (hT10 : Tab10 w) :
  Calls Tryz.prog 11 #[.slice A0 l0.length c0, .slice A1 l1.length c1] w fun e w' => e = .returned (.string r) ∧ Below w.heap.size w w' := by
 have HT10 := Aside0.mk hT10
 clear hT10
 have HR0 := Aside0.mk hr0
 have HC0 := Aside0.mk hc0
 clear hr0 hc0
 have HR1 := Aside0.mk hr1
 have HC1 := Aside0.mk hc1
 clear hr1 hc1
 have HB := Aside0.mk (Below.refl w.heap.size w)
 have H : ((impl_ValidCurve.f k l0).bind fun t264 => (if t264 = true then ((impl_ValidSteps.f l1).bind fun t265 => (if t265 = true then ((impl_logText.f k l0 l1).bind fun t266 => (some t266)) else (some (⟨#[]⟩ : ByteArray)))) else (some (⟨#[]⟩ : ByteArray)))) = some r := h
 clear h
 replace H := Option.bind_eq_some_iff.mp H
 obtain ⟨t264, A30, H⟩ := H
 replace H : (if t264 = true then ((impl_ValidSteps.f l1).bind fun t265 => (if t265 = true then ((impl_logText.f k l0 l1).bind fun t266 => (some t266)) else (some (⟨#[]⟩ : ByteArray)))) else (some (⟨#[]⟩ : ByteArray))) = some r := H
 have A3 := Aside0.mk A30
 clear A30
 by_cases c4 : t264 = true
 ·subst c4
  have H1 : ((impl_ValidSteps.f l1).bind fun t265 => (if t265 = true then ((impl_logText.f k l0 l1).bind fun t266 => (some t266)) else (some (⟨#[]⟩ : ByteArray)))) = some r := by rw [if_pos rfl] at H; exact H
  clear H
  have H := H1
  clear H1
  replace H := Option.bind_eq_some_iff.mp H
  obtain ⟨t265, A50, H⟩ := H
  replace H : (if t265 = true then ((impl_logText.f k l0 l1).bind fun t266 => (some t266)) else (some (⟨#[]⟩ : ByteArray))) = some r := H
  have A5 := Aside0.mk A50
  clear A50
  by_cases c6 : t265 = true
  ·subst c6
   have H1 : ((impl_logText.f k l0 l1).bind fun t266 => (some t266)) = some r := by rw [if_pos rfl] at H; exact H
   clear H
   have H := H1
   clear H1
   replace H := Option.bind_eq_some_iff.mp H
   obtain ⟨t266, A70, H⟩ := H
   replace H : (some t266) = some r := H
   have A7 := Aside0.mk A70
   clear A70
   obtain rfl := Option.some.inj H
   go_enter Tryz.func11, Tryz.ntmps11
   go_wp2_with (first | ((with_reducible refine gate_callee (f := 35) rfl ?_); refine goesL_ (some 6) rfl rfl Tryz.func35 (by kernel_rfl) rfl #[.slice A0 l0.length c0] rfl (by (try simp only [List.map_toArray, List.map_cons, List.map_nil]); first | done | rfl | (simp only [List.length_drop, List.length_take]; rfl)) ?_; (with_reducible refine (impl_ValidCurve.calls k _ _ l0 true _ ?side1 ?side2 A3.out).mono ?_); (case side1 => repeat (first | exact HR0.out | (with_reducible refine Kd.C_alloc ?_ _) | (with_reducible refine Kd.C_drewN ?_ _) | (with_reducible refine Kd.C_drew ?_))); (case side2 => exact HC0.out); rintro e w8 ⟨rfl, hb⟩; refine ⟨_, rfl, ?_⟩; have n0_ := Aside0.mk (below_step HB.out hb); clear HB; have HB := n0_; clear n0_; (try clear hb); (try clear hb2); (try clear hk); (try clear hi)) | (go_at_call 23; (with_reducible refine (impl_ValidSteps.calls _ _ l1 true _ ?side1 ?side2 A5.out).mono ?_); (case side1 => repeat (first | exact (Kd.C_below HR1.out HB.out) | (with_reducible refine Kd.C_alloc ?_ _) | (with_reducible refine Kd.C_drewN ?_ _) | (with_reducible refine Kd.C_drew ?_))); (case side2 => exact HC1.out); rintro e w9 ⟨rfl, hb⟩; have n0_ := Aside0.mk (below_step HB.out hb); clear HB; have HB := n0_; clear n0_; (try clear hb); (try clear hb2); (try clear hk); (try clear hi)) | ((with_reducible refine gate_callee (f := 41) rfl ?_); refine goesL_ (some 15) rfl rfl Tryz.func41 (by kernel_rfl) rfl #[.slice A0 l0.length c0, .slice A1 l1.length c1] rfl (by (try simp only [List.map_toArray, List.map_cons, List.map_nil]); first | done | rfl | (simp only [List.length_drop, List.length_take]; rfl)) ?_; (with_reducible refine (impl_logText.calls k _ _ l0 _ _ l1 t266 _ ?side1 ?side2 ?side3 ?side4 A7.out (by repeat (first | exact HT10.out.below HB.out | exact HT10.out | exact HT10.out.below (by repeat (first | (with_reducible first | exact HB.out | apply below_alloc | apply pw_below_drewN | apply below_drew1) | refine below_set ?_ (Aside0.out (by assumption)) | exact HB.out)) | refine Tab10.alloc ?_ _ | refine Tab10.drewN ?_ _ | refine Tab10.drew ?_))).mono ?_); (case side1 => repeat (first | exact (Kd.C_below HR0.out HB.out) | (with_reducible refine Kd.C_alloc ?_ _) | (with_reducible refine Kd.C_drewN ?_ _) | (with_reducible refine Kd.C_drew ?_))); (case side2 => exact HC0.out); (case side3 => repeat (first | exact (Kd.C_below HR1.out HB.out) | (with_reducible refine Kd.C_alloc ?_ _) | (with_reducible refine Kd.C_drewN ?_ _) | (with_reducible refine Kd.C_drew ?_))); (case side4 => exact HC1.out); rintro e w10 ⟨rfl, hb⟩; refine ⟨_, rfl, ?_⟩; have n0_ := Aside0.mk (below_step HB.out hb); clear HB; have HB := n0_; clear n0_; (try clear hb); (try clear hb2); (try clear hk); (try clear hi)))
   go_ret
   exact ⟨by first | rfl | (simp [errW_none, errW_some] <;> rfl) | (simp [*, errW_none, errW_some] <;> rfl), by repeat (first | (with_reducible first | exact HB.out | apply below_alloc | apply pw_below_drewN | apply below_drew1) | exact HB.out)⟩
  replace c6 := Bool.eq_false_iff.mpr c6
  subst c6
  have H1 : (some (⟨#[]⟩ : ByteArray)) = some r := by rw [if_neg (show ¬ (false = true) by decide)] at H; exact H
  clear H
  have H := H1
  clear H1
  obtain rfl := Option.some.inj H
  go_enter Tryz.func11, Tryz.ntmps11
  go_wp2_with (first | ((with_reducible refine gate_callee (f := 35) rfl ?_); refine goesL_ (some 6) rfl rfl Tryz.func35 (by kernel_rfl) rfl #[.slice A0 l0.length c0] rfl (by (try simp only [List.map_toArray, List.map_cons, List.map_nil]); first | done | rfl | (simp only [List.length_drop, List.length_take]; rfl)) ?_; (with_reducible refine (impl_ValidCurve.calls k _ _ l0 true _ ?side1 ?side2 A3.out).mono ?_); (case side1 => repeat (first | exact HR0.out | (with_reducible refine Kd.C_alloc ?_ _) | (with_reducible refine Kd.C_drewN ?_ _) | (with_reducible refine Kd.C_drew ?_))); (case side2 => exact HC0.out); rintro e w11 ⟨rfl, hb⟩; refine ⟨_, rfl, ?_⟩; have n0_ := Aside0.mk (below_step HB.out hb); clear HB; have HB := n0_; clear n0_; (try clear hb); (try clear hb2); (try clear hk); (try clear hi)) | (go_at_call 23; (with_reducible refine (impl_ValidSteps.calls _ _ l1 false _ ?side1 ?side2 A5.out).mono ?_); (case side1 => repeat (first | exact (Kd.C_below HR1.out HB.out) | (with_reducible refine Kd.C_alloc ?_ _) | (with_reducible refine Kd.C_drewN ?_ _) | (with_reducible refine Kd.C_drew ?_))); (case side2 => exact HC1.out); rintro e w12 ⟨rfl, hb⟩; have n0_ := Aside0.mk (below_step HB.out hb); clear HB; have HB := n0_; clear n0_; (try clear hb); (try clear hb2); (try clear hk); (try clear hi)))
  go_ret
  exact ⟨by first | rfl | (simp [errW_none, errW_some] <;> rfl) | (simp [*, errW_none, errW_some] <;> rfl), by repeat (first | (with_reducible first | exact HB.out | apply below_alloc | apply pw_below_drewN | apply below_drew1) | exact HB.out)⟩
 replace c4 := Bool.eq_false_iff.mpr c4
 subst c4
 have H1 : (some (⟨#[]⟩ : ByteArray)) = some r := by rw [if_neg (show ¬ (false = true) by decide)] at H; exact H
 clear H
 have H := H1
 clear H1
 obtain rfl := Option.some.inj H
 go_enter Tryz.func11, Tryz.ntmps11
 go_wp2_with (first | ((with_reducible refine gate_callee (f := 35) rfl ?_); refine goesL_ (some 6) rfl rfl Tryz.func35 (by kernel_rfl) rfl #[.slice A0 l0.length c0] rfl (by (try simp only [List.map_toArray, List.map_cons, List.map_nil]); first | done | rfl | (simp only [List.length_drop, List.length_take]; rfl)) ?_; (with_reducible refine (impl_ValidCurve.calls k _ _ l0 false _ ?side1 ?side2 A3.out).mono ?_); (case side1 => repeat (first | exact HR0.out | (with_reducible refine Kd.C_alloc ?_ _) | (with_reducible refine Kd.C_drewN ?_ _) | (with_reducible refine Kd.C_drew ?_))); (case side2 => exact HC0.out); rintro e w13 ⟨rfl, hb⟩; refine ⟨_, rfl, ?_⟩; have n0_ := Aside0.mk (below_step HB.out hb); clear HB; have HB := n0_; clear n0_; (try clear hb); (try clear hb2); (try clear hk); (try clear hi)))
 go_ret
 exact ⟨by first | rfl | (simp [errW_none, errW_some] <;> rfl) | (simp [*, errW_none, errW_some] <;> rfl), by repeat (first | (with_reducible first | exact HB.out | apply below_alloc | apply pw_below_drewN | apply below_drew1) | exact HB.out)⟩

-- NOT PRINTED: function 13 (impl_TimesOn)

-- NOT PRINTED: function 14 (spec_TimesOn)

-- NOT PRINTED: function 15 (impl_LightOn)

-- NOT PRINTED: function 16 (spec_LightOn)

-- NOT PRINTED: function 22 (impl_ValidPrint)

-- NOT PRINTED: function 51 (slices_Min_int16_int16)

-- NOT PRINTED: function 52 (slices_Max_int16_int16)

-- NOT PRINTED: function 17 (impl_RangeOf)

/-! ### spec_l02Same: function 53 -/
def spec_l02Same.l0 : Nat → List (S102) → List (S102) → Int → Option (Bool)
 | 0, _, _, _ => none
 | k + 1, x0, x1, x5 => if x5 < (x0.length : Int) then (if 0 ≤ x5 then (if x5 < (x1.length : Int) then (if (!(((rd_T102 x0 x5).f0) == ((rd_T102 x1 x5).f0)) || (!(((rd_T102 x0 x5).f1) == ((rd_T102 x1 x5).f1)))) = true then (some false) else (spec_l02Same.l0 k x0 x1 (wrap64 (x5 + 1)))) else (none)) else (none)) else (some true)
def spec_l02Same.f (k : Nat) (l0 : List (S102)) (l1 : List (S102)) : Option (Bool) := if (l0.length : Int) = (l1.length : Int) then (spec_l02Same.l0 k l0 l1 0) else (some false)
theorem spec_l02Same.mono_l : ∀ k, (∀ y0 y1 y2, LeO (spec_l02Same.l0 k y0 y1 y2) (spec_l02Same.l0 (k + 1) y0 y1 y2))
 | 0 => fun _ _ _ r h => by simp [spec_l02Same.l0] at h
 | k + 1 => by
  have ih0 := spec_l02Same.mono_l k
  intro y0 y1 y2
  unfold spec_l02Same.l0
  repeat' first
  | (with_reducible exact ih0 _ _ _)
  | (with_reducible exact LeO.refl _)
  | (with_reducible exact LeO.none _)
  | (with_reducible refine LeO.ite ?_ ?_)
  | (with_reducible refine LeO.bind ?_ (fun _ => ?_))
  | exact ih0 _ _ _
  | exact LeO.none _
  | refine LeO.ite ?_ ?_
  | refine LeO.bind ?_ (fun _ => ?_)
theorem spec_l02Same.mono : ∀ a0 a1 k, LeO (spec_l02Same.f k a0 a1) (spec_l02Same.f (k + 1) a0 a1) := by
 intro a0 a1 k
 have ih0 := spec_l02Same.mono_l k
 unfold spec_l02Same.f
 repeat' first
   | (with_reducible exact ih0 _ _ _)
   | (with_reducible exact LeO.refl _)
   | (with_reducible exact LeO.none _)
   | (with_reducible refine LeO.ite ?_ ?_)
   | (with_reducible refine LeO.bind ?_ (fun _ => ?_))
   | exact ih0 _ _ _
   | exact LeO.none _
   | refine LeO.ite ?_ ?_
   | refine LeO.bind ?_ (fun _ => ?_)
set_option maxHeartbeats 8000000 in
set_option maxRecDepth 100000 in
theorem spec_l02Same.calls (k : Nat) (A0 : Option Addr) (c0 : Nat) (l0 : List (S102)) (A1 : Option Addr) (c1 : Nat) (l1 : List (S102)) (r : Bool) (w : World) (hr0 : Kd.C k102 w A0 l0.length l0) (hc0 : l0.length ≤ c0) (hr1 : Kd.C k102 w A1 l1.length l1) (hc1 : l1.length ≤ c1) (h : spec_l02Same.f k l0 l1 = some r) :
  Calls Tryz.prog 53 #[.slice A0 l0.length c0, .slice A1 l1.length c1] w fun e w' => e = .returned (.bool r) ∧ Drawn0 w w' := by
 have hu102 := Tryz.underlying102
 have HR0 := Aside0.mk hr0
 have HC0 := Aside0.mk hc0
 clear hr0 hc0
 have HR1 := Aside0.mk hr1
 have HC1 := Aside0.mk hc1
 clear hr1 hc1
 have H : (if (l0.length : Int) = (l1.length : Int) then (spec_l02Same.l0 k l0 l1 0) else (some false)) = some r := h
 clear h
 by_cases c3 : (l0.length : Int) = (l1.length : Int)
 ·rw [if_pos c3] at H
  have c3b0 : ((l0.length : Int) == (l1.length : Int)) = true := beq_iff_eq.mpr c3
  have c3b1 : ((l0.length : Int) != (l1.length : Int)) = false := bne_eq_false_iff_eq.mpr c3
  have c3b2 : (l0.length == l1.length) = true := by first | simpa using c3 | (simp at c3 ⊢; omega)
  clear c3
  have H' := Aside0.mk H
  clear H
  go_enter Tryz.func53, Tryz.ntmps53
  go_wp2
  repeat (go_quiet (fail); try go_wp2)
  go_loopg [5] k (fun kq v5 w' => ∃ (x5_1 : Int), v5 = .int .i64 x5_1 ∧ Aside0 (spec_l02Same.l0 kq l0 l1 x5_1 = some r) ∧ Aside0 (kq ≤ k) ∧ Drawn0 w w')
  case atStart => exact ⟨(0), (by first | rfl | (simp; done) | (simp [*]; done)), H', ⟨Nat.le_refl _⟩, by repeat (first | exact Drawn0.refl _ | apply Drawn0.step)⟩
  clear H'
  try clear c1
  try clear p2
  try clear c3
  try clear c3b0
  try clear c3b1
  try clear c3b2
  obtain ⟨x5_1, rfl, HA, HK1, ⟨m1, rfl⟩⟩ := hrel
  cases gk with
  | zero => exact absurd HA.out (by simp [spec_l02Same.l0])
  | succ k1 =>
   have H := HA.out
   clear HA
   simp only [spec_l02Same.l0] at H
   by_cases c4 : x5_1 < (l0.length : Int)
   ·rw [if_pos c4] at H
    have c4b0 : decide (x5_1 < (l0.length : Int)) = true := decide_eq_true c4
    clear c4
    by_cases c5 : 0 ≤ x5_1
    ·rw [if_pos c5] at H
     have c5b0 : decide (0 ≤ x5_1) = true := decide_eq_true c5
     clear c5
     by_cases c6 : x5_1 < (l1.length : Int)
     ·rw [if_pos c6] at H
      have c6b0 : decide (x5_1 < (l1.length : Int)) = true := decide_eq_true c6
      clear c6
      by_cases c7 : (!(((rd_T102 l0 x5_1).f0) == ((rd_T102 l1 x5_1).f0)) || (!(((rd_T102 l0 x5_1).f1) == ((rd_T102 l1 x5_1).f1)))) = true
      ·rw [if_pos c7] at H
       have c7b0 : (!(((rd_T102 l0 x5_1).f0) == ((rd_T102 l1 x5_1).f0)) || (!(((rd_T102 l0 x5_1).f1) == ((rd_T102 l1 x5_1).f1)))) = true := c7
       clear c7
       obtain rfl := Option.some.inj H
       have p267 : 0 ≤ (x5_1 : Int) := of_decide_eq_true (by first | (with_reducible assumption) | assumption)
       have q267 : x5_1 < (l0.length : Int) := of_decide_eq_true (by first | (with_reducible assumption) | assumption)
       obtain ⟨ad267, e267, hx267_0, hx267_1⟩ := at_T102 HR0.out x5_1 p267 q267
       cases e267
       replace p267 := eq_true p267
       replace q267 := eq_true q267
       have p268 : 0 ≤ (x5_1 : Int) := of_decide_eq_true (by first | (with_reducible assumption) | assumption)
       have q268 : x5_1 < (l1.length : Int) := of_decide_eq_true (by first | (with_reducible assumption) | assumption)
       obtain ⟨ad268, e268, hx268_0, hx268_1⟩ := at_T102 HR1.out x5_1 p268 q268
       cases e268
       replace p268 := eq_true p268
       replace q268 := eq_true q268
       go_wp2
       repeat (go_quiet (fail); try go_wp2)
       go_ret
       exact ⟨by first | rfl | (simp; done) | (simp [*]; done), by repeat (first | exact Drawn0.refl _ | apply Drawn0.step)⟩
      rw [if_neg c7] at H
      have c7b0 : (!(((rd_T102 l0 x5_1).f0) == ((rd_T102 l1 x5_1).f0)) || (!(((rd_T102 l0 x5_1).f1) == ((rd_T102 l1 x5_1).f1)))) = false := by simpa using c7
      clear c7
      have H' := Aside0.mk H
      clear H
      have p267 : 0 ≤ (x5_1 : Int) := of_decide_eq_true (by first | (with_reducible assumption) | assumption)
      have q267 : x5_1 < (l0.length : Int) := of_decide_eq_true (by first | (with_reducible assumption) | assumption)
      obtain ⟨ad267, e267, hx267_0, hx267_1⟩ := at_T102 HR0.out x5_1 p267 q267
      cases e267
      replace p267 := eq_true p267
      replace q267 := eq_true q267
      have p268 : 0 ≤ (x5_1 : Int) := of_decide_eq_true (by first | (with_reducible assumption) | assumption)
      have q268 : x5_1 < (l1.length : Int) := of_decide_eq_true (by first | (with_reducible assumption) | assumption)
      obtain ⟨ad268, e268, hx268_0, hx268_1⟩ := at_T102 HR1.out x5_1 p268 q268
      cases e268
      replace p268 := eq_true p268
      replace q268 := eq_true q268
      go_wp2
      repeat (go_quiet (fail); try go_wp2)
      go_roundg k1
      case measure => have := HK1.out; omega
      case rel => exact ⟨(wrap64 (x5_1 + 1)), (by first | rfl | (simp; done) | (simp [*]; done)), H', ⟨by have := HK1.out; omega⟩, by repeat (first | exact Drawn0.refl _ | apply Drawn0.step)⟩
     rw [if_neg c6] at H
     exact absurd H (by simp)
    rw [if_neg c5] at H
    exact absurd H (by simp)
   rw [if_neg c4] at H
   have c4b0 : decide (x5_1 < (l0.length : Int)) = false := decide_eq_false c4
   clear c4
   obtain rfl := Option.some.inj H
   go_wp2
   repeat (go_quiet (fail); try go_wp2)
   go_ret
   exact ⟨by first | rfl | (simp; done) | (simp [*]; done), by repeat (first | exact Drawn0.refl _ | apply Drawn0.step)⟩
 rw [if_neg c3] at H
 have c3b0 : ((l0.length : Int) == (l1.length : Int)) = false := beq_eq_false_iff_ne.mpr c3
 have c3b1 : ((l0.length : Int) != (l1.length : Int)) = true := bne_iff_ne.mpr c3
 have c3b2 : (l0.length == l1.length) = false := by first | simpa using c3 | (simp at c3 ⊢; omega)
 obtain rfl := Option.some.inj H
 go_enter Tryz.func53, Tryz.ntmps53
 go_wp2
 repeat (go_quiet (fail); try go_wp2)
 go_ret
 exact ⟨by first | rfl | (simp; done) | (simp [*]; done), by repeat (first | exact Drawn0.refl _ | apply Drawn0.step)⟩

/-! ### spec_SameCurve: function 18 -/
def spec_SameCurve.f (k : Nat) (l0 : List (S102)) (l1 : List (S102)) : Option (Bool) := (spec_l02Same.f k l0 l1).bind fun t269 => (some t269)
theorem spec_SameCurve.mono : ∀ a0 a1 k, LeO (spec_SameCurve.f k a0 a1) (spec_SameCurve.f (k + 1) a0 a1) := by
 intro a0 a1 k
 unfold spec_SameCurve.f
 repeat' first
   | (with_reducible exact spec_l02Same.mono _ _ _)
   | (with_reducible exact LeO.refl _)
   | (with_reducible exact LeO.none _)
   | (with_reducible refine LeO.ite ?_ ?_)
   | (with_reducible refine LeO.bind ?_ (fun _ => ?_))
   | exact spec_l02Same.mono _ _ _
   | exact LeO.none _
   | refine LeO.ite ?_ ?_
   | refine LeO.bind ?_ (fun _ => ?_)
set_option maxHeartbeats 8000000 in
set_option maxRecDepth 100000 in
theorem spec_SameCurve.calls (k : Nat) (A0 : Option Addr) (c0 : Nat) (l0 : List (S102)) (A1 : Option Addr) (c1 : Nat) (l1 : List (S102)) (r : Bool) (w : World) (hr0 : Kd.C k102 w A0 l0.length l0) (hc0 : l0.length ≤ c0) (hr1 : Kd.C k102 w A1 l1.length l1) (hc1 : l1.length ≤ c1) (h : spec_SameCurve.f k l0 l1 = some r) :
  Calls Tryz.prog 18 #[.slice A0 l0.length c0, .slice A1 l1.length c1] w fun e w' => e = .returned (.bool r) ∧ Drawn0 w w' := by
 have HR0 := Aside0.mk hr0
 have HC0 := Aside0.mk hc0
 clear hr0 hc0
 have HR1 := Aside0.mk hr1
 have HC1 := Aside0.mk hc1
 clear hr1 hc1
 have H : ((spec_l02Same.f k l0 l1).bind fun t269 => (some t269)) = some r := h
 clear h
 replace H := Option.bind_eq_some_iff.mp H
 obtain ⟨t269, A30, H⟩ := H
 replace H : (some t269) = some r := H
 have A3 := Aside0.mk A30
 clear A30
 obtain rfl := Option.some.inj H
 go_enter Tryz.func18, Tryz.ntmps18
 go_wp2_with (first | ((with_reducible refine gate_callee (f := 53) rfl ?_); refine goesL_ (some 7) rfl rfl Tryz.func53 (by kernel_rfl) rfl #[.slice A0 l0.length c0, .slice A1 l1.length c1] rfl (by (try simp only [List.map_toArray, List.map_cons, List.map_nil]); first | done | rfl | (simp only [List.length_drop, List.length_take]; rfl)) ?_; (with_reducible refine (spec_l02Same.calls k _ _ l0 _ _ l1 t269 _ ?side1 ?side2 ?side3 ?side4 A3.out).mono ?_); (case side1 => repeat (first | exact HR0.out | (with_reducible refine Kd.C_alloc ?_ _) | (with_reducible refine Kd.C_drewN ?_ _) | (with_reducible refine Kd.C_drew ?_))); (case side2 => exact HC0.out); (case side3 => repeat (first | exact HR1.out | (with_reducible refine Kd.C_alloc ?_ _) | (with_reducible refine Kd.C_drewN ?_ _) | (with_reducible refine Kd.C_drew ?_))); (case side4 => exact HC1.out); rintro e w' ⟨rfl, ⟨nd, rfl⟩⟩; refine ⟨_, rfl, ?_⟩))
 go_ret
 exact ⟨by first | rfl | (simp; done) | (simp [*]; done), by repeat (first | exact Drawn0.refl _ | apply Drawn0.step)⟩

end Go.Proofs.YtjonocgmofcieaaGreatDoor.Q
