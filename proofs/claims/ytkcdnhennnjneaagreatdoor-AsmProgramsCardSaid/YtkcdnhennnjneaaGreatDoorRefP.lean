import Derived.Test.YtkcdnhennnjneaaGreatDoorRefGaq
import Derived.Test.YtkcdnhennnjneaaGreatDoorRefGbq
import Derived.Test.YtkcdnhennnjneaaGreatDoorRefGcq
import Derived.Test.YtkcdnhennnjneaaGreatDoorRefGdq
import Derived.Test.YtkcdnhennnjneaaGreatDoorREncQ
import Derived.Below
import Derived.Deep.Draws
import Derived.Deep.AppendLies
import Derived.Maps.AppendAt
import Derived.OwnWalk
import Derived.Laws.BytesArg
import Derived.Laws.MakeOwn
import Derived.Laws.OwnMore
import Derived.Deep.OwnRows
import Derived.Tactics
import Derived.Lib.ConvBytes
import Derived.Laws.Slices
import Derived.WalkKit
import Derived.KernelRfl
import Derived.RowKit3
import Derived.Deep.LoopGhost
import Derived.Deep.QuietTactic
import Derived.BigQuiet
import Derived.WideLaws
import Derived.Deep.DeepCutAuto
import Derived.Deep.CutBlock
import Derived.Deep.RegionHeld3
import Derived.Laws.Rows
import Derived.Lib.AppendStr
import Derived.ArgAppend
import Derived.Laws.IdiomCopy
import Derived.OrdersHeld
import Derived.Laws.BitsLemmas
import Derived.RowKit
import Derived.Lib.Hide
import Derived.Laws.BitsAllLaws
import Derived.WalkLawsBesides
import Derived.WalkSpells
import Derived.LaidEql
namespace Go.Proofs.YtkcdnhennnjneaaGreatDoor
open Go.RowKit Go.Shelf Go.RowKit
set_option maxRecDepth 100000
set_option linter.unusedVariables false
set_option linter.unusedSimpArgs false

set_option maxHeartbeats 4000000 in
theorem rparse_miss (s : List UInt8) (hs : s.length ≤ 70000) (hf : findT (partsT s).1 = none) (w : World) : Calls Tryz.prog 19 #[.string (bs s)] w fun e w' => e = .returned (.tuple #[zIns, .int .i64 3]) ∧ Below w.heap.size w w' := by
  have PA := Lib.hid (fun w => rparts_any s hs w)
  have FH := Lib.hid (fun w => rfind_miss (bs (partsT s).1) (fun j hj e => by
    have h1 := List.find?_eq_none.1 hf j (List.mem_range.2 hj)
    rw [e, bs_list] at h1
    simp at h1) w)
  have SH := Lib.hid (fun w => rshape_any 0 (by decide) w)
  rw [show bs (shapeK (kN 0)) = (⟨#[100, 110]⟩ : ByteArray) from by decide] at SH
  generalize bs (partsT s).1 = NMB at PA FH
  generalize (partsT s).2 = L at PA
  have r0 := heap_alloc_new w (.cells #[.int .i64 0, .int .i64 0, .int .i64 0, .int .i64 0, .int .i64 0, .int .i64 0] 34)
  have b0 : Below w.heap.size w (w.alloc (.cells #[.int .i64 0, .int .i64 0, .int .i64 0, .int .i64 0, .int .i64 0, .int .i64 0] 34)) := (Below.refl _ _).alloc (Nat.le_refl _) _
  have B0 := Lib.hid b0
  obtain ⟨R, hR⟩ : ∃ R, R = w.heap.size := ⟨_, rfl⟩
  rw [← hR] at r0
  have R0 := Lib.hid r0
  have hwR : w.heap.size ≤ R := by omega
  have HWR2 := Lib.hid hwR
  obtain ⟨S, hS⟩ : ∃ S, S = bs s := ⟨_, rfl⟩
  rw [← hS] at PA ⊢
  clear r0 b0 hf hs hwR hS
  go_enter Tryz.func19, Tryz.ntmps19
  go_upto_region 1 with (fail)
  rw [← hR]
  clear hR
  generalize World.alloc w _ = w0 at *
  go_upto_region 4 with (first | (go_at_call 28; refine (PA.out _).mono ?_; rintro e w1 ⟨⟨v, rfl, hrow⟩, hb⟩; (obtain ⟨A, cap, rfl, hg⟩ := rowS_all hrow); clear hrow hg; have B1 := Lib.hid (B0.out.trans (hb.mono B0.out.size)); have R1 := Lib.hid ((hb.block _ (heap_lt R0.out)).trans R0.out); clear hb) | (go_at_call 29; refine (FH.out _).mono ?_; rintro e w2 ⟨rfl, hb⟩; have B2 := Lib.hid (B1.out.trans (hb.mono B1.out.size)); have R2 := Lib.hid ((hb.block _ (heap_lt R1.out)).trans R1.out); clear hb) | (go_at_call 41; refine (SH.out _).mono ?_; rintro e w' ⟨rfl, rfl⟩))
  have q0 : w2.cell? ⟨R, 0, none⟩ = some (.int .i64 0) := cell_of_row _ _ _ _ _ _ R2.out
  have q1 : w2.cell? ⟨R, 1, none⟩ = some (.int .i64 0) := cell_of_row _ _ _ _ _ _ R2.out
  have q2 : w2.cell? ⟨R, 2, none⟩ = some (.int .i64 0) := cell_of_row _ _ _ _ _ _ R2.out
  have q3 : w2.cell? ⟨R, 3, none⟩ = some (.int .i64 0) := cell_of_row _ _ _ _ _ _ R2.out
  have q4 : w2.cell? ⟨R, 4, none⟩ = some (.int .i64 0) := cell_of_row _ _ _ _ _ _ R2.out
  have q5 : w2.cell? ⟨R, 5, none⟩ = some (.int .i64 0) := cell_of_row _ _ _ _ _ _ R2.out
  have qf : ∀ j, w2.frozen? ⟨R, j, none⟩ = false := (fun j => frozen_of_row _ _ _ _ _ R2.out)
  go_wp2
  refine bodyPost_ret (v := .tuple #[zIns, .int .i64 3]) ?_ rfl ⟨rfl, ?_⟩
  · simp [results, Tryz.results19, go_sem, zIns, *]; try exact rfl
  · repeat' (first | (with_reducible exact B2.out) | (with_reducible refine Below.setCell (p := ⟨R, _, none⟩) ?_ HWR2.out _))
set_option maxHeartbeats 4000000 in
theorem rparse_len (s : List UInt8) (hs : s.length ≤ 70000) (op : Nat) (hop : op < 57) (hf : findT (partsT s).1 = some op) (hl : (partsT s).2.length ≠ (shapeK (kN op)).length) (w : World) : Calls Tryz.prog 19 #[.string (bs s)] w fun e w' => e = .returned (.tuple #[zIns, .int .i64 3]) ∧ Below w.heap.size w w' := by
  have PA := Lib.hid (fun w => rparts_any s hs w)
  have FH := Lib.hid (fun w => rfind_hit (bs (partsT s).1) op hop (by rw [bs_list, (find_some hf).2]) w)
  have SH := Lib.hid (fun w => rshape_any op hop w)
  have hfz : (bs (shapeK (kN op))).size = (shapeK (kN op)).length := bs_size _
  generalize bs (partsT s).1 = NMB at PA FH
  generalize (partsT s).2 = L at PA hl
  rw [← hfz] at hl
  generalize bs (shapeK (kN op)) = F at *
  have hlI : ((L.length : Int) != (F.size : Int)) = true := by simp; omega
  have hlJ : ((L.length : Int) == (F.size : Int)) = false := by rw [beq_eq_false_iff_ne]; omega
  have r0 := heap_alloc_new w (.cells #[.int .i64 0, .int .i64 0, .int .i64 0, .int .i64 0, .int .i64 0, .int .i64 0] 34)
  have b0 : Below w.heap.size w (w.alloc (.cells #[.int .i64 0, .int .i64 0, .int .i64 0, .int .i64 0, .int .i64 0, .int .i64 0] 34)) := (Below.refl _ _).alloc (Nat.le_refl _) _
  have B0 := Lib.hid b0
  obtain ⟨R, hR⟩ : ∃ R, R = w.heap.size := ⟨_, rfl⟩
  rw [← hR] at r0
  have R0 := Lib.hid r0
  have hwR : w.heap.size ≤ R := by omega
  have HWR2 := Lib.hid hwR
  obtain ⟨S, hS⟩ : ∃ S, S = bs s := ⟨_, rfl⟩
  rw [← hS] at PA ⊢
  clear r0 b0 hf hs hop hwR hS hfz
  go_enter Tryz.func19, Tryz.ntmps19
  go_upto_region 1 with (fail)
  rw [← hR]
  clear hR
  generalize World.alloc w _ = w0 at *
  go_upto_region 4 with (first | (go_at_call 28; refine (PA.out _).mono ?_; rintro e w1 ⟨⟨v, rfl, hrow⟩, hb⟩; (obtain ⟨A, cap, rfl, hg⟩ := rowS_all hrow); clear hrow hg; have B1 := Lib.hid (B0.out.trans (hb.mono B0.out.size)); have R1 := Lib.hid ((hb.block _ (heap_lt R0.out)).trans R0.out); clear hb) | (go_at_call 29; refine (FH.out _).mono ?_; rintro e w2 ⟨rfl, hb⟩; have B2 := Lib.hid (B1.out.trans (hb.mono B1.out.size)); have R2 := Lib.hid ((hb.block _ (heap_lt R1.out)).trans R1.out); clear hb) | (go_at_call 41; refine (SH.out _).mono ?_; rintro e w' ⟨rfl, rfl⟩))
  have q0 : w2.cell? ⟨R, 0, none⟩ = some (.int .i64 0) := cell_of_row _ _ _ _ _ _ R2.out
  have q1 : w2.cell? ⟨R, 1, none⟩ = some (.int .i64 0) := cell_of_row _ _ _ _ _ _ R2.out
  have q2 : w2.cell? ⟨R, 2, none⟩ = some (.int .i64 0) := cell_of_row _ _ _ _ _ _ R2.out
  have q3 : w2.cell? ⟨R, 3, none⟩ = some (.int .i64 0) := cell_of_row _ _ _ _ _ _ R2.out
  have q4 : w2.cell? ⟨R, 4, none⟩ = some (.int .i64 0) := cell_of_row _ _ _ _ _ _ R2.out
  have q5 : w2.cell? ⟨R, 5, none⟩ = some (.int .i64 0) := cell_of_row _ _ _ _ _ _ R2.out
  have qf : ∀ j, w2.frozen? ⟨R, j, none⟩ = false := (fun j => frozen_of_row _ _ _ _ _ R2.out)
  go_wp2
  refine bodyPost_ret (v := .tuple #[zIns, .int .i64 3]) ?_ rfl ⟨rfl, ?_⟩
  · simp [results, Tryz.results19, go_sem, zIns, *]; try exact rfl
  · repeat' (first | (with_reducible exact B2.out) | (with_reducible refine Below.setCell (p := ⟨R, _, none⟩) ?_ HWR2.out _))

theorem shape_k : shapeK 85 = [100, 110] ∧ shapeK 74 = [100, 110] ∧ shapeK 73 = [100, 115, 110] ∧ shapeK 70 = [100, 115, 110] ∧ shapeK 72 = [100, 115, 110] ∧ shapeK 76 = [100, 109] ∧ shapeK 66 = [115, 116, 110] ∧ shapeK 83 = [116, 109] ∧ shapeK 82 = [100, 115, 116] ∧ shapeK 67 = [100, 99, 122] ∧ shapeK 78 = [] := by decide
theorem len_two {l : List (List UInt8)} (h : l.length = 2) : ∃ x y, l = [x, y] := by
  match l, h with
  | [x, y], _ => exact ⟨x, y, rfl⟩
theorem len_three {l : List (List UInt8)} (h : l.length = 3) : ∃ x y z, l = [x, y, z] := by
  match l, h with
  | [x, y, z], _ => exact ⟨x, y, z, rfl⟩
/-- ref04.Parse -/
theorem rparse4_any (s : List UInt8) (hs : s.length ≤ 70000) (w : World) : Calls Tryz.prog 19 #[.string (bs s)] w fun e w' => e = .returned (.tuple #[insV (parseT s), .int .i64 (insN (parseT s))]) ∧ Below w.heap.size w w' := by
  cases hf : findT (partsT s).1 with
  | none =>
    have hp : parseT s = none := by unfold parseT; rw [hf]
    rw [hp]
    exact rparse_miss s hs hf w
  | some op =>
    have hop := (find_some hf).1
    by_cases hl : (partsT s).2.length = (shapeK (kN op)).length
    · obtain ⟨s1, s2, s3, s4, s5, s6, s7, s8, s9, s10, s11⟩ := shape_k
      rcases k_cases op hop with k | k | k | k | k | k | k | k | k
      · rw [k, s1] at hl
        obtain ⟨x, y, h⟩ := len_two hl
        exact rparse_U s hs op hop k hf x y h w
      · rw [k, s2] at hl
        obtain ⟨x, y, h⟩ := len_two hl
        exact rparse_J s hs op hop k hf x y h w
      · have hl3 : (partsT s).2.length = 3 := by
          rcases k with k | k | k
          · rw [k, s3] at hl; exact hl
          · rw [k, s4] at hl; exact hl
          · rw [k, s5] at hl; exact hl
        obtain ⟨x, y, z, h⟩ := len_three hl3
        exact rparse_I s hs op hop k hf x y z h w
      · rw [k, s6] at hl
        obtain ⟨x, y, h⟩ := len_two hl
        exact rparse_L s hs op hop k hf x y h w
      · rw [k, s7] at hl
        obtain ⟨x, y, z, h⟩ := len_three hl
        exact rparse_B s hs op hop k hf x y z h w
      · rw [k, s8] at hl
        obtain ⟨x, y, h⟩ := len_two hl
        exact rparse_S s hs op hop k hf x y h w
      · rw [k, s9] at hl
        obtain ⟨x, y, z, h⟩ := len_three hl
        exact rparse_R s hs op hop k hf x y z h w
      · rw [k, s10] at hl
        obtain ⟨x, y, z, h⟩ := len_three hl
        by_cases h9 : op < 54
        · exact rparse_C s hs op hop ⟨k, h9⟩ hf x y z h w
        · exact rparse_Z s hs op hop ⟨k, h9⟩ hf x y z h w
      · rw [k, s11] at hl
        exact rparse_N s hs op hop k hf (List.length_eq_zero_iff.1 hl) w
    · have hp : parseT s = none := by
        cases h : parseT s with
        | none => rfl
        | some i =>
          obtain ⟨hc, _, hpp⟩ := parse_some h
          have e1 : (partsT s).1 = nmTab.getD i.op.toNat [] := by rw [hpp]; rfl
          rw [e1, find_at (by have := hc.1; omega)] at hf
          obtain rfl := Option.some.inj hf
          exact absurd (by rw [hpp, shape_len]) hl
      rw [hp]
      exact rparse_len s hs op hop hf hl w

theorem rowU_all {w : World} {base : Nat} {v : Value} {l : List Nat} (h : RowU w base v l) : ∃ A cap, v = .slice A l.length cap ∧ (l = [] ∨ ∃ g, A = some ⟨g, 0, none⟩ ∧ g < w.heap.size ∧ ∀ (j : Nat) x, l[j]? = some x → w.cell? ⟨g, j, none⟩ = some (.int .u32 (x : Nat))) := by
  obtain ⟨_, h2⟩ := h
  rcases h2 with ⟨h3, h4⟩ | ⟨g, cap, cur, rfl, hg, h4, _, _, _, h8⟩
  · have hl := List.length_eq_zero_iff.1 h4
    subst hl
    exact ⟨none, 0, h3, Or.inl rfl⟩
  · refine ⟨_, cap, rfl, Or.inr ⟨g, rfl, heap_lt h4, fun j x hx => ?_⟩⟩
    rw [cell_of_row _ _ _ _ _ _ h4]
    have hj := (List.getElem?_eq_some_iff.1 hx).1
    have q := congrArg (fun l => l[j]?) h8
    simp only [List.getElem?_map, hx, Option.map_some] at q
    rw [List.getElem?_take] at q
    rw [if_pos (by omega)] at q
    rw [← Array.getElem?_toList]
    exact q
set_option maxHeartbeats 2000000 in
theorem words_any (l : List Nat) (hn : l.length ≤ 100000) (b1 b2 : Nat) (v1 v2 : Value) (w : World) (h1 : RowU w b1 v1 l) (h2 : RowU w b2 v2 l) : Calls Tryz.prog 12 #[v1, v2] w fun e w' => e = .returned (.bool true) ∧ Below w.heap.size w w' := by
  obtain ⟨A, c1, rfl, k1⟩ := rowU_all h1
  obtain ⟨B, c2, rfl, k2⟩ := rowU_all h2
  have K1 := Lib.hid k1
  have K2 := Lib.hid k2
  obtain ⟨n, hnn⟩ : ∃ n, n = l.length := ⟨_, rfl⟩
  rw [← hnn] at hn ⊢
  have HN := Lib.hid hnn
  clear h1 h2 k1 k2 hnn
  go_enter Tryz.func12, Tryz.ntmps12
  go_upto_region 4 with (fail)
  go_loopw [5] (fun x wr => ∃ j : Nat, j ≤ n ∧ x = .int .i64 j ∧ Below w.heap.size w wr) (fun x _ => n - (intOf x).toNat)
  case atStart => exact ⟨0, Nat.zero_le _, rfl, Below.refl _ _⟩
  case round =>
    obtain ⟨j, hj, rfl, hbel⟩ := hrel
    have HB := Lib.hid hbel
    by_cases hjn : j < n
    · have hjI : (j : Int) < (n : Int) := by omega
      have hjl : j < l.length := by have := HN.out; omega
      obtain ⟨g1, hA, hg1, hc1⟩ : ∃ g, A = some ⟨g, 0, none⟩ ∧ g < w.heap.size ∧ ∀ (j : Nat) x, l[j]? = some x → w.cell? ⟨g, j, none⟩ = some (.int .u32 (x : Nat)) := by
        rcases K1.out with h | h
        · rw [h] at hjl; simp at hjl
        · exact h
      obtain ⟨g2, hB, hg2, hc2⟩ : ∃ g, B = some ⟨g, 0, none⟩ ∧ g < w.heap.size ∧ ∀ (j : Nat) x, l[j]? = some x → w.cell? ⟨g, j, none⟩ = some (.int .u32 (x : Nat)) := by
        rcases K2.out with h | h
        · rw [h] at hjl; simp at hjl
        · exact h
      obtain ⟨x, hx⟩ : ∃ x, l[j]? = some x := ⟨l[j], List.getElem?_eq_getElem hjl⟩
      have q1 := (hbel.cell (p := ⟨g1, j, none⟩) hg1).trans (hc1 j x hx)
      have q2 := (hbel.cell (p := ⟨g2, j, none⟩) hg2).trans (hc2 j x hx)
      clear hbel hc1 hc2 hx hjl hg1 hg2
      go_upto_region 6 with (fail)
      go_region
      all_goals
        go_wp2
        go_roundw
        case rel => exact ⟨j + 1, by omega, by go_num, by first | exact HB.out | exact Below.drew HB.out⟩
        case measure => simp [intOf]; omega
    · have hjI : ¬ (j : Int) < (n : Int) := by omega
      clear hbel
      go_wp2
      go_ret
      exact ⟨rfl, HB.out⟩

theorem trim_pad {p : List UInt8} {c c0 : UInt8} {r : List UInt8} (h0 : p ++ [c] = c0 :: r) (hc : c ≠ 32) (hc0 : c0 ≠ 32) {sp : List UInt8} (hs : sp = [] ∨ sp = [32] ∨ sp = [32, 32]) : Lib.trimB (p ++ [c] ++ sp) 32 = p ++ [c] := by
  have e : Lib.trimRightB (p ++ [c] ++ sp) 32 = p ++ [c] := by
    unfold Lib.trimRightB
    rcases hs with rfl | rfl | rfl <;> simp [List.dropWhile_cons, hc]
  unfold Lib.trimB
  rw [e, h0]
  unfold Lib.trimLeftB
  simp [List.dropWhile_cons, hc0]

theorem all_stop {l : List UInt8} {j : Nat} (hj : j < l.length) (h : azB l[j] = false) : l.all azB = false := by
  rw [List.all_eq_false]
  exact ⟨l[j], List.getElem_mem hj, by rw [h]; decide⟩
theorem take_az {l : List UInt8} {j : Nat} (hj : j < l.length) (h : (l.take j).all azB = true) (hc : azB l[j] = true) : (l.take (j + 1)).all azB = true := by
  rw [List.take_succ_eq_append_getElem hj, List.all_append, h]; simp [hc]
set_option maxHeartbeats 2000000 in
/-- ref04.name -/
theorem rname4_any (s : List UInt8) (hs : s.length ≤ 70000) (w : World) : Calls Tryz.prog 31 #[.string (bs s)] w fun e w' => e = .returned (.bool (nameT s)) ∧ w = w' := by
  have hsz : (bs s).size = s.length := bs_size s
  obtain ⟨S, hS⟩ : ∃ S, S = bs s := ⟨_, rfl⟩
  rw [← hS] at hsz ⊢
  obtain ⟨OK, hOK⟩ : ∃ OK, OK = nameT s := ⟨_, rfl⟩
  rw [← hOK]
  have HOK := Lib.hid hOK
  have HS := Lib.hid hS
  have HSZ := Lib.hid hsz
  have hle : S.size ≤ 70000 := by omega
  clear hOK hS hsz hs
  go_enter Tryz.func31, Tryz.ntmps31
  go_upto_region 2 with (fail)
  go_loopw [3] (fun x wr => ∃ j : Nat, j ≤ S.size ∧ x = .int .i64 j ∧ (s.take j).all azB = true ∧ w = wr) (fun x _ => S.size - (intOf x).toNat)
  case atStart => exact ⟨0, Nat.zero_le _, rfl, rfl, rfl⟩
  case round =>
    obtain ⟨j, hj, rfl, hall, rfl⟩ := hrel
    have HALL := Lib.hid hall
    clear hall
    by_cases hjz : j < S.size
    · have hjI : (j : Int) < (S.size : Int) := by omega
      have hjl : j < s.length := by rw [← HSZ.out]; exact hjz
      obtain ⟨c, hc⟩ : ∃ c, (S[j]'hjz).toNat = c := ⟨_, rfl⟩
      have hcd : (s[j]'hjl).toNat = c := by rw [← hc]; have e1 := HS.out; subst e1; rfl
      have haz : azB (s[j]'hjl) = (decide (97 ≤ c) && decide (c ≤ 122)) := by unfold azB; rw [hcd]
      by_cases h1 : 97 ≤ c ∧ c ≤ 122
      · obtain ⟨h1a, h1b⟩ := h1
        have h1I : ¬ (c : Int) < 97 := by omega
        have h2I : ¬ (122 : Int) < (c : Int) := by omega
        have hta := take_az hjl HALL.out (by rw [haz, decide_eq_true h1a, decide_eq_true h1b]; rfl)
        have HTA := Lib.hid hta
        clear hta haz hcd
        go_wp2
        go_roundw
        case rel => exact ⟨j + 1, by omega, by go_num, HTA.out, by trivial⟩
        case measure => simp [intOf]; omega
      · have hf : Hid (OK = false) := Lib.hid (by
          rw [HOK.out]
          unfold nameT
          rw [all_stop hjl (by
            rw [haz]
            by_cases h2 : 97 ≤ c
            · rw [decide_eq_false (show ¬ c ≤ 122 from fun h => h1 ⟨h2, h⟩), Bool.and_false]
            · rw [decide_eq_false h2, Bool.false_and]), Bool.and_false, Bool.and_false])
        clear haz hcd
        by_cases h2 : c < 97
        · have h2I : (c : Int) < 97 := by omega
          go_wp2
          go_ret
          exact ⟨by rw [hf.out]; rfl, rfl⟩
        · have h2I : ¬ (c : Int) < 97 := by omega
          have h3I : (122 : Int) < (c : Int) := by omega
          go_wp2
          go_ret
          exact ⟨by rw [hf.out]; rfl, rfl⟩
    · have hjI : ¬ (j : Int) < (S.size : Int) := by omega
      have hok : OK = (decide (0 < S.size) && decide (S.size ≤ 16)) := by
        rw [HOK.out]
        unfold nameT
        have h := HALL.out
        rw [List.take_of_length_le (by rw [← HSZ.out]; omega)] at h
        rw [h, Bool.and_true, HSZ.out]
      have HK := Lib.hid hok
      clear hok
      by_cases h0 : 0 < S.size
      · have h0I : (0 : Int) < (S.size : Int) := by omega
        by_cases h16 : S.size ≤ 16
        · have h16I : (S.size : Int) ≤ 16 := by omega
          have hf : Hid (OK = true) := Lib.hid (by rw [HK.out, decide_eq_true h0, decide_eq_true h16]; rfl)
          go_wp2
          go_ret
          exact ⟨by rw [hf.out]; rfl, rfl⟩
        · have h16I : ¬ (S.size : Int) ≤ 16 := by omega
          have hf : Hid (OK = false) := Lib.hid (by rw [HK.out, decide_eq_false h16, Bool.and_false])
          go_wp2
          go_ret
          exact ⟨by rw [hf.out]; rfl, rfl⟩
      · have h0I : ¬ (0 : Int) < (S.size : Int) := by omega
        have hf : Hid (OK = false) := Lib.hid (by rw [HK.out, decide_eq_false h0, Bool.false_and])
        go_wp2
        go_ret
        exact ⟨by rw [hf.out]; rfl, rfl⟩
theorem lab_nil : labT [] = false := by decide
theorem lab_one (c : UInt8) : labT [c] = false := by
  unfold labT
  by_cases h : c = 58
  · subst h; decide
  · have e : Lib.hasSuffix [c] [58] = false := by
      cases e : Lib.hasSuffix [c] [58] with
      | false => rfl
      | true =>
        obtain ⟨r, e2⟩ := List.isSuffixOf_iff_suffix.1 (show List.isSuffixOf [58] [c] = true from e)
        have e3 := congrArg List.getLast? e2
        simp at e3
        exact absurd e3.symm h
    rw [e]; rfl
theorem suf_concat (p : List UInt8) (c d : UInt8) : Lib.hasSuffix (p ++ [c]) [d] = decide (c = d) := by
  by_cases h : c = d
  · rw [decide_eq_true h]; exact List.isSuffixOf_iff_suffix.2 ⟨p, by rw [h]⟩
  · rw [decide_eq_false h]
    cases e : Lib.hasSuffix (p ++ [c]) [d] with
    | false => rfl
    | true =>
      obtain ⟨r, e2⟩ := List.isSuffixOf_iff_suffix.1 (show List.isSuffixOf [d] (p ++ [c]) = true from e)
      have e3 := congrArg List.getLast? e2
      simp at e3
      exact absurd e3.symm h
theorem trim_concat (p : List UInt8) (d : UInt8) : Lib.trimSuffix (p ++ [d]) [d] = p := by
  unfold Lib.trimSuffix; rw [suf_concat, decide_eq_true rfl, if_pos rfl]; simp
theorem lab_concat (p : List UInt8) (c : UInt8) : labT (p ++ [c]) = (decide (c = 58) && nameT p) := by
  unfold labT
  rw [suf_concat]
  by_cases h : c = 58
  · subst h; rw [trim_concat]
  · rw [decide_eq_false h]; rfl
set_option maxHeartbeats 2000000 in
/-- ref04.label -/
theorem rlabel4_any (s : List UInt8) (hs : s.length ≤ 70000) (w : World) : Calls Tryz.prog 26 #[.string (bs s)] w fun e w' => e = .returned (.bool (labT s)) ∧ w = w' := by
  have hsz : (bs s).size = s.length := bs_size s
  rcases List.eq_nil_or_concat s with h | ⟨p, c, h⟩
  · subst h
    rw [lab_nil, show bs [] = (⟨#[]⟩ : ByteArray) from rfl]
    go_enter Tryz.func26, Tryz.ntmps26
    go_wp2
    go_ret
    exact ⟨rfl, rfl⟩
  · rw [List.concat_eq_append] at h
    obtain ⟨m, hm⟩ : ∃ m, m = p.length := ⟨_, rfl⟩
    have hz : (bs s).size = m + 1 := by rw [hsz, h, hm]; simp
    obtain ⟨S, hS⟩ : ∃ S, S = bs s := ⟨_, rfl⟩
    rw [← hS] at hz ⊢
    have hm0 : m < S.size := by omega
    obtain ⟨cN, hcN⟩ : ∃ cN, (S[m]'hm0).toNat = cN := ⟨_, rfl⟩
    have hcc : cN = c.toNat := by
      subst hm
      subst h
      subst hS
      rw [← hcN]
      have : (bs (p ++ [c]))[p.length]'hm0 = (p ++ [c])[p.length]'(by simp) := rfl
      rw [this]; simp
    have hex : S.extract 0 m = bs p := by rw [hS, h, hm, ext_bs]; simp
    have NM := Lib.hid (fun w => rname4_any p (by rw [h] at hs; simp at hs; omega) w)
    have hl : labT s = (decide (cN = 58) && nameT p) := by
      rw [h, lab_concat, hcc]
      congr 1
      by_cases h58 : c = 58
      · subst h58; rfl
      · rw [decide_eq_false h58, decide_eq_false]
        intro e
        exact h58 (UInt8.toNat_inj.1 (by rw [e]; rfl))
    have hm70 : m ≤ 70000 := by rw [h] at hs; simp at hs; omega
    have hp0 : m = 0 → nameT p = false := fun e => by
      have : p = [] := List.length_eq_zero_iff.1 (by omega)
      rw [this]; decide
    obtain ⟨P, hP⟩ : ∃ P, P = bs p := ⟨_, rfl⟩
    rw [← hP] at NM hex
    rw [hl]
    generalize nameT p = OK at *
    clear hl hcc hS hs hsz hP h
    by_cases h1 : 0 < m
    · have h1I : (0 : Int) < (m : Int) := by omega
      by_cases h58 : cN = 58
      · subst h58
        clear hm
        go_enter Tryz.func26, Tryz.ntmps26
        go_wp2_with (go_at_call 31; refine (NM.out _).mono ?_; rintro e w' ⟨rfl, rfl⟩)
        go_ret
        exact ⟨rfl, rfl⟩
      · have h58I : ((cN : Int) == 58) = false := by rw [beq_eq_false_iff_ne]; omega
        rw [decide_eq_false h58, Bool.false_and]
        clear hm
        go_enter Tryz.func26, Tryz.ntmps26
        go_wp2
        go_ret
        exact ⟨rfl, rfl⟩
    · have h0 : m = 0 := by omega
      rw [hp0 h0, Bool.and_false]
      subst h0
      clear hm hp0
      go_enter Tryz.func26, Tryz.ntmps26
      go_wp2
      go_ret
      exact ⟨rfl, rfl⟩

theorem trim_cons (r : List UInt8) : Lib.trimB (32 :: r) 32 = Lib.trimB r 32 := by
  unfold Lib.trimB Lib.trimRightB
  rw [List.reverse_cons, List.dropWhile_append]
  cases h : (r.reverse.dropWhile (· == 32)) with
  | nil => simp [Lib.trimLeftB]
  | cons a q =>
    simp only [List.isEmpty_cons, Bool.false_eq_true, if_false]
    rw [List.reverse_append]
    show Lib.trimLeftB (32 :: (a :: q).reverse) 32 = _
    unfold Lib.trimLeftB
    rw [List.dropWhile_cons, if_pos (by decide)]
theorem trim_snoc (l : List UInt8) : Lib.trimB (l ++ [32]) 32 = Lib.trimB l 32 := by
  unfold Lib.trimB Lib.trimRightB
  rw [List.reverse_append]
  show Lib.trimLeftB ((32 :: l.reverse).dropWhile _).reverse 32 = _
  rw [List.dropWhile_cons, if_pos (by decide)]
theorem trim_done {q : List UInt8} {c : UInt8} (hc : c ≠ 32) (h : (q ++ [c]).head? ≠ some 32) : Lib.trimB (q ++ [c]) 32 = q ++ [c] := by
  cases e : q ++ [c] with
  | nil => simp at e
  | cons a r =>
    have ha : a ≠ 32 := fun h2 => h (by rw [e, h2]; rfl)
    rw [← e]
    have := trim_pad e hc ha (sp := []) (Or.inl rfl)
    rw [List.append_nil] at this
    exact this
/-- a row of lines of the reference's type -/
def LineQ (w : World) (base : Nat) (v : Value) (l : List (Nat × List UInt8)) : Prop := w.ownsRow base 71 2 v l.length (lcells l)
theorem LineQ.mono {w : World} {b b' : Nat} {v : Value} {l : List (Nat × List UInt8)} (h : LineQ w b v l) (hb : b' ≤ b) : LineQ w b' v l := by
  obtain ⟨h1, h2⟩ := h
  refine ⟨h1, ?_⟩
  rcases h2 with h3 | ⟨g, cap, cur, h3, h4, h5⟩
  · exact Or.inl h3
  · exact Or.inr ⟨g, cap, cur, h3, Nat.le_trans hb h4, h5⟩
def pieceL (s : List UInt8) (f i : Nat) : List UInt8 := (s.drop f).take (i - f)
def addL (O : List (Nat × List UInt8)) (k : Nat) (q : List UInt8) : List (Nat × List UInt8) := if trimT q = [] then O else O ++ [(k + 1, trimT q)]
/-- the state of ref04.lines -/
structure LSt (s : List UInt8) (i f k : Nat) (O : List (Nat × List UInt8)) : Prop where
  st : (i ≤ s.length ∧ f ≤ i ∧ linesT s = O ++ linesP k (Lib.split (s.drop f) [10]) ∧ (10 : UInt8) ∉ pieceL s f i) ∨ (i = s.length + 1 ∧ linesT s = O)
  kl : k ≤ i
  ol : O.length ≤ k
theorem LSt.start (s : List UInt8) : LSt s 0 0 0 [] := ⟨Or.inl ⟨Nat.zero_le _, Nat.le_refl _, by rw [List.drop_zero]; rfl, by unfold pieceL; simp⟩, Nat.le_refl _, Nat.le_refl _⟩
theorem piece_next {s : List UInt8} {f i : Nat} (hf : f ≤ i) (hi : i < s.length) : pieceL s f (i + 1) = pieceL s f i ++ [s[i]] := by
  unfold pieceL
  have h : i - f < (s.drop f).length := by rw [List.length_drop]; omega
  rw [show i + 1 - f = (i - f) + 1 by omega, List.take_succ_eq_append_getElem h]
  congr 2
  rw [List.getElem_drop]; congr 1; omega
theorem LSt.step {s : List UInt8} {i f k : Nat} {O : List (Nat × List UInt8)} (h : LSt s i f k O) (hi : i < s.length) (hc : s[i] ≠ 10) : LSt s (i + 1) f k O := by
  rcases h.st with ⟨_, h2, h3, h4⟩ | ⟨h1, _⟩
  · refine ⟨Or.inl ⟨by omega, by omega, h3, ?_⟩, by have := h.kl; omega, h.ol⟩
    rw [piece_next h2 hi]
    intro hm
    rcases List.mem_append.1 hm with hm | hm
    · exact h4 hm
    · exact hc (List.mem_singleton.1 hm).symm
  · omega
theorem addL_lines (O : List (Nat × List UInt8)) (k : Nat) (q : List UInt8) (r : List (List UInt8)) : O ++ linesP k (q :: r) = addL O k q ++ linesP (k + 1) r := by
  unfold addL
  show O ++ (if trimT q = [] then linesP (k + 1) r else (k + 1, trimT q) :: linesP (k + 1) r) = _
  split
  · rfl
  · rw [List.append_assoc]; rfl
theorem addL_len (O : List (Nat × List UInt8)) (k : Nat) (q : List UInt8) (h : O.length ≤ k) : (addL O k q).length ≤ k + 1 := by
  unfold addL
  split
  · omega
  · rw [List.length_append]; simp; omega
theorem LSt.cut {s : List UInt8} {i f k : Nat} {O : List (Nat × List UInt8)} (h : LSt s i f k O) (hi : i < s.length) (hc : s[i] = 10) : LSt s (i + 1) (i + 1) (k + 1) (addL O k (pieceL s f i)) := by
  rcases h.st with ⟨_, h2, h3, h4⟩ | ⟨h1, _⟩
  · refine ⟨Or.inl ⟨by omega, Nat.le_refl _, ?_, by unfold pieceL; simp⟩, by have := h.kl; omega, addL_len _ _ _ h.ol⟩
    have e : s.drop f = pieceL s f i ++ 10 :: s.drop (i + 1) := by
      unfold pieceL
      have h5 : i - f < (s.drop f).length := by rw [List.length_drop]; omega
      conv => lhs; rw [← List.take_append_drop (i - f) (s.drop f)]
      rw [List.drop_drop, show f + (i - f) = i by omega, List.drop_eq_getElem_cons hi, hc]
    have e2 : Lib.split (s.drop f) [10] = pieceL s f i :: Lib.split (s.drop (i + 1)) [10] := by
      have e3 := index_app (t := []) (r := s.drop (i + 1)) h4
      have e4 : s.drop f = pieceL s f i ++ [10] ++ s.drop (i + 1) := by rw [e]; simp
      rw [e4, split_hit (by simp) e3]
      congr 1
      · rw [List.append_assoc, List.take_left]
      · congr 1
        rw [List.drop_left' (by simp)]
    rw [h3, e2, addL_lines]
  · omega
theorem LSt.last {s : List UInt8} {i f k : Nat} {O : List (Nat × List UInt8)} (h : LSt s i f k O) (hi : i = s.length) : LSt s (i + 1) (i + 1) (k + 1) (addL O k (pieceL s f i)) := by
  rcases h.st with ⟨_, h2, h3, h4⟩ | ⟨h1, _⟩
  · refine ⟨Or.inr ⟨by omega, ?_⟩, by have := h.kl; omega, addL_len _ _ _ h.ol⟩
    have e : s.drop f = pieceL s f i := by unfold pieceL; rw [List.take_of_length_le (by rw [List.length_drop]; omega)]
    rw [h3, e, split_miss (index_no h4), addL_lines]
    simp [linesP]
  · omega
theorem LSt.done {s : List UInt8} {i f k : Nat} {O : List (Nat × List UInt8)} (h : LSt s i f k O) (hi : s.length < i) : linesT s = O := by
  rcases h.st with ⟨h1, _⟩ | ⟨_, h2⟩
  · omega
  · exact h2
theorem LSt.f_le {s : List UInt8} {i f k : Nat} {O : List (Nat × List UInt8)} (h : LSt s i f k O) (hi : i ≤ s.length) : f ≤ i := by
  rcases h.st with ⟨_, h2, _⟩ | ⟨h1, _⟩
  · exact h2
  · omega
set_option maxHeartbeats 8000000 in
/-- ref04.lines -/
theorem rlines4_any (s : List UInt8) (hs : s.length ≤ 70000) (w : World) : Calls Tryz.prog 25 #[.string (bs s)] w fun e w' => (∃ r, e = .returned r ∧ LineQ w' w.heap.size r (linesT s)) ∧ Below w.heap.size w w' := by
  have HI : Hid (∃ i, Tryz.prog.info? 71 = some i ∧ i.zero = some (.agg #[.int .i64 0, .string ⟨#[]⟩]) ∧ i.size = 2 ∧ i.bytes = 24) := Lib.hid ⟨_, rfl, rfl, rfl, rfl⟩
  have CC := Lib.hid (fun (q : List UInt8) (hq : q.length ≤ 70000) w => rcut_any q [35] hq (by simp) (by decide) w)
  simp only [show bs [35] = (⟨#[35]⟩ : ByteArray) from rfl] at CC
  have hsz : (bs s).size = s.length := bs_size s
  obtain ⟨S, hS⟩ : ∃ S, S = bs s := ⟨_, rfl⟩
  rw [← hS] at hsz ⊢
  have HS := Lib.hid hS
  have HSZ := Lib.hid hsz
  have hle : S.size ≤ 70000 := by omega
  clear hS hsz hs
  go_enter Tryz.func25, Tryz.ntmps25
  go_upto_region 4 with (fail)
  go_loopw [3, 4, 5, 6] (fun ou nm fr xx wr => ∃ (i f k : Nat) (O : List (Nat × List UInt8)), xx = .int .i64 i ∧ fr = .int .i64 f ∧ nm = .int .i64 ((k + 1 : Nat) : Int) ∧ i ≤ S.size + 1 ∧ LSt s i f k O ∧ LineQ wr w.heap.size ou O ∧ Below w.heap.size w wr) (fun _ _ _ xx _ => S.size + 1 - (intOf xx).toNat)
  case atStart => exact ⟨0, 0, 0, [], rfl, rfl, rfl, Nat.zero_le _, LSt.start s, World.ownsRow_nil _ _ _ _, Below.refl _ _⟩
  case round =>
    obtain ⟨i, f, k, O, rfl, rfl, rfl, hi1, hst, hru, hbel⟩ := hrel
    have ST := Lib.hid hst
    have RU := Lib.hid hru
    have BQ := Lib.hid hbel
    have hbq := hbel.size
    have hki : k ≤ i := hst.kl
    have hol := hst.ol
    clear hst hru hbel
    by_cases hin : i ≤ S.size
    · have hinI : (i : Int) ≤ (S.size : Int) := by omega
      have hfi : f ≤ i := ST.out.f_le (by rw [← HSZ.out]; exact hin)
      have hcases : (∃ h : i < S.size, (S[i]'h).toNat ≠ 10) ∨ (LSt s (i + 1) (i + 1) (k + 1) (addL O k (pieceL s f i)) ∧ ((∃ h : i < S.size, (S[i]'h).toNat = 10) ∨ i = S.size)) := by
        by_cases h : i < S.size
        · have hsl : i < s.length := by rw [← HSZ.out]; exact h
          have hb : (S[i]'h).toNat = (s[i]'hsl).toNat := by have e1 := HS.out; subst e1; rfl
          by_cases hc : (S[i]'h).toNat = 10
          · exact Or.inr ⟨ST.out.cut hsl (UInt8.toNat_inj.1 (by rw [← hb, hc]; rfl)), Or.inl ⟨h, hc⟩⟩
          · exact Or.inl ⟨h, hc⟩
        · exact Or.inr ⟨ST.out.last (by rw [← HSZ.out]; omega), Or.inr (by omega)⟩
      rcases hcases with ⟨h, hc⟩ | ⟨hst2, hcc⟩
      · have hsl : i < s.length := by rw [← HSZ.out]; exact h
        have hb : (S[i]'h).toNat = (s[i]'hsl).toNat := by have e1 := HS.out; subst e1; rfl
        have hst2 := ST.out.step hsl (fun e => hc (by rw [hb, e]; rfl))
        have ST2 := Lib.hid hst2
        have hI : (i : Int) < (S.size : Int) := by omega
        obtain ⟨c, hcN⟩ : ∃ c, (S[i]'h).toNat = c := ⟨_, rfl⟩
        rw [hcN] at hc
        have hcI : ((c : Int) != 10) = true := by simp; omega
        clear hst2 hb
        go_wp2
        go_roundw
        case rel => exact ⟨i + 1, f, k, O, by go_num, rfl, rfl, by omega, ST2.out, RU.out, BQ.out⟩
        case measure => simp [intOf]; omega
      · have ST2 := Lib.hid hst2
        obtain ⟨q, hq⟩ : ∃ q, q = pieceL s f i := ⟨_, rfl⟩
        have hql : q.length ≤ 70000 := by rw [hq]; unfold pieceL; rw [List.length_take]; have := HSZ.out; omega
        have hex : S.extract f i = bs q := by rw [HS.out, ext_bs, hq]; rfl
        have CU := Lib.hid (CC.out q hql)
        have hU : Lib.trimB (Lib.cut q [35]).1 32 = trimT q := rfl
        have hcl : (Lib.cut q [35]).1.length ≤ 70000 := by have := (cut_len q [35]).1; omega
        rw [← hq] at ST2
        obtain ⟨Q, hQ⟩ : ∃ Q, Q = bs q := ⟨_, rfl⟩
        rw [← hQ] at hex CU
        generalize (Lib.cut q [35]).1 = t0 at *
        generalize bs (Lib.cut q [35]).2.1 = T1 at *
        generalize (Lib.cut q [35]).2.2 = T2 at *
        have HAD : Hid (addL O k q = if trimT q = [] then O else O ++ [(k + 1, trimT q)]) := Lib.hid rfl
        generalize addL O k q = O2 at *
        obtain ⟨U, hUU⟩ : ∃ U, U = trimT q := ⟨_, rfl⟩
        rw [← hUU] at hU HAD
        have HT0 := Lib.hid hU
        have hfiI : (f : Int) ≤ (i : Int) := by omega
        have hcl0 := hcl
        clear hst2 hq hql hQ hU hUU
        rcases hcc with ⟨h, hc⟩ | hlast
        · obtain ⟨c, hcN0⟩ : ∃ c, (S[i]'h).toNat = c := ⟨_, rfl⟩
          rw [hcN0] at hc
          subst hc
          have hI : (i : Int) < (S.size : Int) := by omega
          go_upto_region 8 with (go_at_call 49; refine (CU.out _).mono ?_; rintro e w1 ⟨rfl, hb⟩; have B1 := Lib.hid (BQ.out.trans (hb.mono hbq)); have RU1 : Hid (World.ownsRow w1 w.heap.size 71 2 _ _ _) := Lib.hid (World.ownsRow.kept (RU.out : World.ownsRow _ _ _ _ _ _ _) (gb_below (World.grownBy.refl wr none) hb) (Classical.em _)); clear hb)
          go_loopw [7] (fun tt wr1 => ∃ l : List UInt8, tt = .string (bs l) ∧ Lib.trimB l 32 = U ∧ l.length ≤ 70000 ∧ w1 = wr1) (fun tt _ => Lib.strSize tt)
          case atStart => exact ⟨_, rfl, HT0.out, hcl0, rfl⟩
          case round =>
            obtain ⟨l, rfl, hlU, hll, rfl⟩ := hrel
            have HLU := Lib.hid (And.intro hlU hll)
            clear hlU
            cases l with
            | nil =>
              rw [show bs [] = (⟨#[]⟩ : ByteArray) from rfl]
              go_upto_region 10 with (fail)
              go_loopw [7] (fun tt wr2 => ∃ l : List UInt8, tt = .string (bs l) ∧ Lib.trimB l 32 = U ∧ l.length ≤ 70000 ∧ l.head? ≠ some 32 ∧ w1 = wr2) (fun tt _ => Lib.strSize tt)
              case atStart => exact ⟨[], rfl, HLU.out.1, HLU.out.2, by simp, rfl⟩
              case round =>
                obtain ⟨l, rfl, hlU, hll, hlh, rfl⟩ := hrel
                rcases List.eq_nil_or_concat l with hl | ⟨pp, cc, hl⟩
                · subst hl
                  have hUe : U = [] := by rw [← hlU]; rfl
                  rw [show bs [] = (⟨#[]⟩ : ByteArray) from rfl]
                  have hO : O2 = O := by rw [HAD.out, if_pos hUe]
                  have HO := Lib.hid hO
                  clear hO hUe
                  go_wp2
                  go_roundw
                  case rel => exact ⟨i + 1, i + 1, k + 1, O2, by go_num, by go_num, by go_num, by omega, ST2.out, by rw [HO.out]; exact RU1.out, B1.out⟩
                  case measure => simp [intOf]; omega
                · rw [List.concat_eq_append] at hl
                  obtain ⟨m, hm⟩ : ∃ m, m = pp.length := ⟨_, rfl⟩
                  obtain ⟨Z, hZ⟩ : ∃ Z, Z = bs l := ⟨_, rfl⟩
                  have hzz : Z.size = m + 1 := by rw [hZ, bs_size, hl, hm]; simp
                  have hm0 : m < Z.size := by omega
                  have hm7 : m ≤ 70000 := by rw [hl] at hll; simp at hll; omega
                  obtain ⟨cN, hcN⟩ : ∃ cN, (Z[m]'hm0).toNat = cN := ⟨_, rfl⟩
                  have hcc : cN = cc.toNat := by
                    subst hm
                    subst hl
                    subst hZ
                    rw [← hcN]
                    have : (bs (pp ++ [cc]))[pp.length]'hm0 = (pp ++ [cc])[pp.length]'(by simp) := rfl
                    rw [this]; simp
                  have hex2 : Z.extract 0 m = bs pp := by rw [hZ, hl, hm, ext_bs]; simp
                  have hmI : (0 : Int) < (m : Int) + 1 := by omega
                  rw [← hZ]
                  by_cases h32 : cN = 32
                  · have hc32 : cc = 32 := UInt8.toNat_inj.1 (by rw [← hcc, h32]; rfl)
                    have hpp : Lib.trimB pp 32 = U := by rw [← hlU, hl, hc32, trim_snoc]
                    have hph : pp.head? ≠ some 32 := fun e => hlh (by
                      rw [hl]
                      cases pp with
                      | nil => simp at e
                      | cons a r => simpa using e)
                    have hpl : pp.length ≤ 70000 := by omega
                    have HPP := Lib.hid (And.intro hpp (And.intro hph hpl))
                    have HX2 := Lib.hid hex2
                    have hps : (bs pp).size = m := by rw [bs_size, hm]
                    subst h32
                    clear hpp hph hpl hc32 hcc hl hlU hlh hZ hm
                    go_wp2
                    go_roundw
                    case rel => exact ⟨pp, by rw [← HX2.out], HPP.out.1, HPP.out.2.2, HPP.out.2.1, by trivial⟩
                    case measure => simp [Lib.strSize, hps]; omega
                  · have h32I : ((cN : Int) == 32) = false := by rw [beq_eq_false_iff_ne]; omega
                    have hlU2 : U = l := by
                      rw [← hlU, hl]
                      exact trim_done (fun e => h32 (by rw [hcc, e]; rfl)) (by rw [← hl]; exact hlh)
                    have hUe : ¬ U = [] := by rw [hlU2, hl]; simp
                    have hne : Z.toList.isEmpty = false := by rw [hZ]; exact bs_nonempty (by rw [hl]; simp)
                    have HZU : Hid (Z = bs U) := Lib.hid (by rw [hZ, hlU2])
                    clear hlU2 hcc hl hlU hlh hZ hm
                    have hO : O2 = O ++ [(k + 1, U)] := by rw [HAD.out, if_neg hUe]
                    have HO := Lib.hid hO
                    clear hO hUe
                    go_wp2_with (first | (at_builtin; (obtain ⟨i0, hi, hz0, hz1, hz2⟩ := HI.out); refine wpList_append_own _ rfl _ _ 68 rfl w.heap.size 71 i0 (.agg #[.int .i64 0, .string ⟨#[]⟩]) 2 24 Tryz.underlying68 hi hz0 hz1 hz2 rfl (by decide) _ _ _ rfl (RU1.out.alloc _) ⟨w1.heap.size, 0, none⟩ 1 1 [.int .i64 ((k : Int) + 1), .string Z] rfl rfl (news_l w1 _ _ _) (by intro u hu; simp at hu; rcases hu with rfl | rfl <;> rfl) (by unfold maxLen; omega) (by omega) (by have := B1.out.size; simp; omega) ?_; intro v' w2 hown hgrow hnil; have HO1 := Lib.hid hown; have HG1 := Lib.hid hgrow; clear hown hgrow hnil hi hz0 hz1 hz2))
                    go_roundw
                    case rel =>
                      refine ⟨i + 1, i + 1, k + 1, O2, by go_num, by go_num, by go_num, by omega, ST2.out, ?_, ?_⟩
                      · have h := HO1.out
                        unfold LineQ
                        rw [HO.out, lcells_snoc, List.length_append]
                        rw [HZU.out] at h
                        exact h
                      · exact (B1.out.alloc B1.out.size _).grown HG1.out (by have := B1.out.size; simp; omega) (fun k hk => (RU1.out.lt k hk).1)
                    case measure => simp [intOf]; omega
            | cons a r =>
              obtain ⟨Z, hZ⟩ : ∃ Z, Z = bs (a :: r) := ⟨_, rfl⟩
              have hzz : Z.size = r.length + 1 := by rw [hZ, bs_size]; rfl
              have hz0 : 0 < Z.size := by omega
              have hz0I : (0 : Int) < (Z.size : Int) := by omega
              obtain ⟨cN, hcN⟩ : ∃ cN, (Z[0]'hz0).toNat = cN := ⟨_, rfl⟩
              have hca : cN = a.toNat := by subst hZ; rw [← hcN]; rfl
              have hex2 : Z.extract 1 Z.size = bs r := by rw [hZ, ext_bs, bs_size]; simp
              rw [← hZ]
              by_cases h32 : cN = 32
              · have ha : a = 32 := UInt8.toNat_inj.1 (by rw [← hca, h32]; rfl)
                have hrU : Lib.trimB r 32 = U := by rw [← HLU.out.1, ha, trim_cons]
                have HRU := Lib.hid hrU
                have hrl : r.length ≤ 70000 := by simp at hll; omega
                have h1I : (1 : Int) ≤ (Z.size : Int) := by omega
                have HX2 := Lib.hid hex2
                have hps : (bs r).size = r.length := bs_size r
                have HZZ := Lib.hid hzz
                subst h32
                clear hrU ha hca hZ
                go_wp2
                go_roundw
                case rel => exact ⟨r, by rw [← HX2.out, HZZ.out], HRU.out, hrl, by trivial⟩
                case measure => simp [Lib.strSize, hps]; omega
              · have h32I : ((cN : Int) == 32) = false := by rw [beq_eq_false_iff_ne]; omega
                have hh : (a :: r).head? ≠ some 32 := fun e => h32 (by simp at e; rw [hca, e]; rfl)
                have HH := Lib.hid hh
                have HZ := Lib.hid hZ
                clear hh hca hZ
                go_upto_region 10 with (fail)
                go_loopw [7] (fun tt wr2 => ∃ l : List UInt8, tt = .string (bs l) ∧ Lib.trimB l 32 = U ∧ l.length ≤ 70000 ∧ l.head? ≠ some 32 ∧ w1 = wr2) (fun tt _ => Lib.strSize tt)
                case atStart => exact ⟨a :: r, by rw [HZ.out], HLU.out.1, HLU.out.2, HH.out, rfl⟩
                case round =>
                  obtain ⟨l, rfl, hlU, hll, hlh, rfl⟩ := hrel
                  rcases List.eq_nil_or_concat l with hl | ⟨pp, cc, hl⟩
                  · subst hl
                    have hUe : U = [] := by rw [← hlU]; rfl
                    rw [show bs [] = (⟨#[]⟩ : ByteArray) from rfl]
                    have hO : O2 = O := by rw [HAD.out, if_pos hUe]
                    have HO := Lib.hid hO
                    clear hO hUe
                    go_wp2
                    go_roundw
                    case rel => exact ⟨i + 1, i + 1, k + 1, O2, by go_num, by go_num, by go_num, by omega, ST2.out, by rw [HO.out]; exact RU1.out, B1.out⟩
                    case measure => simp [intOf]; omega
                  · rw [List.concat_eq_append] at hl
                    obtain ⟨m, hm⟩ : ∃ m, m = pp.length := ⟨_, rfl⟩
                    obtain ⟨Z, hZ⟩ : ∃ Z, Z = bs l := ⟨_, rfl⟩
                    have hzz : Z.size = m + 1 := by rw [hZ, bs_size, hl, hm]; simp
                    have hm0 : m < Z.size := by omega
                    have hm7 : m ≤ 70000 := by rw [hl] at hll; simp at hll; omega
                    obtain ⟨cN, hcN⟩ : ∃ cN, (Z[m]'hm0).toNat = cN := ⟨_, rfl⟩
                    have hcc : cN = cc.toNat := by
                      subst hm
                      subst hl
                      subst hZ
                      rw [← hcN]
                      have : (bs (pp ++ [cc]))[pp.length]'hm0 = (pp ++ [cc])[pp.length]'(by simp) := rfl
                      rw [this]; simp
                    have hex2 : Z.extract 0 m = bs pp := by rw [hZ, hl, hm, ext_bs]; simp
                    have hmI : (0 : Int) < (m : Int) + 1 := by omega
                    rw [← hZ]
                    by_cases h32 : cN = 32
                    · have hc32 : cc = 32 := UInt8.toNat_inj.1 (by rw [← hcc, h32]; rfl)
                      have hpp : Lib.trimB pp 32 = U := by rw [← hlU, hl, hc32, trim_snoc]
                      have hph : pp.head? ≠ some 32 := fun e => hlh (by
                        rw [hl]
                        cases pp with
                        | nil => simp at e
                        | cons a r => simpa using e)
                      have hpl : pp.length ≤ 70000 := by omega
                      have HPP := Lib.hid (And.intro hpp (And.intro hph hpl))
                      have HX2 := Lib.hid hex2
                      have hps : (bs pp).size = m := by rw [bs_size, hm]
                      subst h32
                      clear hpp hph hpl hc32 hcc hl hlU hlh hZ hm
                      go_wp2
                      go_roundw
                      case rel => exact ⟨pp, by rw [← HX2.out], HPP.out.1, HPP.out.2.2, HPP.out.2.1, by trivial⟩
                      case measure => simp [Lib.strSize, hps]; omega
                    · have h32I : ((cN : Int) == 32) = false := by rw [beq_eq_false_iff_ne]; omega
                      have hlU2 : U = l := by
                        rw [← hlU, hl]
                        exact trim_done (fun e => h32 (by rw [hcc, e]; rfl)) (by rw [← hl]; exact hlh)
                      have hUe : ¬ U = [] := by rw [hlU2, hl]; simp
                      have hne : Z.toList.isEmpty = false := by rw [hZ]; exact bs_nonempty (by rw [hl]; simp)
                      have HZU : Hid (Z = bs U) := Lib.hid (by rw [hZ, hlU2])
                      clear hlU2 hcc hl hlU hlh hZ hm
                      have hO : O2 = O ++ [(k + 1, U)] := by rw [HAD.out, if_neg hUe]
                      have HO := Lib.hid hO
                      clear hO hUe
                      go_wp2_with (first | (at_builtin; (obtain ⟨i0, hi, hz0, hz1, hz2⟩ := HI.out); refine wpList_append_own _ rfl _ _ 68 rfl w.heap.size 71 i0 (.agg #[.int .i64 0, .string ⟨#[]⟩]) 2 24 Tryz.underlying68 hi hz0 hz1 hz2 rfl (by decide) _ _ _ rfl (RU1.out.alloc _) ⟨w1.heap.size, 0, none⟩ 1 1 [.int .i64 ((k : Int) + 1), .string Z] rfl rfl (news_l w1 _ _ _) (by intro u hu; simp at hu; rcases hu with rfl | rfl <;> rfl) (by unfold maxLen; omega) (by omega) (by have := B1.out.size; simp; omega) ?_; intro v' w2 hown hgrow hnil; have HO1 := Lib.hid hown; have HG1 := Lib.hid hgrow; clear hown hgrow hnil hi hz0 hz1 hz2))
                      go_roundw
                      case rel =>
                        refine ⟨i + 1, i + 1, k + 1, O2, by go_num, by go_num, by go_num, by omega, ST2.out, ?_, ?_⟩
                        · have h := HO1.out
                          unfold LineQ
                          rw [HO.out, lcells_snoc, List.length_append]
                          rw [HZU.out] at h
                          exact h
                        · exact (B1.out.alloc B1.out.size _).grown HG1.out (by have := B1.out.size; simp; omega) (fun k hk => (RU1.out.lt k hk).1)
                      case measure => simp [intOf]; omega
        · have hI : ¬ (i : Int) < (S.size : Int) := by omega
          clear hlast
          go_upto_region 8 with (go_at_call 49; refine (CU.out _).mono ?_; rintro e w1 ⟨rfl, hb⟩; have B1 := Lib.hid (BQ.out.trans (hb.mono hbq)); have RU1 : Hid (World.ownsRow w1 w.heap.size 71 2 _ _ _) := Lib.hid (World.ownsRow.kept (RU.out : World.ownsRow _ _ _ _ _ _ _) (gb_below (World.grownBy.refl wr none) hb) (Classical.em _)); clear hb)
          go_loopw [7] (fun tt wr1 => ∃ l : List UInt8, tt = .string (bs l) ∧ Lib.trimB l 32 = U ∧ l.length ≤ 70000 ∧ w1 = wr1) (fun tt _ => Lib.strSize tt)
          case atStart => exact ⟨_, rfl, HT0.out, hcl0, rfl⟩
          case round =>
            obtain ⟨l, rfl, hlU, hll, rfl⟩ := hrel
            have HLU := Lib.hid (And.intro hlU hll)
            clear hlU
            cases l with
            | nil =>
              rw [show bs [] = (⟨#[]⟩ : ByteArray) from rfl]
              go_upto_region 10 with (fail)
              go_loopw [7] (fun tt wr2 => ∃ l : List UInt8, tt = .string (bs l) ∧ Lib.trimB l 32 = U ∧ l.length ≤ 70000 ∧ l.head? ≠ some 32 ∧ w1 = wr2) (fun tt _ => Lib.strSize tt)
              case atStart => exact ⟨[], rfl, HLU.out.1, HLU.out.2, by simp, rfl⟩
              case round =>
                obtain ⟨l, rfl, hlU, hll, hlh, rfl⟩ := hrel
                rcases List.eq_nil_or_concat l with hl | ⟨pp, cc, hl⟩
                · subst hl
                  have hUe : U = [] := by rw [← hlU]; rfl
                  rw [show bs [] = (⟨#[]⟩ : ByteArray) from rfl]
                  have hO : O2 = O := by rw [HAD.out, if_pos hUe]
                  have HO := Lib.hid hO
                  clear hO hUe
                  go_wp2
                  go_roundw
                  case rel => exact ⟨i + 1, i + 1, k + 1, O2, by go_num, by go_num, by go_num, by omega, ST2.out, by rw [HO.out]; exact RU1.out, B1.out⟩
                  case measure => simp [intOf]; omega
                · rw [List.concat_eq_append] at hl
                  obtain ⟨m, hm⟩ : ∃ m, m = pp.length := ⟨_, rfl⟩
                  obtain ⟨Z, hZ⟩ : ∃ Z, Z = bs l := ⟨_, rfl⟩
                  have hzz : Z.size = m + 1 := by rw [hZ, bs_size, hl, hm]; simp
                  have hm0 : m < Z.size := by omega
                  have hm7 : m ≤ 70000 := by rw [hl] at hll; simp at hll; omega
                  obtain ⟨cN, hcN⟩ : ∃ cN, (Z[m]'hm0).toNat = cN := ⟨_, rfl⟩
                  have hcc : cN = cc.toNat := by
                    subst hm
                    subst hl
                    subst hZ
                    rw [← hcN]
                    have : (bs (pp ++ [cc]))[pp.length]'hm0 = (pp ++ [cc])[pp.length]'(by simp) := rfl
                    rw [this]; simp
                  have hex2 : Z.extract 0 m = bs pp := by rw [hZ, hl, hm, ext_bs]; simp
                  have hmI : (0 : Int) < (m : Int) + 1 := by omega
                  rw [← hZ]
                  by_cases h32 : cN = 32
                  · have hc32 : cc = 32 := UInt8.toNat_inj.1 (by rw [← hcc, h32]; rfl)
                    have hpp : Lib.trimB pp 32 = U := by rw [← hlU, hl, hc32, trim_snoc]
                    have hph : pp.head? ≠ some 32 := fun e => hlh (by
                      rw [hl]
                      cases pp with
                      | nil => simp at e
                      | cons a r => simpa using e)
                    have hpl : pp.length ≤ 70000 := by omega
                    have HPP := Lib.hid (And.intro hpp (And.intro hph hpl))
                    have HX2 := Lib.hid hex2
                    have hps : (bs pp).size = m := by rw [bs_size, hm]
                    subst h32
                    clear hpp hph hpl hc32 hcc hl hlU hlh hZ hm
                    go_wp2
                    go_roundw
                    case rel => exact ⟨pp, by rw [← HX2.out], HPP.out.1, HPP.out.2.2, HPP.out.2.1, by trivial⟩
                    case measure => simp [Lib.strSize, hps]; omega
                  · have h32I : ((cN : Int) == 32) = false := by rw [beq_eq_false_iff_ne]; omega
                    have hlU2 : U = l := by
                      rw [← hlU, hl]
                      exact trim_done (fun e => h32 (by rw [hcc, e]; rfl)) (by rw [← hl]; exact hlh)
                    have hUe : ¬ U = [] := by rw [hlU2, hl]; simp
                    have hne : Z.toList.isEmpty = false := by rw [hZ]; exact bs_nonempty (by rw [hl]; simp)
                    have HZU : Hid (Z = bs U) := Lib.hid (by rw [hZ, hlU2])
                    clear hlU2 hcc hl hlU hlh hZ hm
                    have hO : O2 = O ++ [(k + 1, U)] := by rw [HAD.out, if_neg hUe]
                    have HO := Lib.hid hO
                    clear hO hUe
                    go_wp2_with (first | (at_builtin; (obtain ⟨i0, hi, hz0, hz1, hz2⟩ := HI.out); refine wpList_append_own _ rfl _ _ 68 rfl w.heap.size 71 i0 (.agg #[.int .i64 0, .string ⟨#[]⟩]) 2 24 Tryz.underlying68 hi hz0 hz1 hz2 rfl (by decide) _ _ _ rfl (RU1.out.alloc _) ⟨w1.heap.size, 0, none⟩ 1 1 [.int .i64 ((k : Int) + 1), .string Z] rfl rfl (news_l w1 _ _ _) (by intro u hu; simp at hu; rcases hu with rfl | rfl <;> rfl) (by unfold maxLen; omega) (by omega) (by have := B1.out.size; simp; omega) ?_; intro v' w2 hown hgrow hnil; have HO1 := Lib.hid hown; have HG1 := Lib.hid hgrow; clear hown hgrow hnil hi hz0 hz1 hz2))
                    go_roundw
                    case rel =>
                      refine ⟨i + 1, i + 1, k + 1, O2, by go_num, by go_num, by go_num, by omega, ST2.out, ?_, ?_⟩
                      · have h := HO1.out
                        unfold LineQ
                        rw [HO.out, lcells_snoc, List.length_append]
                        rw [HZU.out] at h
                        exact h
                      · exact (B1.out.alloc B1.out.size _).grown HG1.out (by have := B1.out.size; simp; omega) (fun k hk => (RU1.out.lt k hk).1)
                    case measure => simp [intOf]; omega
            | cons a r =>
              obtain ⟨Z, hZ⟩ : ∃ Z, Z = bs (a :: r) := ⟨_, rfl⟩
              have hzz : Z.size = r.length + 1 := by rw [hZ, bs_size]; rfl
              have hz0 : 0 < Z.size := by omega
              have hz0I : (0 : Int) < (Z.size : Int) := by omega
              obtain ⟨cN, hcN⟩ : ∃ cN, (Z[0]'hz0).toNat = cN := ⟨_, rfl⟩
              have hca : cN = a.toNat := by subst hZ; rw [← hcN]; rfl
              have hex2 : Z.extract 1 Z.size = bs r := by rw [hZ, ext_bs, bs_size]; simp
              rw [← hZ]
              by_cases h32 : cN = 32
              · have ha : a = 32 := UInt8.toNat_inj.1 (by rw [← hca, h32]; rfl)
                have hrU : Lib.trimB r 32 = U := by rw [← HLU.out.1, ha, trim_cons]
                have HRU := Lib.hid hrU
                have hrl : r.length ≤ 70000 := by simp at hll; omega
                have h1I : (1 : Int) ≤ (Z.size : Int) := by omega
                have HX2 := Lib.hid hex2
                have hps : (bs r).size = r.length := bs_size r
                have HZZ := Lib.hid hzz
                subst h32
                clear hrU ha hca hZ
                go_wp2
                go_roundw
                case rel => exact ⟨r, by rw [← HX2.out, HZZ.out], HRU.out, hrl, by trivial⟩
                case measure => simp [Lib.strSize, hps]; omega
              · have h32I : ((cN : Int) == 32) = false := by rw [beq_eq_false_iff_ne]; omega
                have hh : (a :: r).head? ≠ some 32 := fun e => h32 (by simp at e; rw [hca, e]; rfl)
                have HH := Lib.hid hh
                have HZ := Lib.hid hZ
                clear hh hca hZ
                go_upto_region 10 with (fail)
                go_loopw [7] (fun tt wr2 => ∃ l : List UInt8, tt = .string (bs l) ∧ Lib.trimB l 32 = U ∧ l.length ≤ 70000 ∧ l.head? ≠ some 32 ∧ w1 = wr2) (fun tt _ => Lib.strSize tt)
                case atStart => exact ⟨a :: r, by rw [HZ.out], HLU.out.1, HLU.out.2, HH.out, rfl⟩
                case round =>
                  obtain ⟨l, rfl, hlU, hll, hlh, rfl⟩ := hrel
                  rcases List.eq_nil_or_concat l with hl | ⟨pp, cc, hl⟩
                  · subst hl
                    have hUe : U = [] := by rw [← hlU]; rfl
                    rw [show bs [] = (⟨#[]⟩ : ByteArray) from rfl]
                    have hO : O2 = O := by rw [HAD.out, if_pos hUe]
                    have HO := Lib.hid hO
                    clear hO hUe
                    go_wp2
                    go_roundw
                    case rel => exact ⟨i + 1, i + 1, k + 1, O2, by go_num, by go_num, by go_num, by omega, ST2.out, by rw [HO.out]; exact RU1.out, B1.out⟩
                    case measure => simp [intOf]; omega
                  · rw [List.concat_eq_append] at hl
                    obtain ⟨m, hm⟩ : ∃ m, m = pp.length := ⟨_, rfl⟩
                    obtain ⟨Z, hZ⟩ : ∃ Z, Z = bs l := ⟨_, rfl⟩
                    have hzz : Z.size = m + 1 := by rw [hZ, bs_size, hl, hm]; simp
                    have hm0 : m < Z.size := by omega
                    have hm7 : m ≤ 70000 := by rw [hl] at hll; simp at hll; omega
                    obtain ⟨cN, hcN⟩ : ∃ cN, (Z[m]'hm0).toNat = cN := ⟨_, rfl⟩
                    have hcc : cN = cc.toNat := by
                      subst hm
                      subst hl
                      subst hZ
                      rw [← hcN]
                      have : (bs (pp ++ [cc]))[pp.length]'hm0 = (pp ++ [cc])[pp.length]'(by simp) := rfl
                      rw [this]; simp
                    have hex2 : Z.extract 0 m = bs pp := by rw [hZ, hl, hm, ext_bs]; simp
                    have hmI : (0 : Int) < (m : Int) + 1 := by omega
                    rw [← hZ]
                    by_cases h32 : cN = 32
                    · have hc32 : cc = 32 := UInt8.toNat_inj.1 (by rw [← hcc, h32]; rfl)
                      have hpp : Lib.trimB pp 32 = U := by rw [← hlU, hl, hc32, trim_snoc]
                      have hph : pp.head? ≠ some 32 := fun e => hlh (by
                        rw [hl]
                        cases pp with
                        | nil => simp at e
                        | cons a r => simpa using e)
                      have hpl : pp.length ≤ 70000 := by omega
                      have HPP := Lib.hid (And.intro hpp (And.intro hph hpl))
                      have HX2 := Lib.hid hex2
                      have hps : (bs pp).size = m := by rw [bs_size, hm]
                      subst h32
                      clear hpp hph hpl hc32 hcc hl hlU hlh hZ hm
                      go_wp2
                      go_roundw
                      case rel => exact ⟨pp, by rw [← HX2.out], HPP.out.1, HPP.out.2.2, HPP.out.2.1, by trivial⟩
                      case measure => simp [Lib.strSize, hps]; omega
                    · have h32I : ((cN : Int) == 32) = false := by rw [beq_eq_false_iff_ne]; omega
                      have hlU2 : U = l := by
                        rw [← hlU, hl]
                        exact trim_done (fun e => h32 (by rw [hcc, e]; rfl)) (by rw [← hl]; exact hlh)
                      have hUe : ¬ U = [] := by rw [hlU2, hl]; simp
                      have hne : Z.toList.isEmpty = false := by rw [hZ]; exact bs_nonempty (by rw [hl]; simp)
                      have HZU : Hid (Z = bs U) := Lib.hid (by rw [hZ, hlU2])
                      clear hlU2 hcc hl hlU hlh hZ hm
                      have hO : O2 = O ++ [(k + 1, U)] := by rw [HAD.out, if_neg hUe]
                      have HO := Lib.hid hO
                      clear hO hUe
                      go_wp2_with (first | (at_builtin; (obtain ⟨i0, hi, hz0, hz1, hz2⟩ := HI.out); refine wpList_append_own _ rfl _ _ 68 rfl w.heap.size 71 i0 (.agg #[.int .i64 0, .string ⟨#[]⟩]) 2 24 Tryz.underlying68 hi hz0 hz1 hz2 rfl (by decide) _ _ _ rfl (RU1.out.alloc _) ⟨w1.heap.size, 0, none⟩ 1 1 [.int .i64 ((k : Int) + 1), .string Z] rfl rfl (news_l w1 _ _ _) (by intro u hu; simp at hu; rcases hu with rfl | rfl <;> rfl) (by unfold maxLen; omega) (by omega) (by have := B1.out.size; simp; omega) ?_; intro v' w2 hown hgrow hnil; have HO1 := Lib.hid hown; have HG1 := Lib.hid hgrow; clear hown hgrow hnil hi hz0 hz1 hz2))
                      go_roundw
                      case rel =>
                        refine ⟨i + 1, i + 1, k + 1, O2, by go_num, by go_num, by go_num, by omega, ST2.out, ?_, ?_⟩
                        · have h := HO1.out
                          unfold LineQ
                          rw [HO.out, lcells_snoc, List.length_append]
                          rw [HZU.out] at h
                          exact h
                        · exact (B1.out.alloc B1.out.size _).grown HG1.out (by have := B1.out.size; simp; omega) (fun k hk => (RU1.out.lt k hk).1)
                      case measure => simp [intOf]; omega
    · have hinI : ¬ (i : Int) ≤ (S.size : Int) := by omega
      have hd := ST.out.done (by rw [← HSZ.out]; omega)
      have HD := Lib.hid hd
      clear hd
      go_wp2
      go_ret
      exact ⟨⟨_, rfl, by rw [HD.out]; exact RU.out⟩, BQ.out⟩

theorem rows_apart {w : World} {b1 b2 n1 n2 s1 s2 : Nat} {t1 t2 : TypeId} {v1 v2 : Value} {c1 c2 : List Value} (h1 : w.ownsRow b1 t1 s1 v1 n1 c1) (h2 : w.ownsRow b2 t2 s2 v2 n2 c2) (hne : t1 ≠ t2) : v1.ownBlock = none ∨ v1.ownBlock ≠ v2.ownBlock := by
  rcases h1.2 with ⟨rfl, _⟩ | ⟨g1, cap1, cur1, rfl, _, hg1, _⟩
  · exact Or.inl rfl
  · right
    rcases h2.2 with ⟨rfl, _⟩ | ⟨g2, cap2, cur2, rfl, _, hg2, _⟩
    · simp [Value.ownBlock]
    · simp only [Value.ownBlock]
      intro e
      have e2 : g1 = g2 := by injection e
      subst e2
      rw [hg1] at hg2
      simp at hg2
      exact hne hg2.2
/-- a row of places -/
def RowI (w : World) (base : Nat) (v : Value) (l : List Nat) : Prop := w.ownsRow base 3 1 v l.length (l.map fun y => Value.int .i64 (y : Nat))
theorem rowI_all {w : World} {base : Nat} {v : Value} {l : List Nat} (h : RowI w base v l) : ∃ A cap, v = .slice A l.length cap ∧ (l = [] ∨ ∃ g, A = some ⟨g, 0, none⟩ ∧ g < w.heap.size ∧ ∀ (j : Nat) x, l[j]? = some x → w.cell? ⟨g, j, none⟩ = some (.int .i64 (x : Nat))) := by
  obtain ⟨_, h2⟩ := h
  rcases h2 with ⟨h3, h4⟩ | ⟨g, cap, cur, rfl, hg, h4, _, _, _, h8⟩
  · have hl := List.length_eq_zero_iff.1 h4
    subst hl
    exact ⟨none, 0, h3, Or.inl rfl⟩
  · refine ⟨_, cap, rfl, Or.inr ⟨g, rfl, heap_lt h4, fun j x hx => ?_⟩⟩
    rw [cell_of_row _ _ _ _ _ _ h4]
    have hj := (List.getElem?_eq_some_iff.1 hx).1
    have q := congrArg (fun l => l[j]?) h8
    simp only [List.getElem?_map, hx, Option.map_some] at q
    rw [List.getElem?_take] at q
    rw [if_pos (by omega)] at q
    rw [← Array.getElem?_toList]
    exact q
theorem news_pl (w : World) (n : Int) (t : TypeId) : ∀ (j : Nat) (u : Value), ([.int .i64 n] : List Value)[j]? = some u → (w.alloc (.cells #[.int .i64 n] t)).cell? ((⟨w.heap.size, 0, none⟩ : Addr).add j) = some u := by
  intro z u hz
  rcases z with _ | z
  · simp at hz; subst hz; simp [Addr.add]
  · simp at hz
theorem lineQ_all {w : World} {base : Nat} {v : Value} {l : List (Nat × List UInt8)} (h : LineQ w base v l) : ∃ A cap, v = .slice A l.length cap ∧ (l = [] ∨ ∃ g, A = some ⟨g, 0, none⟩ ∧ g < w.heap.size ∧ ∀ (j : Nat) p, l[j]? = some p → w.cell? ⟨g, j * 2, none⟩ = some (.int .i64 (p.1 : Nat)) ∧ w.cell? ⟨g, j * 2 + 1, none⟩ = some (.string (bs p.2))) := by
  obtain ⟨_, h2⟩ := h
  rcases h2 with ⟨h3, h4⟩ | ⟨g, cap, cur, rfl, hg, h4, _, _, _, h8⟩
  · have hl := List.length_eq_zero_iff.1 h4
    subst hl
    exact ⟨none, 0, h3, Or.inl rfl⟩
  · refine ⟨_, cap, rfl, Or.inr ⟨g, rfl, heap_lt h4, fun j p hp => ?_⟩⟩
    have hj := (List.getElem?_eq_some_iff.1 hp).1
    obtain ⟨q1, q2⟩ := lcells_get l j p hp
    refine ⟨?_, ?_⟩
    · rw [cell_of_row _ _ _ _ _ _ h4, ← Array.getElem?_toList]
      rw [← h8, List.getElem?_take, if_pos (by omega)] at q1
      exact q1
    · rw [cell_of_row _ _ _ _ _ _ h4, ← Array.getElem?_toList]
      rw [← h8, List.getElem?_take, if_pos (by omega)] at q2
      exact q2
/-- what stands while ref04.Program runs: the words, the names, their places -/
structure PR (w1 : World) (vo vn vp : Value) (ws : List Nat) (N : List (List UInt8 × Nat)) (w : World) : Prop where
  o : RowU w w1.heap.size vo ws
  n : RowS w w1.heap.size vn (N.map (·.1))
  p : RowI w w1.heap.size vp (N.map (·.2))
  b : Below w1.heap.size w1 w
theorem PR.start (w1 : World) : PR w1 (.slice none 0 0) (.slice none 0 0) (.slice none 0 0) [] [] w1 := ⟨World.ownsRow_nil _ _ _ _, World.ownsRow_nil _ _ _ _, World.ownsRow_nil _ _ _ _, Below.refl _ _⟩
theorem PR.below {w1 : World} {vo vn vp : Value} {ws : List Nat} {N : List (List UInt8 × Nat)} {w w' : World} (h : PR w1 vo vn vp ws N w) (hb : Below w.heap.size w w') : PR w1 vo vn vp ws N w' := by
  have g := gb_below (World.grownBy.refl w none) hb
  exact ⟨World.ownsRow.kept (h.o : World.ownsRow _ _ _ _ _ _ _) g (by cases vo.ownBlock <;> simp), World.ownsRow.kept (h.n : World.ownsRow _ _ _ _ _ _ _) g (by cases vn.ownBlock <;> simp), World.ownsRow.kept (h.p : World.ownsRow _ _ _ _ _ _ _) g (by cases vp.ownBlock <;> simp), h.b.trans (hb.mono h.b.size)⟩
theorem PR.pushO {w1 : World} {vo vn vp : Value} {ws : List Nat} {N : List (List UInt8 × Nat)} {w w' : World} {v' : Value} {x : Nat} (h : PR w1 vo vn vp ws N w) (ho : w'.ownsRow w1.heap.size 44 1 v' (ws.length + 1) ((ws.map fun x => Value.int .u32 (x : Nat)) ++ [.int .u32 (x : Nat)])) (hg : w.grownBy w' vo.ownBlock) : PR w1 v' vn vp (ws ++ [x]) N w' := by
  refine ⟨?_, World.ownsRow.kept (h.n : World.ownsRow _ _ _ _ _ _ _) hg (rows_apart h.n h.o (by decide)), World.ownsRow.kept (h.p : World.ownsRow _ _ _ _ _ _ _) hg (rows_apart h.p h.o (by decide)), h.b.grown hg h.b.size (fun k hk => (World.ownsRow.lt h.o k hk).1)⟩
  unfold RowU
  rw [List.length_append, List.map_append]
  exact ho
/-- between the two: the name stands, its place not yet -/
structure PQ (w1 : World) (vo vn vp : Value) (ws : List Nat) (N : List (List UInt8 × Nat)) (s : List UInt8) (w : World) : Prop where
  o : RowU w w1.heap.size vo ws
  n : RowS w w1.heap.size vn (N.map (·.1) ++ [s])
  p : RowI w w1.heap.size vp (N.map (·.2))
  b : Below w1.heap.size w1 w
theorem PQ.below {w1 : World} {vo vn vp : Value} {ws : List Nat} {N : List (List UInt8 × Nat)} {s : List UInt8} {w w' : World} (h : PQ w1 vo vn vp ws N s w) (hb : Below w.heap.size w w') : PQ w1 vo vn vp ws N s w' := by
  have g := gb_below (World.grownBy.refl w none) hb
  exact ⟨World.ownsRow.kept (h.o : World.ownsRow _ _ _ _ _ _ _) g (by cases vo.ownBlock <;> simp), World.ownsRow.kept (h.n : World.ownsRow _ _ _ _ _ _ _) g (by cases vn.ownBlock <;> simp), World.ownsRow.kept (h.p : World.ownsRow _ _ _ _ _ _ _) g (by cases vp.ownBlock <;> simp), h.b.trans (hb.mono h.b.size)⟩
theorem PR.pushN {w1 : World} {vo vn vp : Value} {ws : List Nat} {N : List (List UInt8 × Nat)} {w w' : World} {v' : Value} {s : List UInt8} (h : PR w1 vo vn vp ws N w) (ho : w'.ownsRow w1.heap.size 9 1 v' ((N.map (·.1)).length + 1) (((N.map (·.1)).map fun x => Value.string (bs x)) ++ [.string (bs s)])) (hg : w.grownBy w' vn.ownBlock) : PQ w1 vo v' vp ws N s w' := by
  refine ⟨World.ownsRow.kept (h.o : World.ownsRow _ _ _ _ _ _ _) hg (rows_apart h.o h.n (by decide)), ?_, World.ownsRow.kept (h.p : World.ownsRow _ _ _ _ _ _ _) hg (rows_apart h.p h.n (by decide)), h.b.grown hg h.b.size (fun k hk => (World.ownsRow.lt h.n k hk).1)⟩
  unfold RowS
  rw [List.length_append, List.map_append]
  exact ho
theorem PQ.pushP {w1 : World} {vo vn vp : Value} {ws : List Nat} {N : List (List UInt8 × Nat)} {w w' : World} {v' : Value} {s : List UInt8} {a : Nat} (h : PQ w1 vo vn vp ws N s w) (ho : w'.ownsRow w1.heap.size 3 1 v' ((N.map (·.2)).length + 1) (((N.map (·.2)).map fun x => Value.int .i64 (x : Nat)) ++ [.int .i64 (a : Nat)])) (hg : w.grownBy w' vp.ownBlock) : PR w1 vo vn v' ws (N ++ [(s, a)]) w' := by
  refine ⟨World.ownsRow.kept (h.o : World.ownsRow _ _ _ _ _ _ _) hg (rows_apart h.o h.p (by decide)), ?_, ?_, h.b.grown hg h.b.size (fun k hk => (World.ownsRow.lt h.p k hk).1)⟩
  · rw [List.map_append]
    exact World.ownsRow.kept (h.n : World.ownsRow _ _ _ _ _ _ _) hg (rows_apart h.n h.p (by decide))
  · unfold RowI
    rw [List.map_append, List.length_append, List.map_append]
    exact ho
/-- no name stands twice -/
def UN (N : List (List UInt8 × Nat)) : Prop := ∀ (j : Nat) p, N[j]? = some p → lookT (N.take j) p.1 = none
theorem UN.nil : UN [] := fun j p h => by simp at h
theorem UN.snoc {N : List (List UInt8 × Nat)} (h : UN N) {s : List UInt8} (hs : lookT N s = none) (a : Nat) : UN (N ++ [(s, a)]) := by
  intro j p hp
  by_cases hj : j < N.length
  · rw [List.getElem?_append_left hj] at hp
    rw [List.take_append_of_le_length (by omega)]
    exact h j p hp
  · rw [List.getElem?_append_right (by omega)] at hp
    have hj2 : j = N.length := by
      by_cases h0 : j - N.length = 0
      · omega
      · rw [List.getElem?_eq_none (by simp; omega)] at hp; cases hp
    subst hj2
    simp at hp
    subst hp
    rw [List.take_left' rfl]
    exact hs
theorem look_none {N : List (List UInt8 × Nat)} {s : List UInt8} (h : ∀ (j : Nat) p, N[j]? = some p → p.1 ≠ s) : lookT N s = none := by
  unfold lookT
  rw [Option.map_eq_none_iff, List.find?_eq_none]
  intro p hp
  obtain ⟨j, hj⟩ := List.getElem?_of_mem hp
  simpa using h j p hj
theorem look_some {N : List (List UInt8 × Nat)} {s : List UInt8} {j : Nat} {p : List UInt8 × Nat} (hj : N[j]? = some p) (hp : p.1 = s) : ∃ k, lookT N s = some k := by
  cases h : lookT N s with
  | some k => exact ⟨k, rfl⟩
  | none =>
    exfalso
    unfold lookT at h
    rw [Option.map_eq_none_iff, List.find?_eq_none] at h
    have := h p (List.mem_of_getElem? hj)
    simp [hp] at this
theorem look_take {N : List (List UInt8 × Nat)} (hU : UN N) {k : Nat} {p : List UInt8 × Nat} (hk : N[k]? = some p) (s : List UInt8) : lookT (N.take (k + 1)) s = if s = p.1 then some p.2 else lookT (N.take k) s := by
  obtain ⟨hl, he⟩ := List.getElem?_eq_some_iff.1 hk
  rw [List.take_succ_eq_append_getElem hl, he]
  exact look_snoc p.2 (hU k p hk) s

theorem lab_split {t : List UInt8} (h : labT t = true) : ∃ q, t = q ++ [58] ∧ nmL t = q := by
  rcases List.eq_nil_or_concat t with h0 | ⟨p, c, h0⟩
  · subst h0; rw [lab_nil] at h; cases h
  · rw [List.concat_eq_append] at h0
    subst h0
    rw [lab_concat] at h
    have hc : c = 58 := by
      by_cases e : c = 58
      · exact e
      · rw [decide_eq_false e, Bool.false_and] at h; cases h
    subst hc
    exact ⟨p, rfl, trim_concat p 58⟩
theorem kept_cons (p : Nat × List UInt8) (r : List (Nat × List UInt8)) : keptL (p :: r) = if labT p.2 = true then keptL r else p :: keptL r := by
  unfold keptL
  rw [List.filter_cons]
  cases labT p.2 <;> rfl
/-- the state of the second loop -/
structure KW (N : List (List UInt8 × Nat)) (L : List (Nat × List UInt8)) (j : Nat) (ws : List Nat) : Prop where
  run : wordsP N (keptL (L.drop j)) ws = wordsP N (keptL L) []
theorem KW.start (N : List (List UInt8 × Nat)) (L : List (Nat × List UInt8)) : KW N L 0 [] := ⟨rfl⟩
theorem KW.skip {N : List (List UInt8 × Nat)} {L : List (Nat × List UInt8)} {j : Nat} {ws : List Nat} {p : Nat × List UInt8} (h : KW N L j ws) (hp : L[j]? = some p) (hl : labT p.2 = true) : KW N L (j + 1) ws :=
  ⟨by rw [← h.run, drop_cons hp, kept_cons, if_pos hl]⟩
theorem KW.next {N : List (List UInt8 × Nat)} {L : List (Nat × List UInt8)} {j : Nat} {ws : List Nat} {p : Nat × List UInt8} {v : Nat} (h : KW N L j ws) (hp : L[j]? = some p) (hl : labT p.2 = false) (ho : oneT N ((4 * ws.length : Nat) : Int) p.2 = some v) : KW N L (j + 1) (ws ++ [v]) := by
  refine ⟨?_⟩
  rw [← h.run, drop_cons hp, kept_cons, if_neg (by rw [hl]; decide)]
  show _ = (match oneT N ((4 * ws.length : Nat) : Int) p.2 with | none => _ | some v => _)
  rw [ho]
theorem KW.bad {N : List (List UInt8 × Nat)} {L : List (Nat × List UInt8)} {j : Nat} {ws : List Nat} {p : Nat × List UInt8} (h : KW N L j ws) (hp : L[j]? = some p) (hl : labT p.2 = false) (ho : oneT N ((4 * ws.length : Nat) : Int) p.2 = none) : wordsP N (keptL L) [] = .error p.1 := by
  rw [← h.run, drop_cons hp, kept_cons, if_neg (by rw [hl]; decide)]
  show (match oneT N ((4 * ws.length : Nat) : Int) p.2 with | none => _ | some v => _) = _
  rw [ho]
theorem KW.done {N : List (List UInt8 × Nat)} {L : List (Nat × List UInt8)} {ws : List Nat} (h : KW N L L.length ws) : wordsP N (keptL L) [] = .ok ws := by
  rw [← h.run, List.drop_length]; rfl
/-- what Find tells of a line -/
def codeF (t : List UInt8) : Nat := (findT (partsT t).1).getD 0
def errF (t : List UInt8) : Int := if (findT (partsT t).1).isSome then 0 else 6
def farF (t : List UInt8) : Bool := decide (errF t = 0) && (decide (kN (codeF t) = 66 ∨ kN (codeF t) = 74) && (decide (0 < (partsT t).2.length) && nameT (lastT (partsT t).2)))
theorem dot_len {t : List UInt8} (h : Lib.hasPrefix t dotW = true) : t = dotW ++ t.drop 6 := by
  obtain ⟨r, hr⟩ := List.isPrefixOf_iff_prefix.1 (show List.isPrefixOf dotW t = true from h)
  rw [← hr, List.drop_left' (by rfl)]
theorem one_word {N : List (List UInt8 × Nat)} {a : Int} {t : List UInt8} (h : Lib.hasPrefix t dotW = true) : oneT N a t = parseN (bs (t.drop 6)) := by
  unfold oneT
  rw [if_pos h]
  unfold Lib.trimPrefix
  rw [if_pos h]; rfl
theorem code_lt (t : List UInt8) : codeF t < 57 := by
  unfold codeF
  cases h : findT (partsT t).1 with
  | none => decide
  | some op => exact (find_some h).1
theorem parse_miss {t : List UInt8} (h : findT (partsT t).1 = none) : parseT t = none := by
  unfold parseT; rw [h]
theorem one_short {N : List (List UInt8 × Nat)} {a : Int} {t : List UInt8} (h : ¬ (6 < t.length ∧ Lib.hasPrefix t dotW = true)) : oneT N a t = if farF t = true then (lookT N (lastT (partsT t).2)).bind fun (k : Nat) => encN (parseT (putT t ((k : Int) - a))) else encN (parseT t) := by
  by_cases hp : Lib.hasPrefix t dotW = true
  · have e := dot_len hp
    have hl : ¬ 6 < t.length := fun q => h ⟨q, hp⟩
    have e2 : t = dotW := by
      have : t.drop 6 = [] := List.drop_eq_nil_of_le (by omega)
      rw [this, List.append_nil] at e; exact e
    subst e2
    rw [one_word hp]
    have h1 : findT (partsT dotW).1 = none := by kernel_rfl
    have h2 : farF dotW = false := by unfold farF errF; rw [h1]; rfl
    rw [h2, parse_miss h1]
    rfl
  · unfold oneT
    rw [if_neg hp]
    cases hf : findT (partsT t).1 with
    | none =>
      have h2 : farF t = false := by unfold farF errF; rw [hf]; rfl
      rw [h2, parse_miss hf]; rfl
    | some op =>
      have h2 : farF t = farOp t op := by unfold farF errF codeF farOp; rw [hf]; rfl
      rw [h2]
      show (textN N a t op).bind _ = _
      unfold textN
      cases farOp t op with
      | false => rfl
      | true =>
        rw [if_pos rfl, if_pos rfl]
        cases lookT N (lastT (partsT t).2) <;> rfl
/-- the text as it is built anew, j operands in -/
def preT (t : List UInt8) (j : Nat) : List UInt8 := (partsT t).1 ++ 32 :: ((partsT t).2.take j).flatMap (fun y => y ++ [44, 32])
theorem pre_step {t : List UInt8} {j : Nat} {y : List UInt8} (h : (partsT t).2[j]? = some y) : preT t (j + 1) = preT t j ++ y ++ [44, 32] := by
  obtain ⟨hl, he⟩ := List.getElem?_eq_some_iff.1 h
  unfold preT
  rw [List.take_succ_eq_append_getElem hl, he, List.flatMap_append]
  simp
theorem join_flat (z : List UInt8) : ∀ l : List (List UInt8), Lib.join (l ++ [z]) [44, 32] = l.flatMap (fun y => y ++ [44, 32]) ++ z
  | [] => by rw [List.nil_append, Lib.join_one]; rfl
  | y :: r => by
    rw [List.cons_append, join_two y (by simp), join_flat z r, List.flatMap_cons]
    simp
theorem pre_done {t : List UInt8} {m : Nat} (h : (partsT t).2.length = m + 1) (n : Int) : putT t n = preT t m ++ Lib.itoa n := by
  unfold putT preT
  rw [join_flat, List.dropLast_eq_take, h]
  simp
theorem pre_len {t : List UInt8} {m j : Nat} (h : (partsT t).2.length = m + 1) (hj : j ≤ m) : (preT t j).length ≤ t.length + 21 := by
  have h1 : (preT t j).length ≤ (preT t m).length := by
    unfold preT
    have e : (partsT t).2.take m = (partsT t).2.take j ++ ((partsT t).2.drop j).take (m - j) := by
      rw [← List.take_add]; congr 1; omega
    rw [e, List.flatMap_append]
    simp only [List.length_append, List.length_cons]; omega
  have h2 := put_len (t := t) (n := 0) (fun q => by rw [q] at h; simp at h) (by decide) (by decide)
  rw [pre_done h, List.length_append] at h2
  omega
/-- the place that the search has found so far -/
def toI (o : Option Nat) : Int := match o with | some k => (k : Int) | none => -1
theorem bs_inj {a b : List UInt8} (h : bs a = bs b) : a = b := by
  have e := congrArg (fun b : ByteArray => b.data.toList) h
  simpa [bs] using e
theorem errF_or (t : List UInt8) : errF t = 0 ∨ errF t = 6 := by
  unfold errF
  cases (findT (partsT t).1).isSome
  · exact Or.inr rfl
  · exact Or.inl rfl
theorem rfind_any (t : List UInt8) (w : World) : Calls Tryz.prog 29 #[.string (bs (partsT t).1)] w fun e w' => e = .returned (.tuple #[.int .i64 (codeF t : Nat), .int .i64 (errF t)]) ∧ Below w.heap.size w w' := by
  unfold codeF errF
  cases hf : findT (partsT t).1 with
  | none =>
    exact rfind_miss (bs (partsT t).1) (fun j hj e => by
      have h1 := List.find?_eq_none.1 hf j (List.mem_range.2 hj)
      rw [e, bs_list] at h1
      simp at h1) w
  | some op => exact rfind_hit (bs (partsT t).1) op (find_some hf).1 (by rw [bs_list, (find_some hf).2]) w
theorem look_all {N : List (List UInt8 × Nat)} {K : Nat} (h : K = N.length) : N.take K = N := by rw [h]; exact List.take_length
theorem one_enc {i : Ins} : encN (some i) = some (lw i.op i.rd i.r1 i.r2 i.imm i.cs) := rfl
theorem parse_no (t : List UInt8) (hl : t.length ≤ 70000) (hp : parseT t = none) (w : World) : Calls Tryz.prog 19 #[.string (bs t)] w fun e w' => e = .returned (.tuple #[.agg #[.int .i64 0, .int .i64 0, .int .i64 0, .int .i64 0, .int .i64 0, .int .i64 0], .int .i64 3]) ∧ Below w.heap.size w w' := by
  have h := rparse4_any t hl w
  rw [hp] at h
  exact h
theorem parse_yes (t : List UInt8) (hl : t.length ≤ 70000) (i : Ins) (hp : parseT t = some i) : ∃ (v : Nat) (i1 i2 i3 i4 i5 i6 : Int), encN (parseT t) = some v ∧ (∀ w, Calls Tryz.prog 19 #[.string (bs t)] w fun e w' => e = .returned (.tuple #[.agg #[.int .i64 i1, .int .i64 i2, .int .i64 i3, .int .i64 i4, .int .i64 i5, .int .i64 i6], .int .i64 0]) ∧ Below w.heap.size w w') ∧ (∀ w, Calls Tryz.prog 33 #[.agg #[.int .i64 i1, .int .i64 i2, .int .i64 i3, .int .i64 i4, .int .i64 i5, .int .i64 i6]] w fun e w' => e = .returned (.tuple #[.int .u32 (v : Nat), .int .i64 0]) ∧ Below w.heap.size w w') :=
  ⟨lw i.op i.rd i.r1 i.r2 i.imm i.cs, i.op, i.rd, i.r1, i.r2, i.imm, i.cs, by rw [hp]; rfl, fun w => by
    have h := rparse4_any t hl w
    rw [hp] at h
    exact h, fun w => renc_yes i.op i.rd i.r1 i.r2 i.imm i.cs (parse_text hp).1 w⟩
theorem last_len {l : List (List UInt8)} (h : ∀ y ∈ l, y.length ≤ 70000) : (lastT l).length ≤ 70000 := by
  unfold lastT
  cases hl : l with
  | nil => simp
  | cons y r => rw [← hl, List.getLastD_eq_getLast?, List.getLast?_eq_some_getLast (by rw [hl]; simp)]; exact h _ (List.getLast_mem _)
theorem parts_len {t : List UInt8} : (partsT t).2.length ≤ t.length + 1 := by
  by_cases h0 : (partsT t).2 = []
  · rw [h0]; simp
  · have q := congrArg List.length (parts_join h0)
    cases hl : (partsT t).2 with
    | nil => simp
    | cons y r => rw [hl] at q; simp only [List.length_append, List.length_cons] at q; rw [Lib.join_length] at q; simp at q ⊢; omega

set_option maxHeartbeats 16000000 in
/-- ref04.Program -/
theorem rprog_any (s : List UInt8) (hs : s.length ≤ 65536) (w : World) : Calls Tryz.prog 11 #[.string (bs s)] w fun e w' => (∃ r, e = .returned (.tuple #[r, .int .i64 ((progT s).2.1 : Nat), .int .i64 (progT s).2.2]) ∧ RowU w' w.heap.size r (progT s).1) ∧ Below w.heap.size w w' := by
  have AL := Lib.hid (rlines4_any s (by omega) w)
  have hP : progT s = match labsP (linesT s) 0 [] with
      | .error k => ([], k, 6)
      | .ok N => match wordsP N (keptL (linesT s)) [] with
        | .error k => ([], k, 3)
        | .ok ws => (ws, 0, 0) := by unfold progT; rw [if_neg (by omega)]; rfl
  have hsm : ∀ p ∈ linesT s, p.2.length ≤ 65536 := fun p hp => by have := lines_small p hp; omega
  have hcnt : (linesT s).length ≤ 65538 := by have := lines_count s; omega
  have hz : (bs s).size ≤ 65536 := by rw [bs_size]; exact hs
  generalize bs s = y at *
  obtain ⟨R, hR⟩ : ∃ R, R = progT s := ⟨_, rfl⟩
  rw [← hR] at hP ⊢
  have hz2 : ¬ (65536 : Int) < (y.size : Int) := by omega
  obtain ⟨RA, hRA⟩ : ∃ RA : Int, RA = (R.2.1 : Nat) := ⟨_, rfl⟩
  obtain ⟨RB, hRB⟩ : ∃ RB : Int, RB = R.2.2 := ⟨_, rfl⟩
  rw [← hRA, ← hRB]
  generalize linesT s = L at *
  have HP := Lib.hid hP
  have HRA := Lib.hid hRA
  have HRB := Lib.hid hRB
  have HSM := Lib.hid hsm
  have HI3 : Hid (∃ i, Tryz.prog.info? 3 = some i ∧ i.zero = some (.int .i64 0) ∧ i.size = 1 ∧ i.bytes = 8) := Lib.hid ⟨_, rfl, rfl, rfl, rfl⟩
  have HI2 : Hid (∃ i, Tryz.prog.info? 9 = some i ∧ i.zero = some (.string ⟨#[]⟩) ∧ i.size = 1 ∧ i.bytes = 16) := Lib.hid ⟨_, rfl, rfl, rfl, rfl⟩
  have HI1 : Hid (∃ i, Tryz.prog.info? 44 = some i ∧ i.zero = some (.int .u32 0) ∧ i.size = 1 ∧ i.bytes = 4) := Lib.hid ⟨_, rfl, rfl, rfl, rfl⟩
  clear hP hR hRA hRB hz hsm hs
  go_enter Tryz.func11, Tryz.ntmps11
  go_upto_region 8 with (go_at_call 25; refine AL.out.mono ?_; rintro e w1 ⟨⟨v, rfl, hrow⟩, hb⟩; have B1 := Lib.hid hb; have R1 := Lib.hid hrow; clear hrow hb)
  have hb1 := B1.out.size
  obtain ⟨A, cap, rfl, hA⟩ := lineQ_all R1.out
  have HA := Lib.hid hA
  obtain ⟨n, hnn⟩ : ∃ n, n = L.length := ⟨_, rfl⟩
  rw [← hnn] at hcnt ⊢
  have HNN := Lib.hid hnn
  clear hA hnn AL R1
  go_loopw [6, 7, 8, 9] (fun vn vp va xx wr => ∃ (j a : Nat) (N : List (List UInt8 × Nat)), j ≤ n ∧ xx = .int .i64 j ∧ va = .int .i64 a ∧ Lab L j a N ∧ UN N ∧ N.length ≤ j ∧ PR w1 (.slice none 0 0) vn vp [] N wr) (fun _ _ _ xx _ => n - (intOf xx).toNat)
  case atStart => exact ⟨0, 0, [], Nat.zero_le _, rfl, rfl, Lab.start L, UN.nil, Nat.le_refl _, PR.start w1⟩
  case round =>
    rename World => wo
    obtain ⟨j, a, N, hj, rfl, rfl, hlab, hun, hNj, hpr⟩ := hrel
    have LB := Lib.hid hlab
    have HU := Lib.hid hun
    have PP := Lib.hid hpr
    have haN := hlab.at_
    have hsz1 := hpr.b.size
    clear hlab hun hpr
    by_cases hjl : j < n
    · as_aux_lemma =>
        have hjI : (j : Int) < (n : Int) := by omega
        have hjL : j < L.length := by have := HNN.out; omega
        obtain ⟨g, hAe, hg, hc⟩ : ∃ g, A = some ⟨g, 0, none⟩ ∧ g < w1.heap.size ∧ ∀ (j : Nat) p, L[j]? = some p → w1.cell? ⟨g, j * 2, none⟩ = some (.int .i64 (p.1 : Nat)) ∧ w1.cell? ⟨g, j * 2 + 1, none⟩ = some (.string (bs p.2)) := by
          rcases HA.out with h | h
          · rw [h] at hjL; simp at hjL
          · exact h
        subst hAe
        obtain ⟨p, hp⟩ : ∃ p, L[j]? = some p := ⟨L[j], List.getElem?_eq_getElem hjL⟩
        have q1 := (PP.out.b.cell (p := ⟨g, j * 2, none⟩) hg).trans (hc j p hp).1
        have q2 := (PP.out.b.cell (p := ⟨g, j * 2 + 1, none⟩) hg).trans (hc j p hp).2
        have hpl := HSM.out p (List.mem_of_getElem? hp)
        have RL := Lib.hid (fun w => rlabel4_any p.2 (by omega) w)
        have HPJ := Lib.hid hp
        obtain ⟨tx, htx⟩ : ∃ tx, tx = bs p.2 := ⟨_, rfl⟩
        rw [← htx] at q2 RL
        have htz : tx.size = p.2.length := by rw [htx, bs_size]
        clear hp hc hjL
        cases hlb : labT p.2 with
        | false =>
          rw [hlb] at RL
          have HLB := Lib.hid hlb
          clear hlb htx htz
          go_wp2_with (go_at_call 26; refine (RL.out _).mono ?_; rintro e w3 ⟨rfl, rfl⟩)
          go_roundw
          case rel => exact ⟨j + 1, a + 4, N, by omega, by go_num, by go_num, LB.out.word HPJ.out HLB.out, HU.out, by omega, PP.out⟩
          case measure => simp [intOf]; omega
        | true =>
          rw [hlb] at RL
          have HLB := Lib.hid hlb
          obtain ⟨q, hq1, hq2⟩ := lab_split hlb
          obtain ⟨m, hm⟩ : ∃ m, m = q.length := ⟨_, rfl⟩
          have hm1 : tx.size = m + 1 := by rw [htz, hq1, hm]; simp
          have hex : tx.extract 0 m = bs q := by rw [htx, hq1, hm, ext_bs]; simp
          have hm7 : m ≤ 65536 := by rw [hq1] at hpl; simp at hpl; omega
          obtain ⟨QB, hQB⟩ : ∃ QB, QB = bs q := ⟨_, rfl⟩
          rw [← hQB] at hex
          have HQB := Lib.hid hQB
          have HQ2 := Lib.hid hq2
          obtain ⟨An, cn, hvn, hAn⟩ := rowS_all PP.out.n
          obtain ⟨K, hK⟩ : ∃ K, K = N.length := ⟨_, rfl⟩
          rw [List.length_map, ← hK] at hvn
          rw [← hK] at hNj
          have HK := Lib.hid hK
          have HAn := Lib.hid hAn
          subst hvn
          clear hlb htx htz hq1 hq2 hm hQB hK hAn hpl
          have hm1I : (tx.size : Int) = (m : Int) + 1 := by omega
          go_upto_region 12 with (go_at_call 26; refine (RL.out _).mono ?_; rintro e w3 ⟨rfl, rfl⟩)
          go_region
          go_upto_region 14 with (fail)
          go_loopw [11] (fun xx wk => ∃ k : Nat, k ≤ K ∧ xx = .int .i64 k ∧ (∀ m p, m < k → N[m]? = some p → p.1 ≠ q) ∧ Below wo.heap.size wo wk) (fun xx _ => K - (intOf xx).toNat)
          case atStart => exact ⟨0, Nat.zero_le _, rfl, fun m p h => absurd h (Nat.not_lt_zero _), (Below.refl _ _).drew⟩
          case round =>
            rename World => wk
            obtain ⟨k, hk, rfl, hno, hbk⟩ := hrel
            have HNO := Lib.hid hno
            have BK := Lib.hid hbk
            clear hno hbk
            by_cases hkK : k < K
            · have hkI : (k : Int) < (K : Int) := by omega
              have hkN : k < N.length := by have := HK.out; omega
              obtain ⟨gn, hAe, hgn0, hgn, hcn⟩ : ∃ g, An = some ⟨g, 0, none⟩ ∧ w1.heap.size ≤ g ∧ g < wo.heap.size ∧ ∀ (j : Nat) x, (N.map (·.1))[j]? = some x → wo.cell? ⟨g, j, none⟩ = some (.string (bs x)) := by
                rcases HAn.out with h | h
                · rw [List.map_eq_nil_iff] at h; rw [h] at hkN; simp at hkN
                · exact h
              subst hAe
              obtain ⟨pk, hpk⟩ : ∃ pk, N[k]? = some pk := ⟨N[k], List.getElem?_eq_getElem hkN⟩
              have q3 := (BK.out.cell (p := ⟨gn, k, none⟩) hgn).trans (hcn k pk.1 (by rw [List.getElem?_map, hpk]; rfl))
              have HPK := Lib.hid hpk
              clear hcn hgn0 hkN hpk
              by_cases he : pk.1 = q
              · rw [he, ← HQB.out] at q3
                have q4 := (BK.out.cell (p := ⟨g, j * 2, none⟩) (Nat.lt_of_lt_of_le hg hsz1)).trans q1
                have q5 := (BK.out.cell (p := ⟨g, j * 2 + 1, none⟩) (Nat.lt_of_lt_of_le hg hsz1)).trans q2
                have HE := Lib.hid he
                clear q1 q2 he
                go_upto_region 17 with (fail)
                go_region
                go_wp2
                go_ret3
                obtain ⟨kk, hlk⟩ := look_some HPK.out HE.out
                have hR : R = ([], p.1, 6) := by rw [HP.out, LB.out.twice HPJ.out HLB.out (by rw [HQ2.out]; exact hlk)]
                refine ⟨⟨.slice none 0 0, by rw [HRA.out, HRB.out, hR]; rfl, by rw [hR]; exact World.ownsRow_nil _ _ _ _⟩, ?_⟩
                exact B1.out.trans ((PP.out.b.trans (BK.out.mono hsz1)).mono hb1).drew
              · obtain ⟨nx, hnx⟩ : ∃ nx, nx = bs pk.1 := ⟨_, rfl⟩
                have hne : nx ≠ QB := fun e => he (by rw [hnx, HQB.out] at e; exact bs_inj e)
                have hne2 : (nx.toList == QB.toList) = false := str_ne hne
                rw [← hnx] at q3
                have HE := Lib.hid he
                clear hne hnx he
                go_wp2
                go_roundw
                case rel =>
                  refine ⟨k + 1, by omega, by go_num, fun m p hm hp => ?_, BK.out⟩
                  by_cases hmk : m = k
                  · subst hmk; rw [HPK.out] at hp; cases hp; exact HE.out
                  · exact HNO.out m p (by omega) hp
                case measure => simp [intOf]; omega
            · have hkI : ¬ (k : Int) < (K : Int) := by omega
              have hlk : lookT N q = none := look_none (fun m p hp => HNO.out m p (by have := (List.getElem?_eq_some_iff.1 hp).1; have := HK.out; omega) hp)
              have HLK := Lib.hid hlk
              have PK := Lib.hid (PP.out.below BK.out)
              have hkb := BK.out.size
              clear hlk
              go_wp2_with (first | (at_builtin; (obtain ⟨i0, hi, hz0, hz1, hz3⟩ := HI2.out); refine wpList_append_own _ rfl _ _ 52 rfl w1.heap.size 9 i0 (.string ⟨#[]⟩) 1 16 Tryz.underlying52 hi hz0 hz1 hz3 rfl (by decide) _ _ _ rfl ((PK.out.n : World.ownsRow _ _ _ _ _ _ _).alloc _) ⟨wk.heap.size, 0, none⟩ 1 1 [.string QB] rfl rfl (news_s wk _ _) (by intro u hu; simp at hu; subst hu; rfl) (by unfold maxLen; rw [List.length_map]; have := HK.out; omega) (by rw [List.length_map]; have := HK.out; omega) (by have := hsz1; simp; omega) ?_; intro v4 w4 hown hgrow hnil; have PQ4 := Lib.hid (PR.pushN (s := q) (PK.out.below ((Below.refl _ wk).alloc (Nat.le_refl _) _)) (by rw [← HQB.out]; exact hown) hgrow); clear hown hgrow hnil hi hz0 hz1 hz3) | (at_builtin; (obtain ⟨i0, hi, hz0, hz1, hz3⟩ := HI3.out); refine wpList_append_own _ rfl _ _ 49 rfl w1.heap.size 3 i0 (.int .i64 0) 1 8 Tryz.underlying49 hi hz0 hz1 hz3 rfl (by decide) _ _ _ rfl ((PQ4.out.p : World.ownsRow _ _ _ _ _ _ _).alloc _) ⟨w4.heap.size, 0, none⟩ 1 1 [.int .i64 (a : Nat)] rfl rfl (news_pl w4 _ _) (by intro u hu; simp at hu; subst hu; rfl) (by unfold maxLen; rw [List.length_map]; have := HK.out; omega) (by rw [List.length_map]; have := HK.out; omega) (by have := PQ4.out.b.size; simp; omega) ?_; intro v5 w5 hown hgrow hnil; have PR5 := Lib.hid (PQ.pushP (a := a) (PQ4.out.below ((Below.refl _ w4).alloc (Nat.le_refl _) _)) hown hgrow); clear hown hgrow hnil hi hz0 hz1 hz3))
              go_roundw
              case rel => exact ⟨j + 1, a, N ++ [(q, a)], by omega, by go_num, rfl, by rw [← HQ2.out]; exact LB.out.label HPJ.out HLB.out (by rw [HQ2.out]; exact HLK.out), HU.out.snoc HLK.out a, by rw [List.length_append]; have := HK.out; simp; omega, PR5.out⟩
              case measure => simp [intOf]; omega
    · have hjI : ¬ (j : Int) < (n : Int) := by omega
      have hjn : j = n := by omega
      have hlab : labsP L 0 [] = .ok N := by
        have q := LB.out
        rw [hjn, HNN.out] at q
        exact q.done
      have hP2 : R = match wordsP N (keptL L) [] with
          | .error k => ([], k, 3)
          | .ok ws => (ws, 0, 0) := by rw [HP.out, hlab]
      have HP2 := Lib.hid hP2
      have HNB := Lib.hid (fun s k (h : lookT N s = some k) => show k ≤ 300000 by have := LB.out.nm s k h; omega)
      obtain ⟨An, cn, hvn, hAn⟩ := rowS_all PP.out.n
      obtain ⟨Ap, cp, hvp, hAp⟩ := rowI_all PP.out.p
      obtain ⟨K, hK⟩ : ∃ K, K = N.length := ⟨_, rfl⟩
      rw [List.length_map, ← hK] at hvn hvp
      rw [← hK] at hNj
      have HK := Lib.hid hK
      have HAn := Lib.hid hAn
      have HAp := Lib.hid hAp
      have BP := Lib.hid PP.out.b
      subst hvn
      subst hvp
      clear hK hAn hAp hP2 hlab LB hjn PP HP
      go_upto_region 22 with (fail)
      go_loopw [12, 13] (fun o xx wx => ∃ (i : Nat) (ws : List Nat), i ≤ n ∧ xx = .int .i64 i ∧ ws.length ≤ i ∧ KW N L i ws ∧ RowU wx wo.heap.size o ws ∧ Below wo.heap.size wo wx) (fun _ xx _ => n - (intOf xx).toNat)
      case atStart => exact ⟨0, [], Nat.zero_le _, rfl, Nat.le_refl _, KW.start N L, World.ownsRow_nil _ _ _ _, Below.refl _ _⟩
      case round =>
        rename World => wx
        obtain ⟨i, ws, hi, rfl, hwi, hkw, hru, hbx⟩ := hrel
        have KK := Lib.hid hkw
        have RU := Lib.hid hru
        have BX := Lib.hid hbx
        have hxs := hbx.size
        clear hkw hru hbx
        by_cases hin : i < n
        · have hiI : (i : Int) < (n : Int) := by omega
          have hiL : i < L.length := by have := HNN.out; omega
          obtain ⟨g, hAe, hg, hc⟩ : ∃ g, A = some ⟨g, 0, none⟩ ∧ g < w1.heap.size ∧ ∀ (j : Nat) p, L[j]? = some p → w1.cell? ⟨g, j * 2, none⟩ = some (.int .i64 (p.1 : Nat)) ∧ w1.cell? ⟨g, j * 2 + 1, none⟩ = some (.string (bs p.2)) := by
            rcases HA.out with h | h
            · rw [h] at hiL; simp at hiL
            · exact h
          subst hAe
          obtain ⟨p, hp⟩ : ∃ p, L[i]? = some p := ⟨L[i], List.getElem?_eq_getElem hiL⟩
          have hgr : g < wo.heap.size := by omega
          have q1 := (BX.out.cell (p := ⟨g, i * 2, none⟩) hgr).trans ((BP.out.cell (p := ⟨g, i * 2, none⟩) hg).trans (hc i p hp).1)
          have q2 := (BX.out.cell (p := ⟨g, i * 2 + 1, none⟩) hgr).trans ((BP.out.cell (p := ⟨g, i * 2 + 1, none⟩) hg).trans (hc i p hp).2)
          have hpl := HSM.out p (List.mem_of_getElem? hp)
          have HPI := Lib.hid hp
          obtain ⟨t, ht⟩ : ∃ t, t = p.2 := ⟨_, rfl⟩
          have HT := Lib.hid ht
          rw [← ht] at q2 hpl
          have RL := Lib.hid (fun w => rlabel4_any t (by omega) w)
          have RP := Lib.hid (fun w => rparts_any t (by omega) w)
          obtain ⟨tx, htx⟩ : ∃ tx, tx = bs t := ⟨_, rfl⟩
          rw [← htx] at q2 RL RP
          have htz : tx.size = t.length := by rw [htx, bs_size]
          have HTX := Lib.hid htx
          clear hp hc hiL ht htx
          cases hlb : labT t with
          | true =>
            as_aux_lemma =>
              rw [hlb] at RL
              have HLB := Lib.hid hlb
              clear hlb RP
              go_wp2_with (go_at_call 26; refine (RL.out _).mono ?_; rintro e w3 ⟨rfl, rfl⟩)
              go_roundw
              case rel => exact ⟨i + 1, ws, by omega, by go_num, by omega, KK.out.skip HPI.out (by rw [← HT.out]; exact HLB.out), RU.out, BX.out⟩
              case measure => simp [intOf]; omega
          | false =>
            rw [hlb] at RL
            have HLB := Lib.hid hlb
            clear hlb
            obtain ⟨WB, hWB⟩ : ∃ WB, WB = (decide (6 < t.length) && Lib.hasPrefix t dotW) := ⟨_, rfl⟩
            have HWB := Lib.hid hWB
            clear hWB
            go_upto_region 26 with (go_at_call 26; refine (RL.out _).mono ?_; rintro e w3 ⟨rfl, rfl⟩)
            go_cut [106] (fun b w' => b = .bool WB ∧ w' = wx)
            case first =>
              as_aux_lemma =>
                clear RP q1 q2 hgr
                by_cases h6 : 6 < t.length
                · have h6I : (6 : Int) < (tx.size : Int) := by omega
                  have hle6 : (6 : Int) ≤ (tx.size : Int) := by omega
                  have hex : tx.extract 0 6 = bs (t.take 6) := by rw [HTX.out, ext_bs]; simp
                  cases hd : Lib.hasPrefix t dotW with
                  | true =>
                    have hex2 : tx.extract 0 6 = ⟨#[46, 119, 111, 114, 100, 32]⟩ := by
                      have e := congrArg (List.take 6) (dot_len hd); rw [hex, e]; rfl
                    have HWT : Hid (WB = true) := Lib.hid (by rw [HWB.out, decide_eq_true h6, hd]; rfl)
                    clear hex hd
                    go_wp2
                    go_meet
                    case rel => exact ⟨by rw [HWT.out], rfl⟩
                  | false =>
                    obtain ⟨DB, hDB⟩ : ∃ DB, DB = bs (t.take 6) := ⟨_, rfl⟩
                    have hne : DB ≠ ⟨#[46, 119, 111, 114, 100, 32]⟩ := fun e => by
                      rw [hDB] at e
                      have e2 : t.take 6 = dotW := bs_inj e
                      have e3 : Lib.hasPrefix t dotW = true := List.isPrefixOf_iff_prefix.2 ⟨t.drop 6, by rw [← e2]; exact List.take_append_drop 6 t⟩
                      rw [e3] at hd; cases hd
                    have hne2 : (DB.toList == [46, 119, 111, 114, 100, 32]) = false := by
                      have h := str_ne hne
                      simpa using h
                    rw [← hDB] at hex
                    have HWT : Hid (WB = false) := Lib.hid (by rw [HWB.out, hd, Bool.and_false])
                    clear hd hne hDB
                    go_wp2
                    go_meet
                    case rel => exact ⟨by rw [HWT.out], rfl⟩
                · have h6I : ¬ (6 : Int) < (tx.size : Int) := by omega
                  have HWT : Hid (WB = false) := Lib.hid (by rw [HWB.out, decide_eq_false h6, Bool.false_and])
                  go_wp2
                  go_meet
                  case rel => exact ⟨by rw [HWT.out], rfl⟩
            case rest =>
              obtain ⟨rfl, hwc⟩ := hcut
              subst hwc
              rename World => wv
              have HWI := Lib.hid hwi
              cases hw : WB with
              | true =>
                have hww : 6 < t.length ∧ Lib.hasPrefix t dotW = true := by
                  have h := HWB.out
                  rw [hw] at h
                  simpa using h.symm
                have ho := one_word (N := N) (a := ((4 * ws.length : Nat) : Int)) hww.2
                have h6a : (6 : Int) ≤ (tx.size : Int) := by have := hww.1; omega
                have hex : tx.extract 6 tx.size = bs (t.drop 6) := by rw [htz, HTX.out, ext_bs, List.take_of_length_le (by simp)]
                obtain ⟨TB, hTB⟩ : ∃ TB, TB = bs (t.drop 6) := ⟨_, rfl⟩
                rw [← hTB] at hex ho
                have PA := Lib.hid (fun w => rparse_any TB w)
                clear hww hTB RP hw htz
                cases hpn : parseN TB with
                | none =>
                  as_aux_lemma =>
                    rw [hpn] at PA ho
                    simp only [Option.isSome_none, Option.getD_none] at PA
                    rw [if_neg (by decide)] at PA
                    have HO := Lib.hid ho
                    clear ho hpn
                    go_upto_region 29 with (go_at_call 27; refine (PA.out _).mono ?_; rintro e w3 ⟨rfl, kd, hkd⟩; have B3 := Lib.hid (show Below wv.heap.size wv w3 from by rw [← hkd]; exact belowKN (Below.refl _ _) kd); clear hkd; have q3 := (B3.out.cell (p := ⟨g, i * 2, none⟩) (Nat.lt_of_lt_of_le hgr hxs)).trans q1; have q4 := (B3.out.cell (p := ⟨g, i * 2 + 1, none⟩) (Nat.lt_of_lt_of_le hgr hxs)).trans q2)
                    go_region
                    go_wp2
                    go_ret3
                    have hR : R = ([], p.1, 3) := by rw [HP2.out, KK.out.bad HPI.out (by rw [← HT.out]; exact HLB.out) (by rw [← HT.out]; exact HO.out)]
                    refine ⟨⟨.slice none 0 0, by rw [HRA.out, HRB.out, hR]; rfl, by rw [hR]; exact World.ownsRow_nil _ _ _ _⟩, ?_⟩
                    exact B1.out.trans ((BP.out.trans ((BX.out.trans (B3.out.mono hxs)).mono hsz1)).mono hb1).drew
                | some v =>
                  as_aux_lemma =>
                    rw [hpn] at PA ho
                    simp only [Option.isSome_some, Option.getD_some, if_true] at PA
                    have HO := Lib.hid ho
                    clear ho hpn
                    go_wp2_with (first | (go_at_call 27; refine (PA.out _).mono ?_; rintro e w3 ⟨rfl, kd, hkd⟩; have B3 := Lib.hid (show Below wv.heap.size wv w3 from by rw [← hkd]; exact belowKN (Below.refl _ _) kd); clear hkd; have RU3 : Hid (World.ownsRow w3 wo.heap.size 44 1 _ _ _) := Lib.hid (World.ownsRow.kept (RU.out : World.ownsRow _ _ _ _ _ _ _) (gb_below (World.grownBy.refl wv none) B3.out) (Classical.em _)); have HSZ3 := Lib.hid (Nat.le_trans hxs B3.out.size)) | (at_builtin; (obtain ⟨i0, hi, hz0, hz1, hz3⟩ := HI1.out); refine wpList_append_own _ rfl _ _ 23 rfl wo.heap.size 44 i0 (.int .u32 0) 1 4 Tryz.underlying23 hi hz0 hz1 hz3 rfl (by decide) _ _ _ rfl (RU3.out.alloc _) ⟨w3.heap.size, 0, none⟩ 1 1 [.int .u32 (v : Nat)] rfl rfl (news_u w3 _ _) (by intro u hu; simp at hu; subst hu; rfl) (by unfold maxLen; have := HWI.out; omega) (by have := HWI.out; omega) (by have := HSZ3.out; simp at *; omega) ?_; intro v' w8 hown hgrow hnil; have HO1 := Lib.hid hown; have HG1 := Lib.hid hgrow; clear hown hgrow hnil hi hz0 hz1 hz3))
                    go_roundw
                    case rel =>
                      refine ⟨i + 1, ws ++ [v], by omega, by go_num, by rw [List.length_append]; have := HWI.out; simp; omega, KK.out.next HPI.out (by rw [← HT.out]; exact HLB.out) (by rw [← HT.out]; exact HO.out), ?_, ?_⟩
                      · have h := HO1.out
                        unfold RowU
                        rw [List.length_append, List.map_append]
                        exact h
                      · exact ((BX.out.trans (B3.out.mono hxs)).alloc (Nat.le_trans hxs B3.out.size) _).grown HG1.out (by have := B3.out.size; simp; omega) (fun k hk => (RU3.out.lt k hk).1)
                    case measure => simp [intOf]; omega
              | false =>
                have hno : ¬ (6 < t.length ∧ Lib.hasPrefix t dotW = true) := fun h => by
                  have h2 := HWB.out
                  rw [hw, decide_eq_true h.1, h.2] at h2
                  cases h2
                have ho := one_short (N := N) (a := ((4 * ws.length : Nat) : Int)) hno
                have hfar : farF t = (decide (errF t = 0) && (decide (kN (codeF t) = 66 ∨ kN (codeF t) = 74) && (decide (0 < (partsT t).2.length) && nameT (lastT (partsT t).2)))) := rfl
                have hcl := code_lt t
                have hee := errF_or t
                have FI := Lib.hid (fun w => rfind_any t w)
                have KI := Lib.hid (fun w => rkind_in (codeF t) hcl w)
                have HPD := Lib.hid (fun m (h : (partsT t).2.length = m + 1) n => pre_done (t := t) h n)
                have HPN := Lib.hid (fun m j (h : (partsT t).2.length = m + 1) (hj : j ≤ m) => pre_len (t := t) h hj)
                have HPS := Lib.hid (fun j y (h : (partsT t).2[j]? = some y) => pre_step (t := t) h)
                have HPT := Lib.hid (fun n (h : (partsT t).2 ≠ []) (h0 : -4294967296 ≤ n) (h1 : n ≤ 4294967296) => put_len (t := t) (n := n) h h0 h1)
                have HP0 : Hid (preT t 0 = (partsT t).1 ++ [32]) := Lib.hid rfl
                obtain ⟨sm1, sm2⟩ := parts_small (x := t) (by omega)
                have LS := Lib.hid (last_len sm1)
                have LL : Hid ((partsT t).2.length ≤ 70000) := Lib.hid (by have := parts_len (t := t); omega)
                have LM := Lib.hid sm1
                have NA := Lib.hid (fun w => rname4_any (lastT (partsT t).2) LS.out w)
                have HS1 := Lib.hid ho
                have HF := Lib.hid hfar
                have HEE := Lib.hid hee
                have HTL := Lib.hid hpl
                obtain ⟨nm, hnm⟩ : ∃ nm, nm = bs (partsT t).1 := ⟨_, rfl⟩
                have hnz : nm.size ≤ 70000 := by rw [hnm, bs_size]; exact sm2
                rw [← hnm] at RP FI
                have HNM := Lib.hid hnm
                clear ho hfar hno sm1 sm2 hw htz hcl hee hnm hpl
                generalize (partsT t).2 = l at *
                generalize farF t = far at *
                generalize errF t = ee at *
                generalize codeF t = code at *
                generalize kN code = k at *
                obtain ⟨ln, hln⟩ : ∃ ln, ln = l.length := ⟨_, rfl⟩
                have HLN := Lib.hid hln
                have hl7 : ln ≤ 70000 := by rw [hln]; exact LL.out
                clear hln
                go_upto_region 34 with (first | (go_at_call 28; refine (RP.out _).mono ?_; rintro e w3 ⟨⟨v3, rfl, hrow⟩, hb⟩; (obtain ⟨A2, c2, hv3, hA2⟩ := rowS_all hrow); rw [← HLN.out] at hv3; subst hv3; have HA2 := Lib.hid hA2; have B3 := Lib.hid hb; clear hrow hb hA2) | (go_at_call 29; refine (FI.out _).mono ?_; rintro e w4 ⟨rfl, hb⟩; have B4 := Lib.hid hb; clear hb) | (go_at_call 30; refine (KI.out _).mono ?_; rintro e w' ⟨rfl, rfl⟩))
                have hb3 := B3.out.size
                have BW := Lib.hid (B3.out.trans (B4.out.mono hb3))
                have hb4 := B4.out.size
                have OPS : Hid (∀ m, ln = m + 1 → ∃ N0, A2 = some ⟨N0, 0, none⟩ ∧ N0 < w4.heap.size ∧ ∀ (j : Nat) y, l[j]? = some y → w4.cell? ⟨N0, j, none⟩ = some (.string (bs y))) := Lib.hid (fun m hm => by
                  rcases HA2.out with h | ⟨N0, h1, h2, h3, h4⟩
                  · have := HLN.out; rw [h] at this; simp at this; omega
                  · exact ⟨N0, h1, by omega, fun j y hy => (B4.out.cell (p := ⟨N0, j, none⟩) h3).trans (h4 j y hy)⟩)
                clear HA2 RP FI KI
                go_cut [159] (fun b w' => b = .bool far ∧ w' = w4)
                case first =>
                  as_aux_lemma =>
                    have hfar := HF.out
                    rw [← HLN.out] at hfar
                    rcases HEE.out with he | he
                    · subst he
                      obtain rfl | ⟨m, rfl⟩ : ln = 0 ∨ ∃ m, ln = m + 1 := by
                        rcases Nat.eq_zero_or_pos ln with h | h
                        · exact Or.inl h
                        · exact Or.inr ⟨ln - 1, by omega⟩
                      · have HV : Hid (far = false) := Lib.hid (by rw [hfar]; simp)
                        clear hfar q1 q2
                        by_cases hk : k = 66
                        · have hk1 : ((k : Int) == 66) = true := by simp; omega
                          clear hk
                          go_wp2
                          go_meet
                          case rel => exact ⟨by rw [HV.out], rfl⟩
                        · by_cases hk2 : k = 74
                          · have hk1 : ((k : Int) == 66) = false := by simp; omega
                            have hk3 : ((k : Int) == 74) = true := by simp; omega
                            clear hk hk2
                            go_wp2
                            go_meet
                            case rel => exact ⟨by rw [HV.out], rfl⟩
                          · have hk1 : ((k : Int) == 66) = false := by simp; omega
                            have hk3 : ((k : Int) == 74) = false := by simp; omega
                            clear hk hk2
                            go_wp2
                            go_meet
                            case rel => exact ⟨by rw [HV.out], rfl⟩
                      · obtain ⟨N0, hA2e, hN0, hcx⟩ := OPS.out m rfl
                        subst hA2e
                        have q5 := hcx m (lastT l) (last_at HLN.out.symm)
                        obtain ⟨y2, hy2⟩ : ∃ y2, y2 = bs (lastT l) := ⟨_, rfl⟩
                        rw [← hy2] at NA q5
                        rw [decide_eq_true (Nat.succ_pos m), Bool.true_and, decide_eq_true (show (0 : Int) = 0 from rfl), Bool.true_and] at hfar
                        clear hcx hy2 q1 q2
                        by_cases hk : k = 66
                        · have hk1 : ((k : Int) == 66) = true := by simp; omega
                          rw [decide_eq_true (Or.inl hk), Bool.true_and] at hfar
                          have HV := Lib.hid hfar
                          clear hk hfar
                          generalize nameT (lastT l) = b at *
                          go_wp2_with (go_at_call 31; refine (NA.out _).mono ?_; rintro e w' ⟨rfl, rfl⟩)
                          go_meet
                          case rel => exact ⟨by rw [HV.out], rfl⟩
                        · by_cases hk2 : k = 74
                          · have hk1 : ((k : Int) == 66) = false := by simp; omega
                            have hk3 : ((k : Int) == 74) = true := by simp; omega
                            rw [decide_eq_true (Or.inr hk2), Bool.true_and] at hfar
                            have HV := Lib.hid hfar
                            clear hk hk2 hfar
                            generalize nameT (lastT l) = b at *
                            go_wp2_with (go_at_call 31; refine (NA.out _).mono ?_; rintro e w' ⟨rfl, rfl⟩)
                            go_meet
                            case rel => exact ⟨by rw [HV.out], rfl⟩
                          · have hk1 : ((k : Int) == 66) = false := by simp; omega
                            have hk3 : ((k : Int) == 74) = false := by simp; omega
                            rw [decide_eq_false (fun h => h.elim hk hk2), Bool.false_and] at hfar
                            have HV := Lib.hid hfar
                            clear hk hk2 hfar
                            go_wp2
                            go_meet
                            case rel => exact ⟨by rw [HV.out], rfl⟩
                    · subst he
                      have HV : Hid (far = false) := Lib.hid (by rw [hfar]; simp)
                      clear hfar q1 q2
                      go_wp2
                      go_meet
                      case rel => exact ⟨by rw [HV.out], rfl⟩
                case rest =>
                  obtain ⟨rfl, hwd⟩ := hcut
                  subst hwd
                  rename World => wu
                  have hgv : g < wv.heap.size := Nat.lt_of_lt_of_le hgr hxs
                  have q1 := (BW.out.cell (p := ⟨g, i * 2, none⟩) hgv).trans q1
                  have q2 := (BW.out.cell (p := ⟨g, i * 2 + 1, none⟩) hgv).trans q2
                  have hsu := BW.out.size
                  go_upto_if 159 with (fail)
                  go_cut [14] (fun x w' => ∃ t2, x = .string (bs t2) ∧ oneT N ((4 * ws.length : Nat) : Int) t = encN (parseT t2) ∧ t2.length ≤ 70000 ∧ Below wu.heap.size wu w')
                  case first =>
                    cases hfr : far with
                    | false =>
                      have hr := HS1.out
                      rw [hfr, if_neg (by decide)] at hr
                      have HR3 := Lib.hid hr
                      clear hr hfr q1 q2
                      go_wp2
                      go_meet
                      case rel => exact ⟨t, by rw [HTX.out], HR3.out, by have := HTL.out; omega, Below.refl _ _⟩
                    | true =>
                      as_aux_lemma =>
                        have hfz := HF.out
                        rw [hfr, ← HLN.out] at hfz
                        obtain ⟨m, rfl⟩ : ∃ m, ln = m + 1 := by
                          rcases Nat.eq_zero_or_pos ln with h | h
                          · subst h; rw [show decide (0 < 0) = false from rfl, Bool.false_and, Bool.and_false, Bool.and_false] at hfz; cases hfz
                          · exact ⟨ln - 1, by omega⟩
                        have hr := HS1.out
                        rw [hfr, if_pos rfl] at hr
                        have HR3 := Lib.hid hr
                        obtain ⟨N0, hA2e, hN0, hcx⟩ := OPS.out m rfl
                        subst hA2e
                        have HCX := Lib.hid hcx
                        have q5 := hcx m (lastT l) (last_at HLN.out.symm)
                        obtain ⟨y2, hy2⟩ : ∃ y2, y2 = bs (lastT l) := ⟨_, rfl⟩
                        rw [← hy2] at q5
                        have HY2 := Lib.hid hy2
                        have BU := Lib.hid (BX.out.trans (BW.out.mono hxs))
                        clear hfz hr hcx hy2 hfr NA OPS HS1 HF
                        go_upto_region 37 with (fail)
                        go_loopw [22, 23] (fun tt xx wk => ∃ k2 : Nat, k2 ≤ K ∧ xx = .int .i64 k2 ∧ tt = .int .i64 (toI (lookT (N.take k2) (lastT l))) ∧ Below wu.heap.size wu wk) (fun _ xx _ => K - (intOf xx).toNat)
                        case atStart => exact ⟨0, Nat.zero_le _, rfl, rfl, Below.refl _ _⟩
                        case round =>
                          rename World => wk
                          obtain ⟨k2, hk2, rfl, rfl, hbk⟩ := hrel
                          have BK := Lib.hid hbk
                          have hku := hbk.size
                          have hou := BU.out.size
                          have BUK := Lib.hid (BU.out.trans (hbk.mono hou))
                          have q5 := (hbk.cell (p := ⟨N0, m, none⟩) hN0).trans q5
                          clear hbk
                          obtain ⟨T0, hT0⟩ : ∃ T0, T0 = toI (lookT (N.take k2) (lastT l)) := ⟨_, rfl⟩
                          rw [← hT0]
                          have HT0 := Lib.hid hT0
                          clear hT0
                          by_cases hkK : k2 < K
                          · have hkI : (k2 : Int) < (K : Int) := by omega
                            have hkN : k2 < N.length := by have := HK.out; omega
                            obtain ⟨gn, hAe, hgn, hcn⟩ : ∃ g, An = some ⟨g, 0, none⟩ ∧ g < wo.heap.size ∧ ∀ (j : Nat) x, (N.map (·.1))[j]? = some x → wo.cell? ⟨g, j, none⟩ = some (.string (bs x)) := by
                              rcases HAn.out with h | ⟨g, h1, _, h3, h4⟩
                              · rw [List.map_eq_nil_iff] at h; rw [h] at hkN; simp at hkN
                              · exact ⟨g, h1, h3, h4⟩
                            obtain ⟨gp, hApe, hgp, hcp⟩ : ∃ g, Ap = some ⟨g, 0, none⟩ ∧ g < wo.heap.size ∧ ∀ (j : Nat) x, (N.map (·.2))[j]? = some x → wo.cell? ⟨g, j, none⟩ = some (.int .i64 (x : Nat)) := by
                              rcases HAp.out with h | ⟨g, h1, h3, h4⟩
                              · rw [List.map_eq_nil_iff] at h; rw [h] at hkN; simp at hkN
                              · exact ⟨g, h1, h3, h4⟩
                            subst hAe
                            subst hApe
                            obtain ⟨pk, hpk⟩ : ∃ pk, N[k2]? = some pk := ⟨N[k2], List.getElem?_eq_getElem hkN⟩
                            have q6 := (BUK.out.cell (p := ⟨gn, k2, none⟩) hgn).trans (hcn k2 pk.1 (by rw [List.getElem?_map, hpk]; rfl))
                            have q7 := (BUK.out.cell (p := ⟨gp, k2, none⟩) hgp).trans (hcp k2 pk.2 (by rw [List.getElem?_map, hpk]; rfl))
                            have HPK := Lib.hid hpk
                            have LT := Lib.hid (look_take HU.out hpk (lastT l))
                            clear hcn hcp hkN hpk q1 q2
                            by_cases he : pk.1 = lastT l
                            · rw [he, ← HY2.out] at q6
                              have HL2 : Hid (toI (lookT (N.take (k2 + 1)) (lastT l)) = (pk.2 : Int)) := Lib.hid (by rw [LT.out, if_pos he.symm]; rfl)
                              clear he LT
                              go_upto_region 39 with (fail)
                              go_region
                              go_wp2
                              go_roundw
                              case rel => exact ⟨k2 + 1, by omega, by go_num, by rw [HL2.out], by first | exact BK.out.drew | exact BK.out⟩
                              case measure => simp [intOf]; omega
                            · obtain ⟨nx, hnx⟩ : ∃ nx, nx = bs pk.1 := ⟨_, rfl⟩
                              have hne : nx ≠ y2 := fun e => he (by rw [hnx, HY2.out] at e; exact bs_inj e)
                              have hne2 : (nx.toList == y2.toList) = false := str_ne hne
                              rw [← hnx] at q6
                              have HL2 : Hid (T0 = toI (lookT (N.take (k2 + 1)) (lastT l))) := Lib.hid (by rw [LT.out, if_neg (fun e => he e.symm)]; exact HT0.out)
                              clear hne hnx he LT
                              go_upto_region 39 with (fail)
                              go_region
                              go_wp2
                              go_roundw
                              case rel => exact ⟨k2 + 1, by omega, by go_num, by rw [HL2.out], by first | exact BK.out.drew | exact BK.out⟩
                              case measure => simp [intOf]; omega
                          · have hkI : ¬ (k2 : Int) < (K : Int) := by omega
                            have hta : N.take k2 = N := look_all (by have := HK.out; omega)
                            have hT1 := HT0.out
                            rw [hta] at hT1
                            clear hta HT0
                            cases hlk : lookT N (lastT l) with
                            | none =>
                              rw [hlk] at hT1
                              have hT2 : T0 = -1 := hT1
                              subst hT2
                              have HO : Hid (oneT N ((4 * ws.length : Nat) : Int) t = none) := Lib.hid (by rw [HR3.out, hlk]; rfl)
                              clear hT1 hlk
                              have q1 := (BK.out.cell (p := ⟨g, i * 2, none⟩) (by show g < wu.heap.size; omega)).trans q1
                              have q2 := (BK.out.cell (p := ⟨g, i * 2 + 1, none⟩) (by show g < wu.heap.size; omega)).trans q2
                              go_upto_region 42 with (fail)
                              go_region
                              go_wp2
                              go_ret3
                              have hR : R = ([], p.1, 3) := by rw [HP2.out, KK.out.bad HPI.out (by rw [← HT.out]; exact HLB.out) (by rw [← HT.out]; exact HO.out)]
                              refine ⟨⟨.slice none 0 0, by rw [HRA.out, HRB.out, hR]; rfl, by rw [hR]; exact World.ownsRow_nil _ _ _ _⟩, ?_⟩
                              exact B1.out.trans ((BP.out.trans (BUK.out.mono hsz1)).mono hb1).drew
                            | some kk =>
                              rw [hlk] at hT1
                              have hT2 : T0 = (kk : Int) := hT1
                              have hT3 : ¬ T0 < 0 := by omega
                              have hkk := HNB.out _ _ hlk
                              have hT4 : T0 ≤ 300000 := by omega
                              have HT2 := Lib.hid hT2
                              obtain ⟨wl, hwl⟩ : ∃ wl, wl = ws.length := ⟨_, rfl⟩
                              have hw7 : wl ≤ 65538 := by omega
                              have HWL := Lib.hid hwl
                              have hcz : (kk : Int) - ((4 * ws.length : Nat) : Int) = T0 - 4 * (wl : Int) := by omega
                              have HRX : Hid (oneT N ((4 * ws.length : Nat) : Int) t = encN (parseT (putT t (T0 - 4 * (wl : Int))))) := Lib.hid (by rw [HR3.out, hlk, ← hcz]; rfl)
                              have hll : l ≠ [] := fun e => by have := HLN.out; rw [e] at this; simp at this
                              have hpu := HPT.out (T0 - 4 * (wl : Int)) hll (by omega) (by omega)
                              have hpd := HPD.out m HLN.out.symm (T0 - 4 * (wl : Int))
                              have HPU : Hid ((putT t (T0 - 4 * (wl : Int))).length ≤ 70000) := Lib.hid (by have := HTL.out; omega)
                              have HPDC := Lib.hid hpd
                              obtain ⟨DB, hDB⟩ : ∃ DB, DB = bs (Lib.itoa (T0 - 4 * (wl : Int))) := ⟨_, rfl⟩
                              have hdz : DB.size ≤ 70000 := by
                                have := HPU.out
                                rw [hpd, List.length_append] at this
                                rw [hDB, bs_size]; omega
                              have DC : Hid (∀ w, Calls Tryz.prog 32 #[.int .i64 (T0 - 4 * (wl : Int))] w fun e w' => e = .returned (.string DB) ∧ w = w') := Lib.hid (fun w => by rw [hDB]; exact rdec_any (T0 - 4 * (wl : Int)) (by omega) (by omega) w)
                              have HDB := Lib.hid hDB
                              obtain ⟨Ao, co, hvo, _⟩ := rowU_all RU.out
                              rw [← hwl] at hvo
                              have HVO := Lib.hid hvo
                              have hz1 : ¬ 9223372036854775807 < nm.size + 1 := by omega
                              clear hT1 hlk hT2 hwl hcz hll hpu hpd hDB hkk q1 q2 q5 HR3
                              go_upto_region 45 with (fail)
                              go_loopw [14, 24] (fun tt xx wm => ∃ k3 : Nat, k3 ≤ m ∧ xx = .int .i64 k3 ∧ tt = .string (bs (preT t k3)) ∧ wk = wm) (fun _ xx _ => m - (intOf xx).toNat)
                              case atStart => exact ⟨0, Nat.zero_le _, rfl, by rw [HP0.out, HNM.out]; exact congrArg Value.string (bs_app _ _), rfl⟩
                              case round =>
                                obtain ⟨k3, hk3, rfl, rfl, rfl⟩ := hrel
                                obtain ⟨TB, hTB⟩ : ∃ TB, TB = bs (preT t k3) := ⟨_, rfl⟩
                                rw [← hTB]
                                have htb : TB.size ≤ 70000 := by rw [hTB, bs_size]; have := HPN.out m k3 HLN.out.symm hk3; have := HTL.out; omega
                                have HTB := Lib.hid hTB
                                clear hTB
                                by_cases hkm : k3 < m
                                · have hkI : (k3 : Int) + 1 < (m : Int) + 1 := by omega
                                  obtain ⟨y3, hy3⟩ : ∃ y, l[k3]? = some y := ⟨l[k3]'(by have := HLN.out; omega), List.getElem?_eq_getElem _⟩
                                  have q8 := (BK.out.cell (p := ⟨N0, k3, none⟩) hN0).trans (HCX.out k3 y3 hy3)
                                  have HY3 := Lib.hid hy3
                                  obtain ⟨YB, hYB⟩ : ∃ YB, YB = bs y3 := ⟨_, rfl⟩
                                  have hyz : YB.size ≤ 70000 := by rw [hYB, bs_size]; exact LM.out y3 (List.mem_of_getElem? hy3)
                                  rw [← hYB] at q8
                                  have HYB := Lib.hid hYB
                                  have hz2 : ¬ 9223372036854775807 < TB.size + YB.size := by omega
                                  have hz3 : ¬ 9223372036854775807 < TB.size + YB.size + 2 := by omega
                                  clear hy3 hYB
                                  go_wp2
                                  go_roundw
                                  case rel =>
                                    refine ⟨k3 + 1, by omega, by go_num, ?_, by trivial⟩
                                    rw [HPS.out k3 y3 HY3.out, HTB.out, HYB.out]
                                    show Value.string ((bs (preT t k3) ++ bs y3) ++ bs [44, 32]) = _
                                    rw [bs_app, bs_app]
                                  case measure => simp [intOf]; omega
                                · have hkI : ¬ (k3 : Int) + 1 < (m : Int) + 1 := by omega
                                  have hkm2 : k3 = m := by omega
                                  have HTM : Hid (TB = bs (preT t m)) := Lib.hid (by rw [HTB.out, hkm2])
                                  have hw1 : wrap64 (4 * (wl : Int)) = 4 * (wl : Int) := by unfold wrap64; omega
                                  have hw2 : wrap64 (T0 - 4 * (wl : Int)) = T0 - 4 * (wl : Int) := by unfold wrap64; omega
                                  have hz2 : ¬ 9223372036854775807 < TB.size + DB.size := by omega
                                  have hvo := HVO.out
                                  subst hvo
                                  clear hkm2
                                  go_wp2_with (go_at_call 32; refine (DC.out _).mono ?_; rintro e w' ⟨rfl, rfl⟩)
                                  go_meet
                                  case rel =>
                                    refine ⟨putT t (T0 - 4 * (wl : Int)), ?_, HRX.out, HPU.out, BK.out⟩
                                    rw [HPDC.out, HTM.out, HDB.out]
                                    exact congrArg Value.string (bs_app _ _)
                  case rest =>
                    obtain ⟨t2, hx2, hr2, hl2, hbc2⟩ := hcut
                    rename World => wz
                    obtain ⟨s2, hs2⟩ : ∃ s2, s2 = bs t2 := ⟨_, rfl⟩
                    rw [← hs2] at hx2
                    subst hx2
                    have BZ := Lib.hid (BW.out.trans (hbc2.mono hsu))
                    have hsz := BZ.out.size
                    have hgz : g < wz.heap.size := by omega
                    have q3 := (hbc2.cell (p := ⟨g, i * 2, none⟩) (by show g < wu.heap.size; omega)).trans q1
                    have q4 := (hbc2.cell (p := ⟨g, i * 2 + 1, none⟩) (by show g < wu.heap.size; omega)).trans q2
                    clear hbc2 q1 q2 HF OPS NA HPD HPN HPS HPT HP0 HS1
                    cases hpt : parseT t2 with
                    | none =>
                      as_aux_lemma =>
                        have HO : Hid (oneT N ((4 * ws.length : Nat) : Int) t = none) := Lib.hid (by rw [hr2, hpt]; rfl)
                        have QA := Lib.hid (fun w => parse_no t2 hl2 hpt w)
                        rw [← hs2] at QA
                        clear hr2 hl2 hs2 hpt
                        go_upto_region 51 with (go_at_call 19; refine (QA.out _).mono ?_; rintro e w9 ⟨rfl, hb⟩; have B9 := Lib.hid ((BZ.out.trans (hb.mono hsz)).alloc (Nat.le_trans hsz hb.size) (.cells #[.int .i64 0, .int .i64 0, .int .i64 0, .int .i64 0, .int .i64 0, .int .i64 0] 34)); have q5 := Lib.cell?_alloc_some (.cells #[.int .i64 0, .int .i64 0, .int .i64 0, .int .i64 0, .int .i64 0, .int .i64 0] 34) ((hb.cell (p := ⟨g, i * 2, none⟩) hgz).trans q3); have q6 := Lib.cell?_alloc_some (.cells #[.int .i64 0, .int .i64 0, .int .i64 0, .int .i64 0, .int .i64 0, .int .i64 0] 34) ((hb.cell (p := ⟨g, i * 2 + 1, none⟩) hgz).trans q4); clear hb)
                        go_region
                        go_wp2
                        go_ret3
                        have hR : R = ([], p.1, 3) := by rw [HP2.out, KK.out.bad HPI.out (by rw [← HT.out]; exact HLB.out) (by rw [← HT.out]; exact HO.out)]
                        refine ⟨⟨.slice none 0 0, by rw [HRA.out, HRB.out, hR]; rfl, by rw [hR]; exact World.ownsRow_nil _ _ _ _⟩, ?_⟩
                        exact B1.out.trans ((BP.out.trans ((BX.out.trans (B9.out.mono hxs)).mono hsz1)).mono hb1).drew
                    | some ii =>
                      as_aux_lemma =>
                        obtain ⟨v, i1, i2, i3, i4, i5, i6, hv, hqa, hen⟩ := parse_yes t2 hl2 ii hpt
                        have HO : Hid (oneT N ((4 * ws.length : Nat) : Int) t = some v) := Lib.hid (by rw [hr2, hv])
                        have QA := Lib.hid hqa
                        have EN := Lib.hid hen
                        rw [← hs2] at QA
                        clear hr2 hl2 hs2 hpt hv hqa hen q3 q4
                        go_wp2_with (first | (go_at_call 19; refine (QA.out _).mono ?_; rintro e w9 ⟨rfl, hb⟩; have B9 := Lib.hid ((BZ.out.trans (hb.mono hsz)).alloc (Nat.le_trans hsz hb.size) (.cells #[.int .i64 i1, .int .i64 i2, .int .i64 i3, .int .i64 i4, .int .i64 i5, .int .i64 i6] 34)); clear hb) | (go_at_call 33; refine (EN.out _).mono ?_; rintro e w10 ⟨rfl, hb⟩; have B10 := Lib.hid (B9.out.trans (hb.mono B9.out.size)); have RU3 : Hid (World.ownsRow w10 wo.heap.size 44 1 _ _ _) := Lib.hid (World.ownsRow.kept (RU.out : World.ownsRow _ _ _ _ _ _ _) (gb_below (World.grownBy.refl wv none) B10.out) (Classical.em _)); have HSZ3 := Lib.hid (Nat.le_trans hxs B10.out.size); clear hb) | (at_builtin; (obtain ⟨i0, hi, hz0, hz1, hz3⟩ := HI1.out); refine wpList_append_own _ rfl _ _ 23 rfl wo.heap.size 44 i0 (.int .u32 0) 1 4 Tryz.underlying23 hi hz0 hz1 hz3 rfl (by decide) _ _ _ rfl (RU3.out.alloc _) ⟨w10.heap.size, 0, none⟩ 1 1 [.int .u32 (v : Nat)] rfl rfl (news_u w10 _ _) (by intro u hu; simp at hu; subst hu; rfl) (by unfold maxLen; have := HWI.out; omega) (by have := HWI.out; omega) (by have := HSZ3.out; simp at *; omega) ?_; intro v' w8 hown hgrow hnil; have HO1 := Lib.hid hown; have HG1 := Lib.hid hgrow; clear hown hgrow hnil hi hz0 hz1 hz3))
                        go_roundw
                        case rel =>
                          refine ⟨i + 1, ws ++ [v], by omega, by go_num, by rw [List.length_append]; have := HWI.out; simp; omega, KK.out.next HPI.out (by rw [← HT.out]; exact HLB.out) (by rw [← HT.out]; exact HO.out), ?_, ?_⟩
                          · have h := HO1.out
                            unfold RowU
                            rw [List.length_append, List.map_append]
                            exact h
                          · exact ((BX.out.trans (B10.out.mono hxs)).alloc (Nat.le_trans hxs B10.out.size) _).grown HG1.out (by have := B10.out.size; simp; omega) (fun k hk => (RU3.out.lt k hk).1)
                        case measure => simp [intOf]; omega
        · have hiI : ¬ (i : Int) < (n : Int) := by omega
          have hin2 : i = n := by omega
          have hkd : wordsP N (keptL L) [] = .ok ws := by
            have q := KK.out
            rw [hin2, HNN.out] at q
            exact q.done
          have hR : R = (ws, 0, 0) := by rw [HP2.out, hkd]
          have HRR := Lib.hid hR
          clear hR hkd hin2
          go_wp2
          go_ret3
          refine ⟨⟨_, by rw [HRA.out, HRB.out, HRR.out]; rfl, by rw [HRR.out]; exact RU.out.mono (by omega)⟩, ?_⟩
          exact B1.out.trans ((BP.out.trans (BX.out.mono hsz1)).mono hb1)

theorem wordsP_len (N : List (List UInt8 × Nat)) : ∀ (l : List (Nat × List UInt8)) (acc ws : List Nat), wordsP N l acc = .ok ws → ws.length = acc.length + l.length
  | [], acc, ws, h => by
    have e : acc = ws := by injection h
    rw [e]; rfl
  | p :: r, acc, ws, h => by
    have h2 : (match oneT N ((4 * acc.length : Nat) : Int) p.2 with | none => .error p.1 | some v => wordsP N r (acc ++ [v])) = (.ok ws : Except Nat (List Nat)) := h
    cases ho : oneT N ((4 * acc.length : Nat) : Int) p.2 with
    | none => rw [ho] at h2; cases h2
    | some v =>
      rw [ho] at h2
      have q := wordsP_len N r _ ws h2
      rw [q, List.length_append]; simp; omega
theorem progT_long {s : List UInt8} (h : 65536 < s.length) : progT s = ([], 0, 2) := by unfold progT; rw [if_pos h]
theorem progT_len (s : List UInt8) (hs : s.length ≤ 65536) : (progT s).1.length ≤ 100000 := by
  unfold progT
  rw [if_neg (by omega)]
  cases labsP (linesT s) 0 [] with
  | error k => simp
  | ok N =>
    simp only []
    cases hw : wordsP N (keptL (linesT s)) [] with
    | error k => simp
    | ok ws =>
      have h1 := wordsP_len N _ _ _ hw
      have h2 := keptL_le (linesT s)
      have h3 := lines_count s
      simp only [List.length_nil] at h1
      show ws.length ≤ 100000
      omega
set_option maxHeartbeats 8000000 in
theorem aprog_far (S : ByteArray) (hs : 65536 < S.size) (w : World) : Calls Tryz.prog 10 #[.string S] w fun e w' => ∃ r, e = .returned (.tuple #[r, .int .i64 ((0 : Nat) : Int), errV 2]) ∧ RowU w' w.heap.size r [] ∧ Below w.heap.size w w' := by
  have hE : errV 2 = .iface 56 (.int .i64 2) := rfl
  rw [hE]
  have hz2 : (65536 : Int) < (S.size : Int) := by omega
  clear hE hs
  go_enter Tryz.func10, Tryz.ntmps10
  go_wp2
  go_ret3
  exact ⟨_, rfl, World.ownsRow_nil _ _ _ _, Below.refl _ _⟩
set_option maxHeartbeats 8000000 in
theorem rprog_far (S : ByteArray) (hs : 65536 < S.size) (w : World) : Calls Tryz.prog 11 #[.string S] w fun e w' => (∃ r, e = .returned (.tuple #[r, .int .i64 ((0 : Nat) : Int), .int .i64 2]) ∧ RowU w' w.heap.size r []) ∧ Below w.heap.size w w' := by
  have hz2 : (65536 : Int) < (S.size : Int) := by omega
  clear hs
  go_enter Tryz.func11, Tryz.ntmps11
  go_wp2
  go_ret3
  exact ⟨⟨_, rfl, World.ownsRow_nil _ _ _ _⟩, Below.refl _ _⟩
set_option maxHeartbeats 4000000 in
theorem asmPrograms_mid (S : ByteArray) (h1 : 3000 < S.size) (h2 : S.size ≤ 65536) (w : World) (E : Env w.heap.size w) : Calls Tryz.prog 3 #[.string S] w fun e w' => e = .returned (.bool true) ∧ Below w.heap.size w w' := by
  have SU := Lib.hid (asure_any w E)
  have h1I : (3000 : Int) < (S.size : Int) := by omega
  have h2I : (S.size : Int) ≤ 65536 := by omega
  clear E
  go_enter Tryz.func3, Tryz.ntmps3
  go_wp2_with (go_at_call 9; refine SU.out.mono ?_; rintro e w1 ⟨rfl, hb⟩; have B1 := Lib.hid hb; clear hb)
  go_ret
  exact ⟨rfl, B1.out⟩
set_option maxHeartbeats 8000000 in
theorem asmPrograms_gen (S : ByteArray) (hc : ¬ (3000 < S.size ∧ S.size ≤ 65536)) (ws : List Nat) (hws : ws.length ≤ 100000) (k : Nat) (n : Int) (w : World) (E : Env w.heap.size w) (hg : w.cell? ⟨0, 0, none⟩ = some errTy)
    (hTA : ∀ w', Env w.heap.size w' → Calls Tryz.prog 10 #[.string S] w' fun e w2 => ∃ r, e = .returned (.tuple #[r, .int .i64 (k : Int), errV n]) ∧ RowU w2 w'.heap.size r ws ∧ Below w'.heap.size w' w2)
    (hTR : ∀ w', Calls Tryz.prog 11 #[.string S] w' fun e w2 => (∃ r, e = .returned (.tuple #[r, .int .i64 (k : Int), .int .i64 n]) ∧ RowU w2 w'.heap.size r ws) ∧ Below w'.heap.size w' w2) :
    Calls Tryz.prog 3 #[.string S] w fun e w' => e = .returned (.bool true) ∧ Below w.heap.size w w' := by
  have SU := Lib.hid (fun w' (E : Env w.heap.size w') => asure_any w' E)
  have NU := Lib.hid (fun w' hg => num_any n w' hg)
  have WD := Lib.hid (fun b1 b2 v1 v2 w h1 h2 => words_any ws hws b1 b2 v1 v2 w h1 h2)
  have TA := Lib.hid hTA
  have TR := Lib.hid hTR
  have HE := Lib.hid E
  have hgl := block_lt_of_cell hg
  have HG := Lib.hid (fun w' (hb : Below w.heap.size w w') => (hb.cell (p := ⟨0, 0, none⟩) hgl).trans hg)
  generalize errV n = ev at *
  obtain ⟨kI, hkI⟩ : ∃ kI : Int, kI = (k : Int) := ⟨_, rfl⟩
  rw [← hkI] at TA TR
  clear hg hgl E hTA hTR hws hkI
  by_cases h3 : 3000 < S.size
  · have h3I : (3000 : Int) < (S.size : Int) := by omega
    have h4I : ¬ (S.size : Int) ≤ 65536 := by omega
    clear hc h3
    go_enter Tryz.func3, Tryz.ntmps3
    go_wp2_with (first | (go_at_call 10; refine (TA.out _ HE.out).mono ?_; rintro e w1 ⟨r1, rfl, hr, hb⟩; have R1 := Lib.hid hr; have B1 := Lib.hid hb; clear hb hr) | (go_at_call 11; refine (TR.out _).mono ?_; rintro e w2 ⟨⟨r2, rfl, hr⟩, hb⟩; have R2 := Lib.hid hr; have R12 : Hid (RowU w2 w.heap.size r1 ws) := Lib.hid (World.ownsRow.kept (R1.out : World.ownsRow _ _ _ _ _ _ _) (gb_below (World.grownBy.refl w1 none) hb) (Classical.em _)); have B2 := Lib.hid (B1.out.trans (hb.mono B1.out.size)); clear hb hr) | (go_at_call 12; refine (WD.out _ _ _ _ _ R12.out R2.out).mono ?_; rintro e w3 ⟨rfl, hb⟩; have B3 := Lib.hid (B2.out.trans (hb.mono B2.out.size)); clear hb) | (go_at_call 13; refine (NU.out _ (HG.out _ B3.out)).mono ?_; rintro e w4 ⟨rfl, hb⟩; have B4 := Lib.hid (B3.out.trans (hb.mono B3.out.size)); have E4 := Lib.hid (HE.out.below B4.out); clear hb) | (go_at_call 9; refine (SU.out _ E4.out).mono ?_; rintro e w5 ⟨rfl, hb⟩; have B5 := Lib.hid (B4.out.trans (hb.mono B4.out.size)); clear hb))
    go_ret
    exact ⟨rfl, B5.out⟩
  · have h3I : ¬ (3000 : Int) < (S.size : Int) := by omega
    clear hc h3
    go_enter Tryz.func3, Tryz.ntmps3
    go_wp2_with (first | (go_at_call 10; refine (TA.out _ HE.out).mono ?_; rintro e w1 ⟨r1, rfl, hr, hb⟩; have R1 := Lib.hid hr; have B1 := Lib.hid hb; clear hb hr) | (go_at_call 11; refine (TR.out _).mono ?_; rintro e w2 ⟨⟨r2, rfl, hr⟩, hb⟩; have R2 := Lib.hid hr; have R12 : Hid (RowU w2 w.heap.size r1 ws) := Lib.hid (World.ownsRow.kept (R1.out : World.ownsRow _ _ _ _ _ _ _) (gb_below (World.grownBy.refl w1 none) hb) (Classical.em _)); have B2 := Lib.hid (B1.out.trans (hb.mono B1.out.size)); clear hb hr) | (go_at_call 12; refine (WD.out _ _ _ _ _ R12.out R2.out).mono ?_; rintro e w3 ⟨rfl, hb⟩; have B3 := Lib.hid (B2.out.trans (hb.mono B2.out.size)); clear hb) | (go_at_call 13; refine (NU.out _ (HG.out _ B3.out)).mono ?_; rintro e w4 ⟨rfl, hb⟩; have B4 := Lib.hid (B3.out.trans (hb.mono B3.out.size)); have E4 := Lib.hid (HE.out.below B4.out); clear hb) | (go_at_call 9; refine (SU.out _ E4.out).mono ?_; rintro e w5 ⟨rfl, hb⟩; have B5 := Lib.hid (B4.out.trans (hb.mono B4.out.size)); clear hb))
    go_ret
    exact ⟨rfl, B5.out⟩
theorem asmPrograms_walk (S : ByteArray) (w : World) (E : Env w.heap.size w) (hg : w.cell? ⟨0, 0, none⟩ = some errTy) : Calls Tryz.prog 3 #[.string S] w fun e w' => e = .returned (.bool true) ∧ Below w.heap.size w w' := by
  by_cases hc : 3000 < S.size ∧ S.size ≤ 65536
  · exact asmPrograms_mid S hc.1 hc.2 w E
  · by_cases h : 65536 < S.size
    · exact asmPrograms_gen S hc [] (by decide) 0 2 w E hg (fun w' _ => aprog_far S h w') (fun w' => rprog_far S h w')
    · have hs : S.data.toList.length ≤ 65536 := by have := bs_size S.data.toList; rw [bs_data] at this; omega
      have hA := fun w' E' => aprog_any (B := w.heap.size) S.data.toList hs w' E'
      have hR := fun w' => rprog_any S.data.toList hs w'
      simp only [bs_data] at hA hR
      exact asmPrograms_gen S hc (progT S.data.toList).1 (progT_len _ hs) (progT S.data.toList).2.1 (progT S.data.toList).2.2 w E hg hA hR

end Go.Proofs.YtkcdnhennnjneaaGreatDoor
