import Derived.Test.YtkcdnhennnjneaaGreatDoorRefF
import Derived.Below
import Derived.Deep.Draws
import Derived.Deep.AppendLies
import Derived.Maps.AppendAt
import Derived.OwnWalk
import Derived.Laws.BytesArg
import Derived.Laws.MakeOwn
import Derived.Laws.OwnMore
import Derived.Deep.OwnRows
import Derived.Tactics
import Derived.Lib.ConvBytes
import Derived.Laws.Slices
import Derived.WalkKit
import Derived.KernelRfl
import Derived.RowKit3
import Derived.Deep.LoopGhost
import Derived.Deep.QuietTactic
import Derived.BigQuiet
import Derived.WideLaws
import Derived.Deep.DeepCutAuto
import Derived.Deep.CutBlock
import Derived.Deep.RegionHeld3
import Derived.Laws.Rows
import Derived.Lib.AppendStr
import Derived.ArgAppend
import Derived.Laws.IdiomCopy
import Derived.OrdersHeld
import Derived.Laws.BitsLemmas
import Derived.RowKit
import Derived.Lib.Hide
import Derived.Laws.BitsAllLaws
import Derived.WalkLawsBesides
import Derived.WalkSpells
import Derived.LaidEql
namespace Go.Proofs.YtkcdnhennnjneaaGreatDoor
open Go.RowKit Go.Shelf Go.RowKit
set_option maxRecDepth 100000
set_option linter.unusedVariables false
set_option linter.unusedSimpArgs false

theorem rowU_all {w : World} {base : Nat} {v : Value} {l : List Nat} (h : RowU w base v l) : ∃ A cap, v = .slice A l.length cap ∧ (l = [] ∨ ∃ g, A = some ⟨g, 0, none⟩ ∧ g < w.heap.size ∧ ∀ (j : Nat) x, l[j]? = some x → w.cell? ⟨g, j, none⟩ = some (.int .u32 (x : Nat))) := by
  obtain ⟨_, h2⟩ := h
  rcases h2 with ⟨h3, h4⟩ | ⟨g, cap, cur, rfl, hg, h4, _, _, _, h8⟩
  · have hl := List.length_eq_zero_iff.1 h4
    subst hl
    exact ⟨none, 0, h3, Or.inl rfl⟩
  · refine ⟨_, cap, rfl, Or.inr ⟨g, rfl, heap_lt h4, fun j x hx => ?_⟩⟩
    rw [cell_of_row _ _ _ _ _ _ h4]
    have hj := (List.getElem?_eq_some_iff.1 hx).1
    have q := congrArg (fun l => l[j]?) h8
    simp only [List.getElem?_map, hx, Option.map_some] at q
    rw [List.getElem?_take] at q
    rw [if_pos (by omega)] at q
    rw [← Array.getElem?_toList]
    exact q
set_option maxHeartbeats 2000000 in
theorem words_any (l : List Nat) (hn : l.length ≤ 100000) (b1 b2 : Nat) (v1 v2 : Value) (w : World) (h1 : RowU w b1 v1 l) (h2 : RowU w b2 v2 l) : Calls Tryz.prog 12 #[v1, v2] w fun e w' => e = .returned (.bool true) ∧ Below w.heap.size w w' := by
  obtain ⟨A, c1, rfl, k1⟩ := rowU_all h1
  obtain ⟨B, c2, rfl, k2⟩ := rowU_all h2
  have K1 := Lib.hid k1
  have K2 := Lib.hid k2
  obtain ⟨n, hnn⟩ : ∃ n, n = l.length := ⟨_, rfl⟩
  rw [← hnn] at hn ⊢
  have HN := Lib.hid hnn
  clear h1 h2 k1 k2 hnn
  go_enter Tryz.func12, Tryz.ntmps12
  go_upto_region 4 with (fail)
  go_loopw [5] (fun x wr => ∃ j : Nat, j ≤ n ∧ x = .int .i64 j ∧ Below w.heap.size w wr) (fun x _ => n - (intOf x).toNat)
  case atStart => exact ⟨0, Nat.zero_le _, rfl, Below.refl _ _⟩
  case round =>
    obtain ⟨j, hj, rfl, hbel⟩ := hrel
    have HB := Lib.hid hbel
    by_cases hjn : j < n
    · have hjI : (j : Int) < (n : Int) := by omega
      have hjl : j < l.length := by have := HN.out; omega
      obtain ⟨g1, hA, hg1, hc1⟩ : ∃ g, A = some ⟨g, 0, none⟩ ∧ g < w.heap.size ∧ ∀ (j : Nat) x, l[j]? = some x → w.cell? ⟨g, j, none⟩ = some (.int .u32 (x : Nat)) := by
        rcases K1.out with h | h
        · rw [h] at hjl; simp at hjl
        · exact h
      obtain ⟨g2, hB, hg2, hc2⟩ : ∃ g, B = some ⟨g, 0, none⟩ ∧ g < w.heap.size ∧ ∀ (j : Nat) x, l[j]? = some x → w.cell? ⟨g, j, none⟩ = some (.int .u32 (x : Nat)) := by
        rcases K2.out with h | h
        · rw [h] at hjl; simp at hjl
        · exact h
      obtain ⟨x, hx⟩ : ∃ x, l[j]? = some x := ⟨l[j], List.getElem?_eq_getElem hjl⟩
      have q1 := (hbel.cell (p := ⟨g1, j, none⟩) hg1).trans (hc1 j x hx)
      have q2 := (hbel.cell (p := ⟨g2, j, none⟩) hg2).trans (hc2 j x hx)
      clear hbel hc1 hc2 hx hjl hg1 hg2
      go_upto_region 6 with (fail)
      go_region
      all_goals
        go_wp2
        go_roundw
        case rel => exact ⟨j + 1, by omega, by go_num, by first | exact HB.out | exact Below.drew HB.out⟩
        case measure => simp [intOf]; omega
    · have hjI : ¬ (j : Int) < (n : Int) := by omega
      clear hbel
      go_wp2
      go_ret
      exact ⟨rfl, HB.out⟩
theorem text_len2 {i : Ins} (h : i.can) : (textT i).length ≤ 200 := by
  have h1 := join_small (operT i) 60 (oper_small h)
  have h2 := oper_len i
  have h3 := nm_small i.op.toNat (by have := h.1; omega)
  have h4 : (operT i).length * 62 ≤ 3 * 62 := Nat.mul_le_mul_right _ h2
  unfold textT nmOf
  split
  · omega
  · simp only [List.length_append, List.length_cons]; omega
theorem note_len (k : Nat) : (noteT k).length ≤ 9 := by
  unfold noteT
  repeat' split
  all_goals decide
/-- the state of the law's loop: the lines that were taken -/
structure Lns (j : Nat) (L : List (Ins × Nat)) : Prop where
  can : ∀ p ∈ L, p.1.can
  le : L.length ≤ j
  len : (progS L).length ≤ 300 * L.length
theorem Lns.start : Lns 0 [] := ⟨fun p hp => by simp at hp, Nat.le_refl _, Nat.le_refl _⟩
theorem Lns.skip {j : Nat} {L : List (Ins × Nat)} (h : Lns j L) : Lns (j + 1) L := ⟨h.can, Nat.le_succ_of_le h.le, h.len⟩
theorem Lns.take {j : Nat} {L : List (Ins × Nat)} (h : Lns j L) {i : Ins} (hc : i.can) (k : Nat) : Lns (j + 1) (L ++ [(i, k)]) := by
  refine ⟨fun p hp => ?_, by rw [List.length_append]; have := h.le; simp; omega, ?_⟩
  · rcases List.mem_append.1 hp with hp | hp
    · exact h.can p hp
    · rw [List.mem_singleton.1 hp]; exact hc
  · rw [progS_snoc]
    have h1 := text_len2 hc
    have h2 := note_len k
    have h3 := h.len
    simp only [List.length_append, List.length_cons, List.length_nil]
    omega
theorem mod4 (z : Int) : ∃ k : Nat, k < 4 ∧ wrap64 ((IntKind.u64.wrap z).tmod 4) = (k : Int) := by
  refine ⟨(z % 18446744073709551616 % 4).toNat, by omega, ?_⟩
  rw [IntKind.wrap_u64, Int.tmod_eq_emod_of_nonneg (by omega), IntWalk.wrap64_in _ (by omega)]
  omega

/-- a struct of six numbers at a place -/
def CIn (g o : Nat) (a0 a1 a2 a3 a4 a5 : Int) (w : World) : Prop := w.cell? ⟨g, o, none⟩ = some (.int .i64 a0) ∧ w.cell? ⟨g, o + 1, none⟩ = some (.int .i64 a1) ∧ w.cell? ⟨g, o + 2, none⟩ = some (.int .i64 a2) ∧ w.cell? ⟨g, o + 3, none⟩ = some (.int .i64 a3) ∧ w.cell? ⟨g, o + 4, none⟩ = some (.int .i64 a4) ∧ w.cell? ⟨g, o + 5, none⟩ = some (.int .i64 a5) ∧ g < w.heap.size
theorem CIn.below {g o : Nat} {a0 a1 a2 a3 a4 a5 : Int} {w w' : World} (h : CIn g o a0 a1 a2 a3 a4 a5 w) (hb : Below w.heap.size w w') : CIn g o a0 a1 a2 a3 a4 a5 w' := by
  obtain ⟨h0, h1, h2, h3, h4, h5, hg⟩ := h
  exact ⟨(hb.cell (p := ⟨g, o, none⟩) hg).trans h0, (hb.cell (p := ⟨g, o + 1, none⟩) hg).trans h1, (hb.cell (p := ⟨g, o + 2, none⟩) hg).trans h2, (hb.cell (p := ⟨g, o + 3, none⟩) hg).trans h3, (hb.cell (p := ⟨g, o + 4, none⟩) hg).trans h4, (hb.cell (p := ⟨g, o + 5, none⟩) hg).trans h5, Nat.lt_of_lt_of_le hg hb.size⟩
set_option maxHeartbeats 8000000 in
theorem asmLines_walk (A : Option Addr) (len cap : Nat) (N : Option Addr) (ln cn : Nat) (w : World) (hA : len ≤ maxLen ∧ len ≤ cap ∧ (len = 0 ∨ ∃ g o, A = some ⟨g, o, none⟩ ∧ ∀ i, i < len → ∃ F : Nat → Int, ∀ j, j < 6 → w.cell? ⟨g, o + i * 6 + j, none⟩ = some (.int .i64 (F j)))) (hN : ln ≤ maxLen ∧ ln ≤ cn ∧ (ln = 0 ∨ ∃ g o, N = some ⟨g, o, none⟩ ∧ ∀ i, i < ln → ∃ z : Int, w.cell? ⟨g, o + i, none⟩ = some (.int .i64 z))) (E : Env w.heap.size w) :
    Calls Tryz.prog 7 #[.slice A len cap, .slice N ln cn] w fun e w' => e = .returned (.bool true) ∧ Below w.heap.size w w' := by
  have HE := Lib.hid E
  have SU := Lib.hid (fun w' (E : Env w.heap.size w') => asure_any w' E)
  have TX : Hid (∀ k : Ins, k.can → ∀ w', Env w.heap.size w' → Calls Tryz.prog 14 #[k.v] w' fun e w2 => e = .returned (.tuple #[.string (bs (textT k)), .nilIface]) ∧ Below w'.heap.size w' w2) := Lib.hid (fun k hk w' E => atext_yes k hk w' E)
  have TN : Hid (∀ k : Ins, ¬ k.can → ∀ w', Env w.heap.size w' → Calls Tryz.prog 14 #[k.v] w' fun e w2 => e = .returned (.tuple #[.string ⟨#[]⟩, .iface 56 (.int .i64 1)]) ∧ Below w'.heap.size w' w2) := Lib.hid (fun k hk w' E => atext_no _ _ _ _ _ _ hk w' E)
  have EX : Hid (∀ k : Ins, k.can → ∀ w', Env w.heap.size w' → Calls Tryz.prog 18 #[k.v] w' fun e w2 => e = .returned (.tuple #[.int .u32 (lwI k : Nat), .nilIface]) ∧ Below w'.heap.size w' w2) := Lib.hid (fun k hk w' E => encode_yes _ _ _ _ _ _ hk w' E.tw)
  have EN : Hid (∀ k : Ins, ¬ k.can → ∀ w', Env w.heap.size w' → Calls Tryz.prog 18 #[k.v] w' fun e w2 => e = .returned (.tuple #[.int .u32 0, .iface 56 (.int .i64 1)]) ∧ Below w'.heap.size w' w2) := Lib.hid (fun k hk w' E => encode_no _ _ _ _ _ _ hk w' E.tw)
  have HA : Hid (∀ i, i < len → ∃ g o, A = some ⟨g, o, none⟩ ∧ g < w.heap.size ∧ ∃ F : Nat → Int, ∀ j, j < 6 → w.cell? ⟨g, o + i * 6 + j, none⟩ = some (.int .i64 (F j))) := Lib.hid (fun i hi => by
    rcases hA.2.2 with h | ⟨g, o, h1, h2⟩
    · omega
    · obtain ⟨F, hF⟩ := h2 i hi
      exact ⟨g, o, h1, block_lt_of_cell (hF 0 (by decide)), F, hF⟩)
  have HN : Hid (∀ i, i < ln → ∃ g o, N = some ⟨g, o, none⟩ ∧ g < w.heap.size ∧ ∃ z : Int, w.cell? ⟨g, o + i, none⟩ = some (.int .i64 z)) := Lib.hid (fun i hi => by
    rcases hN.2.2 with h | ⟨g, o, h1, h2⟩
    · omega
    · obtain ⟨z, hz⟩ := h2 i hi
      exact ⟨g, o, h1, block_lt_of_cell hz, z, hz⟩)
  have HI : Hid (∃ i, Tryz.prog.info? 44 = some i ∧ i.zero = some (.int .u32 0) ∧ i.size = 1 ∧ i.bytes = 4) := Lib.hid ⟨_, rfl, rfl, rfl, rfl⟩
  have hlenm := hA.1
  have hlnm := hN.1
  unfold maxLen at hlenm hlnm
  clear E hA hN
  go_enter Tryz.func7, Tryz.ntmps7
  go_upto_region 4 with (fail)
  go_loopw [5, 6, 7] (fun s wt x wr => ∃ (j : Nat) (L : List (Ins × Nat)), x = .int .i64 j ∧ j ≤ 30 ∧ j ≤ len ∧ Lns j L ∧ s = .string (bs (progS L)) ∧ RowU wr w.heap.size wt (L.map fun p => lwI p.1) ∧ Below w.heap.size w wr) (fun _ _ x _ => 30 - (intOf x).toNat)
  case atStart => exact ⟨0, [], rfl, by decide, Nat.zero_le _, Lns.start, rfl, World.ownsRow_nil _ _ _ _, Below.refl _ _⟩
  case round =>
    obtain ⟨j, L, rfl, hj30, hjl, hln, rfl, hru, hbel⟩ := hrel
    have LS := Lib.hid hln
    have RU := Lib.hid hru
    have BQ := Lib.hid hbel
    have EQ := Lib.hid (HE.out.below hbel)
    have hpsz : (bs (progS L)).size ≤ 9000 := by rw [bs_size]; have := hln.len; have := hln.le; omega
    obtain ⟨PS, hPS⟩ : ∃ PS, PS = bs (progS L) := ⟨_, rfl⟩
    rw [← hPS] at hpsz ⊢
    have HPS := Lib.hid hPS
    have hbq := hbel.size
    clear hln hru hbel hPS
    by_cases hr : j < len ∧ j < 30
    · obtain ⟨hr1, hr2⟩ := hr
      have hr1I : (j : Int) < (len : Int) := by omega
      have hr2I : (j : Int) < 30 := by omega
      obtain ⟨g, o, hAe, hgl, F, hF⟩ := HA.out j hr1
      have c0 := (BQ.out.cell (p := ⟨g, o + j * 6 + 0, none⟩) hgl).trans (hF 0 (by decide))
      have c1 := (BQ.out.cell (p := ⟨g, o + j * 6 + 1, none⟩) hgl).trans (hF 1 (by decide))
      have c2 := (BQ.out.cell (p := ⟨g, o + j * 6 + 2, none⟩) hgl).trans (hF 2 (by decide))
      have c3 := (BQ.out.cell (p := ⟨g, o + j * 6 + 3, none⟩) hgl).trans (hF 3 (by decide))
      have c4 := (BQ.out.cell (p := ⟨g, o + j * 6 + 4, none⟩) hgl).trans (hF 4 (by decide))
      have c5 := (BQ.out.cell (p := ⟨g, o + j * 6 + 5, none⟩) hgl).trans (hF 5 (by decide))
      rw [Nat.add_zero] at c0
      generalize F 0 = a0 at *
      generalize F 1 = a1 at *
      generalize F 2 = a2 at *
      generalize F 3 = a3 at *
      generalize F 4 = a4 at *
      generalize F 5 = a5 at *
      have CL : Hid (CIn g (o + j * 6) a0 a1 a2 a3 a4 a5 wr) := Lib.hid ⟨c0, c1, c2, c3, c4, c5, by omega⟩
      clear hF hgl
      obtain ⟨I, hI⟩ : ∃ I : Ins, I = ⟨a0, a1, a2, a3, a4, a5⟩ := ⟨_, rfl⟩
      have hIv : I.v = .agg #[.int .i64 a0, .int .i64 a1, .int .i64 a2, .int .i64 a3, .int .i64 a4, .int .i64 a5] := by rw [hI]; rfl
      clear hI
      by_cases hc : I.can
      · have T := Lib.hid (TX.out I hc)
        have X := Lib.hid (EX.out I hc)
        have htl := text_len2 hc
        have HC := Lib.hid hc
        rw [hIv] at T X
        obtain ⟨TT, hTT⟩ : ∃ TT, TT = bs (textT I) := ⟨_, rfl⟩
        have htz : TT.size ≤ 200 := by rw [hTT, bs_size]; exact htl
        rw [← hTT] at T
        have HTT := Lib.hid hTT
        have hz1 : ¬ 9223372036854775807 < PS.size + TT.size := by omega
        clear hc hIv htl hTT
        go_upto_region 11 with (first | (go_at_call 14; refine (T.out _ EQ.out).mono ?_; rintro e w1 ⟨rfl, hb⟩; have B1 := Lib.hid (BQ.out.trans (hb.mono hbq)); have RU1 : Hid (RowU w1 w.heap.size _ _) := Lib.hid (World.ownsRow.kept (RU.out : World.ownsRow _ _ _ _ _ _ _) (gb_below (World.grownBy.refl wr none) hb) (Classical.em _)); have E1 := Lib.hid (EQ.out.below hb); have CL1 := Lib.hid (CL.out.below hb); clear hb c0 c1 c2 c3 c4 c5; (obtain ⟨c0, c1, c2, c3, c4, c5, _⟩ := CL1.out)) | (go_at_call 18; refine (X.out _ E1.out).mono ?_; rintro e w2 ⟨rfl, hb⟩; have B2 := Lib.hid (B1.out.trans (hb.mono B1.out.size)); have RU2 : Hid (World.ownsRow w2 w.heap.size 44 1 _ _ _) := Lib.hid (World.ownsRow.kept (RU1.out : World.ownsRow _ _ _ _ _ _ _) (gb_below (World.grownBy.refl w1 none) hb) (Classical.em _)); have E2 := Lib.hid (E1.out.below hb); clear hb c0 c1 c2 c3 c4 c5) | (at_builtin; (obtain ⟨i0, hi, hz0, hz1, hz3⟩ := HI.out); refine wpList_append_own _ rfl _ _ 23 rfl w.heap.size 44 i0 (.int .u32 0) 1 4 Tryz.underlying23 hi hz0 hz1 hz3 rfl (by decide) _ _ _ rfl (RU2.out.alloc _) ⟨w2.heap.size, 0, none⟩ 1 1 [.int .u32 (lwI I : Nat)] rfl rfl (news_u w2 _ _) (by intro u hu; simp at hu; subst hu; rfl) (by unfold maxLen; have := LS.out.le; simp; omega) (by have := LS.out.le; simp; omega) (by have := B2.out.size; simp at *; omega) ?_; intro v' w8 hown hgrow hnil; have HO1 := Lib.hid hown; have HG1 := Lib.hid hgrow; clear hown hgrow hnil hi hz0 hz1 hz3))
        have RU8 : Hid (∀ k : Nat, RowU w8 w.heap.size _ ((L ++ [(I, k)]).map fun p : Ins × Nat => lwI p.1)) := Lib.hid (fun k => by
          have h := HO1.out
          unfold RowU
          rw [List.map_append, List.length_append, List.map_append]
          exact h)
        have b8 : Below w.heap.size w w8 := (B2.out.alloc B2.out.size _).grown HG1.out (by have := B2.out.size; simp; omega) (fun k hk => (RU2.out.lt k hk).1)
        have B8 := Lib.hid b8
        clear b8
        by_cases hjn : j < ln
        · have hjnI : (j : Int) < (ln : Int) := by omega
          obtain ⟨gN, oN, hNe, hgN, z, hz⟩ := HN.out j hjn
          have cz := (B8.out.cell (p := ⟨gN, oN + j, none⟩) hgN).trans hz
          have cz2 : ∀ ob, (w8.alloc ob).cell? ⟨gN, oN + j, none⟩ = some (.int .i64 z) := fun ob => by rw [World.cell?_alloc_lt _ _ ⟨gN, oN + j, none⟩ (block_lt_of_cell cz)]; exact cz
          obtain ⟨k, hk4lt, hk4⟩ := mod4 z
          clear hz hgN
          have hk5 : k = 0 ∨ k = 1 ∨ k = 2 ∨ k = 3 := by omega
          clear hk4lt
          rcases hk5 with rfl | rfl | rfl | rfl
          · have hk : wrap64 ((IntKind.u64.wrap z).tmod 4) = 0 := hk4
            have hz9 : ¬ 9223372036854775807 < PS.size + TT.size := by omega
            have hz8 : ¬ 9223372036854775807 < PS.size + TT.size + 1 := by omega
            go_wp2
            obtain ⟨Y0, hY0⟩ : ∃ Y0, Y0 = PS ++ TT ++ (⟨#[]⟩ : ByteArray) := ⟨_, rfl⟩
            rw [← hY0]
            have HY0 := Lib.hid hY0
            clear hY0
            (try simp only [hAe])
            go_roundw
            case rel =>
              refine ⟨j + 1, L ++ [(I, 0)], by go_num, by omega, by omega, LS.out.take HC.out 0, ?_, ?_, ?_⟩
              · exact congrArg Value.string (by rw [progS_snoc, HY0.out, HPS.out, HTT.out]; simp only [show ∀ l : List UInt8, (⟨l.toArray⟩ : ByteArray) = bs l from fun _ => rfl, bs_app]; exact congrArg bs (by simp [noteT]))
              · refine World.ownsRow.kept (RU8.out _ : World.ownsRow _ _ _ _ _ _ _) (gb_alloc (World.grownBy.refl w8 none) _) (Classical.em _)
              · exact B8.out.alloc B8.out.size _
            case measure => simp [intOf]; omega
          · have hk : wrap64 ((IntKind.u64.wrap z).tmod 4) = 1 := hk4
            have hz9 : ¬ 9223372036854775807 < PS.size + TT.size + 9 := by omega
            have hz8 : ¬ 9223372036854775807 < PS.size + TT.size + 9 + 1 := by omega
            go_wp2
            (try simp only [hAe])
            go_roundw
            case rel =>
              refine ⟨j + 1, L ++ [(I, 1)], by go_num, by omega, by omega, LS.out.take HC.out 1, ?_, ?_, ?_⟩
              · exact congrArg Value.string (by rw [progS_snoc, HPS.out, HTT.out]; simp only [show ∀ l : List UInt8, (⟨l.toArray⟩ : ByteArray) = bs l from fun _ => rfl, bs_app]; exact congrArg bs (by simp [noteT]))
              · refine World.ownsRow.kept (RU8.out _ : World.ownsRow _ _ _ _ _ _ _) (gb_alloc (World.grownBy.refl w8 none) _) (Classical.em _)
              · exact B8.out.alloc B8.out.size _
            case measure => simp [intOf]; omega
          · have hk : wrap64 ((IntKind.u64.wrap z).tmod 4) = 2 := hk4
            have hz9 : ¬ 9223372036854775807 < PS.size + TT.size + 2 := by omega
            have hz8 : ¬ 9223372036854775807 < PS.size + TT.size + 2 + 1 := by omega
            go_wp2
            (try simp only [hAe])
            go_roundw
            case rel =>
              refine ⟨j + 1, L ++ [(I, 2)], by go_num, by omega, by omega, LS.out.take HC.out 2, ?_, ?_, ?_⟩
              · exact congrArg Value.string (by rw [progS_snoc, HPS.out, HTT.out]; simp only [show ∀ l : List UInt8, (⟨l.toArray⟩ : ByteArray) = bs l from fun _ => rfl, bs_app]; exact congrArg bs (by simp [noteT]))
              · refine World.ownsRow.kept (RU8.out _ : World.ownsRow _ _ _ _ _ _ _) (gb_alloc (World.grownBy.refl w8 none) _) (Classical.em _)
              · exact B8.out.alloc B8.out.size _
            case measure => simp [intOf]; omega
          · have hk : wrap64 ((IntKind.u64.wrap z).tmod 4) = 3 := hk4
            have hz9 : ¬ 9223372036854775807 < PS.size + TT.size + 2 := by omega
            have hz8 : ¬ 9223372036854775807 < PS.size + TT.size + 2 + 1 := by omega
            go_wp2
            (try simp only [hAe])
            go_roundw
            case rel =>
              refine ⟨j + 1, L ++ [(I, 3)], by go_num, by omega, by omega, LS.out.take HC.out 3, ?_, ?_, ?_⟩
              · exact congrArg Value.string (by rw [progS_snoc, HPS.out, HTT.out]; simp only [show ∀ l : List UInt8, (⟨l.toArray⟩ : ByteArray) = bs l from fun _ => rfl, bs_app]; exact congrArg bs (by simp [noteT]))
              · refine World.ownsRow.kept (RU8.out _ : World.ownsRow _ _ _ _ _ _ _) (gb_alloc (World.grownBy.refl w8 none) _) (Classical.em _)
              · exact B8.out.alloc B8.out.size _
            case measure => simp [intOf]; omega
        · have hjnI : ¬ (j : Int) < (ln : Int) := by omega
          have hz8 : ¬ 9223372036854775807 < PS.size + TT.size + 1 := by omega
          go_wp2
          (try simp only [hAe])
          go_roundw
          case rel =>
            refine ⟨_, _, _, ⟨j + 1, ?_, by omega, by omega, L ++ [(I, 0)], LS.out.take HC.out 0, ?_, RU8.out _, B8.out⟩, rfl, rfl, rfl⟩
            · go_num
            · exact congrArg Value.string (by rw [progS_snoc, HPS.out, HTT.out]; simp only [show ∀ l : List UInt8, (⟨l.toArray⟩ : ByteArray) = bs l from fun _ => rfl, bs_app]; exact congrArg bs (by simp [noteT]))
          case measure => simp [intOf]; omega
      · have T := Lib.hid (TN.out I hc)
        have X := Lib.hid (EN.out I hc)
        rw [hIv] at T X
        clear hc hIv
        go_wp2_with (first | (go_at_call 14; refine (T.out _ EQ.out).mono ?_; rintro e w1 ⟨rfl, hb⟩; have B1 := Lib.hid (BQ.out.trans (hb.mono hbq)); have RU1 : Hid (RowU w1 w.heap.size _ _) := Lib.hid (World.ownsRow.kept (RU.out : World.ownsRow _ _ _ _ _ _ _) (gb_below (World.grownBy.refl wr none) hb) (Classical.em _)); have E1 := Lib.hid (EQ.out.below hb); have CL1 := Lib.hid (CL.out.below hb); clear hb c0 c1 c2 c3 c4 c5; (obtain ⟨c0, c1, c2, c3, c4, c5, _⟩ := CL1.out)) | (go_at_call 18; refine (X.out _ E1.out).mono ?_; rintro e w2 ⟨rfl, hb⟩; have B2 := Lib.hid (B1.out.trans (hb.mono B1.out.size)); have RU2 : Hid (World.ownsRow w2 w.heap.size 44 1 _ _ _) := Lib.hid (World.ownsRow.kept (RU1.out : World.ownsRow _ _ _ _ _ _ _) (gb_below (World.grownBy.refl w1 none) hb) (Classical.em _)); have E2 := Lib.hid (E1.out.below hb); clear hb c0 c1 c2 c3 c4 c5))
        (try simp only [hAe])
        go_roundw
        case rel => exact ⟨j + 1, L, by go_num, by omega, by omega, LS.out.skip, congrArg Value.string HPS.out, RU2.out, B2.out⟩
        case measure => simp [intOf]; omega
    · have hpr := texts_prog L LS.out.can (by have := LS.out.len; have := LS.out.le; omega)
      have hL30 : (L.map fun p => lwI p.1).length ≤ 100000 := by rw [List.length_map]; have := LS.out.le; omega
      have AP : Hid (Calls Tryz.prog 10 #[.string PS] wr fun e w' => ∃ r, e = .returned (.tuple #[r, .int .i64 0, .nilIface]) ∧ RowU w' wr.heap.size r (L.map fun p => lwI p.1) ∧ Below wr.heap.size wr w') := Lib.hid (by
        have h := aprog_any (progS L) (by have := LS.out.len; have := LS.out.le; omega) wr EQ.out
        rw [hpr, ← HPS.out] at h
        exact h)
      have WD := Lib.hid (fun b1 b2 v1 v2 w h1 h2 => words_any (L.map fun p => lwI p.1) hL30 b1 b2 v1 v2 w h1 h2)
      have hex : ¬ ((j : Int) < (len : Int) ∧ (j : Int) < 30) := by omega
      clear hpr hL30
      generalize (L.map fun p => lwI p.1) = WS at *
      have fin : ∀ K : Prop, K → K := fun _ h => h
      by_cases h1 : j < len
      · have h1I : (j : Int) < (len : Int) := by omega
        have h2I : ¬ (j : Int) < 30 := by omega
        clear hex hr fin
        go_wp2_with (first | (go_at_call 10; refine AP.out.mono ?_; rintro e w4 ⟨r, rfl, hrr, hb⟩; have RR := Lib.hid hrr; have RU4 : Hid (RowU w4 w.heap.size _ WS) := Lib.hid (World.ownsRow.kept (RU.out : World.ownsRow _ _ _ _ _ _ _) (gb_below (World.grownBy.refl wr none) hb) (Classical.em _)); have B4 := Lib.hid (BQ.out.trans (hb.mono hbq)); clear hb hrr) | (go_at_call 12; refine (WD.out _ _ _ _ _ RR.out RU4.out).mono ?_; rintro e w5 ⟨rfl, hb⟩; have B5 := Lib.hid (B4.out.trans (hb.mono B4.out.size)); have E5 := Lib.hid (HE.out.below B5.out); clear hb) | (go_at_call 9; refine (SU.out _ E5.out).mono ?_; rintro e w6 ⟨rfl, hb⟩; have B6 := Lib.hid (B5.out.trans (hb.mono B5.out.size)); clear hb))
        go_ret
        exact ⟨rfl, B6.out⟩
      · have h1I : ¬ (j : Int) < (len : Int) := by omega
        clear hex hr fin
        go_wp2_with (first | (go_at_call 10; refine AP.out.mono ?_; rintro e w4 ⟨r, rfl, hrr, hb⟩; have RR := Lib.hid hrr; have RU4 : Hid (RowU w4 w.heap.size _ WS) := Lib.hid (World.ownsRow.kept (RU.out : World.ownsRow _ _ _ _ _ _ _) (gb_below (World.grownBy.refl wr none) hb) (Classical.em _)); have B4 := Lib.hid (BQ.out.trans (hb.mono hbq)); clear hb hrr) | (go_at_call 12; refine (WD.out _ _ _ _ _ RR.out RU4.out).mono ?_; rintro e w5 ⟨rfl, hb⟩; have B5 := Lib.hid (B4.out.trans (hb.mono B4.out.size)); have E5 := Lib.hid (HE.out.below B5.out); clear hb) | (go_at_call 9; refine (SU.out _ E5.out).mono ?_; rintro e w6 ⟨rfl, hb⟩; have B6 := Lib.hid (B5.out.trans (hb.mono B5.out.size)); clear hb))
        go_ret
        exact ⟨rfl, B6.out⟩

end Go.Proofs.YtkcdnhennnjneaaGreatDoor
