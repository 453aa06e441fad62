import Derived.Test.YtkcdnhennnjneaaGreatDoorShelf
import Derived.Test.YtkcdnhennnjneaaGreatDoorAsmP
import Derived.Below
import Derived.Deep.Draws
import Derived.Deep.AppendLies
import Derived.Maps.AppendAt
import Derived.OwnWalk
import Derived.Laws.BytesArg
import Derived.Laws.MakeOwn
import Derived.Laws.OwnMore
import Derived.Deep.OwnRows
import Derived.Tactics
import Derived.Lib.ConvBytes
import Derived.Laws.Slices
import Derived.WalkKit
import Derived.KernelRfl
import Derived.RowKit3
import Derived.Deep.LoopGhost
import Derived.Deep.QuietTactic
import Derived.BigQuiet
import Derived.WideLaws
import Derived.Deep.DeepCutAuto
import Derived.Deep.CutBlock
import Derived.Deep.RegionHeld3
import Derived.Laws.Rows
import Derived.Lib.AppendStr
import Derived.ArgAppend
import Derived.Laws.IdiomCopy
import Derived.OrdersHeld
import Derived.Laws.BitsLemmas
import Derived.RowKit
import Derived.Lib.Hide
import Derived.Laws.BitsAllLaws
import Derived.WalkLawsBesides
import Derived.WalkSpells
import Derived.LaidEql
namespace Go.Proofs.YtkcdnhennnjneaaGreatDoor
open Go.RowKit
set_option maxRecDepth 100000
set_option linter.unusedVariables false
set_option linter.unusedSimpArgs false

theorem var_low {B g : Nat} {W W' : World} {n : String} {cs : Array Value} (h : Below B W W') (hg : Tryz.prog.globalNamed n = some g) (hgB : g < B) (hv : W.var? Tryz.prog n = some cs) : W'.var? Tryz.prog n = some cs := by
  unfold World.var? at hv ⊢
  simp only [hg, Option.bind_some] at hv ⊢
  rw [h.block g hgB]
  exact hv
theorem g_tab : Tryz.prog.globalNamed "internal/strconv.uint64pow10" = some 6 := by kernel_rfl
theorem g_es : Tryz.prog.globalNamed "strconv.ErrSyntax" = some 7 := by kernel_rfl
theorem g_er : Tryz.prog.globalNamed "strconv.ErrRange" = some 8 := by kernel_rfl
/-- what the package-level variables hold, all of them below a place -/
structure Env (B : Nat) (w : World) : Prop where
  le : B ≤ w.heap.size
  b1 : 6 < B
  b2 : 7 < B
  b3 : 8 < B
  b4 : 3 < B
  b5 : 2 < B
  b6 : 1 < B
  tab : Lib.TabIs Tryz.prog w "internal/strconv.uint64pow10" .u64 Lib.pow10Tab
  es : ∃ tp p, w.var? Tryz.prog "strconv.ErrSyntax" = some #[.iface tp p]
  er : ∃ tp p, w.var? Tryz.prog "strconv.ErrRange" = some #[.iface tp p]
  ml : ∃ m, w.cell? ⟨3, 0, none⟩ = some (.int .i64 m)
  tw : TabW w
  ts : TabS w
theorem Env.low {B : Nat} {w w' : World} (h : Env B w) (hb : Below B w w') : Env B w' := by
  obtain ⟨m, hm⟩ := h.ml
  obtain ⟨t1, p1, h1⟩ := h.es
  obtain ⟨t2, p2, h2⟩ := h.er
  refine ⟨Nat.le_trans h.le hb.size, h.b1, h.b2, h.b3, h.b4, h.b5, h.b6, var_low hb g_tab h.b1 h.tab, ⟨t1, p1, var_low hb g_es h.b2 h1⟩, ⟨t2, p2, var_low hb g_er h.b3 h2⟩, ⟨m, (hb.cell (p := ⟨3, 0, none⟩) h.b4).trans hm⟩, ?_, ?_⟩
  · intro j hj
    exact (hb.cell (p := ⟨2, j, none⟩) h.b5).trans (h.tw j hj)
  · intro j hj
    obtain ⟨s, hs, e⟩ := h.ts j hj
    exact ⟨s, (hb.cell (p := ⟨1, j, none⟩) h.b6).trans hs, e⟩
theorem Env.below {B : Nat} {w w' : World} (h : Env B w) (hb : Below w.heap.size w w') : Env B w' := h.low (hb.mono h.le)
theorem Env.up {B C : Nat} {w : World} (h : Env B w) (hc : B ≤ C) (hl : C ≤ w.heap.size) : Env C w :=
  ⟨hl, by have := h.b1; omega, by have := h.b2; omega, by have := h.b3; omega, by have := h.b4; omega, by have := h.b5; omega, by have := h.b6; omega, h.tab, h.es, h.er, h.ml, h.tw, h.ts⟩
theorem belowKN {B : Nat} {a w : World} (h : Below B a w) (n : Nat) : Below B a (w.drewN n) := h.trans ⟨rfl, rfl, rfl, Nat.le_refl _, fun _ _ => rfl⟩
theorem below_grow (w : World) (k : Nat) (os : Array Obj) : Below w.heap.size w (Sort.grow (w.drewN k) os) := by
  refine ⟨rfl, rfl, rfl, ?_, ?_⟩
  · simp [Sort.grow]
  · intro g hg
    simp [Sort.grow, Array.getElem?_append, hg]
theorem itoa_any {B : Nat} (n : Int) (h0 : -9223372036854775808 ≤ n) (h1 : n ≤ 9223372036854775807) (w : World) (E : Env B w) : Calls Tryz.prog 59 #[.int .i64 n] w fun e w' => e = .returned (.string (bs (Lib.itoa n))) ∧ Below w.heap.size w w' :=
  (Tryz.strconv_Itoa n h0 h1 w E.tab).mono fun e w' ⟨he, k, os, hw⟩ => ⟨he, hw ▸ below_grow w k os⟩
theorem cut_any {B : Nat} (s sep : List UInt8) (hs : s.length ≤ 70000) (w : World) (E : Env B w) : Calls Tryz.prog 51 #[.string (bs s), .string (bs sep)] w fun e w' => e = .returned (.tuple #[.string (bs (Lib.cut s sep).1), .string (bs (Lib.cut s sep).2.1), .bool (Lib.cut s sep).2.2]) ∧ ∃ n, w.drewN n = w' := by
  obtain ⟨m, hm⟩ := E.ml
  exact (Tryz.strings_Cut (bs s) (bs sep) m w (by rw [bs_size]; omega) hm).mono fun e w' ⟨he, n, hw⟩ => ⟨he, n, hw.symm⟩
theorem cpre_any (s p : List UInt8) (w : World) : Calls Tryz.prog 56 #[.string (bs s), .string (bs p)] w fun e w' => e = .returned (.tuple #[.string (bs (Lib.trimPrefix s p)), .bool (Lib.hasPrefix s p)]) ∧ w = w' :=
  (Tryz.strings_CutPrefix (bs s) (bs p) w).mono fun e w' ⟨he, hw⟩ => ⟨he, hw.symm⟩
theorem csuf_any (s p : List UInt8) (hs : s.length ≤ 70000) (w : World) : Calls Tryz.prog 53 #[.string (bs s), .string (bs p)] w fun e w' => e = .returned (.tuple #[.string (bs (Lib.trimSuffix s p)), .bool (Lib.hasSuffix s p)]) ∧ w = w' :=
  (Tryz.strings_CutSuffix (bs s) (bs p) w (by rw [bs_size]; omega)).mono fun e w' ⟨he, hw⟩ => ⟨he, hw.symm⟩
theorem trim_any (s : List UInt8) (hs : s.length ≤ 70000) (w : World) : Calls Tryz.prog 52 #[.string (bs s), .string (bs [32])] w fun e w' => e = .returned (.string (bs (Lib.trimB s 32))) ∧ ∃ n, w.drewN n = w' :=
  (Tryz.strings_Trim_one (bs s) 32 (by decide) w (by rw [bs_size]; omega)).mono fun e w' ⟨he, hw⟩ => ⟨he, by rcases hw with rfl | rfl; exact ⟨0, rfl⟩; exact ⟨1, rfl⟩⟩
theorem split_any {B : Nat} (s sep : List UInt8) (hs : s.length ≤ 70000) (h1 : 1 ≤ sep.length) (w : World) (E : Env B w) : Calls Tryz.prog 50 #[.string (bs s), .string (bs sep)] w fun e w' => e = .returned (.slice (some ⟨w.heap.size, 0, none⟩) (Lib.split s sep).length (Lib.split s sep).length) ∧ w' = w.alloc (.cells ((Lib.split s sep).map fun x => Value.string (bs x)).toArray 9) := by
  obtain ⟨m, hm⟩ := E.ml
  refine (Tryz.strings_Split (bs s) (bs sep) m w (by rw [bs_size]; omega) hm (by rw [bs_size]; exact h1)).mono fun e w' ⟨he, hw⟩ => ?_
  have e1 : (Lib.splitB (bs sep) 0 (Lib.countB (bs s) (bs sep)) (bs s)).map (·.data.toList) = Lib.split s sep := Lib.splitB_data (bs sep) 0 _ (bs s)
  have e2 : Lib.splitB (bs sep) 0 (Lib.countB (bs s) (bs sep)) (bs s) = (Lib.split s sep).map bs := by
    rw [← e1, List.map_map]
    exact (List.map_id'' (fun x => bs_data x) _).symm
  have e3 := Lib.splitB_all (bs sep) (by rw [bs_size]; exact h1) 0 _ (bs s) rfl
  rw [e2, List.length_map] at e3
  refine ⟨?_, ?_⟩
  · rw [he, e3]
  · rw [hw, e2, List.map_map]; rfl
theorem atoi_any {B : Nat} (x : List UInt8) (hx : x.length ≤ 70000) (w : World) (E : Env B w) : (∃ v, Lib.atoiAll x = .ok v ∧ Calls Tryz.prog 105 #[.string (bs x)] w fun e w' => e = .returned (.tuple #[.int .i64 (numV x), .nilIface]) ∧ Below w.heap.size w w') ∨ ((∀ v, Lib.atoiAll x ≠ .ok v) ∧ ∃ t, Calls Tryz.prog 105 #[.string (bs x)] w fun e w' => (∃ a, e = .returned (.tuple #[.int .i64 (numV x), .iface t a])) ∧ Below w.heap.size w w') := by
  unfold numV
  cases h : Lib.atoiAll x with
  | ok v =>
    refine Or.inl ⟨v, rfl, (Tryz.strconv_Atoi_ok (bs x) (by rw [bs_size]; omega) v h w).mono fun e w' ⟨he, hw⟩ => ⟨he, ?_⟩⟩
    rcases hw with rfl | ⟨t, rfl⟩
    · exact Below.refl _ _
    · exact ⟨rfl, rfl, rfl, by rw [Lib.bytesWorld_size]; omega, fun j hj => Lib.bytesWorld_at_old w _ t j hj⟩
  | «syntax» =>
    obtain ⟨tp, p, hv⟩ := E.es
    exact Or.inr ⟨fun v hv => by (cases hv), _, (Tryz.strconv_Atoi_syntax_var (bs x) (by rw [bs_size]; omega) h tp p w hv).mono fun e w' ⟨N, he, _, _, hb⟩ => ⟨⟨_, he⟩, hb⟩⟩
  | range =>
    obtain ⟨tp, p, hv⟩ := E.er
    exact Or.inr ⟨fun v hv => by (cases hv), _, (Tryz.strconv_Atoi_range_var (bs x) (by rw [bs_size]; omega) h tp p w hv).mono fun e w' ⟨N, he, _, _, hb⟩ => ⟨⟨_, he⟩, hb⟩⟩
theorem join_any (xs : List (List UInt8)) (sep : List UInt8) (bk o c : Nat) (w : World) (hc : ∀ (j : Nat) x, xs[j]? = some x → w.cell? ⟨bk, o + j, none⟩ = some (.string (bs x))) (hbk : bk < w.heap.size) (hN : xs.length ≤ 70000) (hcap : xs.length ≤ c) (hlen : (Lib.join xs sep).length ≤ 140737488355328) :
    Calls Tryz.prog 38 #[.slice (some ⟨bk, o, none⟩) xs.length c, .string (bs sep)] w fun e w' => e = .returned (.string (bs (Lib.join xs sep))) ∧ Below w.heap.size w w' := by
  have e1 : (xs.map bs).map (·.data.toList) = xs := by rw [List.map_map]; exact List.map_id'' (fun x => rfl) _
  have h := Tryz.strings_Join bk o c (xs.map bs) (bs sep) w (fun j x hx => by
    rw [List.getElem?_map] at hx
    obtain ⟨y, hy, rfl⟩ := Option.map_eq_some_iff.1 hx
    exact hc j y hy) hbk (by rw [List.length_map]; omega) (by rw [List.length_map]; exact hcap) (by rw [e1]; exact hlen)
  rw [e1, List.length_map] at h
  exact h

end Go.Proofs.YtkcdnhennnjneaaGreatDoor
