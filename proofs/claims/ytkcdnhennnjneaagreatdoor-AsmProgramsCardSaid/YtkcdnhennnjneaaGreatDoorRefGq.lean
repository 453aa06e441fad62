import Derived.Test.YtkcdnhennnjneaaGreatDoorRefFq
import Derived.Below
import Derived.Deep.Draws
import Derived.Deep.AppendLies
import Derived.Maps.AppendAt
import Derived.OwnWalk
import Derived.Laws.BytesArg
import Derived.Laws.MakeOwn
import Derived.Laws.OwnMore
import Derived.Deep.OwnRows
import Derived.Tactics
import Derived.Lib.ConvBytes
import Derived.Laws.Slices
import Derived.WalkKit
import Derived.KernelRfl
import Derived.RowKit3
import Derived.Deep.LoopGhost
import Derived.Deep.QuietTactic
import Derived.BigQuiet
import Derived.WideLaws
import Derived.Deep.DeepCutAuto
import Derived.Deep.CutBlock
import Derived.Deep.RegionHeld3
import Derived.Laws.Rows
import Derived.Lib.AppendStr
import Derived.ArgAppend
import Derived.Laws.IdiomCopy
import Derived.OrdersHeld
import Derived.Laws.BitsLemmas
import Derived.RowKit
import Derived.Lib.Hide
import Derived.Laws.BitsAllLaws
import Derived.WalkLawsBesides
import Derived.WalkSpells
import Derived.LaidEql
namespace Go.Proofs.YtkcdnhennnjneaaGreatDoor
open Go.RowKit Go.Shelf Go.RowKit
set_option maxRecDepth 100000
set_option linter.unusedVariables false
set_option linter.unusedSimpArgs false

def insV (o : Option Ins) : Value := match o with | some i => i.v | none => zIns
def insN (o : Option Ins) : Int := match o with | some _ => 0 | none => 3
theorem rowS_all {w : World} {base : Nat} {v : Value} {l : List (List UInt8)} (h : RowS w base v l) : ∃ A cap, v = .slice A l.length cap ∧ (l = [] ∨ ∃ g, A = some ⟨g, 0, none⟩ ∧ base ≤ g ∧ g < w.heap.size ∧ ∀ (j : Nat) x, l[j]? = some x → w.cell? ⟨g, j, none⟩ = some (.string (bs x))) := by
  obtain ⟨_, h2⟩ := h
  rcases h2 with ⟨h3, h4⟩ | ⟨g, cap, cur, rfl, hg, h4, _, _, _, h8⟩
  · have hl := List.length_eq_zero_iff.1 h4
    subst hl
    exact ⟨none, 0, h3, Or.inl rfl⟩
  · refine ⟨_, cap, rfl, Or.inr ⟨g, rfl, hg, heap_lt h4, fun j x hx => ?_⟩⟩
    rw [cell_of_row _ _ _ _ _ _ h4]
    have hj := (List.getElem?_eq_some_iff.1 hx).1
    have q := congrArg (fun l => l[j]?) h8
    simp only [List.getElem?_map, hx, Option.map_some] at q
    rw [List.getElem?_take] at q
    rw [if_pos (by omega)] at q
    rw [← Array.getElem?_toList]
    exact q
/-- the operands' cells -/
def OpC (g : Nat) (l : List (List UInt8)) (w : World) : Prop := ∀ (j : Nat) x, l[j]? = some x → w.cell? ⟨g, j, none⟩ = some (.string (bs x))
theorem OpC.below {g : Nat} {l : List (List UInt8)} {w w' : World} (h : OpC g l w) (hb : Below w.heap.size w w') : OpC g l w' := fun j x hx => by
  have q := h j x hx
  exact (hb.cell (p := ⟨g, j, none⟩) (block_lt_of_cell q)).trans q
theorem OpC.set {g I : Nat} {l : List (List UInt8)} {w : World} (h : OpC g l w) (hgI : g ≠ I) (k : Nat) (v : Value) : OpC g l (w.setCell ⟨I, k, none⟩ v) := fun j x hx => by
  rw [World.cell?_setCell_other _ _ _ _ (fun e => by have := congrArg Addr.block e; simp at this; omega)]
  exact h j x hx
/-- the instruction under way and the result's place -/
structure PIn (W0 : World) (R I : Nat) (f : Array Value) (w : World) : Prop where
  ri : w.heap[I]? = some (.cells f 34 (0, 0))
  rr : w.heap[R]? = some (.cells #[.int .i64 0, .int .i64 0, .int .i64 0, .int .i64 0, .int .i64 0, .int .i64 0] 34 (0, 0))
  bel : Below W0.heap.size W0 w
theorem PIn.set {W0 : World} {R I : Nat} {f : Array Value} {w : World} (h : PIn W0 R I f w) (hRI : R ≠ I) (hI : W0.heap.size ≤ I) (k : Nat) (v : Value) : PIn W0 R I (f.setIfInBounds k v) (w.setCell ⟨I, k, none⟩ v) :=
  ⟨row_ownA h.ri v, row_setA h.rr hRI, h.bel.setCell (p := ⟨I, k, none⟩) hI v⟩
theorem PIn.below {W0 : World} {R I : Nat} {f : Array Value} {w w' : World} (h : PIn W0 R I f w) (hb : Below w.heap.size w w') : PIn W0 R I f w' :=
  ⟨(hb.block _ (heap_lt h.ri)).trans h.ri, (hb.block _ (heap_lt h.rr)).trans h.rr, h.bel.trans (hb.mono h.bel.size)⟩

theorem mm_full {n m : Int} (h0 : -4294967296 ≤ n) (h1 : n ≤ 4294967296) (h2 : 0 ≤ m) (h3 : m < 32) : mmB (farT n m) = true ∧ mmN (farT n m) = n ∧ mmR (farT n m) = m := by
  obtain ⟨e1, e2, e3⟩ := mm_at h0 h1 h2 h3
  obtain ⟨n1, n2⟩ := num_itoa h0 h1
  obtain ⟨r1, r2⟩ := rg_at h2 h3
  unfold mmB mmN mmR
  rw [e1]
  simp only
  rw [e2, e3, n1, n2, r1, r2]
  exact ⟨rfl, rfl, rfl⟩
theorem spec_U {s : List UInt8} {op : Nat} (hop : op < 57) (k : kN op = 85) (hf : findT (partsT s).1 = some op) {x y : List UInt8} (hl : (partsT s).2 = [x, y]) :
    parseT s = if (rgB x = true ∧ numOk y = true) ∧ Can op (rgV x) (0) (0) (numV y * 4096) (0) then some ⟨op, rgV x, 0, 0, numV y * 4096, 0⟩ else none := by
  have hs := find_some hf
  cases h : parseT s with
  | none =>
    rw [if_neg]
    rintro ⟨⟨h0, h1⟩, hc⟩
    have e : operT ⟨op, rgV x, 0, 0, numV y * 4096, 0⟩ = [x, y] := by
      unfold operT; simp only [Int.toNat_natCast]; rw [if_pos k, ← rg_ok h0, Int.mul_tdiv_cancel _ (by decide), ← (num_ok h1).1]
    have q := parse_make (s := s) (i := ⟨op, rgV x, 0, 0, numV y * 4096, 0⟩) hc (by rw [e, ← hl]; exact Prod.ext (by show _ = nmOf (op : Int); unfold nmOf; rw [Int.toNat_natCast]; exact hs.2.symm) rfl)
    rw [q] at h; cases h
  | some i =>
    obtain ⟨hc, _, hp⟩ := parse_some h
    clear h
    obtain ⟨op', w, hop', hw, rfl⟩ := can_ex hc
    have e1 : (partsT s).1 = nmTab.getD op' [] := by rw [hp]; show nmOf (op' : Int) = _; unfold nmOf; rw [Int.toNat_natCast]
    rw [e1, find_at hop'] at hf
    obtain rfl := Option.some.inj hf
    have e2 := hl.symm.trans (congrArg Prod.snd hp)
    simp only at e2
    obtain ⟨d0, d1⟩ := rd_b (kN op') w
    obtain ⟨a0, a1⟩ := r1_b (kN op') w
    obtain ⟨b0, b1⟩ := r2_b (kN op') w
    obtain ⟨c0, c1⟩ := cs_b (kN op') hw
    obtain ⟨n0, n1⟩ := imm_b (kN op') hw
    have z_r1 : r1Of (kN op') w = 0 := by rw [k]; rfl
    have z_r2 : r2Of (kN op') w = 0 := by rw [k]; rfl
    have z_cs : csrOf (kN op') w = 0 := by rw [k]; rfl
    obtain ⟨mm, hmm⟩ : ∃ m : Int, immOf (kN op') w = m * 4096 := by rw [k]; exact imm_85 w
    unfold Ins.can at hc
    simp only at hc
    generalize rdOf (kN op') w = rd at *
    generalize r1Of (kN op') w = r1 at *
    generalize r2Of (kN op') w = r2 at *
    generalize immOf (kN op') w = imm at *
    generalize csrOf (kN op') w = cs at *
    subst z_r1
    subst z_r2
    subst z_cs
    subst hmm
    have e3 : operT ⟨op', rd, 0, 0, mm * 4096, 0⟩ = [regT (rd), Lib.itoa (Int.tdiv (mm * 4096) 4096)] := by unfold operT; simp only [Int.toNat_natCast]; rw [if_pos k]
    rw [e3] at e2
    simp only [List.cons.injEq, and_true] at e2
    obtain ⟨rfl, rfl⟩ := e2
    obtain ⟨g0, v0⟩ := rg_at d0 d1
    rw [Int.mul_tdiv_cancel _ (by decide)] at *
    obtain ⟨v1, g1⟩ := num_itoa (v := mm) (by omega) (by omega)
    rw [v0, v1, if_pos ⟨⟨g0, g1⟩, hc⟩]
theorem spec_J {s : List UInt8} {op : Nat} (hop : op < 57) (k : kN op = 74) (hf : findT (partsT s).1 = some op) {x y : List UInt8} (hl : (partsT s).2 = [x, y]) :
    parseT s = if (rgB x = true ∧ numOk y = true) ∧ Can op (rgV x) (0) (0) (numV y) (0) then some ⟨op, rgV x, 0, 0, numV y, 0⟩ else none := by
  have hs := find_some hf
  cases h : parseT s with
  | none =>
    rw [if_neg]
    rintro ⟨⟨h0, h1⟩, hc⟩
    have e : operT ⟨op, rgV x, 0, 0, numV y, 0⟩ = [x, y] := by
      unfold operT; simp only [Int.toNat_natCast]; rw [if_neg (by omega), if_pos k, ← rg_ok h0, ← (num_ok h1).1]
    have q := parse_make (s := s) (i := ⟨op, rgV x, 0, 0, numV y, 0⟩) hc (by rw [e, ← hl]; exact Prod.ext (by show _ = nmOf (op : Int); unfold nmOf; rw [Int.toNat_natCast]; exact hs.2.symm) rfl)
    rw [q] at h; cases h
  | some i =>
    obtain ⟨hc, _, hp⟩ := parse_some h
    clear h
    obtain ⟨op', w, hop', hw, rfl⟩ := can_ex hc
    have e1 : (partsT s).1 = nmTab.getD op' [] := by rw [hp]; show nmOf (op' : Int) = _; unfold nmOf; rw [Int.toNat_natCast]
    rw [e1, find_at hop'] at hf
    obtain rfl := Option.some.inj hf
    have e2 := hl.symm.trans (congrArg Prod.snd hp)
    simp only at e2
    obtain ⟨d0, d1⟩ := rd_b (kN op') w
    obtain ⟨a0, a1⟩ := r1_b (kN op') w
    obtain ⟨b0, b1⟩ := r2_b (kN op') w
    obtain ⟨c0, c1⟩ := cs_b (kN op') hw
    obtain ⟨n0, n1⟩ := imm_b (kN op') hw
    have z_r1 : r1Of (kN op') w = 0 := by rw [k]; rfl
    have z_r2 : r2Of (kN op') w = 0 := by rw [k]; rfl
    have z_cs : csrOf (kN op') w = 0 := by rw [k]; rfl
    unfold Ins.can at hc
    simp only at hc
    generalize rdOf (kN op') w = rd at *
    generalize r1Of (kN op') w = r1 at *
    generalize r2Of (kN op') w = r2 at *
    generalize immOf (kN op') w = imm at *
    generalize csrOf (kN op') w = cs at *
    subst z_r1
    subst z_r2
    subst z_cs
    have e3 : operT ⟨op', rd, 0, 0, imm, 0⟩ = [regT (rd), Lib.itoa (imm)] := by unfold operT; simp only [Int.toNat_natCast]; rw [if_neg (by omega), if_pos k]
    rw [e3] at e2
    simp only [List.cons.injEq, and_true] at e2
    obtain ⟨rfl, rfl⟩ := e2
    obtain ⟨g0, v0⟩ := rg_at d0 d1
    obtain ⟨v1, g1⟩ := num_itoa (v := imm) (by omega) (by omega)
    rw [v0, v1, if_pos ⟨⟨g0, g1⟩, hc⟩]
theorem spec_I {s : List UInt8} {op : Nat} (hop : op < 57) (k : (kN op = 73 ∨ kN op = 70 ∨ kN op = 72)) (hf : findT (partsT s).1 = some op) {x y z : List UInt8} (hl : (partsT s).2 = [x, y, z]) :
    parseT s = if (rgB x = true ∧ rgB y = true ∧ numOk z = true) ∧ Can op (rgV x) (rgV y) (0) (numV z) (0) then some ⟨op, rgV x, rgV y, 0, numV z, 0⟩ else none := by
  have hs := find_some hf
  cases h : parseT s with
  | none =>
    rw [if_neg]
    rintro ⟨⟨h0, h1, h2⟩, hc⟩
    have e : operT ⟨op, rgV x, rgV y, 0, numV z, 0⟩ = [x, y, z] := by
      unfold operT; simp only [Int.toNat_natCast]; rw [if_neg (by omega), if_neg (by omega), if_pos (by omega), ← rg_ok h0, ← rg_ok h1, ← (num_ok h2).1]
    have q := parse_make (s := s) (i := ⟨op, rgV x, rgV y, 0, numV z, 0⟩) hc (by rw [e, ← hl]; exact Prod.ext (by show _ = nmOf (op : Int); unfold nmOf; rw [Int.toNat_natCast]; exact hs.2.symm) rfl)
    rw [q] at h; cases h
  | some i =>
    obtain ⟨hc, _, hp⟩ := parse_some h
    clear h
    obtain ⟨op', w, hop', hw, rfl⟩ := can_ex hc
    have e1 : (partsT s).1 = nmTab.getD op' [] := by rw [hp]; show nmOf (op' : Int) = _; unfold nmOf; rw [Int.toNat_natCast]
    rw [e1, find_at hop'] at hf
    obtain rfl := Option.some.inj hf
    have e2 := hl.symm.trans (congrArg Prod.snd hp)
    simp only at e2
    obtain ⟨d0, d1⟩ := rd_b (kN op') w
    obtain ⟨a0, a1⟩ := r1_b (kN op') w
    obtain ⟨b0, b1⟩ := r2_b (kN op') w
    obtain ⟨c0, c1⟩ := cs_b (kN op') hw
    obtain ⟨n0, n1⟩ := imm_b (kN op') hw
    have z_r2 : r2Of (kN op') w = 0 := by rcases k with k | k | k <;> rw [k] <;> rfl
    have z_cs : csrOf (kN op') w = 0 := by rcases k with k | k | k <;> rw [k] <;> rfl
    unfold Ins.can at hc
    simp only at hc
    generalize rdOf (kN op') w = rd at *
    generalize r1Of (kN op') w = r1 at *
    generalize r2Of (kN op') w = r2 at *
    generalize immOf (kN op') w = imm at *
    generalize csrOf (kN op') w = cs at *
    subst z_r2
    subst z_cs
    have e3 : operT ⟨op', rd, r1, 0, imm, 0⟩ = [regT (rd), regT (r1), Lib.itoa (imm)] := by unfold operT; simp only [Int.toNat_natCast]; rw [if_neg (by omega), if_neg (by omega), if_pos (by omega)]
    rw [e3] at e2
    simp only [List.cons.injEq, and_true] at e2
    obtain ⟨rfl, rfl, rfl⟩ := e2
    obtain ⟨g0, v0⟩ := rg_at d0 d1
    obtain ⟨g1, v1⟩ := rg_at a0 a1
    obtain ⟨v2, g2⟩ := num_itoa (v := imm) (by omega) (by omega)
    rw [v0, v1, v2, if_pos ⟨⟨g0, g1, g2⟩, hc⟩]
theorem spec_L {s : List UInt8} {op : Nat} (hop : op < 57) (k : kN op = 76) (hf : findT (partsT s).1 = some op) {x y : List UInt8} (hl : (partsT s).2 = [x, y]) :
    parseT s = if (rgB x = true ∧ mmB y = true) ∧ Can op (rgV x) (mmR y) (0) (mmN y) (0) then some ⟨op, rgV x, mmR y, 0, mmN y, 0⟩ else none := by
  have hs := find_some hf
  cases h : parseT s with
  | none =>
    rw [if_neg]
    rintro ⟨⟨h0, h1⟩, hc⟩
    have e : operT ⟨op, rgV x, mmR y, 0, mmN y, 0⟩ = [x, y] := by
      unfold operT; simp only [Int.toNat_natCast]; rw [if_neg (by omega), if_neg (by omega), if_neg (by omega), if_pos k, ← rg_ok h0, ← mm_ok h1]
    have q := parse_make (s := s) (i := ⟨op, rgV x, mmR y, 0, mmN y, 0⟩) hc (by rw [e, ← hl]; exact Prod.ext (by show _ = nmOf (op : Int); unfold nmOf; rw [Int.toNat_natCast]; exact hs.2.symm) rfl)
    rw [q] at h; cases h
  | some i =>
    obtain ⟨hc, _, hp⟩ := parse_some h
    clear h
    obtain ⟨op', w, hop', hw, rfl⟩ := can_ex hc
    have e1 : (partsT s).1 = nmTab.getD op' [] := by rw [hp]; show nmOf (op' : Int) = _; unfold nmOf; rw [Int.toNat_natCast]
    rw [e1, find_at hop'] at hf
    obtain rfl := Option.some.inj hf
    have e2 := hl.symm.trans (congrArg Prod.snd hp)
    simp only at e2
    obtain ⟨d0, d1⟩ := rd_b (kN op') w
    obtain ⟨a0, a1⟩ := r1_b (kN op') w
    obtain ⟨b0, b1⟩ := r2_b (kN op') w
    obtain ⟨c0, c1⟩ := cs_b (kN op') hw
    obtain ⟨n0, n1⟩ := imm_b (kN op') hw
    have z_r2 : r2Of (kN op') w = 0 := by rw [k]; rfl
    have z_cs : csrOf (kN op') w = 0 := by rw [k]; rfl
    unfold Ins.can at hc
    simp only at hc
    generalize rdOf (kN op') w = rd at *
    generalize r1Of (kN op') w = r1 at *
    generalize r2Of (kN op') w = r2 at *
    generalize immOf (kN op') w = imm at *
    generalize csrOf (kN op') w = cs at *
    subst z_r2
    subst z_cs
    have e3 : operT ⟨op', rd, r1, 0, imm, 0⟩ = [regT (rd), farT (imm) (r1)] := by unfold operT; simp only [Int.toNat_natCast]; rw [if_neg (by omega), if_neg (by omega), if_neg (by omega), if_pos k]
    rw [e3] at e2
    simp only [List.cons.injEq, and_true] at e2
    obtain ⟨rfl, rfl⟩ := e2
    obtain ⟨g0, v0⟩ := rg_at d0 d1
    obtain ⟨g1, v1, u1⟩ := mm_full n0 n1 a0 a1
    rw [v0, v1, u1, if_pos ⟨⟨g0, g1⟩, hc⟩]
theorem spec_B {s : List UInt8} {op : Nat} (hop : op < 57) (k : kN op = 66) (hf : findT (partsT s).1 = some op) {x y z : List UInt8} (hl : (partsT s).2 = [x, y, z]) :
    parseT s = if (rgB x = true ∧ rgB y = true ∧ numOk z = true) ∧ Can op (0) (rgV x) (rgV y) (numV z) (0) then some ⟨op, 0, rgV x, rgV y, numV z, 0⟩ else none := by
  have hs := find_some hf
  cases h : parseT s with
  | none =>
    rw [if_neg]
    rintro ⟨⟨h0, h1, h2⟩, hc⟩
    have e : operT ⟨op, 0, rgV x, rgV y, numV z, 0⟩ = [x, y, z] := by
      unfold operT; simp only [Int.toNat_natCast]; rw [if_neg (by omega), if_neg (by omega), if_neg (by omega), if_neg (by omega), if_pos k, ← rg_ok h0, ← rg_ok h1, ← (num_ok h2).1]
    have q := parse_make (s := s) (i := ⟨op, 0, rgV x, rgV y, numV z, 0⟩) hc (by rw [e, ← hl]; exact Prod.ext (by show _ = nmOf (op : Int); unfold nmOf; rw [Int.toNat_natCast]; exact hs.2.symm) rfl)
    rw [q] at h; cases h
  | some i =>
    obtain ⟨hc, _, hp⟩ := parse_some h
    clear h
    obtain ⟨op', w, hop', hw, rfl⟩ := can_ex hc
    have e1 : (partsT s).1 = nmTab.getD op' [] := by rw [hp]; show nmOf (op' : Int) = _; unfold nmOf; rw [Int.toNat_natCast]
    rw [e1, find_at hop'] at hf
    obtain rfl := Option.some.inj hf
    have e2 := hl.symm.trans (congrArg Prod.snd hp)
    simp only at e2
    obtain ⟨d0, d1⟩ := rd_b (kN op') w
    obtain ⟨a0, a1⟩ := r1_b (kN op') w
    obtain ⟨b0, b1⟩ := r2_b (kN op') w
    obtain ⟨c0, c1⟩ := cs_b (kN op') hw
    obtain ⟨n0, n1⟩ := imm_b (kN op') hw
    have z_rd : rdOf (kN op') w = 0 := by rw [k]; rfl
    have z_cs : csrOf (kN op') w = 0 := by rw [k]; rfl
    unfold Ins.can at hc
    simp only at hc
    generalize rdOf (kN op') w = rd at *
    generalize r1Of (kN op') w = r1 at *
    generalize r2Of (kN op') w = r2 at *
    generalize immOf (kN op') w = imm at *
    generalize csrOf (kN op') w = cs at *
    subst z_rd
    subst z_cs
    have e3 : operT ⟨op', 0, r1, r2, imm, 0⟩ = [regT (r1), regT (r2), Lib.itoa (imm)] := by unfold operT; simp only [Int.toNat_natCast]; rw [if_neg (by omega), if_neg (by omega), if_neg (by omega), if_neg (by omega), if_pos k]
    rw [e3] at e2
    simp only [List.cons.injEq, and_true] at e2
    obtain ⟨rfl, rfl, rfl⟩ := e2
    obtain ⟨g0, v0⟩ := rg_at a0 a1
    obtain ⟨g1, v1⟩ := rg_at b0 b1
    obtain ⟨v2, g2⟩ := num_itoa (v := imm) (by omega) (by omega)
    rw [v0, v1, v2, if_pos ⟨⟨g0, g1, g2⟩, hc⟩]
theorem spec_S {s : List UInt8} {op : Nat} (hop : op < 57) (k : kN op = 83) (hf : findT (partsT s).1 = some op) {x y : List UInt8} (hl : (partsT s).2 = [x, y]) :
    parseT s = if (rgB x = true ∧ mmB y = true) ∧ Can op (0) (mmR y) (rgV x) (mmN y) (0) then some ⟨op, 0, mmR y, rgV x, mmN y, 0⟩ else none := by
  have hs := find_some hf
  cases h : parseT s with
  | none =>
    rw [if_neg]
    rintro ⟨⟨h0, h1⟩, hc⟩
    have e : operT ⟨op, 0, mmR y, rgV x, mmN y, 0⟩ = [x, y] := by
      unfold operT; simp only [Int.toNat_natCast]; rw [if_neg (by omega), if_neg (by omega), if_neg (by omega), if_neg (by omega), if_neg (by omega), if_pos k, ← rg_ok h0, ← mm_ok h1]
    have q := parse_make (s := s) (i := ⟨op, 0, mmR y, rgV x, mmN y, 0⟩) hc (by rw [e, ← hl]; exact Prod.ext (by show _ = nmOf (op : Int); unfold nmOf; rw [Int.toNat_natCast]; exact hs.2.symm) rfl)
    rw [q] at h; cases h
  | some i =>
    obtain ⟨hc, _, hp⟩ := parse_some h
    clear h
    obtain ⟨op', w, hop', hw, rfl⟩ := can_ex hc
    have e1 : (partsT s).1 = nmTab.getD op' [] := by rw [hp]; show nmOf (op' : Int) = _; unfold nmOf; rw [Int.toNat_natCast]
    rw [e1, find_at hop'] at hf
    obtain rfl := Option.some.inj hf
    have e2 := hl.symm.trans (congrArg Prod.snd hp)
    simp only at e2
    obtain ⟨d0, d1⟩ := rd_b (kN op') w
    obtain ⟨a0, a1⟩ := r1_b (kN op') w
    obtain ⟨b0, b1⟩ := r2_b (kN op') w
    obtain ⟨c0, c1⟩ := cs_b (kN op') hw
    obtain ⟨n0, n1⟩ := imm_b (kN op') hw
    have z_rd : rdOf (kN op') w = 0 := by rw [k]; rfl
    have z_cs : csrOf (kN op') w = 0 := by rw [k]; rfl
    unfold Ins.can at hc
    simp only at hc
    generalize rdOf (kN op') w = rd at *
    generalize r1Of (kN op') w = r1 at *
    generalize r2Of (kN op') w = r2 at *
    generalize immOf (kN op') w = imm at *
    generalize csrOf (kN op') w = cs at *
    subst z_rd
    subst z_cs
    have e3 : operT ⟨op', 0, r1, r2, imm, 0⟩ = [regT (r2), farT (imm) (r1)] := by unfold operT; simp only [Int.toNat_natCast]; rw [if_neg (by omega), if_neg (by omega), if_neg (by omega), if_neg (by omega), if_neg (by omega), if_pos k]
    rw [e3] at e2
    simp only [List.cons.injEq, and_true] at e2
    obtain ⟨rfl, rfl⟩ := e2
    obtain ⟨g0, v0⟩ := rg_at b0 b1
    obtain ⟨g1, v1, u1⟩ := mm_full n0 n1 a0 a1
    rw [v0, v1, u1, if_pos ⟨⟨g0, g1⟩, hc⟩]
theorem spec_R {s : List UInt8} {op : Nat} (hop : op < 57) (k : kN op = 82) (hf : findT (partsT s).1 = some op) {x y z : List UInt8} (hl : (partsT s).2 = [x, y, z]) :
    parseT s = if (rgB x = true ∧ rgB y = true ∧ rgB z = true) ∧ Can op (rgV x) (rgV y) (rgV z) (0) (0) then some ⟨op, rgV x, rgV y, rgV z, 0, 0⟩ else none := by
  have hs := find_some hf
  cases h : parseT s with
  | none =>
    rw [if_neg]
    rintro ⟨⟨h0, h1, h2⟩, hc⟩
    have e : operT ⟨op, rgV x, rgV y, rgV z, 0, 0⟩ = [x, y, z] := by
      unfold operT; simp only [Int.toNat_natCast]; rw [if_neg (by omega), if_neg (by omega), if_neg (by omega), if_neg (by omega), if_neg (by omega), if_neg (by omega), if_pos k, ← rg_ok h0, ← rg_ok h1, ← rg_ok h2]
    have q := parse_make (s := s) (i := ⟨op, rgV x, rgV y, rgV z, 0, 0⟩) hc (by rw [e, ← hl]; exact Prod.ext (by show _ = nmOf (op : Int); unfold nmOf; rw [Int.toNat_natCast]; exact hs.2.symm) rfl)
    rw [q] at h; cases h
  | some i =>
    obtain ⟨hc, _, hp⟩ := parse_some h
    clear h
    obtain ⟨op', w, hop', hw, rfl⟩ := can_ex hc
    have e1 : (partsT s).1 = nmTab.getD op' [] := by rw [hp]; show nmOf (op' : Int) = _; unfold nmOf; rw [Int.toNat_natCast]
    rw [e1, find_at hop'] at hf
    obtain rfl := Option.some.inj hf
    have e2 := hl.symm.trans (congrArg Prod.snd hp)
    simp only at e2
    obtain ⟨d0, d1⟩ := rd_b (kN op') w
    obtain ⟨a0, a1⟩ := r1_b (kN op') w
    obtain ⟨b0, b1⟩ := r2_b (kN op') w
    obtain ⟨c0, c1⟩ := cs_b (kN op') hw
    obtain ⟨n0, n1⟩ := imm_b (kN op') hw
    have z_imm : immOf (kN op') w = 0 := by rw [k]; rfl
    have z_cs : csrOf (kN op') w = 0 := by rw [k]; rfl
    unfold Ins.can at hc
    simp only at hc
    generalize rdOf (kN op') w = rd at *
    generalize r1Of (kN op') w = r1 at *
    generalize r2Of (kN op') w = r2 at *
    generalize immOf (kN op') w = imm at *
    generalize csrOf (kN op') w = cs at *
    subst z_imm
    subst z_cs
    have e3 : operT ⟨op', rd, r1, r2, 0, 0⟩ = [regT (rd), regT (r1), regT (r2)] := by unfold operT; simp only [Int.toNat_natCast]; rw [if_neg (by omega), if_neg (by omega), if_neg (by omega), if_neg (by omega), if_neg (by omega), if_neg (by omega), if_pos k]
    rw [e3] at e2
    simp only [List.cons.injEq, and_true] at e2
    obtain ⟨rfl, rfl, rfl⟩ := e2
    obtain ⟨g0, v0⟩ := rg_at d0 d1
    obtain ⟨g1, v1⟩ := rg_at a0 a1
    obtain ⟨g2, v2⟩ := rg_at b0 b1
    rw [v0, v1, v2, if_pos ⟨⟨g0, g1, g2⟩, hc⟩]
theorem spec_C {s : List UInt8} {op : Nat} (hop : op < 57) (k : kN op = 67 ∧ op < 54) (hf : findT (partsT s).1 = some op) {x y z : List UInt8} (hl : (partsT s).2 = [x, y, z]) :
    parseT s = if (rgB x = true ∧ numOk y = true ∧ rgB z = true) ∧ Can op (rgV x) (rgV z) (0) (0) (numV y) then some ⟨op, rgV x, rgV z, 0, 0, numV y⟩ else none := by
  have hs := find_some hf
  obtain ⟨k, h9⟩ := k
  cases h : parseT s with
  | none =>
    rw [if_neg]
    rintro ⟨⟨h0, h1, h2⟩, hc⟩
    have e : operT ⟨op, rgV x, rgV z, 0, 0, numV y⟩ = [x, y, z] := by
      unfold operT; simp only [Int.toNat_natCast]; rw [if_neg (by omega), if_neg (by omega), if_neg (by omega), if_neg (by omega), if_neg (by omega), if_neg (by omega), if_neg (by omega), if_pos k, if_neg (by omega), ← rg_ok h0, ← (num_ok h1).1, ← rg_ok h2]
    have q := parse_make (s := s) (i := ⟨op, rgV x, rgV z, 0, 0, numV y⟩) hc (by rw [e, ← hl]; exact Prod.ext (by show _ = nmOf (op : Int); unfold nmOf; rw [Int.toNat_natCast]; exact hs.2.symm) rfl)
    rw [q] at h; cases h
  | some i =>
    obtain ⟨hc, _, hp⟩ := parse_some h
    clear h
    obtain ⟨op', w, hop', hw, rfl⟩ := can_ex hc
    have e1 : (partsT s).1 = nmTab.getD op' [] := by rw [hp]; show nmOf (op' : Int) = _; unfold nmOf; rw [Int.toNat_natCast]
    rw [e1, find_at hop'] at hf
    obtain rfl := Option.some.inj hf
    have e2 := hl.symm.trans (congrArg Prod.snd hp)
    simp only at e2
    obtain ⟨d0, d1⟩ := rd_b (kN op') w
    obtain ⟨a0, a1⟩ := r1_b (kN op') w
    obtain ⟨b0, b1⟩ := r2_b (kN op') w
    obtain ⟨c0, c1⟩ := cs_b (kN op') hw
    obtain ⟨n0, n1⟩ := imm_b (kN op') hw
    have z_r2 : r2Of (kN op') w = 0 := by rw [k]; rfl
    have z_imm : immOf (kN op') w = 0 := by rw [k]; rfl
    unfold Ins.can at hc
    simp only at hc
    generalize rdOf (kN op') w = rd at *
    generalize r1Of (kN op') w = r1 at *
    generalize r2Of (kN op') w = r2 at *
    generalize immOf (kN op') w = imm at *
    generalize csrOf (kN op') w = cs at *
    subst z_r2
    subst z_imm
    have e3 : operT ⟨op', rd, r1, 0, 0, cs⟩ = [regT (rd), Lib.itoa (cs), regT (r1)] := by unfold operT; simp only [Int.toNat_natCast]; rw [if_neg (by omega), if_neg (by omega), if_neg (by omega), if_neg (by omega), if_neg (by omega), if_neg (by omega), if_neg (by omega), if_pos k, if_neg (by omega)]
    rw [e3] at e2
    simp only [List.cons.injEq, and_true] at e2
    obtain ⟨rfl, rfl, rfl⟩ := e2
    obtain ⟨g0, v0⟩ := rg_at d0 d1
    obtain ⟨v1, g1⟩ := num_itoa (v := cs) (by omega) (by omega)
    obtain ⟨g2, v2⟩ := rg_at a0 a1
    rw [v0, v1, v2, if_pos ⟨⟨g0, g1, g2⟩, hc⟩]
theorem spec_Z {s : List UInt8} {op : Nat} (hop : op < 57) (k : kN op = 67 ∧ ¬ op < 54) (hf : findT (partsT s).1 = some op) {x y z : List UInt8} (hl : (partsT s).2 = [x, y, z]) :
    parseT s = if (rgB x = true ∧ numOk y = true ∧ numOk z = true) ∧ Can op (rgV x) (numV z) (0) (0) (numV y) then some ⟨op, rgV x, numV z, 0, 0, numV y⟩ else none := by
  have hs := find_some hf
  obtain ⟨k, h9⟩ := k
  cases h : parseT s with
  | none =>
    rw [if_neg]
    rintro ⟨⟨h0, h1, h2⟩, hc⟩
    have e : operT ⟨op, rgV x, numV z, 0, 0, numV y⟩ = [x, y, z] := by
      unfold operT; simp only [Int.toNat_natCast]; rw [if_neg (by omega), if_neg (by omega), if_neg (by omega), if_neg (by omega), if_neg (by omega), if_neg (by omega), if_neg (by omega), if_pos k, if_pos (by omega), ← rg_ok h0, ← (num_ok h1).1, ← (num_ok h2).1]
    have q := parse_make (s := s) (i := ⟨op, rgV x, numV z, 0, 0, numV y⟩) hc (by rw [e, ← hl]; exact Prod.ext (by show _ = nmOf (op : Int); unfold nmOf; rw [Int.toNat_natCast]; exact hs.2.symm) rfl)
    rw [q] at h; cases h
  | some i =>
    obtain ⟨hc, _, hp⟩ := parse_some h
    clear h
    obtain ⟨op', w, hop', hw, rfl⟩ := can_ex hc
    have e1 : (partsT s).1 = nmTab.getD op' [] := by rw [hp]; show nmOf (op' : Int) = _; unfold nmOf; rw [Int.toNat_natCast]
    rw [e1, find_at hop'] at hf
    obtain rfl := Option.some.inj hf
    have e2 := hl.symm.trans (congrArg Prod.snd hp)
    simp only at e2
    obtain ⟨d0, d1⟩ := rd_b (kN op') w
    obtain ⟨a0, a1⟩ := r1_b (kN op') w
    obtain ⟨b0, b1⟩ := r2_b (kN op') w
    obtain ⟨c0, c1⟩ := cs_b (kN op') hw
    obtain ⟨n0, n1⟩ := imm_b (kN op') hw
    have z_r2 : r2Of (kN op') w = 0 := by rw [k]; rfl
    have z_imm : immOf (kN op') w = 0 := by rw [k]; rfl
    unfold Ins.can at hc
    simp only at hc
    generalize rdOf (kN op') w = rd at *
    generalize r1Of (kN op') w = r1 at *
    generalize r2Of (kN op') w = r2 at *
    generalize immOf (kN op') w = imm at *
    generalize csrOf (kN op') w = cs at *
    subst z_r2
    subst z_imm
    have e3 : operT ⟨op', rd, r1, 0, 0, cs⟩ = [regT (rd), Lib.itoa (cs), Lib.itoa (r1)] := by unfold operT; simp only [Int.toNat_natCast]; rw [if_neg (by omega), if_neg (by omega), if_neg (by omega), if_neg (by omega), if_neg (by omega), if_neg (by omega), if_neg (by omega), if_pos k, if_pos (by omega)]
    rw [e3] at e2
    simp only [List.cons.injEq, and_true] at e2
    obtain ⟨rfl, rfl, rfl⟩ := e2
    obtain ⟨g0, v0⟩ := rg_at d0 d1
    obtain ⟨v1, g1⟩ := num_itoa (v := cs) (by omega) (by omega)
    obtain ⟨v2, g2⟩ := num_itoa (v := r1) (by omega) (by omega)
    rw [v0, v1, v2, if_pos ⟨⟨g0, g1, g2⟩, hc⟩]
theorem spec_N {s : List UInt8} {op : Nat} (hop : op < 57) (k : kN op = 78) (hf : findT (partsT s).1 = some op) {u : Unit} (hl : (partsT s).2 = []) :
    parseT s = if (True) ∧ Can op (0) (0) (0) (0) (0) then some ⟨op, 0, 0, 0, 0, 0⟩ else none := by
  have hs := find_some hf
  cases h : parseT s with
  | none =>
    rw [if_neg]
    rintro ⟨_, hc⟩
    have e : operT ⟨op, 0, 0, 0, 0, 0⟩ = [] := by
      unfold operT; simp only [Int.toNat_natCast]; rw [if_neg (by omega), if_neg (by omega), if_neg (by omega), if_neg (by omega), if_neg (by omega), if_neg (by omega), if_neg (by omega), if_neg (by omega)]
    have q := parse_make (s := s) (i := ⟨op, 0, 0, 0, 0, 0⟩) hc (by rw [e, ← hl]; exact Prod.ext (by show _ = nmOf (op : Int); unfold nmOf; rw [Int.toNat_natCast]; exact hs.2.symm) rfl)
    rw [q] at h; cases h
  | some i =>
    obtain ⟨hc, _, hp⟩ := parse_some h
    clear h
    obtain ⟨op', w, hop', hw, rfl⟩ := can_ex hc
    have e1 : (partsT s).1 = nmTab.getD op' [] := by rw [hp]; show nmOf (op' : Int) = _; unfold nmOf; rw [Int.toNat_natCast]
    rw [e1, find_at hop'] at hf
    obtain rfl := Option.some.inj hf
    have e2 := hl.symm.trans (congrArg Prod.snd hp)
    simp only at e2
    obtain ⟨d0, d1⟩ := rd_b (kN op') w
    obtain ⟨a0, a1⟩ := r1_b (kN op') w
    obtain ⟨b0, b1⟩ := r2_b (kN op') w
    obtain ⟨c0, c1⟩ := cs_b (kN op') hw
    obtain ⟨n0, n1⟩ := imm_b (kN op') hw
    have z_rd : rdOf (kN op') w = 0 := by rw [k]; rfl
    have z_r1 : r1Of (kN op') w = 0 := by rw [k]; rfl
    have z_r2 : r2Of (kN op') w = 0 := by rw [k]; rfl
    have z_imm : immOf (kN op') w = 0 := by rw [k]; rfl
    have z_cs : csrOf (kN op') w = 0 := by rw [k]; rfl
    unfold Ins.can at hc
    simp only at hc
    generalize rdOf (kN op') w = rd at *
    generalize r1Of (kN op') w = r1 at *
    generalize r2Of (kN op') w = r2 at *
    generalize immOf (kN op') w = imm at *
    generalize csrOf (kN op') w = cs at *
    subst z_rd
    subst z_r1
    subst z_r2
    subst z_imm
    subst z_cs
    have e3 : operT ⟨op', 0, 0, 0, 0, 0⟩ = [] := by unfold operT; simp only [Int.toNat_natCast]; rw [if_neg (by omega), if_neg (by omega), if_neg (by omega), if_neg (by omega), if_neg (by omega), if_neg (by omega), if_neg (by omega), if_neg (by omega)]
    rw [e3] at e2
    rw [if_pos ⟨trivial, hc⟩]

end Go.Proofs.YtkcdnhennnjneaaGreatDoor
