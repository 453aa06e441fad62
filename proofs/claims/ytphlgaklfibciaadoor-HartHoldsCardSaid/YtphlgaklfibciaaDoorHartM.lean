import Derived.Test.YtphlgaklfibciaaDoorCsrHA
import Derived.Test.YtphlgaklfibciaaDoorDoorK
import Derived.Below
import Derived.Deep.Draws
import Derived.Deep.AppendLies
import Derived.Maps.AppendAt
import Derived.OwnWalk
import Derived.Laws.BytesArg
import Derived.Laws.MakeOwn
import Derived.Laws.OwnMore
import Derived.Deep.OwnRows
import Derived.Tactics
import Derived.Lib.ConvBytes
import Derived.Laws.Slices
import Derived.WalkKit
import Derived.KernelRfl
import Derived.RowKit3
import Derived.Deep.LoopGhost
import Derived.Deep.QuietTactic
import Derived.BigQuiet
import Derived.WideLaws
import Derived.Deep.DeepCutAuto
import Derived.Deep.CutBlock
import Derived.Deep.RegionHeld3
import Derived.Laws.Rows
import Derived.Lib.AppendStr
import Derived.ArgAppend
import Derived.Laws.IdiomCopy
import Derived.OrdersHeld
import Derived.Laws.BitsLemmas
import Derived.RowKit
import Derived.Lib.Hide
import Derived.Laws.BitsAllLaws
import Derived.WalkLawsBesides
import Derived.WalkSpells
import Derived.LaidEql
import Derived.Deep.MidRow
namespace Go.Proofs.YtphlgaklfibciaaDoor
open Go.RowKit
set_option maxRecDepth 100000
set_option linter.unusedVariables false
set_option linter.unusedSimpArgs false

/-- a hart -/
structure HS where
  pc : Nat
  x : Nat → Nat
  wait : Bool
  c : St
def HS.get (h : HS) (j : Nat) : Value :=
  if j = 0 then .int .u32 h.pc else if j < 33 then .int .u32 (h.x (j - 1) : Nat) else if j = 33 then .bool h.wait
  else if j = 34 then .int .u32 h.c.status else if j = 35 then .int .u32 h.c.enable else if j = 36 then .int .u32 h.c.vector else if j = 37 then .int .u32 h.c.scratch
  else if j = 38 then .int .u32 h.c.epc else if j = 39 then .int .u32 h.c.cause else if j = 40 then .int .u32 h.c.value else .int .u64 h.c.count
def HS.cells (h : HS) : List Value := (List.range 42).map h.get
def HS.v (h : HS) : Value := .agg h.cells.toArray
structure HS.ok (h : HS) : Prop where
  pc : h.pc < 4294967296
  x : ∀ j, j < 32 → h.x j < 4294967296
  c : h.c.ok
theorem HS.len (h : HS) : h.cells.length = 42 := by simp [HS.cells]
theorem HS.at (h : HS) {j : Nat} (hj : j < 42) : h.cells[j]? = some (h.get j) := by simp [HS.cells, hj]
theorem HS.of_at (h : HS) {j : Nat} {v : Value} (hv : h.cells[j]? = some v) : j < 42 ∧ h.get j = v := by
  have hj : j < h.cells.length := (List.getElem?_eq_some_iff.1 hv).1
  rw [h.len] at hj
  rw [h.at hj] at hv
  exact ⟨hj, Option.some.inj hv⟩
theorem HS.get_x (h : HS) {j : Nat} (hj : j < 32) : h.get (1 + j) = .int .u32 (h.x j : Nat) := by
  unfold HS.get
  rw [if_neg (by omega), if_pos (by omega), show 1 + j - 1 = j by omega]
/-- 42 cells lie in a block, from its head on -/
def GAt (w : World) (b : Nat) (g : Nat → Value) : Prop := (∀ j, j < 42 → w.cell? ⟨b, j, none⟩ = some (g j)) ∧ (∀ j, w.frozen? ⟨b, j, none⟩ = false) ∧ b < w.heap.size
/-- a hart lies in a block, from its head on -/
def HAt (w : World) (b : Nat) (h : HS) : Prop := GAt w b h.get
theorem GAt.set {w : World} {b : Nat} {g : Nat → Value} (H : GAt w b g) {k : Nat} (hk : k < 42) (v : Value) : GAt (w.setCell ⟨b, k, none⟩ v) b (fun j => if j = k then v else g j) := by
  refine ⟨fun j hj => ?_, fun j => ?_, ?_⟩
  · show _ = some (if j = k then v else g j)
    by_cases e : j = k
    · subst e; rw [if_pos rfl]; exact World.cell?_setCell_same _ _ _ (H.1 j hj)
    · rw [if_neg e, World.cell?_setCell_other _ _ _ _ (fun h => e (by cases h; rfl))]; exact H.1 j hj
  · rw [World.frozen?_setCell]; exact H.2.1 j
  · rw [World.size_setCell]; exact H.2.2
theorem GAt.ext {w : World} {b : Nat} {g f : Nat → Value} (H : GAt w b g) (e : ∀ j, j < 42 → g j = f j) : GAt w b f := ⟨fun j hj => by rw [← e j hj]; exact H.1 j hj, H.2.1, H.2.2⟩
theorem get_ext {g f : Nat → Value} (h0 : g 0 = f 0) (hx : ∀ j, 1 ≤ j → j < 33 → g j = f j) (h3 : g 33 = f 33 ∧ g 34 = f 34 ∧ g 35 = f 35 ∧ g 36 = f 36 ∧ g 37 = f 37 ∧ g 38 = f 38 ∧ g 39 = f 39 ∧ g 40 = f 40 ∧ g 41 = f 41) : ∀ j, j < 42 → g j = f j := fun j hj => by
  by_cases e0 : j = 0
  · subst e0; exact h0
  · by_cases e1 : j < 33
    · exact hx j (by omega) e1
    · obtain ⟨a, b, c, d, e, f, g, h, i⟩ := h3
      have h9 : j = 33 ∨ j = 34 ∨ j = 35 ∨ j = 36 ∨ j = 37 ∨ j = 38 ∨ j = 39 ∨ j = 40 ∨ j = 41 := by omega
      rcases h9 with rfl | rfl | rfl | rfl | rfl | rfl | rfl | rfl | rfl <;> assumption
/-- a call turns the head of one block alone, and makes memory -/
structure Only (b : Nat) (w w' : World) : Prop where
  below : Below b w w'
  over : ∀ k, b < k → k < w.heap.size → w'.heap[k]? = w.heap[k]?
  tail : ∀ j, 42 ≤ j → w'.cell? ⟨b, j, none⟩ = w.cell? ⟨b, j, none⟩
theorem Only.refl (b : Nat) (w : World) : Only b w w := ⟨Below.refl _ _, fun _ _ _ => rfl, fun _ _ => rfl⟩
theorem Only.trans {b : Nat} {w w1 w2 : World} (h : Only b w w1) (k : Only b w1 w2) : Only b w w2 :=
  ⟨h.below.trans k.below, fun i h1 h2 => (k.over i h1 (Nat.lt_of_lt_of_le h2 h.below.size)).trans (h.over i h1 h2), fun j hj => (k.tail j hj).trans (h.tail j hj)⟩
theorem Only.of_below {b : Nat} {w w' : World} (hb : b < w.heap.size) (h : Below w.heap.size w w') : Only b w w' :=
  ⟨h.mono (by omega), fun i _ h2 => h.block i h2, fun j _ => h.cell (p := ⟨b, j, none⟩) hb⟩
theorem Only.drew {b : Nat} {w w' : World} (h : Only b w w') (n : Nat) : Only b w (w'.drewN n) := ⟨below_drewN h.below n, fun i h1 h2 => h.over i h1 h2, fun j hj => h.tail j hj⟩
theorem Only.set {b : Nat} {w w' : World} (h : Only b w w') {k : Nat} (hk : k < 42) (v : Value) : Only b w (w'.setCell ⟨b, k, none⟩ v) :=
  ⟨h.below.setCell (p := ⟨b, k, none⟩) (Nat.le_refl _) v, fun i h1 h2 => (heap_setCell_other _ _ _ _ (by simp; omega)).trans (h.over i h1 h2),
   fun j hj => (World.cell?_setCell_other _ _ _ _ (fun e => by cases e; omega)).trans (h.tail j hj)⟩
theorem GAt.below {w w' : World} {b : Nat} {g : Nat → Value} (H : GAt w b g) (hb : Below w.heap.size w w') : GAt w' b g :=
  ⟨fun j hj => (hb.cell (p := ⟨b, j, none⟩) H.2.2).trans (H.1 j hj), fun j => (hb.frozen (p := ⟨b, j, none⟩) H.2.2).trans (H.2.1 j), Nat.lt_of_lt_of_le H.2.2 hb.size⟩
theorem HAt.below {w w' : World} {b : Nat} {h : HS} (H : HAt w b h) (hb : Below w.heap.size w w') : HAt w' b h := GAt.below H hb
theorem HAt.drew {w : World} {b : Nat} {h : HS} (H : HAt w b h) (n : Nat) : HAt (w.drewN n) b h := H
theorem HAt.range {w : World} {b : Nat} {h : HS} (H : HAt w b h) : w.rangeAt b 0 h.cells := fun j v hv => by
  obtain ⟨hj, e⟩ := h.of_at hv
  rw [Nat.zero_add, H.1 j hj, e]
def trapH (h : HS) (cause value : Nat) : HS := { h with c := trapS h.c cause value h.pc, pc := trapTo h.c.vector cause }
def toH (h : HS) (at_ : Nat) : HS := if at_ % 4 = 0 then { h with pc := at_, c := { h.c with count := (h.c.count + 1) % 18446744073709551616 } } else trapH h 0 at_
def setH (h : HS) (rd v : Nat) : HS := if rd = 0 then h else { h with x := fun j => if j = rd then v else h.x j }
theorem trapH_ok {h : HS} (k : h.ok) {cause value : Nat} (h1 : cause < 4294967296) (h2 : value < 4294967296) : (trapH h cause value).ok :=
  ⟨trapTo_lt k.c.vector, k.x, trapS_ok k.c h1 h2 k.pc⟩
theorem toH_ok {h : HS} (k : h.ok) {at_ : Nat} (h1 : at_ < 4294967296) : (toH h at_).ok := by
  unfold toH; split
  · exact ⟨h1, k.x, { k.c with count := Nat.mod_lt _ (by decide) }⟩
  · exact trapH_ok k (by decide) h1
theorem setH_ok {h : HS} (k : h.ok) {rd v : Nat} (h1 : v < 4294967296) : (setH h rd v).ok := by
  unfold setH; split
  · exact k
  · exact ⟨k.pc, fun j hj => by show (if j = rd then v else h.x j) < _; split; exact h1; exact k.x j hj, k.c⟩

theorem post_none {P : Program} {fn : Func} {R : Ending → World → Prop} {a : Act} {w : World} (hr : fn.results = #[]) (hd : a.defers = []) (hR : R (.returned (.tuple #[])) w) : bodyPost P fn R .normal a w := by
  refine bodyPost_ret (v := .tuple #[]) ?_ hd hR
  simp [results, hr, go_sem]
set_option maxHeartbeats 4000000 in
theorem htrap_any (h : HS) (hk : h.ok) (b cause value : Nat) (h1 : cause < 4294967296) (h2 : value < 4294967296) (w : World) (H : HAt w b h) :
    Calls Tryd.prog 32 #[.pointer (some ⟨b, 0, none⟩), .int .u32 cause, .int .u32 value] w fun e w' => e = .returned (.tuple #[]) ∧ HAt w' b (trapH h cause value) ∧ Only b w w' := by
  have TR := Lib.hid (fun w => trap_any h.c hk.c cause value h.pc h1 h2 hk.pc w)
  obtain ⟨r, hr⟩ : ∃ r, trapH h cause value = r := ⟨_, rfl⟩
  rw [hr]
  have e1 : trapS h.c cause value h.pc = r.c := by rw [← hr]; rfl
  have e2 : trapTo h.c.vector cause = r.pc := by rw [← hr]; rfl
  have e3 : r.x = h.x ∧ r.wait = h.wait := by rw [← hr]; exact ⟨rfl, rfl⟩
  rw [e1, e2] at TR
  have E3 := Lib.hid e3
  clear hr e1 e2 e3 hk h1 h2
  obtain ⟨pc, x, wt, ⟨st, en, ve, sc, ep, ca, va, co⟩⟩ := h
  obtain ⟨tt, x', wt', ⟨t0, t1, t2, t3, t4, t5, t6, t7⟩⟩ := r
  have HH := Lib.hid H
  have c0 : w.cell? ⟨b, 0, none⟩ = some (.int .u32 pc) := H.1 0 (by decide)
  have c34 : w.cell? ⟨b, 34, none⟩ = some (.int .u32 st) := H.1 34 (by decide)
  have c35 : w.cell? ⟨b, 35, none⟩ = some (.int .u32 en) := H.1 35 (by decide)
  have c36 : w.cell? ⟨b, 36, none⟩ = some (.int .u32 ve) := H.1 36 (by decide)
  have c37 : w.cell? ⟨b, 37, none⟩ = some (.int .u32 sc) := H.1 37 (by decide)
  have c38 : w.cell? ⟨b, 38, none⟩ = some (.int .u32 ep) := H.1 38 (by decide)
  have c39 : w.cell? ⟨b, 39, none⟩ = some (.int .u32 ca) := H.1 39 (by decide)
  have c40 : w.cell? ⟨b, 40, none⟩ = some (.int .u32 va) := H.1 40 (by decide)
  have c41 : w.cell? ⟨b, 41, none⟩ = some (.int .u64 co) := H.1 41 (by decide)
  clear H
  unfold St.v St.cells at TR
  simp only at TR E3
  go_enter Tryd.func32, Tryd.ntmps32
  go_region_with (first
    | (go_at_call 52; refine (TR.out _).mono ?_; rintro e w1 ⟨rfl, hb0⟩; have hb : Below w.heap.size w w1 := (Below.drew (Below.refl _ w)).trans hb0; have B1 := Lib.hid hb; have hh := HH.out.below hb; have H1 := Lib.hid hh; have d0 : w1.cell? ⟨b, 0, none⟩ = some (.int .u32 pc) := hh.1 0 (by decide); have d34 : w1.cell? ⟨b, 34, none⟩ = some (.int .u32 st) := hh.1 34 (by decide); have d35 : w1.cell? ⟨b, 35, none⟩ = some (.int .u32 en) := hh.1 35 (by decide); have d36 : w1.cell? ⟨b, 36, none⟩ = some (.int .u32 ve) := hh.1 36 (by decide); have d37 : w1.cell? ⟨b, 37, none⟩ = some (.int .u32 sc) := hh.1 37 (by decide); have d38 : w1.cell? ⟨b, 38, none⟩ = some (.int .u32 ep) := hh.1 38 (by decide); have d39 : w1.cell? ⟨b, 39, none⟩ = some (.int .u32 ca) := hh.1 39 (by decide); have d40 : w1.cell? ⟨b, 40, none⟩ = some (.int .u32 va) := hh.1 40 (by decide); have d41 : w1.cell? ⟨b, 41, none⟩ = some (.int .u64 co) := hh.1 41 (by decide); have df := hh.2.1; clear hb hb0 hh))
  all_goals
    have O1 : Only b w w1 := Only.of_below HH.out.2.2 B1.out
    obtain ⟨rfl, rfl⟩ := E3.out
    refine post_none (by kernel_rfl) rfl ?_
    refine ⟨rfl, ?_, ?_⟩
    · first
        | exact GAt.ext (GAt.set (GAt.set (GAt.set (GAt.set (GAt.set (GAt.set (GAt.set (GAt.set (GAt.set H1.out (k := 34) (by decide) _) (k := 35) (by decide) _) (k := 36) (by decide) _) (k := 37) (by decide) _) (k := 38) (by decide) _) (k := 39) (by decide) _) (k := 40) (by decide) _) (k := 41) (by decide) _) (k := 0) (by decide) _) (get_ext rfl (fun j h1 h2 => by simp [HS.get, show j ≠ 0 by omega, show j ≠ 34 by omega, show j ≠ 35 by omega, show j ≠ 36 by omega, show j ≠ 37 by omega, show j ≠ 38 by omega, show j ≠ 39 by omega, show j ≠ 40 by omega, show j ≠ 41 by omega, h2]) ⟨rfl, rfl, rfl, rfl, rfl, rfl, rfl, rfl, rfl⟩)
        | exact GAt.ext (GAt.set (GAt.set (GAt.set (GAt.set (GAt.set (GAt.set (GAt.set (GAt.set (GAt.set H1.out (k := 0) (by decide) _) (k := 34) (by decide) _) (k := 35) (by decide) _) (k := 36) (by decide) _) (k := 37) (by decide) _) (k := 38) (by decide) _) (k := 39) (by decide) _) (k := 40) (by decide) _) (k := 41) (by decide) _) (get_ext rfl (fun j h1 h2 => by simp [HS.get, show j ≠ 0 by omega, show j ≠ 34 by omega, show j ≠ 35 by omega, show j ≠ 36 by omega, show j ≠ 37 by omega, show j ≠ 38 by omega, show j ≠ 39 by omega, show j ≠ 40 by omega, show j ≠ 41 by omega, h2]) ⟨rfl, rfl, rfl, rfl, rfl, rfl, rfl, rfl, rfl⟩)
    · first
        | exact (((((((((O1.set (k := 34) (by decide) _).set (k := 35) (by decide) _).set (k := 36) (by decide) _).set (k := 37) (by decide) _).set (k := 38) (by decide) _).set (k := 39) (by decide) _).set (k := 40) (by decide) _).set (k := 41) (by decide) _).set (k := 0) (by decide) _)
        | exact (((((((((O1.set (k := 0) (by decide) _).set (k := 34) (by decide) _).set (k := 35) (by decide) _).set (k := 36) (by decide) _).set (k := 37) (by decide) _).set (k := 38) (by decide) _).set (k := 39) (by decide) _).set (k := 40) (by decide) _).set (k := 41) (by decide) _)

end Go.Proofs.YtphlgaklfibciaaDoor
