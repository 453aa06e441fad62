import Derived.Test.YtgbpalclapcfeaaLawE
import Derived.Test.YtgbpalclapcfeaaCsrF
import Derived.Below
import Derived.Deep.Draws
import Derived.Deep.AppendLies
import Derived.Maps.AppendAt
import Derived.OwnWalk
import Derived.Laws.BytesArg
import Derived.Laws.MakeOwn
import Derived.Laws.OwnMore
import Derived.Deep.OwnRows
import Derived.Tactics
import Derived.Lib.ConvBytes
import Derived.Laws.Slices
import Derived.WalkKit
import Derived.KernelRfl
import Derived.RowKit3
import Derived.Deep.LoopGhost
import Derived.Deep.QuietTactic
import Derived.BigQuiet
import Derived.WideLaws
import Derived.Deep.DeepCutAuto
import Derived.Deep.CutBlock
import Derived.Deep.RegionHeld3
import Derived.Laws.Rows
import Derived.Lib.AppendStr
import Derived.ArgAppend
import Derived.Laws.IdiomCopy
import Derived.OrdersHeld
import Derived.Laws.BitsLemmas
import Derived.RowKit
import Derived.Lib.Hide
import Derived.Laws.BitsAllLaws
import Derived.WalkLawsBesides
import Derived.WalkSpells
import Derived.LaidEql
namespace Go.Proofs.Ytgbpalclapcfeaa
open Go.RowKit
set_option maxRecDepth 100000
set_option linter.unusedVariables false
set_option linter.unusedSimpArgs false

/-- the registers that CsrBack writes, and what each holds -/
def regL : List Int := [768, 772, 773, 832, 833, 834, 835, 2816, 2944]
def hldL : List Nat := [136, 2184, 4294967293, 4294967295, 4294967292, 4294967295, 4294967295, 4294967295, 4294967295]
def regI (i : Nat) : Int := (regL[i]?).getD 0
def hldI (i : Nat) : Nat := (hldL[i]?).getD 0
/-- the boxes of CsrBack: the registers, their bits, the state -/
def Bk (w0 : World) (BR BH BX : Nat) (s : St) (i k : Nat) (R S : Int) (hh : Nat) (wa : World) : Prop := wa.cell? ⟨BR, i, none⟩ = some (.int .i64 R) ∧ wa.cell? ⟨BR, k, none⟩ = some (.int .i64 S) ∧ wa.cell? ⟨BH, i, none⟩ = some (.int .u32 hh) ∧ BoxS wa BX 27 s ∧ BR < wa.heap.size ∧ BH < wa.heap.size ∧ Below w0.heap.size w0 wa
theorem Bk.below {w0 wa wb : World} {BR BH BX : Nat} {s : St} {i k : Nat} {R S : Int} {hh : Nat} (h : Bk w0 BR BH BX s i k R S hh wa) (hb : Below wa.heap.size wa wb) : Bk w0 BR BH BX s i k R S hh wb := by
  obtain ⟨a, b, c, d, e, f, g⟩ := h
  exact ⟨(hb.cell (p := ⟨BR, i, none⟩) e).trans a, (hb.cell (p := ⟨BR, k, none⟩) e).trans b, (hb.cell (p := ⟨BH, i, none⟩) f).trans c, d.below hb, Nat.lt_of_lt_of_le e hb.size, Nat.lt_of_lt_of_le f hb.size, g.trans (hb.mono g.size)⟩
theorem Bk.alloc {w0 wa : World} {BR BH BX : Nat} {s : St} {i k : Nat} {R S : Int} {hh : Nat} (h : Bk w0 BR BH BX s i k R S hh wa) (o : Obj) : Bk w0 BR BH BX s i k R S hh (wa.alloc o) := h.below ((Below.refl _ _).alloc (Nat.le_refl _) _)
theorem Bk.drew {w0 wa : World} {BR BH BX : Nat} {s : St} {i k : Nat} {R S : Int} {hh : Nat} (h : Bk w0 BR BH BX s i k R S hh wa) (n : Nat) : Bk w0 BR BH BX s i k R S hh (wa.drewN n) := by
  obtain ⟨a, b, c, d, e, f, g⟩ := h
  exact ⟨a, b, c, d, e, f, below_drewN g n⟩
theorem BoxS.store8 {w : World} {B : Nat} {t : TypeId} {z : St} (h : BoxS w B t z) (y0 y1 y2 y3 y4 y5 y6 y7 : Nat) :
    BoxS ((((((((w.setCell ⟨B, 0, none⟩ (.int .u32 y0)).setCell ⟨B, 1, none⟩ (.int .u32 y1)).setCell ⟨B, 2, none⟩ (.int .u32 y2)).setCell ⟨B, 3, none⟩ (.int .u32 y3)).setCell ⟨B, 4, none⟩ (.int .u32 y4)).setCell ⟨B, 5, none⟩ (.int .u32 y5)).setCell ⟨B, 6, none⟩ (.int .u32 y6)).setCell ⟨B, 7, none⟩ (.int .u64 y7)) B t ⟨y0, y1, y2, y3, y4, y5, y6, y7⟩ := by
  obtain ⟨z0, z1, z2, z3, z4, z5, z6, z7⟩ := z
  have e0 : w.heap[B]? = some (.cells #[.int .u32 (z0 : Nat), .int .u32 (z1 : Nat), .int .u32 (z2 : Nat), .int .u32 (z3 : Nat), .int .u32 (z4 : Nat), .int .u32 (z5 : Nat), .int .u32 (z6 : Nat), .int .u64 (z7 : Nat)] t (0, 0)) := h
  have e1 : (w.setCell ⟨B, 0, none⟩ (.int .u32 y0)).heap[B]? = some (.cells #[.int .u32 (y0 : Nat), .int .u32 (z1 : Nat), .int .u32 (z2 : Nat), .int .u32 (z3 : Nat), .int .u32 (z4 : Nat), .int .u32 (z5 : Nat), .int .u32 (z6 : Nat), .int .u64 (z7 : Nat)] t (0, 0)) := by
    rw [heap_setCell_same _ _ _ _ _ _ e0]; rfl
  have e2 : ((w.setCell ⟨B, 0, none⟩ (.int .u32 y0)).setCell ⟨B, 1, none⟩ (.int .u32 y1)).heap[B]? = some (.cells #[.int .u32 (y0 : Nat), .int .u32 (y1 : Nat), .int .u32 (z2 : Nat), .int .u32 (z3 : Nat), .int .u32 (z4 : Nat), .int .u32 (z5 : Nat), .int .u32 (z6 : Nat), .int .u64 (z7 : Nat)] t (0, 0)) := by
    rw [heap_setCell_same _ _ _ _ _ _ e1]; rfl
  have e3 : (((w.setCell ⟨B, 0, none⟩ (.int .u32 y0)).setCell ⟨B, 1, none⟩ (.int .u32 y1)).setCell ⟨B, 2, none⟩ (.int .u32 y2)).heap[B]? = some (.cells #[.int .u32 (y0 : Nat), .int .u32 (y1 : Nat), .int .u32 (y2 : Nat), .int .u32 (z3 : Nat), .int .u32 (z4 : Nat), .int .u32 (z5 : Nat), .int .u32 (z6 : Nat), .int .u64 (z7 : Nat)] t (0, 0)) := by
    rw [heap_setCell_same _ _ _ _ _ _ e2]; rfl
  have e4 : ((((w.setCell ⟨B, 0, none⟩ (.int .u32 y0)).setCell ⟨B, 1, none⟩ (.int .u32 y1)).setCell ⟨B, 2, none⟩ (.int .u32 y2)).setCell ⟨B, 3, none⟩ (.int .u32 y3)).heap[B]? = some (.cells #[.int .u32 (y0 : Nat), .int .u32 (y1 : Nat), .int .u32 (y2 : Nat), .int .u32 (y3 : Nat), .int .u32 (z4 : Nat), .int .u32 (z5 : Nat), .int .u32 (z6 : Nat), .int .u64 (z7 : Nat)] t (0, 0)) := by
    rw [heap_setCell_same _ _ _ _ _ _ e3]; rfl
  have e5 : (((((w.setCell ⟨B, 0, none⟩ (.int .u32 y0)).setCell ⟨B, 1, none⟩ (.int .u32 y1)).setCell ⟨B, 2, none⟩ (.int .u32 y2)).setCell ⟨B, 3, none⟩ (.int .u32 y3)).setCell ⟨B, 4, none⟩ (.int .u32 y4)).heap[B]? = some (.cells #[.int .u32 (y0 : Nat), .int .u32 (y1 : Nat), .int .u32 (y2 : Nat), .int .u32 (y3 : Nat), .int .u32 (y4 : Nat), .int .u32 (z5 : Nat), .int .u32 (z6 : Nat), .int .u64 (z7 : Nat)] t (0, 0)) := by
    rw [heap_setCell_same _ _ _ _ _ _ e4]; rfl
  have e6 : ((((((w.setCell ⟨B, 0, none⟩ (.int .u32 y0)).setCell ⟨B, 1, none⟩ (.int .u32 y1)).setCell ⟨B, 2, none⟩ (.int .u32 y2)).setCell ⟨B, 3, none⟩ (.int .u32 y3)).setCell ⟨B, 4, none⟩ (.int .u32 y4)).setCell ⟨B, 5, none⟩ (.int .u32 y5)).heap[B]? = some (.cells #[.int .u32 (y0 : Nat), .int .u32 (y1 : Nat), .int .u32 (y2 : Nat), .int .u32 (y3 : Nat), .int .u32 (y4 : Nat), .int .u32 (y5 : Nat), .int .u32 (z6 : Nat), .int .u64 (z7 : Nat)] t (0, 0)) := by
    rw [heap_setCell_same _ _ _ _ _ _ e5]; rfl
  have e7 : (((((((w.setCell ⟨B, 0, none⟩ (.int .u32 y0)).setCell ⟨B, 1, none⟩ (.int .u32 y1)).setCell ⟨B, 2, none⟩ (.int .u32 y2)).setCell ⟨B, 3, none⟩ (.int .u32 y3)).setCell ⟨B, 4, none⟩ (.int .u32 y4)).setCell ⟨B, 5, none⟩ (.int .u32 y5)).setCell ⟨B, 6, none⟩ (.int .u32 y6)).heap[B]? = some (.cells #[.int .u32 (y0 : Nat), .int .u32 (y1 : Nat), .int .u32 (y2 : Nat), .int .u32 (y3 : Nat), .int .u32 (y4 : Nat), .int .u32 (y5 : Nat), .int .u32 (y6 : Nat), .int .u64 (z7 : Nat)] t (0, 0)) := by
    rw [heap_setCell_same _ _ _ _ _ _ e6]; rfl
  have e8 : ((((((((w.setCell ⟨B, 0, none⟩ (.int .u32 y0)).setCell ⟨B, 1, none⟩ (.int .u32 y1)).setCell ⟨B, 2, none⟩ (.int .u32 y2)).setCell ⟨B, 3, none⟩ (.int .u32 y3)).setCell ⟨B, 4, none⟩ (.int .u32 y4)).setCell ⟨B, 5, none⟩ (.int .u32 y5)).setCell ⟨B, 6, none⟩ (.int .u32 y6)).setCell ⟨B, 7, none⟩ (.int .u64 y7)).heap[B]? = some (.cells #[.int .u32 (y0 : Nat), .int .u32 (y1 : Nat), .int .u32 (y2 : Nat), .int .u32 (y3 : Nat), .int .u32 (y4 : Nat), .int .u32 (y5 : Nat), .int .u32 (y6 : Nat), .int .u64 (y7 : Nat)] t (0, 0)) := by
    rw [heap_setCell_same _ _ _ _ _ _ e7]; rfl
  exact e8
theorem Bk.set {w0 wa : World} {BR BH BX : Nat} {s : St} {i k : Nat} {R S : Int} {hh : Nat} (h : Bk w0 BR BH BX s i k R S hh wa) {B : Nat} (h1 : BR < B) (h2 : BH < B) (h3 : BX < B) (h4 : w0.heap.size ≤ B) (j : Nat) (v : Value) : Bk w0 BR BH BX s i k R S hh (wa.setCell ⟨B, j, none⟩ v) := by
  obtain ⟨a, b, c, d, e, f, g⟩ := h
  have ho : ∀ b, b < B → (wa.setCell ⟨B, j, none⟩ v).heap[b]? = wa.heap[b]? := fun b hb => heap_setCell_other wa ⟨B, j, none⟩ b v (by simp; omega)
  have hc : ∀ b m, b < B → (wa.setCell ⟨B, j, none⟩ v).cell? ⟨b, m, none⟩ = wa.cell? ⟨b, m, none⟩ := fun b m hb => by simp only [World.cell?, ho b hb]
  exact ⟨(hc _ _ h1).trans a, (hc _ _ h1).trans b, (hc _ _ h2).trans c, (ho _ h3).trans d, by simpa using e, by simpa using f, g.setCell (p := ⟨B, j, none⟩) h4 _⟩
theorem nine (i : Nat) (hi : i < 9) : i = 0 ∨ i = 1 ∨ i = 2 ∨ i = 3 ∨ i = 4 ∨ i = 5 ∨ i = 6 ∨ i = 7 ∨ i = 8 := by omega
theorem reg_cell (i : Nat) (hi : i < 9) : (#[Value.int .i64 768, .int .i64 772, .int .i64 773, .int .i64 832, .int .i64 833, .int .i64 834, .int .i64 835, .int .i64 2816, .int .i64 2944] : Array Value)[i]? = some (.int .i64 (regI i)) := by
  rcases nine i hi with rfl | rfl | rfl | rfl | rfl | rfl | rfl | rfl | rfl <;> rfl
theorem hld_cell (i : Nat) (hi : i < 9) : (#[Value.int .u32 136, .int .u32 2184, .int .u32 4294967293, .int .u32 4294967295, .int .u32 4294967292, .int .u32 4294967295, .int .u32 4294967295, .int .u32 4294967295, .int .u32 4294967295] : Array Value)[i]? = some (.int .u32 (hldI i : Nat)) := by
  rcases nine i hi with rfl | rfl | rfl | rfl | rfl | rfl | rfl | rfl | rfl <;> rfl
theorem Bk.start (w0 W : World) (hW : w0.heap.size ≤ W.heap.size) (hb : Below w0.heap.size w0 W) (s : St) (i k n : Nat) (hi : i < 9) (hk : k < 9) (BR : Nat) (hBR : W.heap.size = BR) (R S : Int) (hh : Nat) (hR : regI i = R) (hS : regI k = S) (hH : hldI i = hh) :
    Bk w0 BR (BR + 1) (BR + 1 + 1) s i k R S hh (((((W.alloc (.cells #[.int .i64 768, .int .i64 772, .int .i64 773, .int .i64 832, .int .i64 833, .int .i64 834, .int .i64 835, .int .i64 2816, .int .i64 2944] 3)).alloc (.cells #[.int .u32 136, .int .u32 2184, .int .u32 4294967293, .int .u32 4294967295, .int .u32 4294967292, .int .u32 4294967295, .int .u32 4294967295, .int .u32 4294967295, .int .u32 4294967295] 22))).drewN n).alloc (.cells s.cells 27)) := by
  subst hBR hR hS hH
  generalize hC1 : (Obj.cells #[.int .i64 768, .int .i64 772, .int .i64 773, .int .i64 832, .int .i64 833, .int .i64 834, .int .i64 835, .int .i64 2816, .int .i64 2944] 3) = C1
  generalize hC2 : (Obj.cells #[.int .u32 136, .int .u32 2184, .int .u32 4294967293, .int .u32 4294967295, .int .u32 4294967292, .int .u32 4294967295, .int .u32 4294967295, .int .u32 4294967295, .int .u32 4294967295] 22) = C2
  have c1 : ∀ j, j < 9 → ((W.alloc C1).alloc C2).cell? ⟨W.heap.size, j, none⟩ = some (.int .i64 (regI j)) := fun j hj => by
    rw [World.cell?_alloc_lt _ _ ⟨W.heap.size, j, none⟩ (by simp), ← hC1]
    exact (cell_new_at _ _ _ _ j rfl).trans (reg_cell j hj)
  have c2 : ((W.alloc C1).alloc C2).cell? ⟨W.heap.size + 1, i, none⟩ = some (.int .u32 (hldI i : Nat)) := by
    rw [← hC2]
    exact (cell_new_at _ _ _ _ i (by simp)).trans (hld_cell i hi)
  have b : Below w0.heap.size w0 ((W.alloc C1).alloc C2) := (hb.alloc hW _).alloc (by simp; omega) _
  have hsz : (((W.alloc C1).alloc C2).drewN n).heap.size = W.heap.size + 2 := by simp
  have hlow : ∀ p : Addr, p.block < W.heap.size + 2 → ((((W.alloc C1).alloc C2).drewN n).alloc (.cells s.cells 27)).cell? p = ((W.alloc C1).alloc C2).cell? p := fun p hp => World.cell?_alloc_lt _ _ p (by rw [hsz]; exact hp)
  refine ⟨?_, ?_, ?_, ?_, ?_, ?_, ?_⟩
  · rw [hlow _ (by simp)]; exact c1 i hi
  · rw [hlow _ (by simp)]; exact c1 k hk
  · rw [hlow _ (by simp)]; exact c2
  · have h := BoxS.new (((W.alloc C1).alloc C2).drewN n) s 27
    rw [hsz] at h; exact h
  · simp; omega
  · simp
  · exact (below_drewN b n).alloc (by rw [hsz]; omega) _

end Go.Proofs.Ytgbpalclapcfeaa
