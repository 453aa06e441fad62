import Derived.Test.YtphlgaklfibciaaDoorHartN
import Derived.Below
import Derived.Deep.Draws
import Derived.Deep.AppendLies
import Derived.Maps.AppendAt
import Derived.OwnWalk
import Derived.Laws.BytesArg
import Derived.Laws.MakeOwn
import Derived.Laws.OwnMore
import Derived.Deep.OwnRows
import Derived.Tactics
import Derived.Lib.ConvBytes
import Derived.Laws.Slices
import Derived.WalkKit
import Derived.KernelRfl
import Derived.RowKit3
import Derived.Deep.LoopGhost
import Derived.Deep.QuietTactic
import Derived.BigQuiet
import Derived.WideLaws
import Derived.Deep.DeepCutAuto
import Derived.Deep.CutBlock
import Derived.Deep.RegionHeld3
import Derived.Laws.Rows
import Derived.Lib.AppendStr
import Derived.ArgAppend
import Derived.Laws.IdiomCopy
import Derived.OrdersHeld
import Derived.Laws.BitsLemmas
import Derived.RowKit
import Derived.Lib.Hide
import Derived.Laws.BitsAllLaws
import Derived.WalkLawsBesides
import Derived.WalkSpells
import Derived.LaidEql
import Derived.ChangeKeysEq
import Derived.Laws.StructEq
namespace Go.Proofs.YtphlgaklfibciaaDoor
open Go.RowKit
set_option maxRecDepth 100000
set_option linter.unusedVariables false
set_option linter.unusedSimpArgs false

def xv (x : Nat → Nat) : List Value := (List.range 32).map fun j => .int .u32 (x j : Nat)
theorem xv_at (x : Nat → Nat) {j : Nat} (hj : j < 32) : (xv x)[j]? = some (.int .u32 (x j : Nat)) := by simp [xv, hj]
theorem HAt.xs {w : World} {b : Nat} {h : HS} (H : HAt w b h) : w.rangeAt b 1 (xv h.x) := fun j v hv => by
  have hj : j < 32 := by have := (List.getElem?_eq_some_iff.1 hv).1; simpa [xv] using this
  rw [xv_at _ hj] at hv
  rw [H.x_ hj]; exact hv
theorem xv_len (x : Nat → Nat) : (xv x).length = 32 := by simp [xv]
theorem xv_selfd (x : Nat → Nat) (d : Nat) (w : World) : (Op.equalIn (d + 2) 35 (.agg (xv x).toArray) (.agg (xv x).toArray)).run Tryd.prog w = .ok true w := by
  obtain ⟨i, hi, hs⟩ : ∃ i, Tryd.prog.info? 22 = some i ∧ Tryd.prog.cellsOf 22 = 1 := ⟨_, rfl, by kernel_rfl⟩
  rw [run_equalIn_array w (d + 1) _ _ Tryd.underlying35 hi, hs]
  have key : ∀ is : List Nat, (∀ j ∈ is, j < 32) → (Op.eqItems (d + 1) 22 1 (xv x).toArray (xv x).toArray is).run Tryd.prog w = .ok true w := by
    intro is
    induction is with
    | nil => intro _; simp [Op.eqItems]
    | cons j is ih =>
      intro hj
      have h32 := hj j (by simp)
      have pp : (part 22 (xv x).toArray (j * 1)).run Tryd.prog w = .ok (.int .u32 (x j : Nat)) w := by
        have e : (xv x)[j]? = some (.int .u32 (x j : Nat)) := xv_at x h32
        simp [part, isAgg, run_underlying Tryd.underlying22, e]
      have pe : (Op.equalIn (d + 1) 22 (.int .u32 (x j : Nat)) (.int .u32 (x j : Nat))).run Tryd.prog w = .ok true w := by
        rw [run_equalIn_int w d 22 .u32 .u32 _ _ Tryd.underlying22]
        simp
      simp only [Op.eqItems, Sem.run_bind, pp, pe, Result.andThen_ok]
      simpa using ih (fun k hk => hj k (by simp [hk]))
  exact key _ (fun j hj => by simpa using hj)
theorem xv_self (x : Nat → Nat) (w : World) : (Op.equalIn 10000 35 (.agg (xv x).toArray) (.agg (xv x).toArray)).run Tryd.prog w = .ok true w := xv_selfd x 9998 w

theorem trap_fitB : ∀ op, op < 57 → fitB (kN op) (wN op) 4294967295 = false := by decide +kernel
theorem trap_none : ∀ op, op < 57 → ¬ Fit (kN op) (wN op) 4294967295 := fun op h hf => by
  have h1 := fit_b hf
  rw [trap_fitB op h] at h1
  cases h1
theorem mret_de : Hid (∀ w : World, TabW w → Calls Tryd.prog 6 #[.int .u32 ((807403635 : Nat) : Int)] w fun e w' => e = .returned (.tuple #[.agg #[.int .i64 ((49 : Nat) : Int), .int .i64 ((0 : Nat) : Int), .int .i64 ((0 : Nat) : Int), .int .i64 ((0 : Nat) : Int), .int .i64 0, .int .i64 0], .nilIface]) ∧ Below w.heap.size w w') :=
  de_of 807403635 (by decide) 49 (by decide) (by unfold Fit; decide +kernel) (by decide +kernel) (by decide +kernel) (by decide +kernel) (by decide +kernel) (by decide +kernel)
theorem clr_mul4 {v : Nat} (hv : v < 4294967296) (h : v % 4 = 0) : clr v 3 = v := by
  apply word_ext (clr_lt hv) hv
  intro j hj
  rw [tb_clr (by decide) hj]
  by_cases h2 : j < 2
  · have hz : v.testBit j = false := by
      rw [Nat.testBit_eq_decide_div_mod_eq]
      have : j = 0 ∨ j = 1 := by omega
      rcases this with rfl | rfl
      · exact decide_eq_false (by rw [show (2 : Nat) ^ 0 = 1 from rfl]; omega)
      · exact decide_eq_false (by rw [show (2 : Nat) ^ 1 = 2 from rfl]; omega)
    rw [hz]; rfl
  · have hz : (3 : Nat).testBit j = false := by
      rw [show (3 : Nat) = 2 ^ 2 - 1 from rfl, Nat.testBit_two_pow_sub_one]; exact decide_eq_false h2
    rw [hz]; simp
theorem clr_vec {v : Nat} (hv : v < 4294967296) (h : v &&& 2 = 0) : clr (clr v 1) 3 = clr v 1 := by
  apply word_ext (clr_lt (clr_lt hv)) (clr_lt hv)
  intro j hj
  rw [tb_clr (by decide) hj, tb_clr (by decide) hj]
  have h2 : (v &&& 2).testBit j = false := by rw [h]; simp
  rw [Nat.testBit_and, show (2 : Nat) = 2 ^ 1 from rfl, Nat.testBit_two_pow] at h2
  by_cases e0 : j = 0
  · subst e0; simp
  · by_cases e1 : j = 1
    · subst e1
      simp at h2
      simp [h2]
    · have hz : (3 : Nat).testBit j = false := by
        rw [show (3 : Nat) = 2 ^ 2 - 1 from rfl, Nat.testBit_two_pow_sub_one]; exact decide_eq_false (by omega)
      rw [hz]; simp
theorem traps_math (h : HS) (hk : h.ok) (hm : mayH h = true) (h1 : HS) (h1e : h1 = ({ h with c := { h.c with vector := clr h.c.vector 1 } } : HS)) (s : HS) (hse : s = trapH h1 2 4294967295) (z : HS) (hze : z = mretH s) :
    s.pc = h1.c.vector ∧ s.c.epc = h.pc ∧ s.c.cause = 2 ∧ s.c.value = 4294967295 ∧ s.c.count = h.c.count ∧ s.x = h.x ∧ z.pc = h.pc ∧ z.x = h.x ∧ z.c.status = retStatus (trapStatus h.c.status) := by
  unfold mayH at hm
  simp only [Bool.and_eq_true, decide_eq_true_eq] at hm
  obtain ⟨hp, hx, hc⟩ := hm
  obtain ⟨_, _, hv, _⟩ := (mayB_iff h.c).1 hc
  have e1 : s.pc = h1.c.vector := by
    rw [hse]
    show trapTo h1.c.vector 2 = _
    unfold trapTo
    rw [if_neg (by omega)]
    rw [h1e]
    exact clr_vec hk.c.vector hv
  have e2 : s.c.epc = h.pc := by
    rw [hse]
    show clr h1.pc 3 = _
    rw [h1e]
    exact clr_mul4 hk.pc hp
  have ex : s.x = h.x := by rw [hse, h1e]; rfl
  have est : s.c.status = trapStatus h.c.status := by rw [hse, h1e]; rfl
  have ez : z = { s with pc := h.pc, c := { retS s.c with count := ((retS s.c).count + 1) % 18446744073709551616 } } := by
    rw [hze]
    unfold mretH toH
    rw [e2, if_pos hp]
  refine ⟨e1, e2, by rw [hse]; rfl, by rw [hse]; rfl, by rw [hse, h1e]; rfl, ex, by rw [ez], by rw [ez]; exact ex, ?_⟩
  rw [ez]
  show retStatus s.c.status = _
  rw [est]

def f3T : List Nat := [0, 0, 1, 2, 3, 4, 5, 5, 6, 7, 0, 1, 2, 3, 4, 5, 6, 7]
def f7T : List Nat := [0, 32, 0, 0, 0, 0, 0, 32, 0, 0, 1, 1, 1, 1, 1, 1, 1, 1]
def f3N (k : Nat) : Nat := f3T.getD k 0
def f7N (k : Nat) : Nat := f7T.getD k 0
theorem f3_lt : ∀ k, k < 18 → f3N k < 8 := by decide
theorem f7_lt : ∀ k, k < 18 → f7N k < 64 := by decide
theorem f_word : ∀ k, k < 18 → wN (27 + k) = f7N k * 33554432 + f3N k * 4096 + 51 := by decide +kernel
def ws (l : List Nat) : Array Value := (l.map fun n => Value.int .u32 (n : Nat)).toArray
theorem ws_at (l : List Nat) (k : Nat) (h : k < l.length) : (ws l)[k]? = some (.int .u32 (l.getD k 0 : Nat)) := by
  simp [ws, List.getElem?_map, List.getElem?_eq_getElem h, List.getD]
theorem make_fit (k rd ra rb : Nat) (hk : k < 18) (hrd : rd < 32) (hra : ra < 32) (hrb : rb < 32) : Fit (kN (27 + k)) (wN (27 + k)) (wN (27 + k) + rd * 128 + ra * 32768 + rb * 1048576) := by
  have e := f_word k hk
  have h3 := f3_lt k hk
  have h7 := f7_lt k hk
  rw [kN_rg k hk, e]
  unfold Fit
  rw [if_neg (by decide), if_neg (by decide), if_pos (by decide)]
  generalize f3N k = f3 at *
  generalize f7N k = f7 at *
  omega
theorem make_or (f7 f3 rd ra rb : Nat) (h7 : f7 < 64) (h3 : f3 < 8) (hrd : rd < 32) (hra : ra < 32) (hrb : rb < 32) :
    Go.bits .or .u32 (Go.bits .or .u32 (Go.bits .or .u32 (Go.bits .or .u32 (Go.bits .or .u32 ((f7 : Int) * 33554432) ((rb : Int) * 1048576)) ((ra : Int) * 32768)) ((f3 : Int) * 4096)) ((rd : Int) * 128)) 51 = ((f7 * 33554432 + f3 * 4096 + 51 + rd * 128 + ra * 32768 + rb * 1048576 : Nat) : Int) := by
  have o1 : Go.bits .or .u32 ((f7 : Int) * 33554432) ((rb : Int) * 1048576) = ((f7 * 33554432 + rb * 1048576 : Nat) : Int) := by
    have h := Go.u32_or_nat (f7 * 33554432) (rb * 1048576) (by omega) (by omega)
    rw [j25 (by omega) (by omega)] at h
    simpa using h
  have o2 : Go.bits .or .u32 ((f7 * 33554432 + rb * 1048576 : Nat) : Int) ((ra : Int) * 32768) = ((f7 * 33554432 + rb * 1048576 + ra * 32768 : Nat) : Int) := by
    have h := Go.u32_or_nat (f7 * 33554432 + rb * 1048576) (ra * 32768) (by omega) (by omega)
    rw [j20 (by omega) (by omega)] at h
    simpa using h
  have o3 : Go.bits .or .u32 ((f7 * 33554432 + rb * 1048576 + ra * 32768 : Nat) : Int) ((f3 : Int) * 4096) = ((f7 * 33554432 + rb * 1048576 + ra * 32768 + f3 * 4096 : Nat) : Int) := by
    have h := Go.u32_or_nat (f7 * 33554432 + rb * 1048576 + ra * 32768) (f3 * 4096) (by omega) (by omega)
    rw [j15 (by omega) (by omega)] at h
    simpa using h
  have o4 : Go.bits .or .u32 ((f7 * 33554432 + rb * 1048576 + ra * 32768 + f3 * 4096 : Nat) : Int) ((rd : Int) * 128) = ((f7 * 33554432 + rb * 1048576 + ra * 32768 + f3 * 4096 + rd * 128 : Nat) : Int) := by
    have h := Go.u32_or_nat (f7 * 33554432 + rb * 1048576 + ra * 32768 + f3 * 4096) (rd * 128) (by omega) (by omega)
    rw [j12 (by omega) (by omega)] at h
    simpa using h
  have o5 : Go.bits .or .u32 ((f7 * 33554432 + rb * 1048576 + ra * 32768 + f3 * 4096 + rd * 128 : Nat) : Int) 51 = ((f7 * 33554432 + rb * 1048576 + ra * 32768 + f3 * 4096 + rd * 128 + 51 : Nat) : Int) := by
    have h := Go.u32_or_nat (f7 * 33554432 + rb * 1048576 + ra * 32768 + f3 * 4096 + rd * 128) 51 (by omega) (by decide)
    rw [j7 (by omega) (by decide)] at h
    exact h
  rw [o1, o2, o3, o4, o5]
  congr 1
  omega
theorem make_de (k rd ra rb x : Nat) (hk : k < 18) (hrd : rd < 32) (hra : ra < 32) (hrb : rb < 32) (hx : x = wN (27 + k) + rd * 128 + ra * 32768 + rb * 1048576) :
    Hid (∀ w : World, TabW w → Calls Tryd.prog 6 #[.int .u32 x] w fun e w' => e = .returned (.tuple #[.agg #[.int .i64 ((27 + k : Nat) : Int), .int .i64 rd, .int .i64 ra, .int .i64 rb, .int .i64 0, .int .i64 0], .nilIface]) ∧ Below w.heap.size w w') := by
  have hf := make_fit k rd ra rb hk hrd hra hrb
  rw [← hx] at hf
  have e := f_word k hk
  have h3 := f3_lt k hk
  have h7 := f7_lt k hk
  have hxl : x < 4294967296 := by omega
  have hk82 := kN_rg k hk
  have e1 : x / 128 % 32 = rd := by omega
  have e2 : x / 32768 % 32 = ra := by omega
  have e3 : x / 1048576 % 32 = rb := by omega
  refine de_of x hxl (27 + k) (by omega) hf ?_ ?_ ?_ ?_ ?_ <;> rw [hk82]
  · show ((x / 128 % 32 : Nat) : Int) = _; rw [e1]
  · show ((x / 32768 % 32 : Nat) : Int) = _; rw [e2]
  · show ((x / 1048576 % 32 : Nat) : Int) = _; rw [e3]
  · rfl
  · rfl

def eqK (d : Nat) (xs ys : Array Value) : List (Bool × TypeId × Nat) → Sem Bool
  | [] => pure true
  | f :: fs =>
    if f.1 = false then do
      let a ← part f.2.1 xs f.2.2
      let b ← part f.2.1 ys f.2.2
      let r ← Op.equalIn d f.2.1 a b
      if (!r) = true then pure false else eqK d xs ys fs
    else eqK d xs ys fs
theorem eqFields_k (d : Nat) (xs ys : Array Value) : ∀ fs : List Field, Op.eqFields d xs ys fs = eqK d xs ys (fs.map fun f => (f.name == "_", f.type, f.offset))
  | [] => rfl
  | f :: fs => by
    rw [List.map_cons, Op.eqFields, eqK, eqFields_k d xs ys fs]
    by_cases h : f.name = "_"
    · simp [h]
    · simp [h]
theorem eqK_step {P : Program} {w : World} {d : Nat} {xs ys : Array Value} {t : TypeId} {o : Nat} {fs : List (Bool × TypeId × Nat)} {a b : Value} (h1 : (part t xs o).run P w = .ok a w) (h2 : (part t ys o).run P w = .ok b w) (h3 : (Op.equalIn d t a b).run P w = .ok true w) :
    (eqK d xs ys ((false, t, o) :: fs)).run P w = (eqK d xs ys fs).run P w := by
  rw [eqK, if_pos rfl]
  simp only [Sem.run_bind, h1, h2, h3, Result.andThen_ok, Bool.not_true, Bool.false_eq_true, if_false]
theorem eqK_nil {P : Program} {w : World} {d : Nat} {xs ys : Array Value} : (eqK d xs ys []).run P w = .ok true w := rfl
theorem csr_self (c : St) (d : Nat) (w : World) : (Op.equalIn (d + 2) 42 (.agg #[.int .u32 c.status, .int .u32 c.enable, .int .u32 c.vector, .int .u32 c.scratch, .int .u32 c.epc, .int .u32 c.cause, .int .u32 c.value, .int .u64 c.count]) (.agg #[.int .u32 c.status, .int .u32 c.enable, .int .u32 c.vector, .int .u32 c.scratch, .int .u32 c.epc, .int .u32 c.cause, .int .u32 c.value, .int .u64 c.count])).run Tryd.prog w = .ok true w := by
  have q : ∀ n : Nat, (Op.equalIn (d + 1) 22 (.int .u32 (n : Nat)) (.int .u32 (n : Nat))).run Tryd.prog w = .ok true w := fun n => by
    rw [run_equalIn_int w d 22 .u32 .u32 _ _ Tryd.underlying22]; simp
  have q64 : ∀ n : Nat, (Op.equalIn (d + 1) 36 (.int .u64 (n : Nat)) (.int .u64 (n : Nat))).run Tryd.prog w = .ok true w := fun n => by
    rw [run_equalIn_int w d 36 .u64 .u64 _ _ Tryd.underlying36]; simp
  rw [run_equalIn_agg w (d + 1) 42 _ _ (by kernel_rfl) (by kernel_rfl)]
  have pp : ∀ (a b c e f g h : Nat) (i : Nat), (∀ w, (part 22 #[.int .u32 a, .int .u32 b, .int .u32 c, .int .u32 e, .int .u32 f, .int .u32 g, .int .u32 h, .int .u64 i] 0).run Tryd.prog w = .ok (.int .u32 a) w) ∧ (∀ w, (part 22 #[.int .u32 a, .int .u32 b, .int .u32 c, .int .u32 e, .int .u32 f, .int .u32 g, .int .u32 h, .int .u64 i] 1).run Tryd.prog w = .ok (.int .u32 b) w) ∧ (∀ w, (part 22 #[.int .u32 a, .int .u32 b, .int .u32 c, .int .u32 e, .int .u32 f, .int .u32 g, .int .u32 h, .int .u64 i] 2).run Tryd.prog w = .ok (.int .u32 c) w) ∧ (∀ w, (part 22 #[.int .u32 a, .int .u32 b, .int .u32 c, .int .u32 e, .int .u32 f, .int .u32 g, .int .u32 h, .int .u64 i] 3).run Tryd.prog w = .ok (.int .u32 e) w) ∧ (∀ w, (part 22 #[.int .u32 a, .int .u32 b, .int .u32 c, .int .u32 e, .int .u32 f, .int .u32 g, .int .u32 h, .int .u64 i] 4).run Tryd.prog w = .ok (.int .u32 f) w) ∧ (∀ w, (part 22 #[.int .u32 a, .int .u32 b, .int .u32 c, .int .u32 e, .int .u32 f, .int .u32 g, .int .u32 h, .int .u64 i] 5).run Tryd.prog w = .ok (.int .u32 g) w) ∧ (∀ w, (part 22 #[.int .u32 a, .int .u32 b, .int .u32 c, .int .u32 e, .int .u32 f, .int .u32 g, .int .u32 h, .int .u64 i] 6).run Tryd.prog w = .ok (.int .u32 h) w) ∧ (∀ w, (part 36 #[.int .u32 a, .int .u32 b, .int .u32 c, .int .u32 e, .int .u32 f, .int .u32 g, .int .u32 h, .int .u64 i] 7).run Tryd.prog w = .ok (.int .u64 i) w) := fun a b c e f g h i =>
    ⟨fun _ => by kernel_rfl, fun _ => by kernel_rfl, fun _ => by kernel_rfl, fun _ => by kernel_rfl, fun _ => by kernel_rfl, fun _ => by kernel_rfl, fun _ => by kernel_rfl, fun _ => by kernel_rfl⟩
  obtain ⟨p0, p1, p2, p3, p4, p5, p6, p7⟩ := pp c.status c.enable c.vector c.scratch c.epc c.cause c.value c.count
  have e : (Tryd.prog.fieldsOf 42).toList.map (fun f => (f.name == "_", f.type, f.offset)) = [(false, 22, 0), (false, 22, 1), (false, 22, 2), (false, 22, 3), (false, 22, 4), (false, 22, 5), (false, 22, 6), (false, 36, 7)] := by kernel_rfl
  rw [eqFields_k, e]
  rw [eqK_step (p0 w) (p0 w) (q _), eqK_step (p1 w) (p1 w) (q _), eqK_step (p2 w) (p2 w) (q _), eqK_step (p3 w) (p3 w) (q _), eqK_step (p4 w) (p4 w) (q _), eqK_step (p5 w) (p5 w) (q _), eqK_step (p6 w) (p6 w) (q _), eqK_step (p7 w) (p7 w) (q64 _), eqK_nil]

theorem st_self (h : HS) (w : World) : (Op.equalIn 10000 44 (.agg h.cells.toArray) (.agg h.cells.toArray)).run Tryd.prog w = .ok true w := by
  have p0 : (part 22 h.cells.toArray 0).run Tryd.prog w = .ok (.int .u32 h.pc) w := by kernel_rfl
  have p1 : (part 35 h.cells.toArray 1).run Tryd.prog w = .ok (.agg (xv h.x).toArray) w := by kernel_rfl
  have p2 : (part 4 h.cells.toArray 33).run Tryd.prog w = .ok (.bool h.wait) w := by kernel_rfl
  have p3 : (part 42 h.cells.toArray 34).run Tryd.prog w = .ok (.agg #[.int .u32 h.c.status, .int .u32 h.c.enable, .int .u32 h.c.vector, .int .u32 h.c.scratch, .int .u32 h.c.epc, .int .u32 h.c.cause, .int .u32 h.c.value, .int .u64 h.c.count]) w := by kernel_rfl
  have q0 : (Op.equalIn 9999 22 (.int .u32 (h.pc : Nat)) (.int .u32 (h.pc : Nat))).run Tryd.prog w = .ok true w := by
    rw [show (9999 : Nat) = 9998 + 1 from rfl, run_equalIn_int w 9998 22 .u32 .u32 _ _ Tryd.underlying22]; simp
  have q1 := xv_selfd h.x 9997 w
  have q2 : (Op.equalIn 9999 4 (.bool h.wait) (.bool h.wait)).run Tryd.prog w = .ok true w := by
    rw [show (9999 : Nat) = 9998 + 1 from rfl, run_equalIn_bool' w 9998 4 _ _ Tryd.underlying4]; simp
  generalize h.cells.toArray = cs at p0 p1 p2 p3 ⊢
  generalize (xv h.x).toArray = xs at p1 q1
  rw [show (10000 : Nat) = 9999 + 1 from rfl, run_equalIn_agg w 9999 44 cs cs (by kernel_rfl) (by kernel_rfl)]
  have q3 : (Op.equalIn 9999 42 (.agg #[.int .u32 h.c.status, .int .u32 h.c.enable, .int .u32 h.c.vector, .int .u32 h.c.scratch, .int .u32 h.c.epc, .int .u32 h.c.cause, .int .u32 h.c.value, .int .u64 h.c.count]) (.agg #[.int .u32 h.c.status, .int .u32 h.c.enable, .int .u32 h.c.vector, .int .u32 h.c.scratch, .int .u32 h.c.epc, .int .u32 h.c.cause, .int .u32 h.c.value, .int .u64 h.c.count])).run Tryd.prog w = .ok true w := csr_self h.c 9997 w
  have e : (Tryd.prog.fieldsOf 44).toList.map (fun f => (f.name == "_", f.type, f.offset)) = [(false, 22, 0), (false, 35, 1), (false, 4, 33), (false, 42, 34)] := by kernel_rfl
  rw [eqFields_k, e]
  rw [eqK_step p0 p0 q0, eqK_step p1 p1 q1, eqK_step p2 p2 q2, eqK_step p3 p3 q3, eqK_nil]

theorem HAt.setX {w : World} {b : Nat} {h : HS} (H : HAt w b h) {rd : Nat} (hr : rd < 32) (h0 : rd ≠ 0) (v : Nat) : HAt (w.setCell ⟨b, 1 + rd, none⟩ (.int .u32 v)) b (setH h rd v) := by
  have e : setH h rd v = { h with x := fun j => if j = rd then v else h.x j } := by unfold setH; rw [if_neg h0]
  rw [e]
  refine GAt.ext (GAt.set H (k := 1 + rd) (by omega) _) (fun j hj => ?_)
  by_cases e : j = 1 + rd
  · subst e
    simp [HS.get, show 1 + rd ≠ 0 by omega, show 1 + rd < 33 by omega]
  · simp only [if_neg e, HS.get]
    by_cases e0 : j = 0
    · simp [e0]
    · by_cases e1 : j < 33
      · simp [e0, e1, show ¬ (j - 1 = rd) by omega]
      · simp [e0, e1]
theorem HAt.next {w : World} {b : Nat} {h : HS} (H : HAt w b h) (nx co : Nat) : HAt ((w.setCell ⟨b, 0, none⟩ (.int .u32 nx)).setCell ⟨b, 41, none⟩ (.int .u64 co)) b { h with pc := nx, c := { h.c with count := co } } :=
  GAt.ext (GAt.set (GAt.set H (k := 0) (by decide) _) (k := 41) (by decide) _) (get_ext rfl (fun j h1 h2 => by simp [HS.get, show j ≠ 0 by omega, show j ≠ 41 by omega, h2]) ⟨rfl, rfl, rfl, rfl, rfl, rfl, rfl, rfl, rfl⟩)

theorem wrapq (a : Int) (q : Nat) (hq : 0 < q) (hq2 : q ≤ 4294967296) : ∃ (A : Int) (i : Nat), IntKind.u64.wrap a = A ∧ i < q ∧ wrap64 (A.tmod q) = (i : Int) := by
  have h0 : 0 ≤ a % 18446744073709551616 := Int.emod_nonneg _ (by decide)
  have h1 := Int.emod_nonneg (a % 18446744073709551616) (show (q : Int) ≠ 0 by omega)
  have h2 := Int.emod_lt_of_pos (a % 18446744073709551616) (show (0 : Int) < q by omega)
  refine ⟨_, (a % 18446744073709551616 % q).toNat, rfl, by omega, ?_⟩
  rw [Go.IntKind.wrap_u64, Int.tmod_eq_emod_of_nonneg h0]
  unfold wrap64
  omega

end Go.Proofs.YtphlgaklfibciaaDoor
