import Derived.Test.YtphlgaklfibciaaDoorHartK
import Derived.Test.YtphlgaklfibciaaDoorHartH
import Derived.Test.YtphlgaklfibciaaDoorHartI
import Derived.Test.YtphlgaklfibciaaDoorAluHA
import Derived.Test.YtphlgaklfibciaaDoorLaidI
import Derived.Below
import Derived.Deep.Draws
import Derived.Deep.AppendLies
import Derived.Maps.AppendAt
import Derived.OwnWalk
import Derived.Laws.BytesArg
import Derived.Laws.MakeOwn
import Derived.Laws.OwnMore
import Derived.Deep.OwnRows
import Derived.Tactics
import Derived.Lib.ConvBytes
import Derived.Laws.Slices
import Derived.WalkKit
import Derived.KernelRfl
import Derived.RowKit3
import Derived.Deep.LoopGhost
import Derived.Deep.QuietTactic
import Derived.BigQuiet
import Derived.WideLaws
import Derived.Deep.DeepCutAuto
import Derived.Deep.CutBlock
import Derived.Deep.RegionHeld3
import Derived.Laws.Rows
import Derived.Lib.AppendStr
import Derived.ArgAppend
import Derived.Laws.IdiomCopy
import Derived.OrdersHeld
import Derived.Laws.BitsLemmas
import Derived.RowKit
import Derived.Lib.Hide
import Derived.Laws.BitsAllLaws
import Derived.WalkLawsBesides
import Derived.WalkSpells
import Derived.LaidEql
namespace Go.Proofs.YtphlgaklfibciaaDoor
open Go.RowKit
set_option maxRecDepth 100000
set_option linter.unusedVariables false
set_option linter.unusedSimpArgs false

theorem wpList_callR {P : Program} {ops : Array Oper} {rest : List Oper} {o : Oper} {a : Act} {w : World} {Q : Exit → Act → World → Prop} (hg : o.guard = none) (d : Option Tmp) (hd : o.dst = d)
    (f : FuncId) (args : Array Value) (hrun : (execOp a.eval o).run P w = .ok (.enter f args) w) (v : Value) (R : World → Prop)
    (hc : Calls P f args w fun e w'' => e = .returned v ∧ R w'')
    (h : ∀ w', R w' → wpList P ops Q rest (a.put d v) w') : wpList P ops Q (o :: rest) a w := by
  subst hd
  refine wpList_plain hg fun K hK => ?_
  unfold Oper.wp
  rw [hrun, Oper.upon_enter]
  refine hc.mono fun e w'' hh => ?_
  obtain ⟨rfl, hr⟩ := hh
  exact hK _ _ (h _ hr)
/-- the two boxes of what Do hands back -/
structure TwoB (w w' : World) (cs acc : Array Value) : Prop where
  s : w'.heap[w.heap.size]? = some (.cells cs 44 (0, 0))
  a : w'.heap[w.heap.size + 1]? = some (.cells acc 50 (0, 0))
  b : Below w.heap.size w w'
theorem TwoB.start (w : World) : TwoB w ((w.alloc (.cells Z42 44)).alloc (.cells acc0 50)) Z42 acc0 :=
  ⟨heap_alloc2_old w _ _, heap_alloc2_new w _ _, ((Below.refl _ w).alloc (Nat.le_refl _) _).alloc (by simp) _⟩
theorem TwoB.sets {w w' : World} {cs acc cs' acc' : Array Value} (h : TwoB w w' cs acc) : TwoB w ((w'.setRow w.heap.size cs').setRow (w.heap.size + 1) acc') cs' acc' :=
  ⟨setRow_row (setRow_heap _ _ _ _ _ _ h.s) (by omega), setRow_heap _ _ _ _ _ _ (setRow_row h.a (by omega)), below_setRow (below_setRow h.b (Nat.le_refl _) _) (by omega) _⟩
theorem alloc_run {P : Program} {o : Oper} {a : Act} {w : World} {ob : Obj} {n : Nat} (e : w.heap.size = n) (h : (execOp a.eval o).run P w = .ok (.value (.pointer (some ⟨w.heap.size, 0, none⟩))) (w.alloc ob)) :
    (execOp a.eval o).run P w = .ok (.value (.pointer (some ⟨n, 0, none⟩))) (w.alloc ob) := by rw [← e]; exact h

set_option maxHeartbeats 4000000 in
theorem hsure_walk (h : HS) (RS : Hid (∀ w : World, Calls Tryd.prog 20 #[.int .u32 0] w fun e w' => e = .returned (.agg (resetH 0).cells.toArray) ∧ Below w.heap.size w w'))
    (DO : Hid (∀ w : World, TabW w → Calls Tryd.prog 14 #[.agg (resetH 0).cells.toArray, .int .u32 5243027, .int .u32 0] w fun e w' => e = .returned (.tuple #[.agg h.cells.toArray, .agg acc0]) ∧ Below w.heap.size w w'))
    (h1 : h.x 1 = 5) (h2 : h.pc = 4) (h3 : h.c.count = 1) (w : World) (hT : TabW w) : Calls Tryd.prog 12 #[] w fun e w' => e = .returned (.bool true) ∧ Below w.heap.size w w' := by
  generalize (resetH 0).cells.toArray = rs at RS DO
  have hsz := hs_size h
  have hone := hs_one h
  obtain ⟨cs, hcs⟩ : ∃ cs, cs = h.cells.toArray := ⟨_, rfl⟩
  rw [← hcs] at DO hsz hone
  go_enter Tryd.func12, Tryd.ntmps12
  go_upto_region 1 with (fail)
  refine wp_region_lit ?_
  refine wpList_callR rfl (some 4) rfl 20 #[.int .u32 0] (by kernel_rfl) (.agg rs) (Below w.heap.size w) (RS.out _) ?_
  intro w1 hb1
  try simp only [Act.put, List.setIfInBounds_toArray, List.set_cons_zero, List.set_cons_succ]
  refine wpList_callR rfl (some 5) rfl 14 #[.agg rs, .int .u32 5243027, .int .u32 0] (by kernel_rfl) (.tuple #[.agg cs, .agg acc0]) (Below w1.heap.size w1) (DO.out _ (hT.below hb1)) ?_
  intro w2 hb2
  try simp only [Act.put, List.setIfInBounds_toArray, List.set_cons_zero, List.set_cons_succ]
  refine Go.Great.wpList_runTo rfl (some 3) rfl (.tuple #[.agg cs, .agg acc0]) w2 (by kernel_rfl) ?_
  try simp only [Act.put, List.setIfInBounds_toArray, List.set_cons_zero, List.set_cons_succ]
  refine Go.Great.wpList_runTo rfl (some 6) rfl (.agg cs) w2 (by kernel_rfl) ?_
  try simp only [Act.put, List.setIfInBounds_toArray, List.set_cons_zero, List.set_cons_succ]
  refine Go.Great.wpList_runTo rfl (some 7) rfl (.agg acc0) w2 (by kernel_rfl) ?_
  try simp only [Act.put, List.setIfInBounds_toArray, List.set_cons_zero, List.set_cons_succ]
  refine Go.Great.wpList_allocTo rfl (some 1) rfl (.pointer (some ⟨w2.heap.size, 0, none⟩)) (.cells Z42 44) rfl ?_
  try simp only [Act.put, List.setIfInBounds_toArray, List.set_cons_zero, List.set_cons_succ]
  refine Go.Great.wpList_allocTo rfl (some 2) rfl (.pointer (some ⟨w2.heap.size + 1, 0, none⟩)) (.cells acc0 50) (alloc_run (by simp) (by kernel_rfl)) ?_
  try simp only [Act.put, List.setIfInBounds_toArray, List.set_cons_zero, List.set_cons_succ]
  have stw4 := TwoB.start w2
  generalize World.alloc (World.alloc w2 _) _ = wzw4 at stw4 ⊢
  refine Go.wpList_store_rowTo rfl 44 _ _ rfl rfl w2.heap.size cs rfl rfl _ _ stw4.s (by rw [hsz]; kernel_rfl) (by rw [hsz]; rfl) hone ?_
  refine Go.wpList_store_rowTo rfl 50 _ _ rfl rfl (w2.heap.size + 1) acc0 rfl rfl _ _ (setRow_row stw4.a (by omega)) (by kernel_rfl) rfl (by kernel_rfl) ?_
  have tb := TwoB.sets (cs' := cs) (acc' := acc0) stw4
  generalize World.setRow (World.setRow wzw4 _ _) _ _ = w4 at tb ⊢
  clear stw4
  have rs4 := tb.s
  rw [hcs] at rs4
  have H4 := HAt.of_row (h := h) (r := []) (by rw [List.append_nil]; exact rs4)
  have c0 : w4.cell? ⟨w2.heap.size, 0, none⟩ = some (.int .u32 4) := by rw [H4.pc_, h2]; rfl
  have c2 : w4.cell? ⟨w2.heap.size, 2, none⟩ = some (.int .u32 5) := by have hx := H4.x_ (j := 1) (by decide); rw [h1] at hx; exact hx
  have c41 : w4.cell? ⟨w2.heap.size, 41, none⟩ = some (.int .u64 1) := by have hx := H4.1 41 (by decide); unfold HS.get at hx; simp only [h3] at hx; exact hx
  obtain ⟨⟨a0, _⟩, _⟩ := acc0_facts tb.a
  have GB := Lib.hid ((hb1.trans (hb2.mono hb1.size)).trans (tb.b.mono (hb1.trans (hb2.mono hb1.size)).size))
  clear H4 rs4 tb hcs hsz hone hb1 hb2 h1 h2 h3 RS DO hT
  go_wp2
  go_ret
  exact ⟨rfl, GB.out⟩

theorem de_of (x : Nat) (hx : x < 4294967296) (op : Nat) (hop : op < 57) (hf : Fit (kN op) (wN op) x) {rd r1 r2 : Nat} {imm cs : Int} (e1 : rdOf (kN op) x = rd) (e2 : r1Of (kN op) x = r1) (e3 : r2Of (kN op) x = r2) (e4 : immOf (kN op) x = imm) (e5 : csrOf (kN op) x = cs) :
    Hid (∀ w : World, TabW w → Calls Tryd.prog 6 #[.int .u32 x] w fun e w' => e = .returned (.tuple #[.agg #[.int .i64 op, .int .i64 rd, .int .i64 r1, .int .i64 r2, .int .i64 imm, .int .i64 cs], .nilIface]) ∧ Below w.heap.size w w') :=
  Lib.hid fun w hT => by
    have h := decode_fit x hx op hop hf w hT
    unfold readV instV at h
    rw [e1, e2, e3, e4, e5] at h
    exact h
theorem setH_pc (h : HS) (rd v : Nat) : (setH h rd v).pc = h.pc := by unfold setH; split <;> rfl
theorem al_0 (a b : Nat) (ha : a < 4294967296) (hb : b < 4294967296) : Hid (∀ w : World, Calls Tryd.prog 75 #[.int .i64 ((0 : Nat) : Int), .int .u32 (a : Nat), .int .u32 b] w fun e w' => e = .returned (.tuple #[.int .u32 ((a + b) % 4294967296 : Nat), .nilIface]) ∧ Below w.heap.size w w') :=
  Lib.hid fun w => by
    have h := pdo_0 a b ha hb w
    rw [show ((a : Int) + b) % 4294967296 = (((a + b) % 4294967296 : Nat) : Int) by omega] at h
    exact h
theorem alu_ex (k : Nat) (hk : k < 18) (a b : Nat) (ha : a < 4294967296) (hb : b < 4294967296) : ∃ v : Nat, v < 4294967296 ∧ Hid (∀ w : World, Calls Tryd.prog 75 #[.int .i64 k, .int .u32 a, .int .u32 b] w fun e w' => e = .returned (.tuple #[.int .u32 v, .nilIface]) ∧ Below w.heap.size w w') := by
  have key : ∀ (r : Int), 0 ≤ r → r < 4294967296 → (∀ w : World, Calls Tryd.prog 75 #[.int .i64 k, .int .u32 a, .int .u32 b] w fun e w' => e = .returned (.tuple #[.int .u32 r, .nilIface]) ∧ Below w.heap.size w w') → ∃ v : Nat, v < 4294967296 ∧ Hid (∀ w : World, Calls Tryd.prog 75 #[.int .i64 k, .int .u32 a, .int .u32 b] w fun e w' => e = .returned (.tuple #[.int .u32 v, .nilIface]) ∧ Below w.heap.size w w') := fun r h0 h1 h => by
    obtain ⟨v, rfl⟩ := Int.eq_ofNat_of_zero_le h0
    exact ⟨v, by omega, Lib.hid h⟩
  have m0 : ∀ z : Int, 0 ≤ z % 4294967296 := fun z => Int.emod_nonneg _ (by decide)
  have m1 : ∀ z : Int, z % 4294967296 < 4294967296 := fun z => Int.emod_lt_of_pos _ (by decide)
  have o0 : ∀ c : Bool, 0 ≤ oneI c ∧ oneI c < 4294967296 := fun c => by cases c <;> decide
  have h18 : k = 0 ∨ k = 1 ∨ k = 2 ∨ k = 3 ∨ k = 4 ∨ k = 5 ∨ k = 6 ∨ k = 7 ∨ k = 8 ∨ k = 9 ∨ k = 10 ∨ k = 11 ∨ k = 12 ∨ k = 13 ∨ k = 14 ∨ k = 15 ∨ k = 16 ∨ k = 17 := by omega
  rcases h18 with rfl | rfl | rfl | rfl | rfl | rfl | rfl | rfl | rfl | rfl | rfl | rfl | rfl | rfl | rfl | rfl | rfl | rfl
  · exact key _ (m0 _) (m1 _) (fun w => pdo_0 a b ha hb w)
  · exact key _ (m0 _) (m1 _) (fun w => pdo_1 a b ha hb w)
  · exact key _ (m0 _) (m1 _) (fun w => pdo_2 a b ha hb w)
  · exact key _ (o0 _).1 (o0 _).2 (fun w => pdo_3 a b ha hb w)
  · exact key _ (o0 _).1 (o0 _).2 (fun w => pdo_4 a b ha hb w)
  · exact key _ (by omega) (by have := Nat.xor_lt_two_pow (n := 32) ha hb; omega) (fun w => pdo_5 a b ha hb w)
  · refine key _ ?_ ?_ (fun w => pdo_6 a b ha hb w)
    · exact Int.ediv_nonneg (by omega) (Int.le_of_lt (Int.pow_pos (by decide)))
    · exact Int.lt_of_le_of_lt (Int.ediv_le_self _ (by omega)) (by omega)
  · exact key _ (m0 _) (m1 _) (fun w => pdo_7 a b ha hb w)
  · exact key _ (by omega) (by have := Nat.or_lt_two_pow (n := 32) ha hb; omega) (fun w => pdo_8 a b ha hb w)
  · exact key _ (by omega) (by have : a &&& b ≤ a := Nat.and_le_left; omega) (fun w => pdo_9 a b ha hb w)
  · exact key _ (m0 _) (m1 _) (fun w => pdo_10 a b ha hb w)
  · exact key _ (m0 _) (m1 _) (fun w => pdo_11 a b ha hb w)
  · exact key _ (m0 _) (m1 _) (fun w => pdo_12 a b ha hb w)
  · exact key _ (m0 _) (m1 _) (fun w => pdo_13 a b ha hb w)
  · refine key _ ?_ ?_ (fun w => pdo_14 a b ha hb w) <;> (unfold partsQ; split)
    · decide
    · exact m0 _
    · decide
    · exact m1 _
  · refine key _ ?_ ?_ (fun w => pdo_15 a b ha hb w) <;> (unfold partsQ; split)
    · decide
    · exact m0 _
    · decide
    · exact m1 _
  · refine key _ ?_ ?_ (fun w => pdo_16 a b ha hb w) <;> (unfold partsR; split)
    · omega
    · exact m0 _
    · omega
    · exact m1 _
  · refine key _ ?_ ?_ (fun w => pdo_17 a b ha hb w) <;> (unfold partsR; split)
    · omega
    · exact m0 _
    · omega
    · exact m1 _
/-- hart.Do at an operation on two registers -/
theorem do_reg (h : HS) (hk : h.ok) (x ln k v : Nat) (hk18 : k < 18) (hv : v < 4294967296) {rd r1 r2 : Nat} (hrd : rd < 32) (hr1 : r1 < 32) (hr2 : r2 < 32)
    (DE : Hid (∀ w : World, TabW w → Calls Tryd.prog 6 #[.int .u32 x] w fun e w' => e = .returned (.tuple #[.agg #[.int .i64 ((27 + k : Nat) : Int), .int .i64 rd, .int .i64 r1, .int .i64 r2, .int .i64 0, .int .i64 0], .nilIface]) ∧ Below w.heap.size w w'))
    (AL : Hid (∀ w : World, Calls Tryd.prog 75 #[.int .i64 k, .int .u32 (h.x r1 : Nat), .int .u32 (h.x r2 : Nat)] w fun e w' => e = .returned (.tuple #[.int .u32 v, .nilIface]) ∧ Below w.heap.size w w')) (w : World) (hT : TabW w) :
    Calls Tryd.prog 14 #[.agg h.cells.toArray, .int .u32 x, .int .u32 ln] w fun e w' => e = .returned (.tuple #[.agg (toH (setH h rd v) ((h.pc + 4) % 4294967296)).cells.toArray, .agg acc0]) ∧ Below w.heap.size w w' := by
  have hd := do_on h hk x ln DE (setH h rd v) (setH_ok hk hv) (a0 := 0) (a1 := 0) (a2 := 0) (a3 := false) (a4 := 0) (a5 := 0) (Lib.hid fun b w H D => one_reg h hk b k v hk18 AL rfl hrd hr1 hr2 w H D) w hT
  rw [setH_pc] at hd
  exact hd
/-- hart.Do at addi -/
theorem do_addi (h : HS) (hk : h.ok) (x ln n : Nat) {rd r1 : Nat} {imm : Int} (hn : IntKind.u32.wrap imm = (n : Int)) (hnl : n < 4294967296) (hrd : rd < 32) (hr1 : r1 < 32)
    (DE : Hid (∀ w : World, TabW w → Calls Tryd.prog 6 #[.int .u32 x] w fun e w' => e = .returned (.tuple #[.agg #[.int .i64 ((18 : Nat) : Int), .int .i64 rd, .int .i64 r1, .int .i64 ((0 : Nat) : Int), .int .i64 imm, .int .i64 0], .nilIface]) ∧ Below w.heap.size w w')) (w : World) (hT : TabW w) :
    Calls Tryd.prog 14 #[.agg h.cells.toArray, .int .u32 x, .int .u32 ln] w fun e w' => e = .returned (.tuple #[.agg (toH (setH h rd ((h.x r1 + n) % 4294967296)) ((h.pc + 4) % 4294967296)).cells.toArray, .agg acc0]) ∧ Below w.heap.size w w' := by
  have hd := do_on h hk x ln DE (setH h rd ((h.x r1 + n) % 4294967296)) (setH_ok hk (Nat.mod_lt _ (by decide))) (a0 := 0) (a1 := 0) (a2 := 0) (a3 := false) (a4 := 0) (a5 := 0) (Lib.hid fun b w H D => one_imm h hk b n 0 _ (by decide) hn hnl (al_0 (h.x r1) n (hk.x r1 hr1) hnl) rfl hrd hr1 (by decide) w H D) w hT
  rw [setH_pc] at hd
  exact hd
theorem sure_de : Hid (∀ w : World, TabW w → Calls Tryd.prog 6 #[.int .u32 ((5243027 : Nat) : Int)] w fun e w' => e = .returned (.tuple #[.agg #[.int .i64 ((18 : Nat) : Int), .int .i64 ((1 : Nat) : Int), .int .i64 ((0 : Nat) : Int), .int .i64 ((0 : Nat) : Int), .int .i64 5, .int .i64 0], .nilIface]) ∧ Below w.heap.size w w') :=
  de_of 5243027 (by decide) 18 (by decide) sure_fit (by decide +kernel) (by decide +kernel) (by decide +kernel) (by decide +kernel) (by decide +kernel)
theorem hsure_any (w : World) (hT : TabW w) : Calls Tryd.prog 12 #[] w fun e w' => e = .returned (.bool true) ∧ Below w.heap.size w w' := by
  refine hsure_walk (toH (setH (resetH 0) 1 ((0 + 5) % 4294967296)) ((0 + 4) % 4294967296)) (Lib.hid fun w => reset_any 0 (by decide) w) (Lib.hid fun w hT => ?_) rfl rfl rfl w hT
  exact do_addi (resetH 0) (resetH_ok (by decide)) 5243027 0 5 (by decide) (by decide) (by decide) (by decide) sure_de w hT

end Go.Proofs.YtphlgaklfibciaaDoor
