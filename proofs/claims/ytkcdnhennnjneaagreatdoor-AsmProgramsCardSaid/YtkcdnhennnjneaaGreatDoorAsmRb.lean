import Derived.Test.YtkcdnhennnjneaaGreatDoorAsmRa
import Derived.Below
import Derived.Deep.Draws
import Derived.Deep.AppendLies
import Derived.Maps.AppendAt
import Derived.OwnWalk
import Derived.Laws.BytesArg
import Derived.Laws.MakeOwn
import Derived.Laws.OwnMore
import Derived.Deep.OwnRows
import Derived.Tactics
import Derived.Lib.ConvBytes
import Derived.Laws.Slices
import Derived.WalkKit
import Derived.KernelRfl
import Derived.RowKit3
import Derived.Deep.LoopGhost
import Derived.Deep.QuietTactic
import Derived.BigQuiet
import Derived.WideLaws
import Derived.Deep.DeepCutAuto
import Derived.Deep.CutBlock
import Derived.Deep.RegionHeld3
import Derived.Laws.Rows
import Derived.Lib.AppendStr
import Derived.ArgAppend
import Derived.Laws.IdiomCopy
import Derived.OrdersHeld
import Derived.Laws.BitsLemmas
import Derived.RowKit
import Derived.Lib.Hide
import Derived.Laws.BitsAllLaws
import Derived.WalkLawsBesides
import Derived.WalkSpells
import Derived.LaidEql
namespace Go.Proofs.YtkcdnhennnjneaaGreatDoor
open Go.RowKit
set_option maxRecDepth 100000
set_option linter.unusedVariables false
set_option linter.unusedSimpArgs false

set_option maxHeartbeats 4000000 in
theorem sread_U {B K : Nat} (hBK : B ≤ K) (op : Nat) (hop : op < 57) (hk : kN op = 85) (s : Scan) (w : World) (S : ScanAt K s w) (E : Env B w) : Calls Tryz.prog 46 #[.pointer (some ⟨K, 0, none⟩), .int .i64 op] w fun e w' => e = .returned (.agg #[.int .i64 (op : Nat), .int .i64 (s.next.2.reg s.next.1).1, .int .i64 0, .int .i64 0, .int .i64 (wrap64 (((s.next.2.reg s.next.1).2.next.2.num (s.next.2.reg s.next.1).2.next.1).1 * 4096)), .int .i64 0]) ∧ ScanAt K (((s.next.2.reg s.next.1).2.next.2.num (s.next.2.reg s.next.1).2.next.1).2) w' ∧ OnK K w w' := by
  have KI := Lib.hid (fun w => by have h := kind_at op hop w; rw [hk] at h; exact h)
  have hK := S.lt
  obtain ⟨R, hR⟩ : ∃ R, R = w.heap.size := ⟨_, rfl⟩
  obtain ⟨I, hI⟩ : ∃ I, I = w.heap.size + 1 := ⟨_, rfl⟩
  have b0 : Below w.heap.size w ((w.alloc (.cells #[.int .i64 0, .int .i64 0, .int .i64 0, .int .i64 0, .int .i64 0, .int .i64 0] 37)).alloc (.cells #[.int .i64 (op : Nat), .int .i64 0, .int .i64 0, .int .i64 0, .int .i64 0, .int .i64 0] 37)) := ((Below.refl _ w).alloc (Nat.le_refl _) _).alloc (by simp) _
  have rR : ((w.alloc (.cells #[.int .i64 0, .int .i64 0, .int .i64 0, .int .i64 0, .int .i64 0, .int .i64 0] 37)).alloc (.cells #[.int .i64 (op : Nat), .int .i64 0, .int .i64 0, .int .i64 0, .int .i64 0, .int .i64 0] 37)).heap[R]? = some (.cells #[.int .i64 0, .int .i64 0, .int .i64 0, .int .i64 0, .int .i64 0, .int .i64 0] 37 (0, 0)) := by rw [hR]; exact heap_alloc2_old w _ _
  have rI : ((w.alloc (.cells #[.int .i64 0, .int .i64 0, .int .i64 0, .int .i64 0, .int .i64 0, .int .i64 0] 37)).alloc (.cells #[.int .i64 (op : Nat), .int .i64 0, .int .i64 0, .int .i64 0, .int .i64 0, .int .i64 0] 37)).heap[I]? = some (.cells #[.int .i64 (op : Nat), .int .i64 0, .int .i64 0, .int .i64 0, .int .i64 0, .int .i64 0] 37 (0, 0)) := by rw [hI]; exact heap_alloc2_new w _ _
  have S0 := Lib.hid (S.below b0)
  have E0 := Lib.hid (E.below b0)
  have O0 := Lib.hid (OnK.of_below hK b0)
  have RI0 := Lib.hid rI
  have RR0 := Lib.hid rR
  have hKI : K < I := by omega
  have hBI : B ≤ I := by omega
  have hRI : R ≠ I := by omega
  have hwI : w.heap.size ≤ I := by omega
  have hKR : K < R := by omega
  have HR := Lib.hid hR
  have HI := Lib.hid hI
  clear S E rR rI b0 hk
  go_enter Tryz.func46, Tryz.ntmps46
  go_upto_region 2 with (fail)
  rw [← hI, ← hR]
  clear hR hI
  generalize World.alloc (World.alloc w _) _ = w0 at *
  have i0 : w0.cell? ⟨I, 0, none⟩ = some (.int .i64 (op : Nat)) := cell_of_row _ _ _ _ _ _ RI0.out
  have i1 : w0.cell? ⟨I, 1, none⟩ = some (.int .i64 0) := cell_of_row _ _ _ _ _ _ RI0.out
  have i2 : w0.cell? ⟨I, 2, none⟩ = some (.int .i64 0) := cell_of_row _ _ _ _ _ _ RI0.out
  have i3 : w0.cell? ⟨I, 3, none⟩ = some (.int .i64 0) := cell_of_row _ _ _ _ _ _ RI0.out
  have i4 : w0.cell? ⟨I, 4, none⟩ = some (.int .i64 0) := cell_of_row _ _ _ _ _ _ RI0.out
  have i5 : w0.cell? ⟨I, 5, none⟩ = some (.int .i64 0) := cell_of_row _ _ _ _ _ _ RI0.out
  have if_ : ∀ j, w0.frozen? ⟨I, j, none⟩ = false := fun j => frozen_of_row _ _ _ _ _ RI0.out
  have q0 : w0.cell? ⟨R, 0, none⟩ = some (.int .i64 0) := cell_of_row _ _ _ _ _ _ RR0.out
  have q1 : w0.cell? ⟨R, 1, none⟩ = some (.int .i64 0) := cell_of_row _ _ _ _ _ _ RR0.out
  have q2 : w0.cell? ⟨R, 2, none⟩ = some (.int .i64 0) := cell_of_row _ _ _ _ _ _ RR0.out
  have q3 : w0.cell? ⟨R, 3, none⟩ = some (.int .i64 0) := cell_of_row _ _ _ _ _ _ RR0.out
  have q4 : w0.cell? ⟨R, 4, none⟩ = some (.int .i64 0) := cell_of_row _ _ _ _ _ _ RR0.out
  have q5 : w0.cell? ⟨R, 5, none⟩ = some (.int .i64 0) := cell_of_row _ _ _ _ _ _ RR0.out
  have qf : ∀ j, w0.frozen? ⟨R, j, none⟩ = false := fun j => frozen_of_row _ _ _ _ _ RR0.out
  go_wp2_with (first | (go_at_call 58; refine (KI.out _).mono ?_; rintro e w' ⟨rfl, rfl⟩))
  go_at_call 77
  have L1 := Lib.hid (next_len S0.out)
  refine (snext_any _ _ S0.out).mono ?_
  rintro e w1 ⟨rfl, hs, ho⟩
  rename_i hKK
  refine hKK _ _ ?_
  clear hKK
  clear i0 i1 i2 i3 i4 i5 if_ q0 q1 q2 q3 q4 q5 qf
  have S1 := Lib.hid hs
  have E1 := Lib.hid (Env.low E0.out (ho.below.mono hBK))
  have O1 := Lib.hid (OnK.trans O0.out ho)
  have RI1 : Hid (w1.heap[I]? = some (.cells #[.int .i64 (op : Nat), .int .i64 0, .int .i64 0, .int .i64 0, .int .i64 0, .int .i64 0] 37 (0, 0))) := Lib.hid ((ho.over I hKI (heap_lt RI0.out)).trans RI0.out)
  have RR1 : Hid (w1.heap[R]? = some (.cells #[.int .i64 0, .int .i64 0, .int .i64 0, .int .i64 0, .int .i64 0, .int .i64 0] 37 (0, 0))) := Lib.hid ((ho.over R hKR (heap_lt RR0.out)).trans RR0.out)
  clear hs ho
  have i0 : w1.cell? ⟨I, 0, none⟩ = some (.int .i64 (op : Nat)) := cell_of_row _ _ _ _ _ _ RI1.out
  have i1 : w1.cell? ⟨I, 1, none⟩ = some (.int .i64 0) := cell_of_row _ _ _ _ _ _ RI1.out
  have i2 : w1.cell? ⟨I, 2, none⟩ = some (.int .i64 0) := cell_of_row _ _ _ _ _ _ RI1.out
  have i3 : w1.cell? ⟨I, 3, none⟩ = some (.int .i64 0) := cell_of_row _ _ _ _ _ _ RI1.out
  have i4 : w1.cell? ⟨I, 4, none⟩ = some (.int .i64 0) := cell_of_row _ _ _ _ _ _ RI1.out
  have i5 : w1.cell? ⟨I, 5, none⟩ = some (.int .i64 0) := cell_of_row _ _ _ _ _ _ RI1.out
  have if_ : ∀ j, w1.frozen? ⟨I, j, none⟩ = false := fun j => frozen_of_row _ _ _ _ _ RI1.out
  have q0 : w1.cell? ⟨R, 0, none⟩ = some (.int .i64 0) := cell_of_row _ _ _ _ _ _ RR1.out
  have q1 : w1.cell? ⟨R, 1, none⟩ = some (.int .i64 0) := cell_of_row _ _ _ _ _ _ RR1.out
  have q2 : w1.cell? ⟨R, 2, none⟩ = some (.int .i64 0) := cell_of_row _ _ _ _ _ _ RR1.out
  have q3 : w1.cell? ⟨R, 3, none⟩ = some (.int .i64 0) := cell_of_row _ _ _ _ _ _ RR1.out
  have q4 : w1.cell? ⟨R, 4, none⟩ = some (.int .i64 0) := cell_of_row _ _ _ _ _ _ RR1.out
  have q5 : w1.cell? ⟨R, 5, none⟩ = some (.int .i64 0) := cell_of_row _ _ _ _ _ _ RR1.out
  have qf : ∀ j, w1.frozen? ⟨R, j, none⟩ = false := fun j => frozen_of_row _ _ _ _ _ RR1.out
  go_wp2_with (first | (go_at_call 58; refine (KI.out _).mono ?_; rintro e w' ⟨rfl, rfl⟩))
  go_at_call 76
  refine (sreg_any hBK _ _ L1.out _ S1.out E1.out).mono ?_
  rintro e w2 ⟨rfl, hs, ho⟩
  rename_i hKK
  refine hKK _ _ ?_
  clear hKK
  clear i0 i1 i2 i3 i4 i5 if_ q0 q1 q2 q3 q4 q5 qf
  have S2 := Lib.hid hs
  have E2 := Lib.hid (Env.low E1.out (ho.below.mono hBK))
  have O2 := Lib.hid (OnK.trans O1.out ho)
  have RI2 : Hid (w2.heap[I]? = some (.cells #[.int .i64 (op : Nat), .int .i64 0, .int .i64 0, .int .i64 0, .int .i64 0, .int .i64 0] 37 (0, 0))) := Lib.hid ((ho.over I hKI (heap_lt RI1.out)).trans RI1.out)
  have RR2 : Hid (w2.heap[R]? = some (.cells #[.int .i64 0, .int .i64 0, .int .i64 0, .int .i64 0, .int .i64 0, .int .i64 0] 37 (0, 0))) := Lib.hid ((ho.over R hKR (heap_lt RR1.out)).trans RR1.out)
  clear hs ho
  have i0 : w2.cell? ⟨I, 0, none⟩ = some (.int .i64 (op : Nat)) := cell_of_row _ _ _ _ _ _ RI2.out
  have i1 : w2.cell? ⟨I, 1, none⟩ = some (.int .i64 0) := cell_of_row _ _ _ _ _ _ RI2.out
  have i2 : w2.cell? ⟨I, 2, none⟩ = some (.int .i64 0) := cell_of_row _ _ _ _ _ _ RI2.out
  have i3 : w2.cell? ⟨I, 3, none⟩ = some (.int .i64 0) := cell_of_row _ _ _ _ _ _ RI2.out
  have i4 : w2.cell? ⟨I, 4, none⟩ = some (.int .i64 0) := cell_of_row _ _ _ _ _ _ RI2.out
  have i5 : w2.cell? ⟨I, 5, none⟩ = some (.int .i64 0) := cell_of_row _ _ _ _ _ _ RI2.out
  have if_ : ∀ j, w2.frozen? ⟨I, j, none⟩ = false := fun j => frozen_of_row _ _ _ _ _ RI2.out
  have q0 : w2.cell? ⟨R, 0, none⟩ = some (.int .i64 0) := cell_of_row _ _ _ _ _ _ RR2.out
  have q1 : w2.cell? ⟨R, 1, none⟩ = some (.int .i64 0) := cell_of_row _ _ _ _ _ _ RR2.out
  have q2 : w2.cell? ⟨R, 2, none⟩ = some (.int .i64 0) := cell_of_row _ _ _ _ _ _ RR2.out
  have q3 : w2.cell? ⟨R, 3, none⟩ = some (.int .i64 0) := cell_of_row _ _ _ _ _ _ RR2.out
  have q4 : w2.cell? ⟨R, 4, none⟩ = some (.int .i64 0) := cell_of_row _ _ _ _ _ _ RR2.out
  have q5 : w2.cell? ⟨R, 5, none⟩ = some (.int .i64 0) := cell_of_row _ _ _ _ _ _ RR2.out
  have qf : ∀ j, w2.frozen? ⟨R, j, none⟩ = false := fun j => frozen_of_row _ _ _ _ _ RR2.out
  go_wp2_with (first | (go_at_call 58; refine (KI.out _).mono ?_; rintro e w' ⟨rfl, rfl⟩))
  go_at_call 77
  have L3 := Lib.hid (next_len S2.out)
  refine (snext_any _ _ S2.out).mono ?_
  rintro e w3 ⟨rfl, hs, ho⟩
  rename_i hKK
  refine hKK _ _ ?_
  clear hKK
  clear i0 i1 i2 i3 i4 i5 if_ q0 q1 q2 q3 q4 q5 qf
  have S3 := Lib.hid hs
  have E3 := Lib.hid (Env.low E2.out (ho.below.mono hBK))
  have O3 := Lib.hid (OnK.trans O2.out ho)
  have RI3 : Hid (w3.heap[I]? = some (.cells #[.int .i64 (op : Nat), .int .i64 0, .int .i64 0, .int .i64 0, .int .i64 0, .int .i64 0] 37 (0, 0))) := Lib.hid ((ho.over I hKI (heap_lt RI2.out)).trans RI2.out)
  have RR3 : Hid (w3.heap[R]? = some (.cells #[.int .i64 0, .int .i64 0, .int .i64 0, .int .i64 0, .int .i64 0, .int .i64 0] 37 (0, 0))) := Lib.hid ((ho.over R hKR (heap_lt RR2.out)).trans RR2.out)
  clear hs ho
  have i0 : w3.cell? ⟨I, 0, none⟩ = some (.int .i64 (op : Nat)) := cell_of_row _ _ _ _ _ _ RI3.out
  have i1 : w3.cell? ⟨I, 1, none⟩ = some (.int .i64 0) := cell_of_row _ _ _ _ _ _ RI3.out
  have i2 : w3.cell? ⟨I, 2, none⟩ = some (.int .i64 0) := cell_of_row _ _ _ _ _ _ RI3.out
  have i3 : w3.cell? ⟨I, 3, none⟩ = some (.int .i64 0) := cell_of_row _ _ _ _ _ _ RI3.out
  have i4 : w3.cell? ⟨I, 4, none⟩ = some (.int .i64 0) := cell_of_row _ _ _ _ _ _ RI3.out
  have i5 : w3.cell? ⟨I, 5, none⟩ = some (.int .i64 0) := cell_of_row _ _ _ _ _ _ RI3.out
  have if_ : ∀ j, w3.frozen? ⟨I, j, none⟩ = false := fun j => frozen_of_row _ _ _ _ _ RI3.out
  have q0 : w3.cell? ⟨R, 0, none⟩ = some (.int .i64 0) := cell_of_row _ _ _ _ _ _ RR3.out
  have q1 : w3.cell? ⟨R, 1, none⟩ = some (.int .i64 0) := cell_of_row _ _ _ _ _ _ RR3.out
  have q2 : w3.cell? ⟨R, 2, none⟩ = some (.int .i64 0) := cell_of_row _ _ _ _ _ _ RR3.out
  have q3 : w3.cell? ⟨R, 3, none⟩ = some (.int .i64 0) := cell_of_row _ _ _ _ _ _ RR3.out
  have q4 : w3.cell? ⟨R, 4, none⟩ = some (.int .i64 0) := cell_of_row _ _ _ _ _ _ RR3.out
  have q5 : w3.cell? ⟨R, 5, none⟩ = some (.int .i64 0) := cell_of_row _ _ _ _ _ _ RR3.out
  have qf : ∀ j, w3.frozen? ⟨R, j, none⟩ = false := fun j => frozen_of_row _ _ _ _ _ RR3.out
  go_wp2_with (first | (go_at_call 58; refine (KI.out _).mono ?_; rintro e w' ⟨rfl, rfl⟩))
  go_at_call 78
  refine (snum_any _ _ L3.out _ S3.out E3.out).mono ?_
  rintro e w4 ⟨rfl, hs, ho⟩
  rename_i hKK
  refine hKK _ _ ?_
  clear hKK
  clear i0 i1 i2 i3 i4 i5 if_ q0 q1 q2 q3 q4 q5 qf
  have S4 := Lib.hid hs
  have E4 := Lib.hid (Env.low E3.out (ho.below.mono hBK))
  have O4 := Lib.hid (OnK.trans O3.out ho)
  have RI4 : Hid (w4.heap[I]? = some (.cells #[.int .i64 (op : Nat), .int .i64 0, .int .i64 0, .int .i64 0, .int .i64 0, .int .i64 0] 37 (0, 0))) := Lib.hid ((ho.over I hKI (heap_lt RI3.out)).trans RI3.out)
  have RR4 : Hid (w4.heap[R]? = some (.cells #[.int .i64 0, .int .i64 0, .int .i64 0, .int .i64 0, .int .i64 0, .int .i64 0] 37 (0, 0))) := Lib.hid ((ho.over R hKR (heap_lt RR3.out)).trans RR3.out)
  clear hs ho
  have i0 : w4.cell? ⟨I, 0, none⟩ = some (.int .i64 (op : Nat)) := cell_of_row _ _ _ _ _ _ RI4.out
  have i1 : w4.cell? ⟨I, 1, none⟩ = some (.int .i64 0) := cell_of_row _ _ _ _ _ _ RI4.out
  have i2 : w4.cell? ⟨I, 2, none⟩ = some (.int .i64 0) := cell_of_row _ _ _ _ _ _ RI4.out
  have i3 : w4.cell? ⟨I, 3, none⟩ = some (.int .i64 0) := cell_of_row _ _ _ _ _ _ RI4.out
  have i4 : w4.cell? ⟨I, 4, none⟩ = some (.int .i64 0) := cell_of_row _ _ _ _ _ _ RI4.out
  have i5 : w4.cell? ⟨I, 5, none⟩ = some (.int .i64 0) := cell_of_row _ _ _ _ _ _ RI4.out
  have if_ : ∀ j, w4.frozen? ⟨I, j, none⟩ = false := fun j => frozen_of_row _ _ _ _ _ RI4.out
  have q0 : w4.cell? ⟨R, 0, none⟩ = some (.int .i64 0) := cell_of_row _ _ _ _ _ _ RR4.out
  have q1 : w4.cell? ⟨R, 1, none⟩ = some (.int .i64 0) := cell_of_row _ _ _ _ _ _ RR4.out
  have q2 : w4.cell? ⟨R, 2, none⟩ = some (.int .i64 0) := cell_of_row _ _ _ _ _ _ RR4.out
  have q3 : w4.cell? ⟨R, 3, none⟩ = some (.int .i64 0) := cell_of_row _ _ _ _ _ _ RR4.out
  have q4 : w4.cell? ⟨R, 4, none⟩ = some (.int .i64 0) := cell_of_row _ _ _ _ _ _ RR4.out
  have q5 : w4.cell? ⟨R, 5, none⟩ = some (.int .i64 0) := cell_of_row _ _ _ _ _ _ RR4.out
  have qf : ∀ j, w4.frozen? ⟨R, j, none⟩ = false := fun j => frozen_of_row _ _ _ _ _ RR4.out
  go_wp2
  refine bodyPost_ret (v := .agg #[.int .i64 (op : Nat), .int .i64 (s.next.2.reg s.next.1).1, .int .i64 0, .int .i64 0, .int .i64 (wrap64 (((s.next.2.reg s.next.1).2.next.2.num (s.next.2.reg s.next.1).2.next.1).1 * 4096)), .int .i64 0]) ?_ rfl ⟨rfl, ?_, ?_⟩
  · simp [results, Tryz.results46, go_sem, *]; try exact rfl
  · repeat' (first | (with_reducible exact S4.out) | (with_reducible refine ScanAt.other ?_ (by omega) _ _))
  · have hwR : w.heap.size ≤ R := by have := HR.out; omega
    repeat' (first | (with_reducible exact O4.out) | (with_reducible refine OnK.setOther ?_ hK (by omega) _ _))

set_option maxHeartbeats 4000000 in
theorem sread_J {B K : Nat} (hBK : B ≤ K) (op : Nat) (hop : op < 57) (hk : kN op = 74) (s : Scan) (w : World) (S : ScanAt K s w) (E : Env B w) : Calls Tryz.prog 46 #[.pointer (some ⟨K, 0, none⟩), .int .i64 op] w fun e w' => e = .returned (.agg #[.int .i64 (op : Nat), .int .i64 (s.next.2.reg s.next.1).1, .int .i64 0, .int .i64 0, .int .i64 ((s.next.2.reg s.next.1).2.next.2.num (s.next.2.reg s.next.1).2.next.1).1, .int .i64 0]) ∧ ScanAt K (((s.next.2.reg s.next.1).2.next.2.num (s.next.2.reg s.next.1).2.next.1).2) w' ∧ OnK K w w' := by
  have KI := Lib.hid (fun w => by have h := kind_at op hop w; rw [hk] at h; exact h)
  have hK := S.lt
  obtain ⟨R, hR⟩ : ∃ R, R = w.heap.size := ⟨_, rfl⟩
  obtain ⟨I, hI⟩ : ∃ I, I = w.heap.size + 1 := ⟨_, rfl⟩
  have b0 : Below w.heap.size w ((w.alloc (.cells #[.int .i64 0, .int .i64 0, .int .i64 0, .int .i64 0, .int .i64 0, .int .i64 0] 37)).alloc (.cells #[.int .i64 (op : Nat), .int .i64 0, .int .i64 0, .int .i64 0, .int .i64 0, .int .i64 0] 37)) := ((Below.refl _ w).alloc (Nat.le_refl _) _).alloc (by simp) _
  have rR : ((w.alloc (.cells #[.int .i64 0, .int .i64 0, .int .i64 0, .int .i64 0, .int .i64 0, .int .i64 0] 37)).alloc (.cells #[.int .i64 (op : Nat), .int .i64 0, .int .i64 0, .int .i64 0, .int .i64 0, .int .i64 0] 37)).heap[R]? = some (.cells #[.int .i64 0, .int .i64 0, .int .i64 0, .int .i64 0, .int .i64 0, .int .i64 0] 37 (0, 0)) := by rw [hR]; exact heap_alloc2_old w _ _
  have rI : ((w.alloc (.cells #[.int .i64 0, .int .i64 0, .int .i64 0, .int .i64 0, .int .i64 0, .int .i64 0] 37)).alloc (.cells #[.int .i64 (op : Nat), .int .i64 0, .int .i64 0, .int .i64 0, .int .i64 0, .int .i64 0] 37)).heap[I]? = some (.cells #[.int .i64 (op : Nat), .int .i64 0, .int .i64 0, .int .i64 0, .int .i64 0, .int .i64 0] 37 (0, 0)) := by rw [hI]; exact heap_alloc2_new w _ _
  have S0 := Lib.hid (S.below b0)
  have E0 := Lib.hid (E.below b0)
  have O0 := Lib.hid (OnK.of_below hK b0)
  have RI0 := Lib.hid rI
  have RR0 := Lib.hid rR
  have hKI : K < I := by omega
  have hBI : B ≤ I := by omega
  have hRI : R ≠ I := by omega
  have hwI : w.heap.size ≤ I := by omega
  have hKR : K < R := by omega
  have HR := Lib.hid hR
  have HI := Lib.hid hI
  clear S E rR rI b0 hk
  go_enter Tryz.func46, Tryz.ntmps46
  go_upto_region 2 with (fail)
  rw [← hI, ← hR]
  clear hR hI
  generalize World.alloc (World.alloc w _) _ = w0 at *
  have i0 : w0.cell? ⟨I, 0, none⟩ = some (.int .i64 (op : Nat)) := cell_of_row _ _ _ _ _ _ RI0.out
  have i1 : w0.cell? ⟨I, 1, none⟩ = some (.int .i64 0) := cell_of_row _ _ _ _ _ _ RI0.out
  have i2 : w0.cell? ⟨I, 2, none⟩ = some (.int .i64 0) := cell_of_row _ _ _ _ _ _ RI0.out
  have i3 : w0.cell? ⟨I, 3, none⟩ = some (.int .i64 0) := cell_of_row _ _ _ _ _ _ RI0.out
  have i4 : w0.cell? ⟨I, 4, none⟩ = some (.int .i64 0) := cell_of_row _ _ _ _ _ _ RI0.out
  have i5 : w0.cell? ⟨I, 5, none⟩ = some (.int .i64 0) := cell_of_row _ _ _ _ _ _ RI0.out
  have if_ : ∀ j, w0.frozen? ⟨I, j, none⟩ = false := fun j => frozen_of_row _ _ _ _ _ RI0.out
  have q0 : w0.cell? ⟨R, 0, none⟩ = some (.int .i64 0) := cell_of_row _ _ _ _ _ _ RR0.out
  have q1 : w0.cell? ⟨R, 1, none⟩ = some (.int .i64 0) := cell_of_row _ _ _ _ _ _ RR0.out
  have q2 : w0.cell? ⟨R, 2, none⟩ = some (.int .i64 0) := cell_of_row _ _ _ _ _ _ RR0.out
  have q3 : w0.cell? ⟨R, 3, none⟩ = some (.int .i64 0) := cell_of_row _ _ _ _ _ _ RR0.out
  have q4 : w0.cell? ⟨R, 4, none⟩ = some (.int .i64 0) := cell_of_row _ _ _ _ _ _ RR0.out
  have q5 : w0.cell? ⟨R, 5, none⟩ = some (.int .i64 0) := cell_of_row _ _ _ _ _ _ RR0.out
  have qf : ∀ j, w0.frozen? ⟨R, j, none⟩ = false := fun j => frozen_of_row _ _ _ _ _ RR0.out
  go_wp2_with (first | (go_at_call 58; refine (KI.out _).mono ?_; rintro e w' ⟨rfl, rfl⟩))
  go_at_call 77
  have L1 := Lib.hid (next_len S0.out)
  refine (snext_any _ _ S0.out).mono ?_
  rintro e w1 ⟨rfl, hs, ho⟩
  rename_i hKK
  refine hKK _ _ ?_
  clear hKK
  clear i0 i1 i2 i3 i4 i5 if_ q0 q1 q2 q3 q4 q5 qf
  have S1 := Lib.hid hs
  have E1 := Lib.hid (Env.low E0.out (ho.below.mono hBK))
  have O1 := Lib.hid (OnK.trans O0.out ho)
  have RI1 : Hid (w1.heap[I]? = some (.cells #[.int .i64 (op : Nat), .int .i64 0, .int .i64 0, .int .i64 0, .int .i64 0, .int .i64 0] 37 (0, 0))) := Lib.hid ((ho.over I hKI (heap_lt RI0.out)).trans RI0.out)
  have RR1 : Hid (w1.heap[R]? = some (.cells #[.int .i64 0, .int .i64 0, .int .i64 0, .int .i64 0, .int .i64 0, .int .i64 0] 37 (0, 0))) := Lib.hid ((ho.over R hKR (heap_lt RR0.out)).trans RR0.out)
  clear hs ho
  have i0 : w1.cell? ⟨I, 0, none⟩ = some (.int .i64 (op : Nat)) := cell_of_row _ _ _ _ _ _ RI1.out
  have i1 : w1.cell? ⟨I, 1, none⟩ = some (.int .i64 0) := cell_of_row _ _ _ _ _ _ RI1.out
  have i2 : w1.cell? ⟨I, 2, none⟩ = some (.int .i64 0) := cell_of_row _ _ _ _ _ _ RI1.out
  have i3 : w1.cell? ⟨I, 3, none⟩ = some (.int .i64 0) := cell_of_row _ _ _ _ _ _ RI1.out
  have i4 : w1.cell? ⟨I, 4, none⟩ = some (.int .i64 0) := cell_of_row _ _ _ _ _ _ RI1.out
  have i5 : w1.cell? ⟨I, 5, none⟩ = some (.int .i64 0) := cell_of_row _ _ _ _ _ _ RI1.out
  have if_ : ∀ j, w1.frozen? ⟨I, j, none⟩ = false := fun j => frozen_of_row _ _ _ _ _ RI1.out
  have q0 : w1.cell? ⟨R, 0, none⟩ = some (.int .i64 0) := cell_of_row _ _ _ _ _ _ RR1.out
  have q1 : w1.cell? ⟨R, 1, none⟩ = some (.int .i64 0) := cell_of_row _ _ _ _ _ _ RR1.out
  have q2 : w1.cell? ⟨R, 2, none⟩ = some (.int .i64 0) := cell_of_row _ _ _ _ _ _ RR1.out
  have q3 : w1.cell? ⟨R, 3, none⟩ = some (.int .i64 0) := cell_of_row _ _ _ _ _ _ RR1.out
  have q4 : w1.cell? ⟨R, 4, none⟩ = some (.int .i64 0) := cell_of_row _ _ _ _ _ _ RR1.out
  have q5 : w1.cell? ⟨R, 5, none⟩ = some (.int .i64 0) := cell_of_row _ _ _ _ _ _ RR1.out
  have qf : ∀ j, w1.frozen? ⟨R, j, none⟩ = false := fun j => frozen_of_row _ _ _ _ _ RR1.out
  go_wp2_with (first | (go_at_call 58; refine (KI.out _).mono ?_; rintro e w' ⟨rfl, rfl⟩))
  go_at_call 76
  refine (sreg_any hBK _ _ L1.out _ S1.out E1.out).mono ?_
  rintro e w2 ⟨rfl, hs, ho⟩
  rename_i hKK
  refine hKK _ _ ?_
  clear hKK
  clear i0 i1 i2 i3 i4 i5 if_ q0 q1 q2 q3 q4 q5 qf
  have S2 := Lib.hid hs
  have E2 := Lib.hid (Env.low E1.out (ho.below.mono hBK))
  have O2 := Lib.hid (OnK.trans O1.out ho)
  have RI2 : Hid (w2.heap[I]? = some (.cells #[.int .i64 (op : Nat), .int .i64 0, .int .i64 0, .int .i64 0, .int .i64 0, .int .i64 0] 37 (0, 0))) := Lib.hid ((ho.over I hKI (heap_lt RI1.out)).trans RI1.out)
  have RR2 : Hid (w2.heap[R]? = some (.cells #[.int .i64 0, .int .i64 0, .int .i64 0, .int .i64 0, .int .i64 0, .int .i64 0] 37 (0, 0))) := Lib.hid ((ho.over R hKR (heap_lt RR1.out)).trans RR1.out)
  clear hs ho
  have i0 : w2.cell? ⟨I, 0, none⟩ = some (.int .i64 (op : Nat)) := cell_of_row _ _ _ _ _ _ RI2.out
  have i1 : w2.cell? ⟨I, 1, none⟩ = some (.int .i64 0) := cell_of_row _ _ _ _ _ _ RI2.out
  have i2 : w2.cell? ⟨I, 2, none⟩ = some (.int .i64 0) := cell_of_row _ _ _ _ _ _ RI2.out
  have i3 : w2.cell? ⟨I, 3, none⟩ = some (.int .i64 0) := cell_of_row _ _ _ _ _ _ RI2.out
  have i4 : w2.cell? ⟨I, 4, none⟩ = some (.int .i64 0) := cell_of_row _ _ _ _ _ _ RI2.out
  have i5 : w2.cell? ⟨I, 5, none⟩ = some (.int .i64 0) := cell_of_row _ _ _ _ _ _ RI2.out
  have if_ : ∀ j, w2.frozen? ⟨I, j, none⟩ = false := fun j => frozen_of_row _ _ _ _ _ RI2.out
  have q0 : w2.cell? ⟨R, 0, none⟩ = some (.int .i64 0) := cell_of_row _ _ _ _ _ _ RR2.out
  have q1 : w2.cell? ⟨R, 1, none⟩ = some (.int .i64 0) := cell_of_row _ _ _ _ _ _ RR2.out
  have q2 : w2.cell? ⟨R, 2, none⟩ = some (.int .i64 0) := cell_of_row _ _ _ _ _ _ RR2.out
  have q3 : w2.cell? ⟨R, 3, none⟩ = some (.int .i64 0) := cell_of_row _ _ _ _ _ _ RR2.out
  have q4 : w2.cell? ⟨R, 4, none⟩ = some (.int .i64 0) := cell_of_row _ _ _ _ _ _ RR2.out
  have q5 : w2.cell? ⟨R, 5, none⟩ = some (.int .i64 0) := cell_of_row _ _ _ _ _ _ RR2.out
  have qf : ∀ j, w2.frozen? ⟨R, j, none⟩ = false := fun j => frozen_of_row _ _ _ _ _ RR2.out
  go_wp2_with (first | (go_at_call 58; refine (KI.out _).mono ?_; rintro e w' ⟨rfl, rfl⟩))
  go_at_call 77
  have L3 := Lib.hid (next_len S2.out)
  refine (snext_any _ _ S2.out).mono ?_
  rintro e w3 ⟨rfl, hs, ho⟩
  rename_i hKK
  refine hKK _ _ ?_
  clear hKK
  clear i0 i1 i2 i3 i4 i5 if_ q0 q1 q2 q3 q4 q5 qf
  have S3 := Lib.hid hs
  have E3 := Lib.hid (Env.low E2.out (ho.below.mono hBK))
  have O3 := Lib.hid (OnK.trans O2.out ho)
  have RI3 : Hid (w3.heap[I]? = some (.cells #[.int .i64 (op : Nat), .int .i64 0, .int .i64 0, .int .i64 0, .int .i64 0, .int .i64 0] 37 (0, 0))) := Lib.hid ((ho.over I hKI (heap_lt RI2.out)).trans RI2.out)
  have RR3 : Hid (w3.heap[R]? = some (.cells #[.int .i64 0, .int .i64 0, .int .i64 0, .int .i64 0, .int .i64 0, .int .i64 0] 37 (0, 0))) := Lib.hid ((ho.over R hKR (heap_lt RR2.out)).trans RR2.out)
  clear hs ho
  have i0 : w3.cell? ⟨I, 0, none⟩ = some (.int .i64 (op : Nat)) := cell_of_row _ _ _ _ _ _ RI3.out
  have i1 : w3.cell? ⟨I, 1, none⟩ = some (.int .i64 0) := cell_of_row _ _ _ _ _ _ RI3.out
  have i2 : w3.cell? ⟨I, 2, none⟩ = some (.int .i64 0) := cell_of_row _ _ _ _ _ _ RI3.out
  have i3 : w3.cell? ⟨I, 3, none⟩ = some (.int .i64 0) := cell_of_row _ _ _ _ _ _ RI3.out
  have i4 : w3.cell? ⟨I, 4, none⟩ = some (.int .i64 0) := cell_of_row _ _ _ _ _ _ RI3.out
  have i5 : w3.cell? ⟨I, 5, none⟩ = some (.int .i64 0) := cell_of_row _ _ _ _ _ _ RI3.out
  have if_ : ∀ j, w3.frozen? ⟨I, j, none⟩ = false := fun j => frozen_of_row _ _ _ _ _ RI3.out
  have q0 : w3.cell? ⟨R, 0, none⟩ = some (.int .i64 0) := cell_of_row _ _ _ _ _ _ RR3.out
  have q1 : w3.cell? ⟨R, 1, none⟩ = some (.int .i64 0) := cell_of_row _ _ _ _ _ _ RR3.out
  have q2 : w3.cell? ⟨R, 2, none⟩ = some (.int .i64 0) := cell_of_row _ _ _ _ _ _ RR3.out
  have q3 : w3.cell? ⟨R, 3, none⟩ = some (.int .i64 0) := cell_of_row _ _ _ _ _ _ RR3.out
  have q4 : w3.cell? ⟨R, 4, none⟩ = some (.int .i64 0) := cell_of_row _ _ _ _ _ _ RR3.out
  have q5 : w3.cell? ⟨R, 5, none⟩ = some (.int .i64 0) := cell_of_row _ _ _ _ _ _ RR3.out
  have qf : ∀ j, w3.frozen? ⟨R, j, none⟩ = false := fun j => frozen_of_row _ _ _ _ _ RR3.out
  go_wp2_with (first | (go_at_call 58; refine (KI.out _).mono ?_; rintro e w' ⟨rfl, rfl⟩))
  go_at_call 78
  refine (snum_any _ _ L3.out _ S3.out E3.out).mono ?_
  rintro e w4 ⟨rfl, hs, ho⟩
  rename_i hKK
  refine hKK _ _ ?_
  clear hKK
  clear i0 i1 i2 i3 i4 i5 if_ q0 q1 q2 q3 q4 q5 qf
  have S4 := Lib.hid hs
  have E4 := Lib.hid (Env.low E3.out (ho.below.mono hBK))
  have O4 := Lib.hid (OnK.trans O3.out ho)
  have RI4 : Hid (w4.heap[I]? = some (.cells #[.int .i64 (op : Nat), .int .i64 0, .int .i64 0, .int .i64 0, .int .i64 0, .int .i64 0] 37 (0, 0))) := Lib.hid ((ho.over I hKI (heap_lt RI3.out)).trans RI3.out)
  have RR4 : Hid (w4.heap[R]? = some (.cells #[.int .i64 0, .int .i64 0, .int .i64 0, .int .i64 0, .int .i64 0, .int .i64 0] 37 (0, 0))) := Lib.hid ((ho.over R hKR (heap_lt RR3.out)).trans RR3.out)
  clear hs ho
  have i0 : w4.cell? ⟨I, 0, none⟩ = some (.int .i64 (op : Nat)) := cell_of_row _ _ _ _ _ _ RI4.out
  have i1 : w4.cell? ⟨I, 1, none⟩ = some (.int .i64 0) := cell_of_row _ _ _ _ _ _ RI4.out
  have i2 : w4.cell? ⟨I, 2, none⟩ = some (.int .i64 0) := cell_of_row _ _ _ _ _ _ RI4.out
  have i3 : w4.cell? ⟨I, 3, none⟩ = some (.int .i64 0) := cell_of_row _ _ _ _ _ _ RI4.out
  have i4 : w4.cell? ⟨I, 4, none⟩ = some (.int .i64 0) := cell_of_row _ _ _ _ _ _ RI4.out
  have i5 : w4.cell? ⟨I, 5, none⟩ = some (.int .i64 0) := cell_of_row _ _ _ _ _ _ RI4.out
  have if_ : ∀ j, w4.frozen? ⟨I, j, none⟩ = false := fun j => frozen_of_row _ _ _ _ _ RI4.out
  have q0 : w4.cell? ⟨R, 0, none⟩ = some (.int .i64 0) := cell_of_row _ _ _ _ _ _ RR4.out
  have q1 : w4.cell? ⟨R, 1, none⟩ = some (.int .i64 0) := cell_of_row _ _ _ _ _ _ RR4.out
  have q2 : w4.cell? ⟨R, 2, none⟩ = some (.int .i64 0) := cell_of_row _ _ _ _ _ _ RR4.out
  have q3 : w4.cell? ⟨R, 3, none⟩ = some (.int .i64 0) := cell_of_row _ _ _ _ _ _ RR4.out
  have q4 : w4.cell? ⟨R, 4, none⟩ = some (.int .i64 0) := cell_of_row _ _ _ _ _ _ RR4.out
  have q5 : w4.cell? ⟨R, 5, none⟩ = some (.int .i64 0) := cell_of_row _ _ _ _ _ _ RR4.out
  have qf : ∀ j, w4.frozen? ⟨R, j, none⟩ = false := fun j => frozen_of_row _ _ _ _ _ RR4.out
  go_wp2
  refine bodyPost_ret (v := .agg #[.int .i64 (op : Nat), .int .i64 (s.next.2.reg s.next.1).1, .int .i64 0, .int .i64 0, .int .i64 ((s.next.2.reg s.next.1).2.next.2.num (s.next.2.reg s.next.1).2.next.1).1, .int .i64 0]) ?_ rfl ⟨rfl, ?_, ?_⟩
  · simp [results, Tryz.results46, go_sem, *]; try exact rfl
  · repeat' (first | (with_reducible exact S4.out) | (with_reducible refine ScanAt.other ?_ (by omega) _ _))
  · have hwR : w.heap.size ≤ R := by have := HR.out; omega
    repeat' (first | (with_reducible exact O4.out) | (with_reducible refine OnK.setOther ?_ hK (by omega) _ _))
set_option maxHeartbeats 4000000 in
theorem sread_I {B K : Nat} (hBK : B ≤ K) (op : Nat) (hop : op < 57) (hk : kN op = 73) (s : Scan) (w : World) (S : ScanAt K s w) (E : Env B w) : Calls Tryz.prog 46 #[.pointer (some ⟨K, 0, none⟩), .int .i64 op] w fun e w' => e = .returned (.agg #[.int .i64 (op : Nat), .int .i64 (s.next.2.reg s.next.1).1, .int .i64 ((s.next.2.reg s.next.1).2.next.2.reg (s.next.2.reg s.next.1).2.next.1).1, .int .i64 0, .int .i64 (((s.next.2.reg s.next.1).2.next.2.reg (s.next.2.reg s.next.1).2.next.1).2.next.2.num ((s.next.2.reg s.next.1).2.next.2.reg (s.next.2.reg s.next.1).2.next.1).2.next.1).1, .int .i64 0]) ∧ ScanAt K ((((s.next.2.reg s.next.1).2.next.2.reg (s.next.2.reg s.next.1).2.next.1).2.next.2.num ((s.next.2.reg s.next.1).2.next.2.reg (s.next.2.reg s.next.1).2.next.1).2.next.1).2) w' ∧ OnK K w w' := by
  have KI := Lib.hid (fun w => by have h := kind_at op hop w; rw [hk] at h; exact h)
  have hK := S.lt
  obtain ⟨R, hR⟩ : ∃ R, R = w.heap.size := ⟨_, rfl⟩
  obtain ⟨I, hI⟩ : ∃ I, I = w.heap.size + 1 := ⟨_, rfl⟩
  have b0 : Below w.heap.size w ((w.alloc (.cells #[.int .i64 0, .int .i64 0, .int .i64 0, .int .i64 0, .int .i64 0, .int .i64 0] 37)).alloc (.cells #[.int .i64 (op : Nat), .int .i64 0, .int .i64 0, .int .i64 0, .int .i64 0, .int .i64 0] 37)) := ((Below.refl _ w).alloc (Nat.le_refl _) _).alloc (by simp) _
  have rR : ((w.alloc (.cells #[.int .i64 0, .int .i64 0, .int .i64 0, .int .i64 0, .int .i64 0, .int .i64 0] 37)).alloc (.cells #[.int .i64 (op : Nat), .int .i64 0, .int .i64 0, .int .i64 0, .int .i64 0, .int .i64 0] 37)).heap[R]? = some (.cells #[.int .i64 0, .int .i64 0, .int .i64 0, .int .i64 0, .int .i64 0, .int .i64 0] 37 (0, 0)) := by rw [hR]; exact heap_alloc2_old w _ _
  have rI : ((w.alloc (.cells #[.int .i64 0, .int .i64 0, .int .i64 0, .int .i64 0, .int .i64 0, .int .i64 0] 37)).alloc (.cells #[.int .i64 (op : Nat), .int .i64 0, .int .i64 0, .int .i64 0, .int .i64 0, .int .i64 0] 37)).heap[I]? = some (.cells #[.int .i64 (op : Nat), .int .i64 0, .int .i64 0, .int .i64 0, .int .i64 0, .int .i64 0] 37 (0, 0)) := by rw [hI]; exact heap_alloc2_new w _ _
  have S0 := Lib.hid (S.below b0)
  have E0 := Lib.hid (E.below b0)
  have O0 := Lib.hid (OnK.of_below hK b0)
  have RI0 := Lib.hid rI
  have RR0 := Lib.hid rR
  have hKI : K < I := by omega
  have hBI : B ≤ I := by omega
  have hRI : R ≠ I := by omega
  have hwI : w.heap.size ≤ I := by omega
  have hKR : K < R := by omega
  have HR := Lib.hid hR
  have HI := Lib.hid hI
  clear S E rR rI b0 hk
  go_enter Tryz.func46, Tryz.ntmps46
  go_upto_region 2 with (fail)
  rw [← hI, ← hR]
  clear hR hI
  generalize World.alloc (World.alloc w _) _ = w0 at *
  have i0 : w0.cell? ⟨I, 0, none⟩ = some (.int .i64 (op : Nat)) := cell_of_row _ _ _ _ _ _ RI0.out
  have i1 : w0.cell? ⟨I, 1, none⟩ = some (.int .i64 0) := cell_of_row _ _ _ _ _ _ RI0.out
  have i2 : w0.cell? ⟨I, 2, none⟩ = some (.int .i64 0) := cell_of_row _ _ _ _ _ _ RI0.out
  have i3 : w0.cell? ⟨I, 3, none⟩ = some (.int .i64 0) := cell_of_row _ _ _ _ _ _ RI0.out
  have i4 : w0.cell? ⟨I, 4, none⟩ = some (.int .i64 0) := cell_of_row _ _ _ _ _ _ RI0.out
  have i5 : w0.cell? ⟨I, 5, none⟩ = some (.int .i64 0) := cell_of_row _ _ _ _ _ _ RI0.out
  have if_ : ∀ j, w0.frozen? ⟨I, j, none⟩ = false := fun j => frozen_of_row _ _ _ _ _ RI0.out
  have q0 : w0.cell? ⟨R, 0, none⟩ = some (.int .i64 0) := cell_of_row _ _ _ _ _ _ RR0.out
  have q1 : w0.cell? ⟨R, 1, none⟩ = some (.int .i64 0) := cell_of_row _ _ _ _ _ _ RR0.out
  have q2 : w0.cell? ⟨R, 2, none⟩ = some (.int .i64 0) := cell_of_row _ _ _ _ _ _ RR0.out
  have q3 : w0.cell? ⟨R, 3, none⟩ = some (.int .i64 0) := cell_of_row _ _ _ _ _ _ RR0.out
  have q4 : w0.cell? ⟨R, 4, none⟩ = some (.int .i64 0) := cell_of_row _ _ _ _ _ _ RR0.out
  have q5 : w0.cell? ⟨R, 5, none⟩ = some (.int .i64 0) := cell_of_row _ _ _ _ _ _ RR0.out
  have qf : ∀ j, w0.frozen? ⟨R, j, none⟩ = false := fun j => frozen_of_row _ _ _ _ _ RR0.out
  go_wp2_with (first | (go_at_call 58; refine (KI.out _).mono ?_; rintro e w' ⟨rfl, rfl⟩))
  go_at_call 77
  have L1 := Lib.hid (next_len S0.out)
  refine (snext_any _ _ S0.out).mono ?_
  rintro e w1 ⟨rfl, hs, ho⟩
  rename_i hKK
  refine hKK _ _ ?_
  clear hKK
  clear i0 i1 i2 i3 i4 i5 if_ q0 q1 q2 q3 q4 q5 qf
  have S1 := Lib.hid hs
  have E1 := Lib.hid (Env.low E0.out (ho.below.mono hBK))
  have O1 := Lib.hid (OnK.trans O0.out ho)
  have RI1 : Hid (w1.heap[I]? = some (.cells #[.int .i64 (op : Nat), .int .i64 0, .int .i64 0, .int .i64 0, .int .i64 0, .int .i64 0] 37 (0, 0))) := Lib.hid ((ho.over I hKI (heap_lt RI0.out)).trans RI0.out)
  have RR1 : Hid (w1.heap[R]? = some (.cells #[.int .i64 0, .int .i64 0, .int .i64 0, .int .i64 0, .int .i64 0, .int .i64 0] 37 (0, 0))) := Lib.hid ((ho.over R hKR (heap_lt RR0.out)).trans RR0.out)
  clear hs ho
  have i0 : w1.cell? ⟨I, 0, none⟩ = some (.int .i64 (op : Nat)) := cell_of_row _ _ _ _ _ _ RI1.out
  have i1 : w1.cell? ⟨I, 1, none⟩ = some (.int .i64 0) := cell_of_row _ _ _ _ _ _ RI1.out
  have i2 : w1.cell? ⟨I, 2, none⟩ = some (.int .i64 0) := cell_of_row _ _ _ _ _ _ RI1.out
  have i3 : w1.cell? ⟨I, 3, none⟩ = some (.int .i64 0) := cell_of_row _ _ _ _ _ _ RI1.out
  have i4 : w1.cell? ⟨I, 4, none⟩ = some (.int .i64 0) := cell_of_row _ _ _ _ _ _ RI1.out
  have i5 : w1.cell? ⟨I, 5, none⟩ = some (.int .i64 0) := cell_of_row _ _ _ _ _ _ RI1.out
  have if_ : ∀ j, w1.frozen? ⟨I, j, none⟩ = false := fun j => frozen_of_row _ _ _ _ _ RI1.out
  have q0 : w1.cell? ⟨R, 0, none⟩ = some (.int .i64 0) := cell_of_row _ _ _ _ _ _ RR1.out
  have q1 : w1.cell? ⟨R, 1, none⟩ = some (.int .i64 0) := cell_of_row _ _ _ _ _ _ RR1.out
  have q2 : w1.cell? ⟨R, 2, none⟩ = some (.int .i64 0) := cell_of_row _ _ _ _ _ _ RR1.out
  have q3 : w1.cell? ⟨R, 3, none⟩ = some (.int .i64 0) := cell_of_row _ _ _ _ _ _ RR1.out
  have q4 : w1.cell? ⟨R, 4, none⟩ = some (.int .i64 0) := cell_of_row _ _ _ _ _ _ RR1.out
  have q5 : w1.cell? ⟨R, 5, none⟩ = some (.int .i64 0) := cell_of_row _ _ _ _ _ _ RR1.out
  have qf : ∀ j, w1.frozen? ⟨R, j, none⟩ = false := fun j => frozen_of_row _ _ _ _ _ RR1.out
  go_wp2_with (first | (go_at_call 58; refine (KI.out _).mono ?_; rintro e w' ⟨rfl, rfl⟩))
  go_at_call 76
  refine (sreg_any hBK _ _ L1.out _ S1.out E1.out).mono ?_
  rintro e w2 ⟨rfl, hs, ho⟩
  rename_i hKK
  refine hKK _ _ ?_
  clear hKK
  clear i0 i1 i2 i3 i4 i5 if_ q0 q1 q2 q3 q4 q5 qf
  have S2 := Lib.hid hs
  have E2 := Lib.hid (Env.low E1.out (ho.below.mono hBK))
  have O2 := Lib.hid (OnK.trans O1.out ho)
  have RI2 : Hid (w2.heap[I]? = some (.cells #[.int .i64 (op : Nat), .int .i64 0, .int .i64 0, .int .i64 0, .int .i64 0, .int .i64 0] 37 (0, 0))) := Lib.hid ((ho.over I hKI (heap_lt RI1.out)).trans RI1.out)
  have RR2 : Hid (w2.heap[R]? = some (.cells #[.int .i64 0, .int .i64 0, .int .i64 0, .int .i64 0, .int .i64 0, .int .i64 0] 37 (0, 0))) := Lib.hid ((ho.over R hKR (heap_lt RR1.out)).trans RR1.out)
  clear hs ho
  have i0 : w2.cell? ⟨I, 0, none⟩ = some (.int .i64 (op : Nat)) := cell_of_row _ _ _ _ _ _ RI2.out
  have i1 : w2.cell? ⟨I, 1, none⟩ = some (.int .i64 0) := cell_of_row _ _ _ _ _ _ RI2.out
  have i2 : w2.cell? ⟨I, 2, none⟩ = some (.int .i64 0) := cell_of_row _ _ _ _ _ _ RI2.out
  have i3 : w2.cell? ⟨I, 3, none⟩ = some (.int .i64 0) := cell_of_row _ _ _ _ _ _ RI2.out
  have i4 : w2.cell? ⟨I, 4, none⟩ = some (.int .i64 0) := cell_of_row _ _ _ _ _ _ RI2.out
  have i5 : w2.cell? ⟨I, 5, none⟩ = some (.int .i64 0) := cell_of_row _ _ _ _ _ _ RI2.out
  have if_ : ∀ j, w2.frozen? ⟨I, j, none⟩ = false := fun j => frozen_of_row _ _ _ _ _ RI2.out
  have q0 : w2.cell? ⟨R, 0, none⟩ = some (.int .i64 0) := cell_of_row _ _ _ _ _ _ RR2.out
  have q1 : w2.cell? ⟨R, 1, none⟩ = some (.int .i64 0) := cell_of_row _ _ _ _ _ _ RR2.out
  have q2 : w2.cell? ⟨R, 2, none⟩ = some (.int .i64 0) := cell_of_row _ _ _ _ _ _ RR2.out
  have q3 : w2.cell? ⟨R, 3, none⟩ = some (.int .i64 0) := cell_of_row _ _ _ _ _ _ RR2.out
  have q4 : w2.cell? ⟨R, 4, none⟩ = some (.int .i64 0) := cell_of_row _ _ _ _ _ _ RR2.out
  have q5 : w2.cell? ⟨R, 5, none⟩ = some (.int .i64 0) := cell_of_row _ _ _ _ _ _ RR2.out
  have qf : ∀ j, w2.frozen? ⟨R, j, none⟩ = false := fun j => frozen_of_row _ _ _ _ _ RR2.out
  go_wp2_with (first | (go_at_call 58; refine (KI.out _).mono ?_; rintro e w' ⟨rfl, rfl⟩))
  go_at_call 77
  have L3 := Lib.hid (next_len S2.out)
  refine (snext_any _ _ S2.out).mono ?_
  rintro e w3 ⟨rfl, hs, ho⟩
  rename_i hKK
  refine hKK _ _ ?_
  clear hKK
  clear i0 i1 i2 i3 i4 i5 if_ q0 q1 q2 q3 q4 q5 qf
  have S3 := Lib.hid hs
  have E3 := Lib.hid (Env.low E2.out (ho.below.mono hBK))
  have O3 := Lib.hid (OnK.trans O2.out ho)
  have RI3 : Hid (w3.heap[I]? = some (.cells #[.int .i64 (op : Nat), .int .i64 0, .int .i64 0, .int .i64 0, .int .i64 0, .int .i64 0] 37 (0, 0))) := Lib.hid ((ho.over I hKI (heap_lt RI2.out)).trans RI2.out)
  have RR3 : Hid (w3.heap[R]? = some (.cells #[.int .i64 0, .int .i64 0, .int .i64 0, .int .i64 0, .int .i64 0, .int .i64 0] 37 (0, 0))) := Lib.hid ((ho.over R hKR (heap_lt RR2.out)).trans RR2.out)
  clear hs ho
  have i0 : w3.cell? ⟨I, 0, none⟩ = some (.int .i64 (op : Nat)) := cell_of_row _ _ _ _ _ _ RI3.out
  have i1 : w3.cell? ⟨I, 1, none⟩ = some (.int .i64 0) := cell_of_row _ _ _ _ _ _ RI3.out
  have i2 : w3.cell? ⟨I, 2, none⟩ = some (.int .i64 0) := cell_of_row _ _ _ _ _ _ RI3.out
  have i3 : w3.cell? ⟨I, 3, none⟩ = some (.int .i64 0) := cell_of_row _ _ _ _ _ _ RI3.out
  have i4 : w3.cell? ⟨I, 4, none⟩ = some (.int .i64 0) := cell_of_row _ _ _ _ _ _ RI3.out
  have i5 : w3.cell? ⟨I, 5, none⟩ = some (.int .i64 0) := cell_of_row _ _ _ _ _ _ RI3.out
  have if_ : ∀ j, w3.frozen? ⟨I, j, none⟩ = false := fun j => frozen_of_row _ _ _ _ _ RI3.out
  have q0 : w3.cell? ⟨R, 0, none⟩ = some (.int .i64 0) := cell_of_row _ _ _ _ _ _ RR3.out
  have q1 : w3.cell? ⟨R, 1, none⟩ = some (.int .i64 0) := cell_of_row _ _ _ _ _ _ RR3.out
  have q2 : w3.cell? ⟨R, 2, none⟩ = some (.int .i64 0) := cell_of_row _ _ _ _ _ _ RR3.out
  have q3 : w3.cell? ⟨R, 3, none⟩ = some (.int .i64 0) := cell_of_row _ _ _ _ _ _ RR3.out
  have q4 : w3.cell? ⟨R, 4, none⟩ = some (.int .i64 0) := cell_of_row _ _ _ _ _ _ RR3.out
  have q5 : w3.cell? ⟨R, 5, none⟩ = some (.int .i64 0) := cell_of_row _ _ _ _ _ _ RR3.out
  have qf : ∀ j, w3.frozen? ⟨R, j, none⟩ = false := fun j => frozen_of_row _ _ _ _ _ RR3.out
  go_wp2_with (first | (go_at_call 58; refine (KI.out _).mono ?_; rintro e w' ⟨rfl, rfl⟩))
  go_at_call 76
  refine (sreg_any hBK _ _ L3.out _ S3.out E3.out).mono ?_
  rintro e w4 ⟨rfl, hs, ho⟩
  rename_i hKK
  refine hKK _ _ ?_
  clear hKK
  clear i0 i1 i2 i3 i4 i5 if_ q0 q1 q2 q3 q4 q5 qf
  have S4 := Lib.hid hs
  have E4 := Lib.hid (Env.low E3.out (ho.below.mono hBK))
  have O4 := Lib.hid (OnK.trans O3.out ho)
  have RI4 : Hid (w4.heap[I]? = some (.cells #[.int .i64 (op : Nat), .int .i64 0, .int .i64 0, .int .i64 0, .int .i64 0, .int .i64 0] 37 (0, 0))) := Lib.hid ((ho.over I hKI (heap_lt RI3.out)).trans RI3.out)
  have RR4 : Hid (w4.heap[R]? = some (.cells #[.int .i64 0, .int .i64 0, .int .i64 0, .int .i64 0, .int .i64 0, .int .i64 0] 37 (0, 0))) := Lib.hid ((ho.over R hKR (heap_lt RR3.out)).trans RR3.out)
  clear hs ho
  have i0 : w4.cell? ⟨I, 0, none⟩ = some (.int .i64 (op : Nat)) := cell_of_row _ _ _ _ _ _ RI4.out
  have i1 : w4.cell? ⟨I, 1, none⟩ = some (.int .i64 0) := cell_of_row _ _ _ _ _ _ RI4.out
  have i2 : w4.cell? ⟨I, 2, none⟩ = some (.int .i64 0) := cell_of_row _ _ _ _ _ _ RI4.out
  have i3 : w4.cell? ⟨I, 3, none⟩ = some (.int .i64 0) := cell_of_row _ _ _ _ _ _ RI4.out
  have i4 : w4.cell? ⟨I, 4, none⟩ = some (.int .i64 0) := cell_of_row _ _ _ _ _ _ RI4.out
  have i5 : w4.cell? ⟨I, 5, none⟩ = some (.int .i64 0) := cell_of_row _ _ _ _ _ _ RI4.out
  have if_ : ∀ j, w4.frozen? ⟨I, j, none⟩ = false := fun j => frozen_of_row _ _ _ _ _ RI4.out
  have q0 : w4.cell? ⟨R, 0, none⟩ = some (.int .i64 0) := cell_of_row _ _ _ _ _ _ RR4.out
  have q1 : w4.cell? ⟨R, 1, none⟩ = some (.int .i64 0) := cell_of_row _ _ _ _ _ _ RR4.out
  have q2 : w4.cell? ⟨R, 2, none⟩ = some (.int .i64 0) := cell_of_row _ _ _ _ _ _ RR4.out
  have q3 : w4.cell? ⟨R, 3, none⟩ = some (.int .i64 0) := cell_of_row _ _ _ _ _ _ RR4.out
  have q4 : w4.cell? ⟨R, 4, none⟩ = some (.int .i64 0) := cell_of_row _ _ _ _ _ _ RR4.out
  have q5 : w4.cell? ⟨R, 5, none⟩ = some (.int .i64 0) := cell_of_row _ _ _ _ _ _ RR4.out
  have qf : ∀ j, w4.frozen? ⟨R, j, none⟩ = false := fun j => frozen_of_row _ _ _ _ _ RR4.out
  go_wp2_with (first | (go_at_call 58; refine (KI.out _).mono ?_; rintro e w' ⟨rfl, rfl⟩))
  go_at_call 77
  have L5 := Lib.hid (next_len S4.out)
  refine (snext_any _ _ S4.out).mono ?_
  rintro e w5 ⟨rfl, hs, ho⟩
  rename_i hKK
  refine hKK _ _ ?_
  clear hKK
  clear i0 i1 i2 i3 i4 i5 if_ q0 q1 q2 q3 q4 q5 qf
  have S5 := Lib.hid hs
  have E5 := Lib.hid (Env.low E4.out (ho.below.mono hBK))
  have O5 := Lib.hid (OnK.trans O4.out ho)
  have RI5 : Hid (w5.heap[I]? = some (.cells #[.int .i64 (op : Nat), .int .i64 0, .int .i64 0, .int .i64 0, .int .i64 0, .int .i64 0] 37 (0, 0))) := Lib.hid ((ho.over I hKI (heap_lt RI4.out)).trans RI4.out)
  have RR5 : Hid (w5.heap[R]? = some (.cells #[.int .i64 0, .int .i64 0, .int .i64 0, .int .i64 0, .int .i64 0, .int .i64 0] 37 (0, 0))) := Lib.hid ((ho.over R hKR (heap_lt RR4.out)).trans RR4.out)
  clear hs ho
  have i0 : w5.cell? ⟨I, 0, none⟩ = some (.int .i64 (op : Nat)) := cell_of_row _ _ _ _ _ _ RI5.out
  have i1 : w5.cell? ⟨I, 1, none⟩ = some (.int .i64 0) := cell_of_row _ _ _ _ _ _ RI5.out
  have i2 : w5.cell? ⟨I, 2, none⟩ = some (.int .i64 0) := cell_of_row _ _ _ _ _ _ RI5.out
  have i3 : w5.cell? ⟨I, 3, none⟩ = some (.int .i64 0) := cell_of_row _ _ _ _ _ _ RI5.out
  have i4 : w5.cell? ⟨I, 4, none⟩ = some (.int .i64 0) := cell_of_row _ _ _ _ _ _ RI5.out
  have i5 : w5.cell? ⟨I, 5, none⟩ = some (.int .i64 0) := cell_of_row _ _ _ _ _ _ RI5.out
  have if_ : ∀ j, w5.frozen? ⟨I, j, none⟩ = false := fun j => frozen_of_row _ _ _ _ _ RI5.out
  have q0 : w5.cell? ⟨R, 0, none⟩ = some (.int .i64 0) := cell_of_row _ _ _ _ _ _ RR5.out
  have q1 : w5.cell? ⟨R, 1, none⟩ = some (.int .i64 0) := cell_of_row _ _ _ _ _ _ RR5.out
  have q2 : w5.cell? ⟨R, 2, none⟩ = some (.int .i64 0) := cell_of_row _ _ _ _ _ _ RR5.out
  have q3 : w5.cell? ⟨R, 3, none⟩ = some (.int .i64 0) := cell_of_row _ _ _ _ _ _ RR5.out
  have q4 : w5.cell? ⟨R, 4, none⟩ = some (.int .i64 0) := cell_of_row _ _ _ _ _ _ RR5.out
  have q5 : w5.cell? ⟨R, 5, none⟩ = some (.int .i64 0) := cell_of_row _ _ _ _ _ _ RR5.out
  have qf : ∀ j, w5.frozen? ⟨R, j, none⟩ = false := fun j => frozen_of_row _ _ _ _ _ RR5.out
  go_wp2_with (first | (go_at_call 58; refine (KI.out _).mono ?_; rintro e w' ⟨rfl, rfl⟩))
  go_at_call 78
  refine (snum_any _ _ L5.out _ S5.out E5.out).mono ?_
  rintro e w6 ⟨rfl, hs, ho⟩
  rename_i hKK
  refine hKK _ _ ?_
  clear hKK
  clear i0 i1 i2 i3 i4 i5 if_ q0 q1 q2 q3 q4 q5 qf
  have S6 := Lib.hid hs
  have E6 := Lib.hid (Env.low E5.out (ho.below.mono hBK))
  have O6 := Lib.hid (OnK.trans O5.out ho)
  have RI6 : Hid (w6.heap[I]? = some (.cells #[.int .i64 (op : Nat), .int .i64 0, .int .i64 0, .int .i64 0, .int .i64 0, .int .i64 0] 37 (0, 0))) := Lib.hid ((ho.over I hKI (heap_lt RI5.out)).trans RI5.out)
  have RR6 : Hid (w6.heap[R]? = some (.cells #[.int .i64 0, .int .i64 0, .int .i64 0, .int .i64 0, .int .i64 0, .int .i64 0] 37 (0, 0))) := Lib.hid ((ho.over R hKR (heap_lt RR5.out)).trans RR5.out)
  clear hs ho
  have i0 : w6.cell? ⟨I, 0, none⟩ = some (.int .i64 (op : Nat)) := cell_of_row _ _ _ _ _ _ RI6.out
  have i1 : w6.cell? ⟨I, 1, none⟩ = some (.int .i64 0) := cell_of_row _ _ _ _ _ _ RI6.out
  have i2 : w6.cell? ⟨I, 2, none⟩ = some (.int .i64 0) := cell_of_row _ _ _ _ _ _ RI6.out
  have i3 : w6.cell? ⟨I, 3, none⟩ = some (.int .i64 0) := cell_of_row _ _ _ _ _ _ RI6.out
  have i4 : w6.cell? ⟨I, 4, none⟩ = some (.int .i64 0) := cell_of_row _ _ _ _ _ _ RI6.out
  have i5 : w6.cell? ⟨I, 5, none⟩ = some (.int .i64 0) := cell_of_row _ _ _ _ _ _ RI6.out
  have if_ : ∀ j, w6.frozen? ⟨I, j, none⟩ = false := fun j => frozen_of_row _ _ _ _ _ RI6.out
  have q0 : w6.cell? ⟨R, 0, none⟩ = some (.int .i64 0) := cell_of_row _ _ _ _ _ _ RR6.out
  have q1 : w6.cell? ⟨R, 1, none⟩ = some (.int .i64 0) := cell_of_row _ _ _ _ _ _ RR6.out
  have q2 : w6.cell? ⟨R, 2, none⟩ = some (.int .i64 0) := cell_of_row _ _ _ _ _ _ RR6.out
  have q3 : w6.cell? ⟨R, 3, none⟩ = some (.int .i64 0) := cell_of_row _ _ _ _ _ _ RR6.out
  have q4 : w6.cell? ⟨R, 4, none⟩ = some (.int .i64 0) := cell_of_row _ _ _ _ _ _ RR6.out
  have q5 : w6.cell? ⟨R, 5, none⟩ = some (.int .i64 0) := cell_of_row _ _ _ _ _ _ RR6.out
  have qf : ∀ j, w6.frozen? ⟨R, j, none⟩ = false := fun j => frozen_of_row _ _ _ _ _ RR6.out
  go_wp2
  refine bodyPost_ret (v := .agg #[.int .i64 (op : Nat), .int .i64 (s.next.2.reg s.next.1).1, .int .i64 ((s.next.2.reg s.next.1).2.next.2.reg (s.next.2.reg s.next.1).2.next.1).1, .int .i64 0, .int .i64 (((s.next.2.reg s.next.1).2.next.2.reg (s.next.2.reg s.next.1).2.next.1).2.next.2.num ((s.next.2.reg s.next.1).2.next.2.reg (s.next.2.reg s.next.1).2.next.1).2.next.1).1, .int .i64 0]) ?_ rfl ⟨rfl, ?_, ?_⟩
  · simp [results, Tryz.results46, go_sem, *]; try exact rfl
  · repeat' (first | (with_reducible exact S6.out) | (with_reducible refine ScanAt.other ?_ (by omega) _ _))
  · have hwR : w.heap.size ≤ R := by have := HR.out; omega
    repeat' (first | (with_reducible exact O6.out) | (with_reducible refine OnK.setOther ?_ hK (by omega) _ _))
set_option maxHeartbeats 4000000 in
theorem sread_F {B K : Nat} (hBK : B ≤ K) (op : Nat) (hop : op < 57) (hk : kN op = 70) (s : Scan) (w : World) (S : ScanAt K s w) (E : Env B w) : Calls Tryz.prog 46 #[.pointer (some ⟨K, 0, none⟩), .int .i64 op] w fun e w' => e = .returned (.agg #[.int .i64 (op : Nat), .int .i64 (s.next.2.reg s.next.1).1, .int .i64 ((s.next.2.reg s.next.1).2.next.2.reg (s.next.2.reg s.next.1).2.next.1).1, .int .i64 0, .int .i64 (((s.next.2.reg s.next.1).2.next.2.reg (s.next.2.reg s.next.1).2.next.1).2.next.2.num ((s.next.2.reg s.next.1).2.next.2.reg (s.next.2.reg s.next.1).2.next.1).2.next.1).1, .int .i64 0]) ∧ ScanAt K ((((s.next.2.reg s.next.1).2.next.2.reg (s.next.2.reg s.next.1).2.next.1).2.next.2.num ((s.next.2.reg s.next.1).2.next.2.reg (s.next.2.reg s.next.1).2.next.1).2.next.1).2) w' ∧ OnK K w w' := by
  have KI := Lib.hid (fun w => by have h := kind_at op hop w; rw [hk] at h; exact h)
  have hK := S.lt
  obtain ⟨R, hR⟩ : ∃ R, R = w.heap.size := ⟨_, rfl⟩
  obtain ⟨I, hI⟩ : ∃ I, I = w.heap.size + 1 := ⟨_, rfl⟩
  have b0 : Below w.heap.size w ((w.alloc (.cells #[.int .i64 0, .int .i64 0, .int .i64 0, .int .i64 0, .int .i64 0, .int .i64 0] 37)).alloc (.cells #[.int .i64 (op : Nat), .int .i64 0, .int .i64 0, .int .i64 0, .int .i64 0, .int .i64 0] 37)) := ((Below.refl _ w).alloc (Nat.le_refl _) _).alloc (by simp) _
  have rR : ((w.alloc (.cells #[.int .i64 0, .int .i64 0, .int .i64 0, .int .i64 0, .int .i64 0, .int .i64 0] 37)).alloc (.cells #[.int .i64 (op : Nat), .int .i64 0, .int .i64 0, .int .i64 0, .int .i64 0, .int .i64 0] 37)).heap[R]? = some (.cells #[.int .i64 0, .int .i64 0, .int .i64 0, .int .i64 0, .int .i64 0, .int .i64 0] 37 (0, 0)) := by rw [hR]; exact heap_alloc2_old w _ _
  have rI : ((w.alloc (.cells #[.int .i64 0, .int .i64 0, .int .i64 0, .int .i64 0, .int .i64 0, .int .i64 0] 37)).alloc (.cells #[.int .i64 (op : Nat), .int .i64 0, .int .i64 0, .int .i64 0, .int .i64 0, .int .i64 0] 37)).heap[I]? = some (.cells #[.int .i64 (op : Nat), .int .i64 0, .int .i64 0, .int .i64 0, .int .i64 0, .int .i64 0] 37 (0, 0)) := by rw [hI]; exact heap_alloc2_new w _ _
  have S0 := Lib.hid (S.below b0)
  have E0 := Lib.hid (E.below b0)
  have O0 := Lib.hid (OnK.of_below hK b0)
  have RI0 := Lib.hid rI
  have RR0 := Lib.hid rR
  have hKI : K < I := by omega
  have hBI : B ≤ I := by omega
  have hRI : R ≠ I := by omega
  have hwI : w.heap.size ≤ I := by omega
  have hKR : K < R := by omega
  have HR := Lib.hid hR
  have HI := Lib.hid hI
  clear S E rR rI b0 hk
  go_enter Tryz.func46, Tryz.ntmps46
  go_upto_region 2 with (fail)
  rw [← hI, ← hR]
  clear hR hI
  generalize World.alloc (World.alloc w _) _ = w0 at *
  have i0 : w0.cell? ⟨I, 0, none⟩ = some (.int .i64 (op : Nat)) := cell_of_row _ _ _ _ _ _ RI0.out
  have i1 : w0.cell? ⟨I, 1, none⟩ = some (.int .i64 0) := cell_of_row _ _ _ _ _ _ RI0.out
  have i2 : w0.cell? ⟨I, 2, none⟩ = some (.int .i64 0) := cell_of_row _ _ _ _ _ _ RI0.out
  have i3 : w0.cell? ⟨I, 3, none⟩ = some (.int .i64 0) := cell_of_row _ _ _ _ _ _ RI0.out
  have i4 : w0.cell? ⟨I, 4, none⟩ = some (.int .i64 0) := cell_of_row _ _ _ _ _ _ RI0.out
  have i5 : w0.cell? ⟨I, 5, none⟩ = some (.int .i64 0) := cell_of_row _ _ _ _ _ _ RI0.out
  have if_ : ∀ j, w0.frozen? ⟨I, j, none⟩ = false := fun j => frozen_of_row _ _ _ _ _ RI0.out
  have q0 : w0.cell? ⟨R, 0, none⟩ = some (.int .i64 0) := cell_of_row _ _ _ _ _ _ RR0.out
  have q1 : w0.cell? ⟨R, 1, none⟩ = some (.int .i64 0) := cell_of_row _ _ _ _ _ _ RR0.out
  have q2 : w0.cell? ⟨R, 2, none⟩ = some (.int .i64 0) := cell_of_row _ _ _ _ _ _ RR0.out
  have q3 : w0.cell? ⟨R, 3, none⟩ = some (.int .i64 0) := cell_of_row _ _ _ _ _ _ RR0.out
  have q4 : w0.cell? ⟨R, 4, none⟩ = some (.int .i64 0) := cell_of_row _ _ _ _ _ _ RR0.out
  have q5 : w0.cell? ⟨R, 5, none⟩ = some (.int .i64 0) := cell_of_row _ _ _ _ _ _ RR0.out
  have qf : ∀ j, w0.frozen? ⟨R, j, none⟩ = false := fun j => frozen_of_row _ _ _ _ _ RR0.out
  go_wp2_with (first | (go_at_call 58; refine (KI.out _).mono ?_; rintro e w' ⟨rfl, rfl⟩))
  go_at_call 77
  have L1 := Lib.hid (next_len S0.out)
  refine (snext_any _ _ S0.out).mono ?_
  rintro e w1 ⟨rfl, hs, ho⟩
  rename_i hKK
  refine hKK _ _ ?_
  clear hKK
  clear i0 i1 i2 i3 i4 i5 if_ q0 q1 q2 q3 q4 q5 qf
  have S1 := Lib.hid hs
  have E1 := Lib.hid (Env.low E0.out (ho.below.mono hBK))
  have O1 := Lib.hid (OnK.trans O0.out ho)
  have RI1 : Hid (w1.heap[I]? = some (.cells #[.int .i64 (op : Nat), .int .i64 0, .int .i64 0, .int .i64 0, .int .i64 0, .int .i64 0] 37 (0, 0))) := Lib.hid ((ho.over I hKI (heap_lt RI0.out)).trans RI0.out)
  have RR1 : Hid (w1.heap[R]? = some (.cells #[.int .i64 0, .int .i64 0, .int .i64 0, .int .i64 0, .int .i64 0, .int .i64 0] 37 (0, 0))) := Lib.hid ((ho.over R hKR (heap_lt RR0.out)).trans RR0.out)
  clear hs ho
  have i0 : w1.cell? ⟨I, 0, none⟩ = some (.int .i64 (op : Nat)) := cell_of_row _ _ _ _ _ _ RI1.out
  have i1 : w1.cell? ⟨I, 1, none⟩ = some (.int .i64 0) := cell_of_row _ _ _ _ _ _ RI1.out
  have i2 : w1.cell? ⟨I, 2, none⟩ = some (.int .i64 0) := cell_of_row _ _ _ _ _ _ RI1.out
  have i3 : w1.cell? ⟨I, 3, none⟩ = some (.int .i64 0) := cell_of_row _ _ _ _ _ _ RI1.out
  have i4 : w1.cell? ⟨I, 4, none⟩ = some (.int .i64 0) := cell_of_row _ _ _ _ _ _ RI1.out
  have i5 : w1.cell? ⟨I, 5, none⟩ = some (.int .i64 0) := cell_of_row _ _ _ _ _ _ RI1.out
  have if_ : ∀ j, w1.frozen? ⟨I, j, none⟩ = false := fun j => frozen_of_row _ _ _ _ _ RI1.out
  have q0 : w1.cell? ⟨R, 0, none⟩ = some (.int .i64 0) := cell_of_row _ _ _ _ _ _ RR1.out
  have q1 : w1.cell? ⟨R, 1, none⟩ = some (.int .i64 0) := cell_of_row _ _ _ _ _ _ RR1.out
  have q2 : w1.cell? ⟨R, 2, none⟩ = some (.int .i64 0) := cell_of_row _ _ _ _ _ _ RR1.out
  have q3 : w1.cell? ⟨R, 3, none⟩ = some (.int .i64 0) := cell_of_row _ _ _ _ _ _ RR1.out
  have q4 : w1.cell? ⟨R, 4, none⟩ = some (.int .i64 0) := cell_of_row _ _ _ _ _ _ RR1.out
  have q5 : w1.cell? ⟨R, 5, none⟩ = some (.int .i64 0) := cell_of_row _ _ _ _ _ _ RR1.out
  have qf : ∀ j, w1.frozen? ⟨R, j, none⟩ = false := fun j => frozen_of_row _ _ _ _ _ RR1.out
  go_wp2_with (first | (go_at_call 58; refine (KI.out _).mono ?_; rintro e w' ⟨rfl, rfl⟩))
  go_at_call 76
  refine (sreg_any hBK _ _ L1.out _ S1.out E1.out).mono ?_
  rintro e w2 ⟨rfl, hs, ho⟩
  rename_i hKK
  refine hKK _ _ ?_
  clear hKK
  clear i0 i1 i2 i3 i4 i5 if_ q0 q1 q2 q3 q4 q5 qf
  have S2 := Lib.hid hs
  have E2 := Lib.hid (Env.low E1.out (ho.below.mono hBK))
  have O2 := Lib.hid (OnK.trans O1.out ho)
  have RI2 : Hid (w2.heap[I]? = some (.cells #[.int .i64 (op : Nat), .int .i64 0, .int .i64 0, .int .i64 0, .int .i64 0, .int .i64 0] 37 (0, 0))) := Lib.hid ((ho.over I hKI (heap_lt RI1.out)).trans RI1.out)
  have RR2 : Hid (w2.heap[R]? = some (.cells #[.int .i64 0, .int .i64 0, .int .i64 0, .int .i64 0, .int .i64 0, .int .i64 0] 37 (0, 0))) := Lib.hid ((ho.over R hKR (heap_lt RR1.out)).trans RR1.out)
  clear hs ho
  have i0 : w2.cell? ⟨I, 0, none⟩ = some (.int .i64 (op : Nat)) := cell_of_row _ _ _ _ _ _ RI2.out
  have i1 : w2.cell? ⟨I, 1, none⟩ = some (.int .i64 0) := cell_of_row _ _ _ _ _ _ RI2.out
  have i2 : w2.cell? ⟨I, 2, none⟩ = some (.int .i64 0) := cell_of_row _ _ _ _ _ _ RI2.out
  have i3 : w2.cell? ⟨I, 3, none⟩ = some (.int .i64 0) := cell_of_row _ _ _ _ _ _ RI2.out
  have i4 : w2.cell? ⟨I, 4, none⟩ = some (.int .i64 0) := cell_of_row _ _ _ _ _ _ RI2.out
  have i5 : w2.cell? ⟨I, 5, none⟩ = some (.int .i64 0) := cell_of_row _ _ _ _ _ _ RI2.out
  have if_ : ∀ j, w2.frozen? ⟨I, j, none⟩ = false := fun j => frozen_of_row _ _ _ _ _ RI2.out
  have q0 : w2.cell? ⟨R, 0, none⟩ = some (.int .i64 0) := cell_of_row _ _ _ _ _ _ RR2.out
  have q1 : w2.cell? ⟨R, 1, none⟩ = some (.int .i64 0) := cell_of_row _ _ _ _ _ _ RR2.out
  have q2 : w2.cell? ⟨R, 2, none⟩ = some (.int .i64 0) := cell_of_row _ _ _ _ _ _ RR2.out
  have q3 : w2.cell? ⟨R, 3, none⟩ = some (.int .i64 0) := cell_of_row _ _ _ _ _ _ RR2.out
  have q4 : w2.cell? ⟨R, 4, none⟩ = some (.int .i64 0) := cell_of_row _ _ _ _ _ _ RR2.out
  have q5 : w2.cell? ⟨R, 5, none⟩ = some (.int .i64 0) := cell_of_row _ _ _ _ _ _ RR2.out
  have qf : ∀ j, w2.frozen? ⟨R, j, none⟩ = false := fun j => frozen_of_row _ _ _ _ _ RR2.out
  go_wp2_with (first | (go_at_call 58; refine (KI.out _).mono ?_; rintro e w' ⟨rfl, rfl⟩))
  go_at_call 77
  have L3 := Lib.hid (next_len S2.out)
  refine (snext_any _ _ S2.out).mono ?_
  rintro e w3 ⟨rfl, hs, ho⟩
  rename_i hKK
  refine hKK _ _ ?_
  clear hKK
  clear i0 i1 i2 i3 i4 i5 if_ q0 q1 q2 q3 q4 q5 qf
  have S3 := Lib.hid hs
  have E3 := Lib.hid (Env.low E2.out (ho.below.mono hBK))
  have O3 := Lib.hid (OnK.trans O2.out ho)
  have RI3 : Hid (w3.heap[I]? = some (.cells #[.int .i64 (op : Nat), .int .i64 0, .int .i64 0, .int .i64 0, .int .i64 0, .int .i64 0] 37 (0, 0))) := Lib.hid ((ho.over I hKI (heap_lt RI2.out)).trans RI2.out)
  have RR3 : Hid (w3.heap[R]? = some (.cells #[.int .i64 0, .int .i64 0, .int .i64 0, .int .i64 0, .int .i64 0, .int .i64 0] 37 (0, 0))) := Lib.hid ((ho.over R hKR (heap_lt RR2.out)).trans RR2.out)
  clear hs ho
  have i0 : w3.cell? ⟨I, 0, none⟩ = some (.int .i64 (op : Nat)) := cell_of_row _ _ _ _ _ _ RI3.out
  have i1 : w3.cell? ⟨I, 1, none⟩ = some (.int .i64 0) := cell_of_row _ _ _ _ _ _ RI3.out
  have i2 : w3.cell? ⟨I, 2, none⟩ = some (.int .i64 0) := cell_of_row _ _ _ _ _ _ RI3.out
  have i3 : w3.cell? ⟨I, 3, none⟩ = some (.int .i64 0) := cell_of_row _ _ _ _ _ _ RI3.out
  have i4 : w3.cell? ⟨I, 4, none⟩ = some (.int .i64 0) := cell_of_row _ _ _ _ _ _ RI3.out
  have i5 : w3.cell? ⟨I, 5, none⟩ = some (.int .i64 0) := cell_of_row _ _ _ _ _ _ RI3.out
  have if_ : ∀ j, w3.frozen? ⟨I, j, none⟩ = false := fun j => frozen_of_row _ _ _ _ _ RI3.out
  have q0 : w3.cell? ⟨R, 0, none⟩ = some (.int .i64 0) := cell_of_row _ _ _ _ _ _ RR3.out
  have q1 : w3.cell? ⟨R, 1, none⟩ = some (.int .i64 0) := cell_of_row _ _ _ _ _ _ RR3.out
  have q2 : w3.cell? ⟨R, 2, none⟩ = some (.int .i64 0) := cell_of_row _ _ _ _ _ _ RR3.out
  have q3 : w3.cell? ⟨R, 3, none⟩ = some (.int .i64 0) := cell_of_row _ _ _ _ _ _ RR3.out
  have q4 : w3.cell? ⟨R, 4, none⟩ = some (.int .i64 0) := cell_of_row _ _ _ _ _ _ RR3.out
  have q5 : w3.cell? ⟨R, 5, none⟩ = some (.int .i64 0) := cell_of_row _ _ _ _ _ _ RR3.out
  have qf : ∀ j, w3.frozen? ⟨R, j, none⟩ = false := fun j => frozen_of_row _ _ _ _ _ RR3.out
  go_wp2_with (first | (go_at_call 58; refine (KI.out _).mono ?_; rintro e w' ⟨rfl, rfl⟩))
  go_at_call 76
  refine (sreg_any hBK _ _ L3.out _ S3.out E3.out).mono ?_
  rintro e w4 ⟨rfl, hs, ho⟩
  rename_i hKK
  refine hKK _ _ ?_
  clear hKK
  clear i0 i1 i2 i3 i4 i5 if_ q0 q1 q2 q3 q4 q5 qf
  have S4 := Lib.hid hs
  have E4 := Lib.hid (Env.low E3.out (ho.below.mono hBK))
  have O4 := Lib.hid (OnK.trans O3.out ho)
  have RI4 : Hid (w4.heap[I]? = some (.cells #[.int .i64 (op : Nat), .int .i64 0, .int .i64 0, .int .i64 0, .int .i64 0, .int .i64 0] 37 (0, 0))) := Lib.hid ((ho.over I hKI (heap_lt RI3.out)).trans RI3.out)
  have RR4 : Hid (w4.heap[R]? = some (.cells #[.int .i64 0, .int .i64 0, .int .i64 0, .int .i64 0, .int .i64 0, .int .i64 0] 37 (0, 0))) := Lib.hid ((ho.over R hKR (heap_lt RR3.out)).trans RR3.out)
  clear hs ho
  have i0 : w4.cell? ⟨I, 0, none⟩ = some (.int .i64 (op : Nat)) := cell_of_row _ _ _ _ _ _ RI4.out
  have i1 : w4.cell? ⟨I, 1, none⟩ = some (.int .i64 0) := cell_of_row _ _ _ _ _ _ RI4.out
  have i2 : w4.cell? ⟨I, 2, none⟩ = some (.int .i64 0) := cell_of_row _ _ _ _ _ _ RI4.out
  have i3 : w4.cell? ⟨I, 3, none⟩ = some (.int .i64 0) := cell_of_row _ _ _ _ _ _ RI4.out
  have i4 : w4.cell? ⟨I, 4, none⟩ = some (.int .i64 0) := cell_of_row _ _ _ _ _ _ RI4.out
  have i5 : w4.cell? ⟨I, 5, none⟩ = some (.int .i64 0) := cell_of_row _ _ _ _ _ _ RI4.out
  have if_ : ∀ j, w4.frozen? ⟨I, j, none⟩ = false := fun j => frozen_of_row _ _ _ _ _ RI4.out
  have q0 : w4.cell? ⟨R, 0, none⟩ = some (.int .i64 0) := cell_of_row _ _ _ _ _ _ RR4.out
  have q1 : w4.cell? ⟨R, 1, none⟩ = some (.int .i64 0) := cell_of_row _ _ _ _ _ _ RR4.out
  have q2 : w4.cell? ⟨R, 2, none⟩ = some (.int .i64 0) := cell_of_row _ _ _ _ _ _ RR4.out
  have q3 : w4.cell? ⟨R, 3, none⟩ = some (.int .i64 0) := cell_of_row _ _ _ _ _ _ RR4.out
  have q4 : w4.cell? ⟨R, 4, none⟩ = some (.int .i64 0) := cell_of_row _ _ _ _ _ _ RR4.out
  have q5 : w4.cell? ⟨R, 5, none⟩ = some (.int .i64 0) := cell_of_row _ _ _ _ _ _ RR4.out
  have qf : ∀ j, w4.frozen? ⟨R, j, none⟩ = false := fun j => frozen_of_row _ _ _ _ _ RR4.out
  go_wp2_with (first | (go_at_call 58; refine (KI.out _).mono ?_; rintro e w' ⟨rfl, rfl⟩))
  go_at_call 77
  have L5 := Lib.hid (next_len S4.out)
  refine (snext_any _ _ S4.out).mono ?_
  rintro e w5 ⟨rfl, hs, ho⟩
  rename_i hKK
  refine hKK _ _ ?_
  clear hKK
  clear i0 i1 i2 i3 i4 i5 if_ q0 q1 q2 q3 q4 q5 qf
  have S5 := Lib.hid hs
  have E5 := Lib.hid (Env.low E4.out (ho.below.mono hBK))
  have O5 := Lib.hid (OnK.trans O4.out ho)
  have RI5 : Hid (w5.heap[I]? = some (.cells #[.int .i64 (op : Nat), .int .i64 0, .int .i64 0, .int .i64 0, .int .i64 0, .int .i64 0] 37 (0, 0))) := Lib.hid ((ho.over I hKI (heap_lt RI4.out)).trans RI4.out)
  have RR5 : Hid (w5.heap[R]? = some (.cells #[.int .i64 0, .int .i64 0, .int .i64 0, .int .i64 0, .int .i64 0, .int .i64 0] 37 (0, 0))) := Lib.hid ((ho.over R hKR (heap_lt RR4.out)).trans RR4.out)
  clear hs ho
  have i0 : w5.cell? ⟨I, 0, none⟩ = some (.int .i64 (op : Nat)) := cell_of_row _ _ _ _ _ _ RI5.out
  have i1 : w5.cell? ⟨I, 1, none⟩ = some (.int .i64 0) := cell_of_row _ _ _ _ _ _ RI5.out
  have i2 : w5.cell? ⟨I, 2, none⟩ = some (.int .i64 0) := cell_of_row _ _ _ _ _ _ RI5.out
  have i3 : w5.cell? ⟨I, 3, none⟩ = some (.int .i64 0) := cell_of_row _ _ _ _ _ _ RI5.out
  have i4 : w5.cell? ⟨I, 4, none⟩ = some (.int .i64 0) := cell_of_row _ _ _ _ _ _ RI5.out
  have i5 : w5.cell? ⟨I, 5, none⟩ = some (.int .i64 0) := cell_of_row _ _ _ _ _ _ RI5.out
  have if_ : ∀ j, w5.frozen? ⟨I, j, none⟩ = false := fun j => frozen_of_row _ _ _ _ _ RI5.out
  have q0 : w5.cell? ⟨R, 0, none⟩ = some (.int .i64 0) := cell_of_row _ _ _ _ _ _ RR5.out
  have q1 : w5.cell? ⟨R, 1, none⟩ = some (.int .i64 0) := cell_of_row _ _ _ _ _ _ RR5.out
  have q2 : w5.cell? ⟨R, 2, none⟩ = some (.int .i64 0) := cell_of_row _ _ _ _ _ _ RR5.out
  have q3 : w5.cell? ⟨R, 3, none⟩ = some (.int .i64 0) := cell_of_row _ _ _ _ _ _ RR5.out
  have q4 : w5.cell? ⟨R, 4, none⟩ = some (.int .i64 0) := cell_of_row _ _ _ _ _ _ RR5.out
  have q5 : w5.cell? ⟨R, 5, none⟩ = some (.int .i64 0) := cell_of_row _ _ _ _ _ _ RR5.out
  have qf : ∀ j, w5.frozen? ⟨R, j, none⟩ = false := fun j => frozen_of_row _ _ _ _ _ RR5.out
  go_wp2_with (first | (go_at_call 58; refine (KI.out _).mono ?_; rintro e w' ⟨rfl, rfl⟩))
  go_at_call 78
  refine (snum_any _ _ L5.out _ S5.out E5.out).mono ?_
  rintro e w6 ⟨rfl, hs, ho⟩
  rename_i hKK
  refine hKK _ _ ?_
  clear hKK
  clear i0 i1 i2 i3 i4 i5 if_ q0 q1 q2 q3 q4 q5 qf
  have S6 := Lib.hid hs
  have E6 := Lib.hid (Env.low E5.out (ho.below.mono hBK))
  have O6 := Lib.hid (OnK.trans O5.out ho)
  have RI6 : Hid (w6.heap[I]? = some (.cells #[.int .i64 (op : Nat), .int .i64 0, .int .i64 0, .int .i64 0, .int .i64 0, .int .i64 0] 37 (0, 0))) := Lib.hid ((ho.over I hKI (heap_lt RI5.out)).trans RI5.out)
  have RR6 : Hid (w6.heap[R]? = some (.cells #[.int .i64 0, .int .i64 0, .int .i64 0, .int .i64 0, .int .i64 0, .int .i64 0] 37 (0, 0))) := Lib.hid ((ho.over R hKR (heap_lt RR5.out)).trans RR5.out)
  clear hs ho
  have i0 : w6.cell? ⟨I, 0, none⟩ = some (.int .i64 (op : Nat)) := cell_of_row _ _ _ _ _ _ RI6.out
  have i1 : w6.cell? ⟨I, 1, none⟩ = some (.int .i64 0) := cell_of_row _ _ _ _ _ _ RI6.out
  have i2 : w6.cell? ⟨I, 2, none⟩ = some (.int .i64 0) := cell_of_row _ _ _ _ _ _ RI6.out
  have i3 : w6.cell? ⟨I, 3, none⟩ = some (.int .i64 0) := cell_of_row _ _ _ _ _ _ RI6.out
  have i4 : w6.cell? ⟨I, 4, none⟩ = some (.int .i64 0) := cell_of_row _ _ _ _ _ _ RI6.out
  have i5 : w6.cell? ⟨I, 5, none⟩ = some (.int .i64 0) := cell_of_row _ _ _ _ _ _ RI6.out
  have if_ : ∀ j, w6.frozen? ⟨I, j, none⟩ = false := fun j => frozen_of_row _ _ _ _ _ RI6.out
  have q0 : w6.cell? ⟨R, 0, none⟩ = some (.int .i64 0) := cell_of_row _ _ _ _ _ _ RR6.out
  have q1 : w6.cell? ⟨R, 1, none⟩ = some (.int .i64 0) := cell_of_row _ _ _ _ _ _ RR6.out
  have q2 : w6.cell? ⟨R, 2, none⟩ = some (.int .i64 0) := cell_of_row _ _ _ _ _ _ RR6.out
  have q3 : w6.cell? ⟨R, 3, none⟩ = some (.int .i64 0) := cell_of_row _ _ _ _ _ _ RR6.out
  have q4 : w6.cell? ⟨R, 4, none⟩ = some (.int .i64 0) := cell_of_row _ _ _ _ _ _ RR6.out
  have q5 : w6.cell? ⟨R, 5, none⟩ = some (.int .i64 0) := cell_of_row _ _ _ _ _ _ RR6.out
  have qf : ∀ j, w6.frozen? ⟨R, j, none⟩ = false := fun j => frozen_of_row _ _ _ _ _ RR6.out
  go_wp2
  refine bodyPost_ret (v := .agg #[.int .i64 (op : Nat), .int .i64 (s.next.2.reg s.next.1).1, .int .i64 ((s.next.2.reg s.next.1).2.next.2.reg (s.next.2.reg s.next.1).2.next.1).1, .int .i64 0, .int .i64 (((s.next.2.reg s.next.1).2.next.2.reg (s.next.2.reg s.next.1).2.next.1).2.next.2.num ((s.next.2.reg s.next.1).2.next.2.reg (s.next.2.reg s.next.1).2.next.1).2.next.1).1, .int .i64 0]) ?_ rfl ⟨rfl, ?_, ?_⟩
  · simp [results, Tryz.results46, go_sem, *]; try exact rfl
  · repeat' (first | (with_reducible exact S6.out) | (with_reducible refine ScanAt.other ?_ (by omega) _ _))
  · have hwR : w.heap.size ≤ R := by have := HR.out; omega
    repeat' (first | (with_reducible exact O6.out) | (with_reducible refine OnK.setOther ?_ hK (by omega) _ _))
set_option maxHeartbeats 4000000 in
theorem sread_H {B K : Nat} (hBK : B ≤ K) (op : Nat) (hop : op < 57) (hk : kN op = 72) (s : Scan) (w : World) (S : ScanAt K s w) (E : Env B w) : Calls Tryz.prog 46 #[.pointer (some ⟨K, 0, none⟩), .int .i64 op] w fun e w' => e = .returned (.agg #[.int .i64 (op : Nat), .int .i64 (s.next.2.reg s.next.1).1, .int .i64 ((s.next.2.reg s.next.1).2.next.2.reg (s.next.2.reg s.next.1).2.next.1).1, .int .i64 0, .int .i64 (((s.next.2.reg s.next.1).2.next.2.reg (s.next.2.reg s.next.1).2.next.1).2.next.2.num ((s.next.2.reg s.next.1).2.next.2.reg (s.next.2.reg s.next.1).2.next.1).2.next.1).1, .int .i64 0]) ∧ ScanAt K ((((s.next.2.reg s.next.1).2.next.2.reg (s.next.2.reg s.next.1).2.next.1).2.next.2.num ((s.next.2.reg s.next.1).2.next.2.reg (s.next.2.reg s.next.1).2.next.1).2.next.1).2) w' ∧ OnK K w w' := by
  have KI := Lib.hid (fun w => by have h := kind_at op hop w; rw [hk] at h; exact h)
  have hK := S.lt
  obtain ⟨R, hR⟩ : ∃ R, R = w.heap.size := ⟨_, rfl⟩
  obtain ⟨I, hI⟩ : ∃ I, I = w.heap.size + 1 := ⟨_, rfl⟩
  have b0 : Below w.heap.size w ((w.alloc (.cells #[.int .i64 0, .int .i64 0, .int .i64 0, .int .i64 0, .int .i64 0, .int .i64 0] 37)).alloc (.cells #[.int .i64 (op : Nat), .int .i64 0, .int .i64 0, .int .i64 0, .int .i64 0, .int .i64 0] 37)) := ((Below.refl _ w).alloc (Nat.le_refl _) _).alloc (by simp) _
  have rR : ((w.alloc (.cells #[.int .i64 0, .int .i64 0, .int .i64 0, .int .i64 0, .int .i64 0, .int .i64 0] 37)).alloc (.cells #[.int .i64 (op : Nat), .int .i64 0, .int .i64 0, .int .i64 0, .int .i64 0, .int .i64 0] 37)).heap[R]? = some (.cells #[.int .i64 0, .int .i64 0, .int .i64 0, .int .i64 0, .int .i64 0, .int .i64 0] 37 (0, 0)) := by rw [hR]; exact heap_alloc2_old w _ _
  have rI : ((w.alloc (.cells #[.int .i64 0, .int .i64 0, .int .i64 0, .int .i64 0, .int .i64 0, .int .i64 0] 37)).alloc (.cells #[.int .i64 (op : Nat), .int .i64 0, .int .i64 0, .int .i64 0, .int .i64 0, .int .i64 0] 37)).heap[I]? = some (.cells #[.int .i64 (op : Nat), .int .i64 0, .int .i64 0, .int .i64 0, .int .i64 0, .int .i64 0] 37 (0, 0)) := by rw [hI]; exact heap_alloc2_new w _ _
  have S0 := Lib.hid (S.below b0)
  have E0 := Lib.hid (E.below b0)
  have O0 := Lib.hid (OnK.of_below hK b0)
  have RI0 := Lib.hid rI
  have RR0 := Lib.hid rR
  have hKI : K < I := by omega
  have hBI : B ≤ I := by omega
  have hRI : R ≠ I := by omega
  have hwI : w.heap.size ≤ I := by omega
  have hKR : K < R := by omega
  have HR := Lib.hid hR
  have HI := Lib.hid hI
  clear S E rR rI b0 hk
  go_enter Tryz.func46, Tryz.ntmps46
  go_upto_region 2 with (fail)
  rw [← hI, ← hR]
  clear hR hI
  generalize World.alloc (World.alloc w _) _ = w0 at *
  have i0 : w0.cell? ⟨I, 0, none⟩ = some (.int .i64 (op : Nat)) := cell_of_row _ _ _ _ _ _ RI0.out
  have i1 : w0.cell? ⟨I, 1, none⟩ = some (.int .i64 0) := cell_of_row _ _ _ _ _ _ RI0.out
  have i2 : w0.cell? ⟨I, 2, none⟩ = some (.int .i64 0) := cell_of_row _ _ _ _ _ _ RI0.out
  have i3 : w0.cell? ⟨I, 3, none⟩ = some (.int .i64 0) := cell_of_row _ _ _ _ _ _ RI0.out
  have i4 : w0.cell? ⟨I, 4, none⟩ = some (.int .i64 0) := cell_of_row _ _ _ _ _ _ RI0.out
  have i5 : w0.cell? ⟨I, 5, none⟩ = some (.int .i64 0) := cell_of_row _ _ _ _ _ _ RI0.out
  have if_ : ∀ j, w0.frozen? ⟨I, j, none⟩ = false := fun j => frozen_of_row _ _ _ _ _ RI0.out
  have q0 : w0.cell? ⟨R, 0, none⟩ = some (.int .i64 0) := cell_of_row _ _ _ _ _ _ RR0.out
  have q1 : w0.cell? ⟨R, 1, none⟩ = some (.int .i64 0) := cell_of_row _ _ _ _ _ _ RR0.out
  have q2 : w0.cell? ⟨R, 2, none⟩ = some (.int .i64 0) := cell_of_row _ _ _ _ _ _ RR0.out
  have q3 : w0.cell? ⟨R, 3, none⟩ = some (.int .i64 0) := cell_of_row _ _ _ _ _ _ RR0.out
  have q4 : w0.cell? ⟨R, 4, none⟩ = some (.int .i64 0) := cell_of_row _ _ _ _ _ _ RR0.out
  have q5 : w0.cell? ⟨R, 5, none⟩ = some (.int .i64 0) := cell_of_row _ _ _ _ _ _ RR0.out
  have qf : ∀ j, w0.frozen? ⟨R, j, none⟩ = false := fun j => frozen_of_row _ _ _ _ _ RR0.out
  go_wp2_with (first | (go_at_call 58; refine (KI.out _).mono ?_; rintro e w' ⟨rfl, rfl⟩))
  go_at_call 77
  have L1 := Lib.hid (next_len S0.out)
  refine (snext_any _ _ S0.out).mono ?_
  rintro e w1 ⟨rfl, hs, ho⟩
  rename_i hKK
  refine hKK _ _ ?_
  clear hKK
  clear i0 i1 i2 i3 i4 i5 if_ q0 q1 q2 q3 q4 q5 qf
  have S1 := Lib.hid hs
  have E1 := Lib.hid (Env.low E0.out (ho.below.mono hBK))
  have O1 := Lib.hid (OnK.trans O0.out ho)
  have RI1 : Hid (w1.heap[I]? = some (.cells #[.int .i64 (op : Nat), .int .i64 0, .int .i64 0, .int .i64 0, .int .i64 0, .int .i64 0] 37 (0, 0))) := Lib.hid ((ho.over I hKI (heap_lt RI0.out)).trans RI0.out)
  have RR1 : Hid (w1.heap[R]? = some (.cells #[.int .i64 0, .int .i64 0, .int .i64 0, .int .i64 0, .int .i64 0, .int .i64 0] 37 (0, 0))) := Lib.hid ((ho.over R hKR (heap_lt RR0.out)).trans RR0.out)
  clear hs ho
  have i0 : w1.cell? ⟨I, 0, none⟩ = some (.int .i64 (op : Nat)) := cell_of_row _ _ _ _ _ _ RI1.out
  have i1 : w1.cell? ⟨I, 1, none⟩ = some (.int .i64 0) := cell_of_row _ _ _ _ _ _ RI1.out
  have i2 : w1.cell? ⟨I, 2, none⟩ = some (.int .i64 0) := cell_of_row _ _ _ _ _ _ RI1.out
  have i3 : w1.cell? ⟨I, 3, none⟩ = some (.int .i64 0) := cell_of_row _ _ _ _ _ _ RI1.out
  have i4 : w1.cell? ⟨I, 4, none⟩ = some (.int .i64 0) := cell_of_row _ _ _ _ _ _ RI1.out
  have i5 : w1.cell? ⟨I, 5, none⟩ = some (.int .i64 0) := cell_of_row _ _ _ _ _ _ RI1.out
  have if_ : ∀ j, w1.frozen? ⟨I, j, none⟩ = false := fun j => frozen_of_row _ _ _ _ _ RI1.out
  have q0 : w1.cell? ⟨R, 0, none⟩ = some (.int .i64 0) := cell_of_row _ _ _ _ _ _ RR1.out
  have q1 : w1.cell? ⟨R, 1, none⟩ = some (.int .i64 0) := cell_of_row _ _ _ _ _ _ RR1.out
  have q2 : w1.cell? ⟨R, 2, none⟩ = some (.int .i64 0) := cell_of_row _ _ _ _ _ _ RR1.out
  have q3 : w1.cell? ⟨R, 3, none⟩ = some (.int .i64 0) := cell_of_row _ _ _ _ _ _ RR1.out
  have q4 : w1.cell? ⟨R, 4, none⟩ = some (.int .i64 0) := cell_of_row _ _ _ _ _ _ RR1.out
  have q5 : w1.cell? ⟨R, 5, none⟩ = some (.int .i64 0) := cell_of_row _ _ _ _ _ _ RR1.out
  have qf : ∀ j, w1.frozen? ⟨R, j, none⟩ = false := fun j => frozen_of_row _ _ _ _ _ RR1.out
  go_wp2_with (first | (go_at_call 58; refine (KI.out _).mono ?_; rintro e w' ⟨rfl, rfl⟩))
  go_at_call 76
  refine (sreg_any hBK _ _ L1.out _ S1.out E1.out).mono ?_
  rintro e w2 ⟨rfl, hs, ho⟩
  rename_i hKK
  refine hKK _ _ ?_
  clear hKK
  clear i0 i1 i2 i3 i4 i5 if_ q0 q1 q2 q3 q4 q5 qf
  have S2 := Lib.hid hs
  have E2 := Lib.hid (Env.low E1.out (ho.below.mono hBK))
  have O2 := Lib.hid (OnK.trans O1.out ho)
  have RI2 : Hid (w2.heap[I]? = some (.cells #[.int .i64 (op : Nat), .int .i64 0, .int .i64 0, .int .i64 0, .int .i64 0, .int .i64 0] 37 (0, 0))) := Lib.hid ((ho.over I hKI (heap_lt RI1.out)).trans RI1.out)
  have RR2 : Hid (w2.heap[R]? = some (.cells #[.int .i64 0, .int .i64 0, .int .i64 0, .int .i64 0, .int .i64 0, .int .i64 0] 37 (0, 0))) := Lib.hid ((ho.over R hKR (heap_lt RR1.out)).trans RR1.out)
  clear hs ho
  have i0 : w2.cell? ⟨I, 0, none⟩ = some (.int .i64 (op : Nat)) := cell_of_row _ _ _ _ _ _ RI2.out
  have i1 : w2.cell? ⟨I, 1, none⟩ = some (.int .i64 0) := cell_of_row _ _ _ _ _ _ RI2.out
  have i2 : w2.cell? ⟨I, 2, none⟩ = some (.int .i64 0) := cell_of_row _ _ _ _ _ _ RI2.out
  have i3 : w2.cell? ⟨I, 3, none⟩ = some (.int .i64 0) := cell_of_row _ _ _ _ _ _ RI2.out
  have i4 : w2.cell? ⟨I, 4, none⟩ = some (.int .i64 0) := cell_of_row _ _ _ _ _ _ RI2.out
  have i5 : w2.cell? ⟨I, 5, none⟩ = some (.int .i64 0) := cell_of_row _ _ _ _ _ _ RI2.out
  have if_ : ∀ j, w2.frozen? ⟨I, j, none⟩ = false := fun j => frozen_of_row _ _ _ _ _ RI2.out
  have q0 : w2.cell? ⟨R, 0, none⟩ = some (.int .i64 0) := cell_of_row _ _ _ _ _ _ RR2.out
  have q1 : w2.cell? ⟨R, 1, none⟩ = some (.int .i64 0) := cell_of_row _ _ _ _ _ _ RR2.out
  have q2 : w2.cell? ⟨R, 2, none⟩ = some (.int .i64 0) := cell_of_row _ _ _ _ _ _ RR2.out
  have q3 : w2.cell? ⟨R, 3, none⟩ = some (.int .i64 0) := cell_of_row _ _ _ _ _ _ RR2.out
  have q4 : w2.cell? ⟨R, 4, none⟩ = some (.int .i64 0) := cell_of_row _ _ _ _ _ _ RR2.out
  have q5 : w2.cell? ⟨R, 5, none⟩ = some (.int .i64 0) := cell_of_row _ _ _ _ _ _ RR2.out
  have qf : ∀ j, w2.frozen? ⟨R, j, none⟩ = false := fun j => frozen_of_row _ _ _ _ _ RR2.out
  go_wp2_with (first | (go_at_call 58; refine (KI.out _).mono ?_; rintro e w' ⟨rfl, rfl⟩))
  go_at_call 77
  have L3 := Lib.hid (next_len S2.out)
  refine (snext_any _ _ S2.out).mono ?_
  rintro e w3 ⟨rfl, hs, ho⟩
  rename_i hKK
  refine hKK _ _ ?_
  clear hKK
  clear i0 i1 i2 i3 i4 i5 if_ q0 q1 q2 q3 q4 q5 qf
  have S3 := Lib.hid hs
  have E3 := Lib.hid (Env.low E2.out (ho.below.mono hBK))
  have O3 := Lib.hid (OnK.trans O2.out ho)
  have RI3 : Hid (w3.heap[I]? = some (.cells #[.int .i64 (op : Nat), .int .i64 0, .int .i64 0, .int .i64 0, .int .i64 0, .int .i64 0] 37 (0, 0))) := Lib.hid ((ho.over I hKI (heap_lt RI2.out)).trans RI2.out)
  have RR3 : Hid (w3.heap[R]? = some (.cells #[.int .i64 0, .int .i64 0, .int .i64 0, .int .i64 0, .int .i64 0, .int .i64 0] 37 (0, 0))) := Lib.hid ((ho.over R hKR (heap_lt RR2.out)).trans RR2.out)
  clear hs ho
  have i0 : w3.cell? ⟨I, 0, none⟩ = some (.int .i64 (op : Nat)) := cell_of_row _ _ _ _ _ _ RI3.out
  have i1 : w3.cell? ⟨I, 1, none⟩ = some (.int .i64 0) := cell_of_row _ _ _ _ _ _ RI3.out
  have i2 : w3.cell? ⟨I, 2, none⟩ = some (.int .i64 0) := cell_of_row _ _ _ _ _ _ RI3.out
  have i3 : w3.cell? ⟨I, 3, none⟩ = some (.int .i64 0) := cell_of_row _ _ _ _ _ _ RI3.out
  have i4 : w3.cell? ⟨I, 4, none⟩ = some (.int .i64 0) := cell_of_row _ _ _ _ _ _ RI3.out
  have i5 : w3.cell? ⟨I, 5, none⟩ = some (.int .i64 0) := cell_of_row _ _ _ _ _ _ RI3.out
  have if_ : ∀ j, w3.frozen? ⟨I, j, none⟩ = false := fun j => frozen_of_row _ _ _ _ _ RI3.out
  have q0 : w3.cell? ⟨R, 0, none⟩ = some (.int .i64 0) := cell_of_row _ _ _ _ _ _ RR3.out
  have q1 : w3.cell? ⟨R, 1, none⟩ = some (.int .i64 0) := cell_of_row _ _ _ _ _ _ RR3.out
  have q2 : w3.cell? ⟨R, 2, none⟩ = some (.int .i64 0) := cell_of_row _ _ _ _ _ _ RR3.out
  have q3 : w3.cell? ⟨R, 3, none⟩ = some (.int .i64 0) := cell_of_row _ _ _ _ _ _ RR3.out
  have q4 : w3.cell? ⟨R, 4, none⟩ = some (.int .i64 0) := cell_of_row _ _ _ _ _ _ RR3.out
  have q5 : w3.cell? ⟨R, 5, none⟩ = some (.int .i64 0) := cell_of_row _ _ _ _ _ _ RR3.out
  have qf : ∀ j, w3.frozen? ⟨R, j, none⟩ = false := fun j => frozen_of_row _ _ _ _ _ RR3.out
  go_wp2_with (first | (go_at_call 58; refine (KI.out _).mono ?_; rintro e w' ⟨rfl, rfl⟩))
  go_at_call 76
  refine (sreg_any hBK _ _ L3.out _ S3.out E3.out).mono ?_
  rintro e w4 ⟨rfl, hs, ho⟩
  rename_i hKK
  refine hKK _ _ ?_
  clear hKK
  clear i0 i1 i2 i3 i4 i5 if_ q0 q1 q2 q3 q4 q5 qf
  have S4 := Lib.hid hs
  have E4 := Lib.hid (Env.low E3.out (ho.below.mono hBK))
  have O4 := Lib.hid (OnK.trans O3.out ho)
  have RI4 : Hid (w4.heap[I]? = some (.cells #[.int .i64 (op : Nat), .int .i64 0, .int .i64 0, .int .i64 0, .int .i64 0, .int .i64 0] 37 (0, 0))) := Lib.hid ((ho.over I hKI (heap_lt RI3.out)).trans RI3.out)
  have RR4 : Hid (w4.heap[R]? = some (.cells #[.int .i64 0, .int .i64 0, .int .i64 0, .int .i64 0, .int .i64 0, .int .i64 0] 37 (0, 0))) := Lib.hid ((ho.over R hKR (heap_lt RR3.out)).trans RR3.out)
  clear hs ho
  have i0 : w4.cell? ⟨I, 0, none⟩ = some (.int .i64 (op : Nat)) := cell_of_row _ _ _ _ _ _ RI4.out
  have i1 : w4.cell? ⟨I, 1, none⟩ = some (.int .i64 0) := cell_of_row _ _ _ _ _ _ RI4.out
  have i2 : w4.cell? ⟨I, 2, none⟩ = some (.int .i64 0) := cell_of_row _ _ _ _ _ _ RI4.out
  have i3 : w4.cell? ⟨I, 3, none⟩ = some (.int .i64 0) := cell_of_row _ _ _ _ _ _ RI4.out
  have i4 : w4.cell? ⟨I, 4, none⟩ = some (.int .i64 0) := cell_of_row _ _ _ _ _ _ RI4.out
  have i5 : w4.cell? ⟨I, 5, none⟩ = some (.int .i64 0) := cell_of_row _ _ _ _ _ _ RI4.out
  have if_ : ∀ j, w4.frozen? ⟨I, j, none⟩ = false := fun j => frozen_of_row _ _ _ _ _ RI4.out
  have q0 : w4.cell? ⟨R, 0, none⟩ = some (.int .i64 0) := cell_of_row _ _ _ _ _ _ RR4.out
  have q1 : w4.cell? ⟨R, 1, none⟩ = some (.int .i64 0) := cell_of_row _ _ _ _ _ _ RR4.out
  have q2 : w4.cell? ⟨R, 2, none⟩ = some (.int .i64 0) := cell_of_row _ _ _ _ _ _ RR4.out
  have q3 : w4.cell? ⟨R, 3, none⟩ = some (.int .i64 0) := cell_of_row _ _ _ _ _ _ RR4.out
  have q4 : w4.cell? ⟨R, 4, none⟩ = some (.int .i64 0) := cell_of_row _ _ _ _ _ _ RR4.out
  have q5 : w4.cell? ⟨R, 5, none⟩ = some (.int .i64 0) := cell_of_row _ _ _ _ _ _ RR4.out
  have qf : ∀ j, w4.frozen? ⟨R, j, none⟩ = false := fun j => frozen_of_row _ _ _ _ _ RR4.out
  go_wp2_with (first | (go_at_call 58; refine (KI.out _).mono ?_; rintro e w' ⟨rfl, rfl⟩))
  go_at_call 77
  have L5 := Lib.hid (next_len S4.out)
  refine (snext_any _ _ S4.out).mono ?_
  rintro e w5 ⟨rfl, hs, ho⟩
  rename_i hKK
  refine hKK _ _ ?_
  clear hKK
  clear i0 i1 i2 i3 i4 i5 if_ q0 q1 q2 q3 q4 q5 qf
  have S5 := Lib.hid hs
  have E5 := Lib.hid (Env.low E4.out (ho.below.mono hBK))
  have O5 := Lib.hid (OnK.trans O4.out ho)
  have RI5 : Hid (w5.heap[I]? = some (.cells #[.int .i64 (op : Nat), .int .i64 0, .int .i64 0, .int .i64 0, .int .i64 0, .int .i64 0] 37 (0, 0))) := Lib.hid ((ho.over I hKI (heap_lt RI4.out)).trans RI4.out)
  have RR5 : Hid (w5.heap[R]? = some (.cells #[.int .i64 0, .int .i64 0, .int .i64 0, .int .i64 0, .int .i64 0, .int .i64 0] 37 (0, 0))) := Lib.hid ((ho.over R hKR (heap_lt RR4.out)).trans RR4.out)
  clear hs ho
  have i0 : w5.cell? ⟨I, 0, none⟩ = some (.int .i64 (op : Nat)) := cell_of_row _ _ _ _ _ _ RI5.out
  have i1 : w5.cell? ⟨I, 1, none⟩ = some (.int .i64 0) := cell_of_row _ _ _ _ _ _ RI5.out
  have i2 : w5.cell? ⟨I, 2, none⟩ = some (.int .i64 0) := cell_of_row _ _ _ _ _ _ RI5.out
  have i3 : w5.cell? ⟨I, 3, none⟩ = some (.int .i64 0) := cell_of_row _ _ _ _ _ _ RI5.out
  have i4 : w5.cell? ⟨I, 4, none⟩ = some (.int .i64 0) := cell_of_row _ _ _ _ _ _ RI5.out
  have i5 : w5.cell? ⟨I, 5, none⟩ = some (.int .i64 0) := cell_of_row _ _ _ _ _ _ RI5.out
  have if_ : ∀ j, w5.frozen? ⟨I, j, none⟩ = false := fun j => frozen_of_row _ _ _ _ _ RI5.out
  have q0 : w5.cell? ⟨R, 0, none⟩ = some (.int .i64 0) := cell_of_row _ _ _ _ _ _ RR5.out
  have q1 : w5.cell? ⟨R, 1, none⟩ = some (.int .i64 0) := cell_of_row _ _ _ _ _ _ RR5.out
  have q2 : w5.cell? ⟨R, 2, none⟩ = some (.int .i64 0) := cell_of_row _ _ _ _ _ _ RR5.out
  have q3 : w5.cell? ⟨R, 3, none⟩ = some (.int .i64 0) := cell_of_row _ _ _ _ _ _ RR5.out
  have q4 : w5.cell? ⟨R, 4, none⟩ = some (.int .i64 0) := cell_of_row _ _ _ _ _ _ RR5.out
  have q5 : w5.cell? ⟨R, 5, none⟩ = some (.int .i64 0) := cell_of_row _ _ _ _ _ _ RR5.out
  have qf : ∀ j, w5.frozen? ⟨R, j, none⟩ = false := fun j => frozen_of_row _ _ _ _ _ RR5.out
  go_wp2_with (first | (go_at_call 58; refine (KI.out _).mono ?_; rintro e w' ⟨rfl, rfl⟩))
  go_at_call 78
  refine (snum_any _ _ L5.out _ S5.out E5.out).mono ?_
  rintro e w6 ⟨rfl, hs, ho⟩
  rename_i hKK
  refine hKK _ _ ?_
  clear hKK
  clear i0 i1 i2 i3 i4 i5 if_ q0 q1 q2 q3 q4 q5 qf
  have S6 := Lib.hid hs
  have E6 := Lib.hid (Env.low E5.out (ho.below.mono hBK))
  have O6 := Lib.hid (OnK.trans O5.out ho)
  have RI6 : Hid (w6.heap[I]? = some (.cells #[.int .i64 (op : Nat), .int .i64 0, .int .i64 0, .int .i64 0, .int .i64 0, .int .i64 0] 37 (0, 0))) := Lib.hid ((ho.over I hKI (heap_lt RI5.out)).trans RI5.out)
  have RR6 : Hid (w6.heap[R]? = some (.cells #[.int .i64 0, .int .i64 0, .int .i64 0, .int .i64 0, .int .i64 0, .int .i64 0] 37 (0, 0))) := Lib.hid ((ho.over R hKR (heap_lt RR5.out)).trans RR5.out)
  clear hs ho
  have i0 : w6.cell? ⟨I, 0, none⟩ = some (.int .i64 (op : Nat)) := cell_of_row _ _ _ _ _ _ RI6.out
  have i1 : w6.cell? ⟨I, 1, none⟩ = some (.int .i64 0) := cell_of_row _ _ _ _ _ _ RI6.out
  have i2 : w6.cell? ⟨I, 2, none⟩ = some (.int .i64 0) := cell_of_row _ _ _ _ _ _ RI6.out
  have i3 : w6.cell? ⟨I, 3, none⟩ = some (.int .i64 0) := cell_of_row _ _ _ _ _ _ RI6.out
  have i4 : w6.cell? ⟨I, 4, none⟩ = some (.int .i64 0) := cell_of_row _ _ _ _ _ _ RI6.out
  have i5 : w6.cell? ⟨I, 5, none⟩ = some (.int .i64 0) := cell_of_row _ _ _ _ _ _ RI6.out
  have if_ : ∀ j, w6.frozen? ⟨I, j, none⟩ = false := fun j => frozen_of_row _ _ _ _ _ RI6.out
  have q0 : w6.cell? ⟨R, 0, none⟩ = some (.int .i64 0) := cell_of_row _ _ _ _ _ _ RR6.out
  have q1 : w6.cell? ⟨R, 1, none⟩ = some (.int .i64 0) := cell_of_row _ _ _ _ _ _ RR6.out
  have q2 : w6.cell? ⟨R, 2, none⟩ = some (.int .i64 0) := cell_of_row _ _ _ _ _ _ RR6.out
  have q3 : w6.cell? ⟨R, 3, none⟩ = some (.int .i64 0) := cell_of_row _ _ _ _ _ _ RR6.out
  have q4 : w6.cell? ⟨R, 4, none⟩ = some (.int .i64 0) := cell_of_row _ _ _ _ _ _ RR6.out
  have q5 : w6.cell? ⟨R, 5, none⟩ = some (.int .i64 0) := cell_of_row _ _ _ _ _ _ RR6.out
  have qf : ∀ j, w6.frozen? ⟨R, j, none⟩ = false := fun j => frozen_of_row _ _ _ _ _ RR6.out
  go_wp2
  refine bodyPost_ret (v := .agg #[.int .i64 (op : Nat), .int .i64 (s.next.2.reg s.next.1).1, .int .i64 ((s.next.2.reg s.next.1).2.next.2.reg (s.next.2.reg s.next.1).2.next.1).1, .int .i64 0, .int .i64 (((s.next.2.reg s.next.1).2.next.2.reg (s.next.2.reg s.next.1).2.next.1).2.next.2.num ((s.next.2.reg s.next.1).2.next.2.reg (s.next.2.reg s.next.1).2.next.1).2.next.1).1, .int .i64 0]) ?_ rfl ⟨rfl, ?_, ?_⟩
  · simp [results, Tryz.results46, go_sem, *]; try exact rfl
  · repeat' (first | (with_reducible exact S6.out) | (with_reducible refine ScanAt.other ?_ (by omega) _ _))
  · have hwR : w.heap.size ≤ R := by have := HR.out; omega
    repeat' (first | (with_reducible exact O6.out) | (with_reducible refine OnK.setOther ?_ hK (by omega) _ _))
set_option maxHeartbeats 4000000 in
theorem sread_B {B K : Nat} (hBK : B ≤ K) (op : Nat) (hop : op < 57) (hk : kN op = 66) (s : Scan) (w : World) (S : ScanAt K s w) (E : Env B w) : Calls Tryz.prog 46 #[.pointer (some ⟨K, 0, none⟩), .int .i64 op] w fun e w' => e = .returned (.agg #[.int .i64 (op : Nat), .int .i64 0, .int .i64 (s.next.2.reg s.next.1).1, .int .i64 ((s.next.2.reg s.next.1).2.next.2.reg (s.next.2.reg s.next.1).2.next.1).1, .int .i64 (((s.next.2.reg s.next.1).2.next.2.reg (s.next.2.reg s.next.1).2.next.1).2.next.2.num ((s.next.2.reg s.next.1).2.next.2.reg (s.next.2.reg s.next.1).2.next.1).2.next.1).1, .int .i64 0]) ∧ ScanAt K ((((s.next.2.reg s.next.1).2.next.2.reg (s.next.2.reg s.next.1).2.next.1).2.next.2.num ((s.next.2.reg s.next.1).2.next.2.reg (s.next.2.reg s.next.1).2.next.1).2.next.1).2) w' ∧ OnK K w w' := by
  have KI := Lib.hid (fun w => by have h := kind_at op hop w; rw [hk] at h; exact h)
  have hK := S.lt
  obtain ⟨R, hR⟩ : ∃ R, R = w.heap.size := ⟨_, rfl⟩
  obtain ⟨I, hI⟩ : ∃ I, I = w.heap.size + 1 := ⟨_, rfl⟩
  have b0 : Below w.heap.size w ((w.alloc (.cells #[.int .i64 0, .int .i64 0, .int .i64 0, .int .i64 0, .int .i64 0, .int .i64 0] 37)).alloc (.cells #[.int .i64 (op : Nat), .int .i64 0, .int .i64 0, .int .i64 0, .int .i64 0, .int .i64 0] 37)) := ((Below.refl _ w).alloc (Nat.le_refl _) _).alloc (by simp) _
  have rR : ((w.alloc (.cells #[.int .i64 0, .int .i64 0, .int .i64 0, .int .i64 0, .int .i64 0, .int .i64 0] 37)).alloc (.cells #[.int .i64 (op : Nat), .int .i64 0, .int .i64 0, .int .i64 0, .int .i64 0, .int .i64 0] 37)).heap[R]? = some (.cells #[.int .i64 0, .int .i64 0, .int .i64 0, .int .i64 0, .int .i64 0, .int .i64 0] 37 (0, 0)) := by rw [hR]; exact heap_alloc2_old w _ _
  have rI : ((w.alloc (.cells #[.int .i64 0, .int .i64 0, .int .i64 0, .int .i64 0, .int .i64 0, .int .i64 0] 37)).alloc (.cells #[.int .i64 (op : Nat), .int .i64 0, .int .i64 0, .int .i64 0, .int .i64 0, .int .i64 0] 37)).heap[I]? = some (.cells #[.int .i64 (op : Nat), .int .i64 0, .int .i64 0, .int .i64 0, .int .i64 0, .int .i64 0] 37 (0, 0)) := by rw [hI]; exact heap_alloc2_new w _ _
  have S0 := Lib.hid (S.below b0)
  have E0 := Lib.hid (E.below b0)
  have O0 := Lib.hid (OnK.of_below hK b0)
  have RI0 := Lib.hid rI
  have RR0 := Lib.hid rR
  have hKI : K < I := by omega
  have hBI : B ≤ I := by omega
  have hRI : R ≠ I := by omega
  have hwI : w.heap.size ≤ I := by omega
  have hKR : K < R := by omega
  have HR := Lib.hid hR
  have HI := Lib.hid hI
  clear S E rR rI b0 hk
  go_enter Tryz.func46, Tryz.ntmps46
  go_upto_region 2 with (fail)
  rw [← hI, ← hR]
  clear hR hI
  generalize World.alloc (World.alloc w _) _ = w0 at *
  have i0 : w0.cell? ⟨I, 0, none⟩ = some (.int .i64 (op : Nat)) := cell_of_row _ _ _ _ _ _ RI0.out
  have i1 : w0.cell? ⟨I, 1, none⟩ = some (.int .i64 0) := cell_of_row _ _ _ _ _ _ RI0.out
  have i2 : w0.cell? ⟨I, 2, none⟩ = some (.int .i64 0) := cell_of_row _ _ _ _ _ _ RI0.out
  have i3 : w0.cell? ⟨I, 3, none⟩ = some (.int .i64 0) := cell_of_row _ _ _ _ _ _ RI0.out
  have i4 : w0.cell? ⟨I, 4, none⟩ = some (.int .i64 0) := cell_of_row _ _ _ _ _ _ RI0.out
  have i5 : w0.cell? ⟨I, 5, none⟩ = some (.int .i64 0) := cell_of_row _ _ _ _ _ _ RI0.out
  have if_ : ∀ j, w0.frozen? ⟨I, j, none⟩ = false := fun j => frozen_of_row _ _ _ _ _ RI0.out
  have q0 : w0.cell? ⟨R, 0, none⟩ = some (.int .i64 0) := cell_of_row _ _ _ _ _ _ RR0.out
  have q1 : w0.cell? ⟨R, 1, none⟩ = some (.int .i64 0) := cell_of_row _ _ _ _ _ _ RR0.out
  have q2 : w0.cell? ⟨R, 2, none⟩ = some (.int .i64 0) := cell_of_row _ _ _ _ _ _ RR0.out
  have q3 : w0.cell? ⟨R, 3, none⟩ = some (.int .i64 0) := cell_of_row _ _ _ _ _ _ RR0.out
  have q4 : w0.cell? ⟨R, 4, none⟩ = some (.int .i64 0) := cell_of_row _ _ _ _ _ _ RR0.out
  have q5 : w0.cell? ⟨R, 5, none⟩ = some (.int .i64 0) := cell_of_row _ _ _ _ _ _ RR0.out
  have qf : ∀ j, w0.frozen? ⟨R, j, none⟩ = false := fun j => frozen_of_row _ _ _ _ _ RR0.out
  go_wp2_with (first | (go_at_call 58; refine (KI.out _).mono ?_; rintro e w' ⟨rfl, rfl⟩))
  go_at_call 77
  have L1 := Lib.hid (next_len S0.out)
  refine (snext_any _ _ S0.out).mono ?_
  rintro e w1 ⟨rfl, hs, ho⟩
  rename_i hKK
  refine hKK _ _ ?_
  clear hKK
  clear i0 i1 i2 i3 i4 i5 if_ q0 q1 q2 q3 q4 q5 qf
  have S1 := Lib.hid hs
  have E1 := Lib.hid (Env.low E0.out (ho.below.mono hBK))
  have O1 := Lib.hid (OnK.trans O0.out ho)
  have RI1 : Hid (w1.heap[I]? = some (.cells #[.int .i64 (op : Nat), .int .i64 0, .int .i64 0, .int .i64 0, .int .i64 0, .int .i64 0] 37 (0, 0))) := Lib.hid ((ho.over I hKI (heap_lt RI0.out)).trans RI0.out)
  have RR1 : Hid (w1.heap[R]? = some (.cells #[.int .i64 0, .int .i64 0, .int .i64 0, .int .i64 0, .int .i64 0, .int .i64 0] 37 (0, 0))) := Lib.hid ((ho.over R hKR (heap_lt RR0.out)).trans RR0.out)
  clear hs ho
  have i0 : w1.cell? ⟨I, 0, none⟩ = some (.int .i64 (op : Nat)) := cell_of_row _ _ _ _ _ _ RI1.out
  have i1 : w1.cell? ⟨I, 1, none⟩ = some (.int .i64 0) := cell_of_row _ _ _ _ _ _ RI1.out
  have i2 : w1.cell? ⟨I, 2, none⟩ = some (.int .i64 0) := cell_of_row _ _ _ _ _ _ RI1.out
  have i3 : w1.cell? ⟨I, 3, none⟩ = some (.int .i64 0) := cell_of_row _ _ _ _ _ _ RI1.out
  have i4 : w1.cell? ⟨I, 4, none⟩ = some (.int .i64 0) := cell_of_row _ _ _ _ _ _ RI1.out
  have i5 : w1.cell? ⟨I, 5, none⟩ = some (.int .i64 0) := cell_of_row _ _ _ _ _ _ RI1.out
  have if_ : ∀ j, w1.frozen? ⟨I, j, none⟩ = false := fun j => frozen_of_row _ _ _ _ _ RI1.out
  have q0 : w1.cell? ⟨R, 0, none⟩ = some (.int .i64 0) := cell_of_row _ _ _ _ _ _ RR1.out
  have q1 : w1.cell? ⟨R, 1, none⟩ = some (.int .i64 0) := cell_of_row _ _ _ _ _ _ RR1.out
  have q2 : w1.cell? ⟨R, 2, none⟩ = some (.int .i64 0) := cell_of_row _ _ _ _ _ _ RR1.out
  have q3 : w1.cell? ⟨R, 3, none⟩ = some (.int .i64 0) := cell_of_row _ _ _ _ _ _ RR1.out
  have q4 : w1.cell? ⟨R, 4, none⟩ = some (.int .i64 0) := cell_of_row _ _ _ _ _ _ RR1.out
  have q5 : w1.cell? ⟨R, 5, none⟩ = some (.int .i64 0) := cell_of_row _ _ _ _ _ _ RR1.out
  have qf : ∀ j, w1.frozen? ⟨R, j, none⟩ = false := fun j => frozen_of_row _ _ _ _ _ RR1.out
  go_wp2_with (first | (go_at_call 58; refine (KI.out _).mono ?_; rintro e w' ⟨rfl, rfl⟩))
  go_at_call 76
  refine (sreg_any hBK _ _ L1.out _ S1.out E1.out).mono ?_
  rintro e w2 ⟨rfl, hs, ho⟩
  rename_i hKK
  refine hKK _ _ ?_
  clear hKK
  clear i0 i1 i2 i3 i4 i5 if_ q0 q1 q2 q3 q4 q5 qf
  have S2 := Lib.hid hs
  have E2 := Lib.hid (Env.low E1.out (ho.below.mono hBK))
  have O2 := Lib.hid (OnK.trans O1.out ho)
  have RI2 : Hid (w2.heap[I]? = some (.cells #[.int .i64 (op : Nat), .int .i64 0, .int .i64 0, .int .i64 0, .int .i64 0, .int .i64 0] 37 (0, 0))) := Lib.hid ((ho.over I hKI (heap_lt RI1.out)).trans RI1.out)
  have RR2 : Hid (w2.heap[R]? = some (.cells #[.int .i64 0, .int .i64 0, .int .i64 0, .int .i64 0, .int .i64 0, .int .i64 0] 37 (0, 0))) := Lib.hid ((ho.over R hKR (heap_lt RR1.out)).trans RR1.out)
  clear hs ho
  have i0 : w2.cell? ⟨I, 0, none⟩ = some (.int .i64 (op : Nat)) := cell_of_row _ _ _ _ _ _ RI2.out
  have i1 : w2.cell? ⟨I, 1, none⟩ = some (.int .i64 0) := cell_of_row _ _ _ _ _ _ RI2.out
  have i2 : w2.cell? ⟨I, 2, none⟩ = some (.int .i64 0) := cell_of_row _ _ _ _ _ _ RI2.out
  have i3 : w2.cell? ⟨I, 3, none⟩ = some (.int .i64 0) := cell_of_row _ _ _ _ _ _ RI2.out
  have i4 : w2.cell? ⟨I, 4, none⟩ = some (.int .i64 0) := cell_of_row _ _ _ _ _ _ RI2.out
  have i5 : w2.cell? ⟨I, 5, none⟩ = some (.int .i64 0) := cell_of_row _ _ _ _ _ _ RI2.out
  have if_ : ∀ j, w2.frozen? ⟨I, j, none⟩ = false := fun j => frozen_of_row _ _ _ _ _ RI2.out
  have q0 : w2.cell? ⟨R, 0, none⟩ = some (.int .i64 0) := cell_of_row _ _ _ _ _ _ RR2.out
  have q1 : w2.cell? ⟨R, 1, none⟩ = some (.int .i64 0) := cell_of_row _ _ _ _ _ _ RR2.out
  have q2 : w2.cell? ⟨R, 2, none⟩ = some (.int .i64 0) := cell_of_row _ _ _ _ _ _ RR2.out
  have q3 : w2.cell? ⟨R, 3, none⟩ = some (.int .i64 0) := cell_of_row _ _ _ _ _ _ RR2.out
  have q4 : w2.cell? ⟨R, 4, none⟩ = some (.int .i64 0) := cell_of_row _ _ _ _ _ _ RR2.out
  have q5 : w2.cell? ⟨R, 5, none⟩ = some (.int .i64 0) := cell_of_row _ _ _ _ _ _ RR2.out
  have qf : ∀ j, w2.frozen? ⟨R, j, none⟩ = false := fun j => frozen_of_row _ _ _ _ _ RR2.out
  go_wp2_with (first | (go_at_call 58; refine (KI.out _).mono ?_; rintro e w' ⟨rfl, rfl⟩))
  go_at_call 77
  have L3 := Lib.hid (next_len S2.out)
  refine (snext_any _ _ S2.out).mono ?_
  rintro e w3 ⟨rfl, hs, ho⟩
  rename_i hKK
  refine hKK _ _ ?_
  clear hKK
  clear i0 i1 i2 i3 i4 i5 if_ q0 q1 q2 q3 q4 q5 qf
  have S3 := Lib.hid hs
  have E3 := Lib.hid (Env.low E2.out (ho.below.mono hBK))
  have O3 := Lib.hid (OnK.trans O2.out ho)
  have RI3 : Hid (w3.heap[I]? = some (.cells #[.int .i64 (op : Nat), .int .i64 0, .int .i64 0, .int .i64 0, .int .i64 0, .int .i64 0] 37 (0, 0))) := Lib.hid ((ho.over I hKI (heap_lt RI2.out)).trans RI2.out)
  have RR3 : Hid (w3.heap[R]? = some (.cells #[.int .i64 0, .int .i64 0, .int .i64 0, .int .i64 0, .int .i64 0, .int .i64 0] 37 (0, 0))) := Lib.hid ((ho.over R hKR (heap_lt RR2.out)).trans RR2.out)
  clear hs ho
  have i0 : w3.cell? ⟨I, 0, none⟩ = some (.int .i64 (op : Nat)) := cell_of_row _ _ _ _ _ _ RI3.out
  have i1 : w3.cell? ⟨I, 1, none⟩ = some (.int .i64 0) := cell_of_row _ _ _ _ _ _ RI3.out
  have i2 : w3.cell? ⟨I, 2, none⟩ = some (.int .i64 0) := cell_of_row _ _ _ _ _ _ RI3.out
  have i3 : w3.cell? ⟨I, 3, none⟩ = some (.int .i64 0) := cell_of_row _ _ _ _ _ _ RI3.out
  have i4 : w3.cell? ⟨I, 4, none⟩ = some (.int .i64 0) := cell_of_row _ _ _ _ _ _ RI3.out
  have i5 : w3.cell? ⟨I, 5, none⟩ = some (.int .i64 0) := cell_of_row _ _ _ _ _ _ RI3.out
  have if_ : ∀ j, w3.frozen? ⟨I, j, none⟩ = false := fun j => frozen_of_row _ _ _ _ _ RI3.out
  have q0 : w3.cell? ⟨R, 0, none⟩ = some (.int .i64 0) := cell_of_row _ _ _ _ _ _ RR3.out
  have q1 : w3.cell? ⟨R, 1, none⟩ = some (.int .i64 0) := cell_of_row _ _ _ _ _ _ RR3.out
  have q2 : w3.cell? ⟨R, 2, none⟩ = some (.int .i64 0) := cell_of_row _ _ _ _ _ _ RR3.out
  have q3 : w3.cell? ⟨R, 3, none⟩ = some (.int .i64 0) := cell_of_row _ _ _ _ _ _ RR3.out
  have q4 : w3.cell? ⟨R, 4, none⟩ = some (.int .i64 0) := cell_of_row _ _ _ _ _ _ RR3.out
  have q5 : w3.cell? ⟨R, 5, none⟩ = some (.int .i64 0) := cell_of_row _ _ _ _ _ _ RR3.out
  have qf : ∀ j, w3.frozen? ⟨R, j, none⟩ = false := fun j => frozen_of_row _ _ _ _ _ RR3.out
  go_wp2_with (first | (go_at_call 58; refine (KI.out _).mono ?_; rintro e w' ⟨rfl, rfl⟩))
  go_at_call 76
  refine (sreg_any hBK _ _ L3.out _ S3.out E3.out).mono ?_
  rintro e w4 ⟨rfl, hs, ho⟩
  rename_i hKK
  refine hKK _ _ ?_
  clear hKK
  clear i0 i1 i2 i3 i4 i5 if_ q0 q1 q2 q3 q4 q5 qf
  have S4 := Lib.hid hs
  have E4 := Lib.hid (Env.low E3.out (ho.below.mono hBK))
  have O4 := Lib.hid (OnK.trans O3.out ho)
  have RI4 : Hid (w4.heap[I]? = some (.cells #[.int .i64 (op : Nat), .int .i64 0, .int .i64 0, .int .i64 0, .int .i64 0, .int .i64 0] 37 (0, 0))) := Lib.hid ((ho.over I hKI (heap_lt RI3.out)).trans RI3.out)
  have RR4 : Hid (w4.heap[R]? = some (.cells #[.int .i64 0, .int .i64 0, .int .i64 0, .int .i64 0, .int .i64 0, .int .i64 0] 37 (0, 0))) := Lib.hid ((ho.over R hKR (heap_lt RR3.out)).trans RR3.out)
  clear hs ho
  have i0 : w4.cell? ⟨I, 0, none⟩ = some (.int .i64 (op : Nat)) := cell_of_row _ _ _ _ _ _ RI4.out
  have i1 : w4.cell? ⟨I, 1, none⟩ = some (.int .i64 0) := cell_of_row _ _ _ _ _ _ RI4.out
  have i2 : w4.cell? ⟨I, 2, none⟩ = some (.int .i64 0) := cell_of_row _ _ _ _ _ _ RI4.out
  have i3 : w4.cell? ⟨I, 3, none⟩ = some (.int .i64 0) := cell_of_row _ _ _ _ _ _ RI4.out
  have i4 : w4.cell? ⟨I, 4, none⟩ = some (.int .i64 0) := cell_of_row _ _ _ _ _ _ RI4.out
  have i5 : w4.cell? ⟨I, 5, none⟩ = some (.int .i64 0) := cell_of_row _ _ _ _ _ _ RI4.out
  have if_ : ∀ j, w4.frozen? ⟨I, j, none⟩ = false := fun j => frozen_of_row _ _ _ _ _ RI4.out
  have q0 : w4.cell? ⟨R, 0, none⟩ = some (.int .i64 0) := cell_of_row _ _ _ _ _ _ RR4.out
  have q1 : w4.cell? ⟨R, 1, none⟩ = some (.int .i64 0) := cell_of_row _ _ _ _ _ _ RR4.out
  have q2 : w4.cell? ⟨R, 2, none⟩ = some (.int .i64 0) := cell_of_row _ _ _ _ _ _ RR4.out
  have q3 : w4.cell? ⟨R, 3, none⟩ = some (.int .i64 0) := cell_of_row _ _ _ _ _ _ RR4.out
  have q4 : w4.cell? ⟨R, 4, none⟩ = some (.int .i64 0) := cell_of_row _ _ _ _ _ _ RR4.out
  have q5 : w4.cell? ⟨R, 5, none⟩ = some (.int .i64 0) := cell_of_row _ _ _ _ _ _ RR4.out
  have qf : ∀ j, w4.frozen? ⟨R, j, none⟩ = false := fun j => frozen_of_row _ _ _ _ _ RR4.out
  go_wp2_with (first | (go_at_call 58; refine (KI.out _).mono ?_; rintro e w' ⟨rfl, rfl⟩))
  go_at_call 77
  have L5 := Lib.hid (next_len S4.out)
  refine (snext_any _ _ S4.out).mono ?_
  rintro e w5 ⟨rfl, hs, ho⟩
  rename_i hKK
  refine hKK _ _ ?_
  clear hKK
  clear i0 i1 i2 i3 i4 i5 if_ q0 q1 q2 q3 q4 q5 qf
  have S5 := Lib.hid hs
  have E5 := Lib.hid (Env.low E4.out (ho.below.mono hBK))
  have O5 := Lib.hid (OnK.trans O4.out ho)
  have RI5 : Hid (w5.heap[I]? = some (.cells #[.int .i64 (op : Nat), .int .i64 0, .int .i64 0, .int .i64 0, .int .i64 0, .int .i64 0] 37 (0, 0))) := Lib.hid ((ho.over I hKI (heap_lt RI4.out)).trans RI4.out)
  have RR5 : Hid (w5.heap[R]? = some (.cells #[.int .i64 0, .int .i64 0, .int .i64 0, .int .i64 0, .int .i64 0, .int .i64 0] 37 (0, 0))) := Lib.hid ((ho.over R hKR (heap_lt RR4.out)).trans RR4.out)
  clear hs ho
  have i0 : w5.cell? ⟨I, 0, none⟩ = some (.int .i64 (op : Nat)) := cell_of_row _ _ _ _ _ _ RI5.out
  have i1 : w5.cell? ⟨I, 1, none⟩ = some (.int .i64 0) := cell_of_row _ _ _ _ _ _ RI5.out
  have i2 : w5.cell? ⟨I, 2, none⟩ = some (.int .i64 0) := cell_of_row _ _ _ _ _ _ RI5.out
  have i3 : w5.cell? ⟨I, 3, none⟩ = some (.int .i64 0) := cell_of_row _ _ _ _ _ _ RI5.out
  have i4 : w5.cell? ⟨I, 4, none⟩ = some (.int .i64 0) := cell_of_row _ _ _ _ _ _ RI5.out
  have i5 : w5.cell? ⟨I, 5, none⟩ = some (.int .i64 0) := cell_of_row _ _ _ _ _ _ RI5.out
  have if_ : ∀ j, w5.frozen? ⟨I, j, none⟩ = false := fun j => frozen_of_row _ _ _ _ _ RI5.out
  have q0 : w5.cell? ⟨R, 0, none⟩ = some (.int .i64 0) := cell_of_row _ _ _ _ _ _ RR5.out
  have q1 : w5.cell? ⟨R, 1, none⟩ = some (.int .i64 0) := cell_of_row _ _ _ _ _ _ RR5.out
  have q2 : w5.cell? ⟨R, 2, none⟩ = some (.int .i64 0) := cell_of_row _ _ _ _ _ _ RR5.out
  have q3 : w5.cell? ⟨R, 3, none⟩ = some (.int .i64 0) := cell_of_row _ _ _ _ _ _ RR5.out
  have q4 : w5.cell? ⟨R, 4, none⟩ = some (.int .i64 0) := cell_of_row _ _ _ _ _ _ RR5.out
  have q5 : w5.cell? ⟨R, 5, none⟩ = some (.int .i64 0) := cell_of_row _ _ _ _ _ _ RR5.out
  have qf : ∀ j, w5.frozen? ⟨R, j, none⟩ = false := fun j => frozen_of_row _ _ _ _ _ RR5.out
  go_wp2_with (first | (go_at_call 58; refine (KI.out _).mono ?_; rintro e w' ⟨rfl, rfl⟩))
  go_at_call 78
  refine (snum_any _ _ L5.out _ S5.out E5.out).mono ?_
  rintro e w6 ⟨rfl, hs, ho⟩
  rename_i hKK
  refine hKK _ _ ?_
  clear hKK
  clear i0 i1 i2 i3 i4 i5 if_ q0 q1 q2 q3 q4 q5 qf
  have S6 := Lib.hid hs
  have E6 := Lib.hid (Env.low E5.out (ho.below.mono hBK))
  have O6 := Lib.hid (OnK.trans O5.out ho)
  have RI6 : Hid (w6.heap[I]? = some (.cells #[.int .i64 (op : Nat), .int .i64 0, .int .i64 0, .int .i64 0, .int .i64 0, .int .i64 0] 37 (0, 0))) := Lib.hid ((ho.over I hKI (heap_lt RI5.out)).trans RI5.out)
  have RR6 : Hid (w6.heap[R]? = some (.cells #[.int .i64 0, .int .i64 0, .int .i64 0, .int .i64 0, .int .i64 0, .int .i64 0] 37 (0, 0))) := Lib.hid ((ho.over R hKR (heap_lt RR5.out)).trans RR5.out)
  clear hs ho
  have i0 : w6.cell? ⟨I, 0, none⟩ = some (.int .i64 (op : Nat)) := cell_of_row _ _ _ _ _ _ RI6.out
  have i1 : w6.cell? ⟨I, 1, none⟩ = some (.int .i64 0) := cell_of_row _ _ _ _ _ _ RI6.out
  have i2 : w6.cell? ⟨I, 2, none⟩ = some (.int .i64 0) := cell_of_row _ _ _ _ _ _ RI6.out
  have i3 : w6.cell? ⟨I, 3, none⟩ = some (.int .i64 0) := cell_of_row _ _ _ _ _ _ RI6.out
  have i4 : w6.cell? ⟨I, 4, none⟩ = some (.int .i64 0) := cell_of_row _ _ _ _ _ _ RI6.out
  have i5 : w6.cell? ⟨I, 5, none⟩ = some (.int .i64 0) := cell_of_row _ _ _ _ _ _ RI6.out
  have if_ : ∀ j, w6.frozen? ⟨I, j, none⟩ = false := fun j => frozen_of_row _ _ _ _ _ RI6.out
  have q0 : w6.cell? ⟨R, 0, none⟩ = some (.int .i64 0) := cell_of_row _ _ _ _ _ _ RR6.out
  have q1 : w6.cell? ⟨R, 1, none⟩ = some (.int .i64 0) := cell_of_row _ _ _ _ _ _ RR6.out
  have q2 : w6.cell? ⟨R, 2, none⟩ = some (.int .i64 0) := cell_of_row _ _ _ _ _ _ RR6.out
  have q3 : w6.cell? ⟨R, 3, none⟩ = some (.int .i64 0) := cell_of_row _ _ _ _ _ _ RR6.out
  have q4 : w6.cell? ⟨R, 4, none⟩ = some (.int .i64 0) := cell_of_row _ _ _ _ _ _ RR6.out
  have q5 : w6.cell? ⟨R, 5, none⟩ = some (.int .i64 0) := cell_of_row _ _ _ _ _ _ RR6.out
  have qf : ∀ j, w6.frozen? ⟨R, j, none⟩ = false := fun j => frozen_of_row _ _ _ _ _ RR6.out
  go_wp2
  refine bodyPost_ret (v := .agg #[.int .i64 (op : Nat), .int .i64 0, .int .i64 (s.next.2.reg s.next.1).1, .int .i64 ((s.next.2.reg s.next.1).2.next.2.reg (s.next.2.reg s.next.1).2.next.1).1, .int .i64 (((s.next.2.reg s.next.1).2.next.2.reg (s.next.2.reg s.next.1).2.next.1).2.next.2.num ((s.next.2.reg s.next.1).2.next.2.reg (s.next.2.reg s.next.1).2.next.1).2.next.1).1, .int .i64 0]) ?_ rfl ⟨rfl, ?_, ?_⟩
  · simp [results, Tryz.results46, go_sem, *]; try exact rfl
  · repeat' (first | (with_reducible exact S6.out) | (with_reducible refine ScanAt.other ?_ (by omega) _ _))
  · have hwR : w.heap.size ≤ R := by have := HR.out; omega
    repeat' (first | (with_reducible exact O6.out) | (with_reducible refine OnK.setOther ?_ hK (by omega) _ _))
set_option maxHeartbeats 4000000 in
theorem sread_R {B K : Nat} (hBK : B ≤ K) (op : Nat) (hop : op < 57) (hk : kN op = 82) (s : Scan) (w : World) (S : ScanAt K s w) (E : Env B w) : Calls Tryz.prog 46 #[.pointer (some ⟨K, 0, none⟩), .int .i64 op] w fun e w' => e = .returned (.agg #[.int .i64 (op : Nat), .int .i64 (s.next.2.reg s.next.1).1, .int .i64 ((s.next.2.reg s.next.1).2.next.2.reg (s.next.2.reg s.next.1).2.next.1).1, .int .i64 (((s.next.2.reg s.next.1).2.next.2.reg (s.next.2.reg s.next.1).2.next.1).2.next.2.reg ((s.next.2.reg s.next.1).2.next.2.reg (s.next.2.reg s.next.1).2.next.1).2.next.1).1, .int .i64 0, .int .i64 0]) ∧ ScanAt K ((((s.next.2.reg s.next.1).2.next.2.reg (s.next.2.reg s.next.1).2.next.1).2.next.2.reg ((s.next.2.reg s.next.1).2.next.2.reg (s.next.2.reg s.next.1).2.next.1).2.next.1).2) w' ∧ OnK K w w' := by
  have KI := Lib.hid (fun w => by have h := kind_at op hop w; rw [hk] at h; exact h)
  have hK := S.lt
  obtain ⟨R, hR⟩ : ∃ R, R = w.heap.size := ⟨_, rfl⟩
  obtain ⟨I, hI⟩ : ∃ I, I = w.heap.size + 1 := ⟨_, rfl⟩
  have b0 : Below w.heap.size w ((w.alloc (.cells #[.int .i64 0, .int .i64 0, .int .i64 0, .int .i64 0, .int .i64 0, .int .i64 0] 37)).alloc (.cells #[.int .i64 (op : Nat), .int .i64 0, .int .i64 0, .int .i64 0, .int .i64 0, .int .i64 0] 37)) := ((Below.refl _ w).alloc (Nat.le_refl _) _).alloc (by simp) _
  have rR : ((w.alloc (.cells #[.int .i64 0, .int .i64 0, .int .i64 0, .int .i64 0, .int .i64 0, .int .i64 0] 37)).alloc (.cells #[.int .i64 (op : Nat), .int .i64 0, .int .i64 0, .int .i64 0, .int .i64 0, .int .i64 0] 37)).heap[R]? = some (.cells #[.int .i64 0, .int .i64 0, .int .i64 0, .int .i64 0, .int .i64 0, .int .i64 0] 37 (0, 0)) := by rw [hR]; exact heap_alloc2_old w _ _
  have rI : ((w.alloc (.cells #[.int .i64 0, .int .i64 0, .int .i64 0, .int .i64 0, .int .i64 0, .int .i64 0] 37)).alloc (.cells #[.int .i64 (op : Nat), .int .i64 0, .int .i64 0, .int .i64 0, .int .i64 0, .int .i64 0] 37)).heap[I]? = some (.cells #[.int .i64 (op : Nat), .int .i64 0, .int .i64 0, .int .i64 0, .int .i64 0, .int .i64 0] 37 (0, 0)) := by rw [hI]; exact heap_alloc2_new w _ _
  have S0 := Lib.hid (S.below b0)
  have E0 := Lib.hid (E.below b0)
  have O0 := Lib.hid (OnK.of_below hK b0)
  have RI0 := Lib.hid rI
  have RR0 := Lib.hid rR
  have hKI : K < I := by omega
  have hBI : B ≤ I := by omega
  have hRI : R ≠ I := by omega
  have hwI : w.heap.size ≤ I := by omega
  have hKR : K < R := by omega
  have HR := Lib.hid hR
  have HI := Lib.hid hI
  clear S E rR rI b0 hk
  go_enter Tryz.func46, Tryz.ntmps46
  go_upto_region 2 with (fail)
  rw [← hI, ← hR]
  clear hR hI
  generalize World.alloc (World.alloc w _) _ = w0 at *
  have i0 : w0.cell? ⟨I, 0, none⟩ = some (.int .i64 (op : Nat)) := cell_of_row _ _ _ _ _ _ RI0.out
  have i1 : w0.cell? ⟨I, 1, none⟩ = some (.int .i64 0) := cell_of_row _ _ _ _ _ _ RI0.out
  have i2 : w0.cell? ⟨I, 2, none⟩ = some (.int .i64 0) := cell_of_row _ _ _ _ _ _ RI0.out
  have i3 : w0.cell? ⟨I, 3, none⟩ = some (.int .i64 0) := cell_of_row _ _ _ _ _ _ RI0.out
  have i4 : w0.cell? ⟨I, 4, none⟩ = some (.int .i64 0) := cell_of_row _ _ _ _ _ _ RI0.out
  have i5 : w0.cell? ⟨I, 5, none⟩ = some (.int .i64 0) := cell_of_row _ _ _ _ _ _ RI0.out
  have if_ : ∀ j, w0.frozen? ⟨I, j, none⟩ = false := fun j => frozen_of_row _ _ _ _ _ RI0.out
  have q0 : w0.cell? ⟨R, 0, none⟩ = some (.int .i64 0) := cell_of_row _ _ _ _ _ _ RR0.out
  have q1 : w0.cell? ⟨R, 1, none⟩ = some (.int .i64 0) := cell_of_row _ _ _ _ _ _ RR0.out
  have q2 : w0.cell? ⟨R, 2, none⟩ = some (.int .i64 0) := cell_of_row _ _ _ _ _ _ RR0.out
  have q3 : w0.cell? ⟨R, 3, none⟩ = some (.int .i64 0) := cell_of_row _ _ _ _ _ _ RR0.out
  have q4 : w0.cell? ⟨R, 4, none⟩ = some (.int .i64 0) := cell_of_row _ _ _ _ _ _ RR0.out
  have q5 : w0.cell? ⟨R, 5, none⟩ = some (.int .i64 0) := cell_of_row _ _ _ _ _ _ RR0.out
  have qf : ∀ j, w0.frozen? ⟨R, j, none⟩ = false := fun j => frozen_of_row _ _ _ _ _ RR0.out
  go_wp2_with (first | (go_at_call 58; refine (KI.out _).mono ?_; rintro e w' ⟨rfl, rfl⟩))
  go_at_call 77
  have L1 := Lib.hid (next_len S0.out)
  refine (snext_any _ _ S0.out).mono ?_
  rintro e w1 ⟨rfl, hs, ho⟩
  rename_i hKK
  refine hKK _ _ ?_
  clear hKK
  clear i0 i1 i2 i3 i4 i5 if_ q0 q1 q2 q3 q4 q5 qf
  have S1 := Lib.hid hs
  have E1 := Lib.hid (Env.low E0.out (ho.below.mono hBK))
  have O1 := Lib.hid (OnK.trans O0.out ho)
  have RI1 : Hid (w1.heap[I]? = some (.cells #[.int .i64 (op : Nat), .int .i64 0, .int .i64 0, .int .i64 0, .int .i64 0, .int .i64 0] 37 (0, 0))) := Lib.hid ((ho.over I hKI (heap_lt RI0.out)).trans RI0.out)
  have RR1 : Hid (w1.heap[R]? = some (.cells #[.int .i64 0, .int .i64 0, .int .i64 0, .int .i64 0, .int .i64 0, .int .i64 0] 37 (0, 0))) := Lib.hid ((ho.over R hKR (heap_lt RR0.out)).trans RR0.out)
  clear hs ho
  have i0 : w1.cell? ⟨I, 0, none⟩ = some (.int .i64 (op : Nat)) := cell_of_row _ _ _ _ _ _ RI1.out
  have i1 : w1.cell? ⟨I, 1, none⟩ = some (.int .i64 0) := cell_of_row _ _ _ _ _ _ RI1.out
  have i2 : w1.cell? ⟨I, 2, none⟩ = some (.int .i64 0) := cell_of_row _ _ _ _ _ _ RI1.out
  have i3 : w1.cell? ⟨I, 3, none⟩ = some (.int .i64 0) := cell_of_row _ _ _ _ _ _ RI1.out
  have i4 : w1.cell? ⟨I, 4, none⟩ = some (.int .i64 0) := cell_of_row _ _ _ _ _ _ RI1.out
  have i5 : w1.cell? ⟨I, 5, none⟩ = some (.int .i64 0) := cell_of_row _ _ _ _ _ _ RI1.out
  have if_ : ∀ j, w1.frozen? ⟨I, j, none⟩ = false := fun j => frozen_of_row _ _ _ _ _ RI1.out
  have q0 : w1.cell? ⟨R, 0, none⟩ = some (.int .i64 0) := cell_of_row _ _ _ _ _ _ RR1.out
  have q1 : w1.cell? ⟨R, 1, none⟩ = some (.int .i64 0) := cell_of_row _ _ _ _ _ _ RR1.out
  have q2 : w1.cell? ⟨R, 2, none⟩ = some (.int .i64 0) := cell_of_row _ _ _ _ _ _ RR1.out
  have q3 : w1.cell? ⟨R, 3, none⟩ = some (.int .i64 0) := cell_of_row _ _ _ _ _ _ RR1.out
  have q4 : w1.cell? ⟨R, 4, none⟩ = some (.int .i64 0) := cell_of_row _ _ _ _ _ _ RR1.out
  have q5 : w1.cell? ⟨R, 5, none⟩ = some (.int .i64 0) := cell_of_row _ _ _ _ _ _ RR1.out
  have qf : ∀ j, w1.frozen? ⟨R, j, none⟩ = false := fun j => frozen_of_row _ _ _ _ _ RR1.out
  go_wp2_with (first | (go_at_call 58; refine (KI.out _).mono ?_; rintro e w' ⟨rfl, rfl⟩))
  go_at_call 76
  refine (sreg_any hBK _ _ L1.out _ S1.out E1.out).mono ?_
  rintro e w2 ⟨rfl, hs, ho⟩
  rename_i hKK
  refine hKK _ _ ?_
  clear hKK
  clear i0 i1 i2 i3 i4 i5 if_ q0 q1 q2 q3 q4 q5 qf
  have S2 := Lib.hid hs
  have E2 := Lib.hid (Env.low E1.out (ho.below.mono hBK))
  have O2 := Lib.hid (OnK.trans O1.out ho)
  have RI2 : Hid (w2.heap[I]? = some (.cells #[.int .i64 (op : Nat), .int .i64 0, .int .i64 0, .int .i64 0, .int .i64 0, .int .i64 0] 37 (0, 0))) := Lib.hid ((ho.over I hKI (heap_lt RI1.out)).trans RI1.out)
  have RR2 : Hid (w2.heap[R]? = some (.cells #[.int .i64 0, .int .i64 0, .int .i64 0, .int .i64 0, .int .i64 0, .int .i64 0] 37 (0, 0))) := Lib.hid ((ho.over R hKR (heap_lt RR1.out)).trans RR1.out)
  clear hs ho
  have i0 : w2.cell? ⟨I, 0, none⟩ = some (.int .i64 (op : Nat)) := cell_of_row _ _ _ _ _ _ RI2.out
  have i1 : w2.cell? ⟨I, 1, none⟩ = some (.int .i64 0) := cell_of_row _ _ _ _ _ _ RI2.out
  have i2 : w2.cell? ⟨I, 2, none⟩ = some (.int .i64 0) := cell_of_row _ _ _ _ _ _ RI2.out
  have i3 : w2.cell? ⟨I, 3, none⟩ = some (.int .i64 0) := cell_of_row _ _ _ _ _ _ RI2.out
  have i4 : w2.cell? ⟨I, 4, none⟩ = some (.int .i64 0) := cell_of_row _ _ _ _ _ _ RI2.out
  have i5 : w2.cell? ⟨I, 5, none⟩ = some (.int .i64 0) := cell_of_row _ _ _ _ _ _ RI2.out
  have if_ : ∀ j, w2.frozen? ⟨I, j, none⟩ = false := fun j => frozen_of_row _ _ _ _ _ RI2.out
  have q0 : w2.cell? ⟨R, 0, none⟩ = some (.int .i64 0) := cell_of_row _ _ _ _ _ _ RR2.out
  have q1 : w2.cell? ⟨R, 1, none⟩ = some (.int .i64 0) := cell_of_row _ _ _ _ _ _ RR2.out
  have q2 : w2.cell? ⟨R, 2, none⟩ = some (.int .i64 0) := cell_of_row _ _ _ _ _ _ RR2.out
  have q3 : w2.cell? ⟨R, 3, none⟩ = some (.int .i64 0) := cell_of_row _ _ _ _ _ _ RR2.out
  have q4 : w2.cell? ⟨R, 4, none⟩ = some (.int .i64 0) := cell_of_row _ _ _ _ _ _ RR2.out
  have q5 : w2.cell? ⟨R, 5, none⟩ = some (.int .i64 0) := cell_of_row _ _ _ _ _ _ RR2.out
  have qf : ∀ j, w2.frozen? ⟨R, j, none⟩ = false := fun j => frozen_of_row _ _ _ _ _ RR2.out
  go_wp2_with (first | (go_at_call 58; refine (KI.out _).mono ?_; rintro e w' ⟨rfl, rfl⟩))
  go_at_call 77
  have L3 := Lib.hid (next_len S2.out)
  refine (snext_any _ _ S2.out).mono ?_
  rintro e w3 ⟨rfl, hs, ho⟩
  rename_i hKK
  refine hKK _ _ ?_
  clear hKK
  clear i0 i1 i2 i3 i4 i5 if_ q0 q1 q2 q3 q4 q5 qf
  have S3 := Lib.hid hs
  have E3 := Lib.hid (Env.low E2.out (ho.below.mono hBK))
  have O3 := Lib.hid (OnK.trans O2.out ho)
  have RI3 : Hid (w3.heap[I]? = some (.cells #[.int .i64 (op : Nat), .int .i64 0, .int .i64 0, .int .i64 0, .int .i64 0, .int .i64 0] 37 (0, 0))) := Lib.hid ((ho.over I hKI (heap_lt RI2.out)).trans RI2.out)
  have RR3 : Hid (w3.heap[R]? = some (.cells #[.int .i64 0, .int .i64 0, .int .i64 0, .int .i64 0, .int .i64 0, .int .i64 0] 37 (0, 0))) := Lib.hid ((ho.over R hKR (heap_lt RR2.out)).trans RR2.out)
  clear hs ho
  have i0 : w3.cell? ⟨I, 0, none⟩ = some (.int .i64 (op : Nat)) := cell_of_row _ _ _ _ _ _ RI3.out
  have i1 : w3.cell? ⟨I, 1, none⟩ = some (.int .i64 0) := cell_of_row _ _ _ _ _ _ RI3.out
  have i2 : w3.cell? ⟨I, 2, none⟩ = some (.int .i64 0) := cell_of_row _ _ _ _ _ _ RI3.out
  have i3 : w3.cell? ⟨I, 3, none⟩ = some (.int .i64 0) := cell_of_row _ _ _ _ _ _ RI3.out
  have i4 : w3.cell? ⟨I, 4, none⟩ = some (.int .i64 0) := cell_of_row _ _ _ _ _ _ RI3.out
  have i5 : w3.cell? ⟨I, 5, none⟩ = some (.int .i64 0) := cell_of_row _ _ _ _ _ _ RI3.out
  have if_ : ∀ j, w3.frozen? ⟨I, j, none⟩ = false := fun j => frozen_of_row _ _ _ _ _ RI3.out
  have q0 : w3.cell? ⟨R, 0, none⟩ = some (.int .i64 0) := cell_of_row _ _ _ _ _ _ RR3.out
  have q1 : w3.cell? ⟨R, 1, none⟩ = some (.int .i64 0) := cell_of_row _ _ _ _ _ _ RR3.out
  have q2 : w3.cell? ⟨R, 2, none⟩ = some (.int .i64 0) := cell_of_row _ _ _ _ _ _ RR3.out
  have q3 : w3.cell? ⟨R, 3, none⟩ = some (.int .i64 0) := cell_of_row _ _ _ _ _ _ RR3.out
  have q4 : w3.cell? ⟨R, 4, none⟩ = some (.int .i64 0) := cell_of_row _ _ _ _ _ _ RR3.out
  have q5 : w3.cell? ⟨R, 5, none⟩ = some (.int .i64 0) := cell_of_row _ _ _ _ _ _ RR3.out
  have qf : ∀ j, w3.frozen? ⟨R, j, none⟩ = false := fun j => frozen_of_row _ _ _ _ _ RR3.out
  go_wp2_with (first | (go_at_call 58; refine (KI.out _).mono ?_; rintro e w' ⟨rfl, rfl⟩))
  go_at_call 76
  refine (sreg_any hBK _ _ L3.out _ S3.out E3.out).mono ?_
  rintro e w4 ⟨rfl, hs, ho⟩
  rename_i hKK
  refine hKK _ _ ?_
  clear hKK
  clear i0 i1 i2 i3 i4 i5 if_ q0 q1 q2 q3 q4 q5 qf
  have S4 := Lib.hid hs
  have E4 := Lib.hid (Env.low E3.out (ho.below.mono hBK))
  have O4 := Lib.hid (OnK.trans O3.out ho)
  have RI4 : Hid (w4.heap[I]? = some (.cells #[.int .i64 (op : Nat), .int .i64 0, .int .i64 0, .int .i64 0, .int .i64 0, .int .i64 0] 37 (0, 0))) := Lib.hid ((ho.over I hKI (heap_lt RI3.out)).trans RI3.out)
  have RR4 : Hid (w4.heap[R]? = some (.cells #[.int .i64 0, .int .i64 0, .int .i64 0, .int .i64 0, .int .i64 0, .int .i64 0] 37 (0, 0))) := Lib.hid ((ho.over R hKR (heap_lt RR3.out)).trans RR3.out)
  clear hs ho
  have i0 : w4.cell? ⟨I, 0, none⟩ = some (.int .i64 (op : Nat)) := cell_of_row _ _ _ _ _ _ RI4.out
  have i1 : w4.cell? ⟨I, 1, none⟩ = some (.int .i64 0) := cell_of_row _ _ _ _ _ _ RI4.out
  have i2 : w4.cell? ⟨I, 2, none⟩ = some (.int .i64 0) := cell_of_row _ _ _ _ _ _ RI4.out
  have i3 : w4.cell? ⟨I, 3, none⟩ = some (.int .i64 0) := cell_of_row _ _ _ _ _ _ RI4.out
  have i4 : w4.cell? ⟨I, 4, none⟩ = some (.int .i64 0) := cell_of_row _ _ _ _ _ _ RI4.out
  have i5 : w4.cell? ⟨I, 5, none⟩ = some (.int .i64 0) := cell_of_row _ _ _ _ _ _ RI4.out
  have if_ : ∀ j, w4.frozen? ⟨I, j, none⟩ = false := fun j => frozen_of_row _ _ _ _ _ RI4.out
  have q0 : w4.cell? ⟨R, 0, none⟩ = some (.int .i64 0) := cell_of_row _ _ _ _ _ _ RR4.out
  have q1 : w4.cell? ⟨R, 1, none⟩ = some (.int .i64 0) := cell_of_row _ _ _ _ _ _ RR4.out
  have q2 : w4.cell? ⟨R, 2, none⟩ = some (.int .i64 0) := cell_of_row _ _ _ _ _ _ RR4.out
  have q3 : w4.cell? ⟨R, 3, none⟩ = some (.int .i64 0) := cell_of_row _ _ _ _ _ _ RR4.out
  have q4 : w4.cell? ⟨R, 4, none⟩ = some (.int .i64 0) := cell_of_row _ _ _ _ _ _ RR4.out
  have q5 : w4.cell? ⟨R, 5, none⟩ = some (.int .i64 0) := cell_of_row _ _ _ _ _ _ RR4.out
  have qf : ∀ j, w4.frozen? ⟨R, j, none⟩ = false := fun j => frozen_of_row _ _ _ _ _ RR4.out
  go_wp2_with (first | (go_at_call 58; refine (KI.out _).mono ?_; rintro e w' ⟨rfl, rfl⟩))
  go_at_call 77
  have L5 := Lib.hid (next_len S4.out)
  refine (snext_any _ _ S4.out).mono ?_
  rintro e w5 ⟨rfl, hs, ho⟩
  rename_i hKK
  refine hKK _ _ ?_
  clear hKK
  clear i0 i1 i2 i3 i4 i5 if_ q0 q1 q2 q3 q4 q5 qf
  have S5 := Lib.hid hs
  have E5 := Lib.hid (Env.low E4.out (ho.below.mono hBK))
  have O5 := Lib.hid (OnK.trans O4.out ho)
  have RI5 : Hid (w5.heap[I]? = some (.cells #[.int .i64 (op : Nat), .int .i64 0, .int .i64 0, .int .i64 0, .int .i64 0, .int .i64 0] 37 (0, 0))) := Lib.hid ((ho.over I hKI (heap_lt RI4.out)).trans RI4.out)
  have RR5 : Hid (w5.heap[R]? = some (.cells #[.int .i64 0, .int .i64 0, .int .i64 0, .int .i64 0, .int .i64 0, .int .i64 0] 37 (0, 0))) := Lib.hid ((ho.over R hKR (heap_lt RR4.out)).trans RR4.out)
  clear hs ho
  have i0 : w5.cell? ⟨I, 0, none⟩ = some (.int .i64 (op : Nat)) := cell_of_row _ _ _ _ _ _ RI5.out
  have i1 : w5.cell? ⟨I, 1, none⟩ = some (.int .i64 0) := cell_of_row _ _ _ _ _ _ RI5.out
  have i2 : w5.cell? ⟨I, 2, none⟩ = some (.int .i64 0) := cell_of_row _ _ _ _ _ _ RI5.out
  have i3 : w5.cell? ⟨I, 3, none⟩ = some (.int .i64 0) := cell_of_row _ _ _ _ _ _ RI5.out
  have i4 : w5.cell? ⟨I, 4, none⟩ = some (.int .i64 0) := cell_of_row _ _ _ _ _ _ RI5.out
  have i5 : w5.cell? ⟨I, 5, none⟩ = some (.int .i64 0) := cell_of_row _ _ _ _ _ _ RI5.out
  have if_ : ∀ j, w5.frozen? ⟨I, j, none⟩ = false := fun j => frozen_of_row _ _ _ _ _ RI5.out
  have q0 : w5.cell? ⟨R, 0, none⟩ = some (.int .i64 0) := cell_of_row _ _ _ _ _ _ RR5.out
  have q1 : w5.cell? ⟨R, 1, none⟩ = some (.int .i64 0) := cell_of_row _ _ _ _ _ _ RR5.out
  have q2 : w5.cell? ⟨R, 2, none⟩ = some (.int .i64 0) := cell_of_row _ _ _ _ _ _ RR5.out
  have q3 : w5.cell? ⟨R, 3, none⟩ = some (.int .i64 0) := cell_of_row _ _ _ _ _ _ RR5.out
  have q4 : w5.cell? ⟨R, 4, none⟩ = some (.int .i64 0) := cell_of_row _ _ _ _ _ _ RR5.out
  have q5 : w5.cell? ⟨R, 5, none⟩ = some (.int .i64 0) := cell_of_row _ _ _ _ _ _ RR5.out
  have qf : ∀ j, w5.frozen? ⟨R, j, none⟩ = false := fun j => frozen_of_row _ _ _ _ _ RR5.out
  go_wp2_with (first | (go_at_call 58; refine (KI.out _).mono ?_; rintro e w' ⟨rfl, rfl⟩))
  go_at_call 76
  refine (sreg_any hBK _ _ L5.out _ S5.out E5.out).mono ?_
  rintro e w6 ⟨rfl, hs, ho⟩
  rename_i hKK
  refine hKK _ _ ?_
  clear hKK
  clear i0 i1 i2 i3 i4 i5 if_ q0 q1 q2 q3 q4 q5 qf
  have S6 := Lib.hid hs
  have E6 := Lib.hid (Env.low E5.out (ho.below.mono hBK))
  have O6 := Lib.hid (OnK.trans O5.out ho)
  have RI6 : Hid (w6.heap[I]? = some (.cells #[.int .i64 (op : Nat), .int .i64 0, .int .i64 0, .int .i64 0, .int .i64 0, .int .i64 0] 37 (0, 0))) := Lib.hid ((ho.over I hKI (heap_lt RI5.out)).trans RI5.out)
  have RR6 : Hid (w6.heap[R]? = some (.cells #[.int .i64 0, .int .i64 0, .int .i64 0, .int .i64 0, .int .i64 0, .int .i64 0] 37 (0, 0))) := Lib.hid ((ho.over R hKR (heap_lt RR5.out)).trans RR5.out)
  clear hs ho
  have i0 : w6.cell? ⟨I, 0, none⟩ = some (.int .i64 (op : Nat)) := cell_of_row _ _ _ _ _ _ RI6.out
  have i1 : w6.cell? ⟨I, 1, none⟩ = some (.int .i64 0) := cell_of_row _ _ _ _ _ _ RI6.out
  have i2 : w6.cell? ⟨I, 2, none⟩ = some (.int .i64 0) := cell_of_row _ _ _ _ _ _ RI6.out
  have i3 : w6.cell? ⟨I, 3, none⟩ = some (.int .i64 0) := cell_of_row _ _ _ _ _ _ RI6.out
  have i4 : w6.cell? ⟨I, 4, none⟩ = some (.int .i64 0) := cell_of_row _ _ _ _ _ _ RI6.out
  have i5 : w6.cell? ⟨I, 5, none⟩ = some (.int .i64 0) := cell_of_row _ _ _ _ _ _ RI6.out
  have if_ : ∀ j, w6.frozen? ⟨I, j, none⟩ = false := fun j => frozen_of_row _ _ _ _ _ RI6.out
  have q0 : w6.cell? ⟨R, 0, none⟩ = some (.int .i64 0) := cell_of_row _ _ _ _ _ _ RR6.out
  have q1 : w6.cell? ⟨R, 1, none⟩ = some (.int .i64 0) := cell_of_row _ _ _ _ _ _ RR6.out
  have q2 : w6.cell? ⟨R, 2, none⟩ = some (.int .i64 0) := cell_of_row _ _ _ _ _ _ RR6.out
  have q3 : w6.cell? ⟨R, 3, none⟩ = some (.int .i64 0) := cell_of_row _ _ _ _ _ _ RR6.out
  have q4 : w6.cell? ⟨R, 4, none⟩ = some (.int .i64 0) := cell_of_row _ _ _ _ _ _ RR6.out
  have q5 : w6.cell? ⟨R, 5, none⟩ = some (.int .i64 0) := cell_of_row _ _ _ _ _ _ RR6.out
  have qf : ∀ j, w6.frozen? ⟨R, j, none⟩ = false := fun j => frozen_of_row _ _ _ _ _ RR6.out
  go_wp2
  refine bodyPost_ret (v := .agg #[.int .i64 (op : Nat), .int .i64 (s.next.2.reg s.next.1).1, .int .i64 ((s.next.2.reg s.next.1).2.next.2.reg (s.next.2.reg s.next.1).2.next.1).1, .int .i64 (((s.next.2.reg s.next.1).2.next.2.reg (s.next.2.reg s.next.1).2.next.1).2.next.2.reg ((s.next.2.reg s.next.1).2.next.2.reg (s.next.2.reg s.next.1).2.next.1).2.next.1).1, .int .i64 0, .int .i64 0]) ?_ rfl ⟨rfl, ?_, ?_⟩
  · simp [results, Tryz.results46, go_sem, *]; try exact rfl
  · repeat' (first | (with_reducible exact S6.out) | (with_reducible refine ScanAt.other ?_ (by omega) _ _))
  · have hwR : w.heap.size ≤ R := by have := HR.out; omega
    repeat' (first | (with_reducible exact O6.out) | (with_reducible refine OnK.setOther ?_ hK (by omega) _ _))

end Go.Proofs.YtkcdnhennnjneaaGreatDoor
