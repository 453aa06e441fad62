import Derived.Test.YtkcdnhennnjneaaGreatDoorZA
import Derived.Below
import Derived.Deep.Draws
import Derived.Deep.AppendLies
import Derived.Maps.AppendAt
import Derived.OwnWalk
import Derived.Laws.BytesArg
import Derived.Laws.MakeOwn
import Derived.Laws.OwnMore
import Derived.Deep.OwnRows
import Derived.Tactics
import Derived.Lib.ConvBytes
import Derived.Laws.Slices
import Derived.WalkKit
import Derived.KernelRfl
import Derived.RowKit3
import Derived.Deep.LoopGhost
import Derived.Deep.QuietTactic
import Derived.BigQuiet
import Derived.WideLaws
import Derived.Deep.DeepCutAuto
import Derived.Deep.CutBlock
import Derived.Deep.RegionHeld3
import Derived.Laws.Rows
import Derived.Lib.AppendStr
import Derived.ArgAppend
import Derived.Laws.IdiomCopy
import Derived.OrdersHeld
import Derived.Laws.BitsLemmas
import Derived.RowKit
import Derived.Lib.Hide
import Derived.Laws.BitsAllLaws
import Derived.WalkLawsBesides
import Derived.WalkSpells
import Derived.LaidEql
import Derived.Lib.AtoiAll
import Derived.Lib.ItoaNum
import Derived.Lib.Split
import Derived.Lib.Join
import Derived.Lib.IndexMore
import Derived.Lib.Strings
namespace Go.Proofs.YtkcdnhennnjneaaGreatDoor
open Go.RowKit
set_option maxRecDepth 100000
set_option linter.unusedVariables false
set_option linter.unusedSimpArgs false

/-- a text's bytes -/
def bs (l : List UInt8) : ByteArray := ⟨l.toArray⟩
theorem bs_data (s : ByteArray) : bs s.data.toList = s := by cases s; rfl
theorem bs_list (l : List UInt8) : (bs l).data.toList = l := rfl
theorem bs_size (l : List UInt8) : (bs l).size = l.length := by show l.toArray.size = _; simp
theorem parse_cons (acc : Nat)(c : UInt8)(r : List UInt8) : Lib.parseUint10 acc (c :: r) = if 48 ≤ c.toNat ∧ c.toNat ≤ 57 then (if 1844674407370955162 ≤ acc then .range else if 18446744073709551616 ≤ acc * 10 + (c.toNat - 48) then .range else Lib.parseUint10 (acc * 10 + (c.toNat - 48)) r) else .«syntax» := rfl
theorem parse_app : ∀ (l r : List UInt8) (acc : Nat), Lib.parseUint10 acc (l ++ r) = (match Lib.parseUint10 acc l with | .ok a => Lib.parseUint10 a r | .«syntax» => .«syntax» | .range => .range)
  | [], r, acc => rfl
  | c :: l, r, acc => by
    rw [List.cons_append, parse_cons, parse_cons]
    split
    · split
      · rfl
      · split
        · rfl
        · exact parse_app l r _
    · rfl
theorem digit_nat {d : Nat} (h : d < 10) : (UInt8.ofNat (48 + d)).toNat = 48 + d := by
  rw [UInt8.toNat_ofNat']; omega
theorem parse_dec : ∀ (f u : Nat), u < f → u < 18446744073709551616 → Lib.parseUint10 0 (Lib.decDigits u) = .ok u
  | 0, u, h, _ => by omega
  | f + 1, u, h, hu => by
    by_cases h10 : u < 10
    · rw [Lib.decDigits_one h10]
      unfold Lib.parseUint10
      rw [digit_nat h10, if_pos (by omega), if_neg (by omega), if_neg (by omega)]
      unfold Lib.parseUint10
      congr 1; omega
    · rw [Lib.decDigits, dif_neg h10, parse_app, parse_dec f (u / 10) (by omega) (by omega)]
      show Lib.parseUint10 (u / 10) [_] = _
      unfold Lib.parseUint10
      rw [digit_nat (Nat.mod_lt _ (by decide)), if_pos (by omega), if_neg (by omega), if_neg (by omega)]
      unfold Lib.parseUint10
      congr 1; omega
theorem dec_head : ∀ (f u : Nat), u < f → ∃ d r, d < 10 ∧ Lib.decDigits u = UInt8.ofNat (48 + d) :: r ∧ (d = 0 → u = 0 ∧ r = [])
  | 0, u, h => by omega
  | f + 1, u, h => by
    by_cases h10 : u < 10
    · exact ⟨u, [], h10, Lib.decDigits_one h10, fun e => ⟨e, rfl⟩⟩
    · obtain ⟨d, r, hd, e, hz⟩ := dec_head f (u / 10) (by omega)
      refine ⟨d, r ++ [UInt8.ofNat (48 + u % 10)], hd, ?_, fun e0 => ?_⟩
      · rw [Lib.decDigits, dif_neg h10, e]; rfl
      · have h9 := (hz e0).1
        exact absurd h9 (by omega)
theorem atoi_cons (c: UInt8)(r : List UInt8) : Lib.atoiAll (c :: r) = (match Lib.parseMag (if c.toNat = 43 ∨ c.toNat = 45 then r else c :: r) with | .«syntax» => .«syntax» | .range => .range | .ok u => if ¬ c.toNat = 45 ∧ 9223372036854775808 ≤ u then .range else if c.toNat = 45 ∧ 9223372036854775808 < u then .range else .ok (if c.toNat = 45 then -(u:Int) else u)) := rfl
theorem atoi_itoa (n : Int) (h0 : -9223372036854775808 ≤ n) (h1 : n ≤ 9223372036854775807) : Lib.atoiAll (Lib.itoa n) = .ok n := by
  obtain ⟨d, r, hd, e, _⟩ := dec_head (n.natAbs + 1) n.natAbs (by omega)
  have hp := parse_dec (n.natAbs + 1) n.natAbs (by omega) (by omega)
  have hm : Lib.parseMag (Lib.decDigits n.natAbs) = .ok n.natAbs := by
    unfold Lib.parseMag; rw [if_neg (by rw [e]; simp), hp]
  unfold Lib.itoa
  by_cases hn : n < 0
  · rw [if_pos hn]
    have c1 : (45 : UInt8).toNat = 45 := rfl
    rw [atoi_cons, if_pos (Or.inr c1), hm]
    simp only
    rw [if_neg (fun q => q.1 c1), if_neg (by omega), if_pos c1]
    congr 1; omega
  · rw [if_neg hn]
    have e2 : n.toNat = n.natAbs := by omega
    rw [e2, e]
    have c1 : (UInt8.ofNat (48 + d)).toNat = 48 + d := digit_nat hd
    have n1 : ¬ ((UInt8.ofNat (48 + d)).toNat = 43 ∨ (UInt8.ofNat (48 + d)).toNat = 45) := by rw [c1]; omega
    have n2 : ¬ (UInt8.ofNat (48 + d)).toNat = 45 := by rw [c1]; omega
    rw [atoi_cons, if_neg n1, ← e, hm]
    simp only
    rw [if_neg (by omega), if_neg (fun q => n2 q.1), if_neg n2]
    congr 1; omega

def numV (x: List UInt8): Int := match Lib.atoiAll x with | .ok v => v | .«syntax» => 0 | .range => Lib.atoiSat x
def numOk (x: List UInt8): Bool := match Lib.atoiAll x with | .ok v => decide (Lib.itoa v = x ∧ -4294967296 ≤ v ∧ v ≤ 4294967296) | .«syntax» => false | .range => false
theorem num_itoa {v : Int} (h0 : -4294967296 ≤ v) (h1 : v ≤ 4294967296) : numV (Lib.itoa v) = v ∧ numOk (Lib.itoa v) = true := by
  unfold numV numOk
  rw [atoi_itoa v (by omega) (by omega)]
  exact ⟨rfl, decide_eq_true ⟨rfl, h0, h1⟩⟩
theorem num_ok {x : List UInt8} (h : numOk x = true) : x = Lib.itoa (numV x) ∧ -4294967296 ≤ numV x ∧ numV x ≤ 4294967296 := by
  unfold numOk at h
  unfold numV
  cases e : Lib.atoiAll x with
  | ok v =>
    rw [e] at h
    have h2 := of_decide_eq_true h
    exact ⟨h2.1.symm, h2.2⟩
  | «syntax» => rw [e] at h; cases h
  | range => rw [e] at h; cases h
theorem occ_one {s : List UInt8} {c : UInt8} {t : List UInt8} {j : Nat} {b : UInt8} (hb : s[j]? = some b) (h : b ≠ c) : Lib.occAt s (c :: t) j = false := by
  unfold Lib.occAt
  obtain ⟨hj, e⟩ := List.getElem?_eq_some_iff.1 hb
  rw [List.drop_eq_getElem_cons hj, e]
  show ((c == b) && _) = false
  rw [show (c == b) = false from by simpa using fun q => h q.symm]; rfl
theorem occ_none {s : List UInt8} {c : UInt8} {t : List UInt8} {j : Nat} (h : s[j]? = none) : Lib.occAt s (c :: t) j = false := by
  unfold Lib.occAt
  rw [List.drop_eq_nil_of_le (List.getElem?_eq_none_iff.1 h)]; rfl
theorem index_app {a : List UInt8} {c : UInt8} {t r : List UInt8} (h : c ∉ a) : Lib.index (a ++ (c :: t) ++ r) (c :: t) = (a.length : Int) := by
  refine Lib.index_first (by simp) ?_ (fun j hj => ?_)
  · unfold Lib.occAt
    rw [List.append_assoc, List.drop_left]
    simp
  · refine occ_one (b := a[j]) ?_ (fun q => h (q ▸ List.getElem_mem hj))
    rw [List.append_assoc, List.getElem?_append_left hj, List.getElem?_eq_getElem hj]
theorem index_no {a : List UInt8} {c : UInt8} {t : List UInt8} (h : c ∉ a) : Lib.index a (c :: t) = -1 := by
  refine Lib.index_none (fun j _ => ?_)
  cases e : a[j]? with
  | none => exact occ_none e
  | some b => exact occ_one e (fun q => h (q ▸ List.mem_of_getElem? e))
theorem cut_app {a r : List UInt8} {c : UInt8} (h : c ∉ a) : Lib.cut (a ++ c :: r) [c] = (a, r, true) := by
  have e := index_app (t := []) (r := r) h
  rw [List.append_assoc] at e
  show (if 0 ≤ Lib.index (a ++ c :: r) [c] then _ else _) = _
  rw [show Lib.index (a ++ c :: r) [c] = (a.length : Int) from e, if_pos (by omega)]
  simp
theorem cut_no {a : List UInt8} {c : UInt8} {t : List UInt8} (h : c ∉ a) : Lib.cut a (c :: t) = (a, [], false) := by
  unfold Lib.cut
  rw [index_no h, if_neg (by decide)]
theorem occ_split {s sep : List UInt8} {i : Nat} (h : Lib.occAt s sep i = true) : s = s.take i ++ (sep ++ s.drop (i + sep.length)) := by
  unfold Lib.occAt at h
  obtain ⟨r, e⟩ := List.isPrefixOf_iff_prefix.1 h
  have e2 : s.drop (i + sep.length) = r := by rw [← List.drop_drop, ← e]; simp
  rw [e2, e, List.take_append_drop]
theorem cut_back {s sep : List UInt8} : (Lib.cut s sep).2.2 = true → s = (Lib.cut s sep).1 ++ (sep ++ (Lib.cut s sep).2.1) := by
  unfold Lib.cut
  split
  · next h =>
    intro _
    rcases Lib.index_spec s sep with ⟨h1, _⟩ | ⟨i, h1, _, h3, _⟩
    · omega
    · rw [h1]; exact occ_split h3
  · intro h; cases h
theorem cut_miss {s sep : List UInt8} : (Lib.cut s sep).2.2 = false → Lib.cut s sep = (s, [], false) := by
  unfold Lib.cut
  split
  · intro h; cases h
  · intro _; rfl
theorem split_hit {s sep : List UInt8} {i : Nat} (hs : sep ≠ []) (h : Lib.index s sep = (i : Int)) : Lib.split s sep = s.take i :: Lib.split (s.drop (i + sep.length)) sep := by
  unfold Lib.split
  rw [Lib.count_hit hs h, Nat.add_comm 1, Lib.splitK, h, if_neg (by simp)]
  simp
theorem split_miss {s sep : List UInt8} (h : Lib.index s sep = -1) : Lib.split s sep = [s] := by
  unfold Lib.split
  rw [Lib.count_miss h]; rfl
theorem split_ne (s sep : List UInt8) : Lib.split s sep ≠ [] := by
  unfold Lib.split
  cases Lib.count s sep with
  | zero => simp [Lib.splitK]
  | succ k => unfold Lib.splitK; split <;> simp
theorem join_two (x : List UInt8) {l : List (List UInt8)} (hl : l ≠ []) (sep : List UInt8) : Lib.join (x :: l) sep = x ++ (sep ++ Lib.join l sep) := by
  cases l with
  | nil => exact absurd rfl hl
  | cons y r => simp [Lib.join, List.intercalate, List.intersperse, List.append_assoc]
theorem join_split : ∀ (f : Nat) (s sep : List UInt8), s.length < f → sep ≠ [] → Lib.join (Lib.split s sep) sep = s
  | 0, _, _, h, _ => by omega
  | f + 1, s, sep, h, hs => by
    have hl : 0 < sep.length := List.length_pos_iff.2 hs
    rcases Lib.index_spec s sep with ⟨h1, _⟩ | ⟨i, h1, hi, h3, _⟩
    · rw [split_miss h1]; simp [Lib.join, List.intercalate]
    · have hr := occ_split h3
      rcases Lib.occAt_room h3 with hr2 | hr2
      · rw [split_hit hs h1, join_two _ (split_ne _ _), join_split f _ sep (by rw [List.length_drop]; omega) hs]
        exact hr.symm
      · exact absurd hr2 hs
theorem split_join {c : UInt8} {t : List UInt8} : ∀ (l : List (List UInt8)) (x : List UInt8), (∀ y ∈ x :: l, c ∉ y) → Lib.split (Lib.join (x :: l) (c :: t)) (c :: t) = x :: l
  | [], x, h => by
    have e : Lib.join [x] (c :: t) = x := by simp [Lib.join, List.intercalate]
    rw [e, split_miss (index_no (h x (by simp)))]
  | y :: r, x, h => by
    rw [join_two _ (by simp), split_hit (by simp) (i := x.length)]
    · rw [List.take_left, ← List.append_assoc, ← List.length_append, List.drop_left, split_join r y (fun z hz => h z (List.mem_cons_of_mem _ hz))]
    · rw [← List.append_assoc]; exact index_app (h x (by simp))

/-- an instruction's parts -/
structure Ins where
  op : Int
  rd : Int
  r1 : Int
  r2 : Int
  imm : Int
  cs : Int
def Ins.v (i : Ins) : Value := .agg #[.int .i64 i.op, .int .i64 i.rd, .int .i64 i.r1, .int .i64 i.r2, .int .i64 i.imm, .int .i64 i.cs]
def Ins.can (i : Ins) : Prop := Can i.op i.rd i.r1 i.r2 i.imm i.cs
instance (i : Ins) : Decidable i.can := by unfold Ins.can; infer_instance
def regT (n : Int) : List UInt8 := 120 :: Lib.itoa n
def farT (n r : Int) : List UInt8 := Lib.itoa n ++ 40 :: (regT r ++ [41])
def nmOf (op : Int) : List UInt8 := nmTab.getD op.toNat []
/-- an instruction's operands as texts -/
def operT (i : Ins) : List (List UInt8) :=
  if kN i.op.toNat = 85 then [regT i.rd, Lib.itoa (Int.tdiv i.imm 4096)]
  else if kN i.op.toNat = 74 then [regT i.rd, Lib.itoa i.imm]
  else if kN i.op.toNat = 73 ∨ kN i.op.toNat = 70 ∨ kN i.op.toNat = 72 then [regT i.rd, regT i.r1, Lib.itoa i.imm]
  else if kN i.op.toNat = 76 then [regT i.rd, farT i.imm i.r1]
  else if kN i.op.toNat = 66 then [regT i.r1, regT i.r2, Lib.itoa i.imm]
  else if kN i.op.toNat = 83 then [regT i.r2, farT i.imm i.r1]
  else if kN i.op.toNat = 82 then [regT i.rd, regT i.r1, regT i.r2]
  else if kN i.op.toNat = 67 then [regT i.rd, Lib.itoa i.cs, if 54 ≤ i.op then Lib.itoa i.r1 else regT i.r1]
  else []
def textT (i : Ins) : List UInt8 := if operT i = [] then nmOf i.op else nmOf i.op ++ 32 :: Lib.join (operT i) [44, 32]
/-- what is left of the operands, and whether one was bad -/
structure Scan where
  l : List (List UInt8)
  bad : Bool
def Scan.next (s : Scan) : List UInt8 × Scan := match s.l with | [] => ([], ⟨[], true⟩) | x :: r => (x, ⟨r, s.bad⟩)
def Scan.num (s : Scan) (x : List UInt8) : Int × Scan := (numV x, ⟨s.l, s.bad || !numOk x⟩)
def Scan.reg (s : Scan) (x : List UInt8) : Int × Scan := Scan.num ⟨s.l, s.bad || !Lib.hasPrefix x [120]⟩ (Lib.trimPrefix x [120])
def Scan.far (s : Scan) (x : List UInt8) : (Int × Int) × Scan :=
  (((Scan.num ⟨s.l, s.bad || !Lib.hasSuffix (Lib.cut x [40]).2.1 [41]⟩ (Lib.cut x [40]).1).1, ((Scan.num ⟨s.l, s.bad || !Lib.hasSuffix (Lib.cut x [40]).2.1 [41]⟩ (Lib.cut x [40]).1).2.reg (Lib.trimSuffix (Lib.cut x [40]).2.1 [41])).1), ((Scan.num ⟨s.l, s.bad || !Lib.hasSuffix (Lib.cut x [40]).2.1 [41]⟩ (Lib.cut x [40]).1).2.reg (Lib.trimSuffix (Lib.cut x [40]).2.1 [41])).2)
def Scan.nreg (s : Scan) : Int × Scan := s.next.2.reg s.next.1
def Scan.nnum (s : Scan) : Int × Scan := s.next.2.num s.next.1
def Scan.nfar (s : Scan) : (Int × Int) × Scan := s.next.2.far s.next.1
def Scan.read (s : Scan) (op : Nat) : Ins × Scan :=
  if kN op = 85 then (⟨op, s.nreg.1, 0, 0, IntKind.i64.wrap (s.nreg.2.nnum.1 * 4096), 0⟩, s.nreg.2.nnum.2)
  else if kN op = 74 then (⟨op, s.nreg.1, 0, 0, s.nreg.2.nnum.1, 0⟩, s.nreg.2.nnum.2)
  else if kN op = 73 ∨ kN op = 70 ∨ kN op = 72 then (⟨op, s.nreg.1, s.nreg.2.nreg.1, 0, s.nreg.2.nreg.2.nnum.1, 0⟩, s.nreg.2.nreg.2.nnum.2)
  else if kN op = 76 then (⟨op, s.nreg.1, s.nreg.2.nfar.1.2, 0, s.nreg.2.nfar.1.1, 0⟩, s.nreg.2.nfar.2)
  else if kN op = 66 then (⟨op, 0, s.nreg.1, s.nreg.2.nreg.1, s.nreg.2.nreg.2.nnum.1, 0⟩, s.nreg.2.nreg.2.nnum.2)
  else if kN op = 83 then (⟨op, 0, s.nreg.2.nfar.1.2, s.nreg.1, s.nreg.2.nfar.1.1, 0⟩, s.nreg.2.nfar.2)
  else if kN op = 82 then (⟨op, s.nreg.1, s.nreg.2.nreg.1, s.nreg.2.nreg.2.nreg.1, 0, 0⟩, s.nreg.2.nreg.2.nreg.2)
  else if kN op = 67 then (if 54 ≤ op then (⟨op, s.nreg.1, s.nreg.2.nnum.2.nnum.1, 0, 0, s.nreg.2.nnum.1⟩, s.nreg.2.nnum.2.nnum.2) else (⟨op, s.nreg.1, s.nreg.2.nnum.2.nreg.1, 0, 0, s.nreg.2.nnum.1⟩, s.nreg.2.nnum.2.nreg.2))
  else (⟨op, 0, 0, 0, 0, 0⟩, s)
def partsT (s : List UInt8) : List UInt8 × List (List UInt8) := if (Lib.cut s [32]).2.2 = true then ((Lib.cut s [32]).1, Lib.split (Lib.cut s [32]).2.1 [44, 32]) else ((Lib.cut s [32]).1, [])
def findT (name : List UInt8) : Option Nat := (List.range 57).find? (fun i => nmTab.getD i [] == name)
/-- the instruction of a text -/
def parseT (s : List UInt8) : Option Ins :=
  match findT (partsT s).1 with
  | none => none
  | some op => if ((Scan.read ⟨(partsT s).2, false⟩ op).2.bad = false ∧ (Scan.read ⟨(partsT s).2, false⟩ op).2.l = []) ∧ (Scan.read ⟨(partsT s).2, false⟩ op).1.can then some (Scan.read ⟨(partsT s).2, false⟩ op).1 else none
theorem find_some {n : List UInt8} {op : Nat} (h : findT n = some op) : op < 57 ∧ nmTab.getD op [] = n := by
  have h1 := List.find?_some h
  have h2 := List.mem_of_find?_eq_some h
  exact ⟨List.mem_range.1 h2, by simpa using h1⟩
theorem find_at {op : Nat} (h : op < 57) : findT (nmTab.getD op []) = some op := by
  cases e : findT (nmTab.getD op []) with
  | none =>
    have h1 := List.find?_eq_none.1 e op (List.mem_range.2 h)
    simp at h1
  | some k =>
    obtain ⟨h1, h2⟩ := find_some e
    rw [nm_inj k h1 op h h2]
theorem reg_ok {x : List UInt8} (h1 : Lib.hasPrefix x [120] = true) (h2 : numOk (Lib.trimPrefix x [120]) = true) : x = regT (numV (Lib.trimPrefix x [120])) := by
  have h3 := (num_ok h2).1
  unfold regT
  rw [← h3]
  unfold Lib.trimPrefix
  rw [if_pos h1]
  obtain ⟨r, e⟩ := List.isPrefixOf_iff_prefix.1 (show List.isPrefixOf [120] x = true from h1)
  rw [← e]; rfl
theorem far_ok {x : List UInt8} (h1 : Lib.hasSuffix (Lib.cut x [40]).2.1 [41] = true) (h2 : numOk (Lib.cut x [40]).1 = true) (h3 : Lib.hasPrefix (Lib.trimSuffix (Lib.cut x [40]).2.1 [41]) [120] = true) (h4 : numOk (Lib.trimPrefix (Lib.trimSuffix (Lib.cut x [40]).2.1 [41]) [120]) = true) :
    x = farT (numV (Lib.cut x [40]).1) (numV (Lib.trimPrefix (Lib.trimSuffix (Lib.cut x [40]).2.1 [41]) [120])) := by
  have e1 := reg_ok h3 h4
  have e2 := (num_ok h2).1
  have e3 : (Lib.cut x [40]).2.1 = Lib.trimSuffix (Lib.cut x [40]).2.1 [41] ++ [41] := by
    obtain ⟨r, e⟩ := List.isSuffixOf_iff_suffix.1 (show List.isSuffixOf [41] (Lib.cut x [40]).2.1 = true from h1)
    unfold Lib.trimSuffix
    rw [if_pos h1, ← e]; simp
  have e4 : (Lib.cut x [40]).2.2 = true := by
    cases h : (Lib.cut x [40]).2.2 with
    | true => rfl
    | false => rw [cut_miss h] at e3; simp at e3
  have e5 := cut_back e4
  unfold farT
  rw [← e1, ← e2]
  rw [e3] at e5
  exact e5

theorem wrap_small {v : Int} (h0 : -4294967296 ≤ v) (h1 : v ≤ 4294967296) : IntKind.i64.wrap (v * 4096) = v * 4096 := by
  rw [Go.IntKind.wrap_i64]; omega
theorem scan_end {l : List (List UInt8)} {b : Bool} : (Scan.next ⟨l, b⟩).2.bad = false → ∃ x r, l = x :: r ∧ Scan.next ⟨l, b⟩ = (x, ⟨r, b⟩) ∧ b = false := by
  cases l with
  | nil => intro h; cases h
  | cons x r => intro h; exact ⟨x, r, rfl, rfl, h⟩
theorem num_bad {s : Scan} {x : List UInt8} (h : (s.num x).2.bad = false) : s.bad = false ∧ numOk x = true := by
  unfold Scan.num at h
  simpa using h
theorem reg_bad {s : Scan} {x : List UInt8} (h : (s.reg x).2.bad = false) : s.bad = false ∧ Lib.hasPrefix x [120] = true ∧ numOk (Lib.trimPrefix x [120]) = true := by
  unfold Scan.reg at h
  have h1 := num_bad h
  simpa [and_assoc] using h1
theorem far_bad {s : Scan} {x : List UInt8} (h : (s.far x).2.bad = false) : s.bad = false ∧ Lib.hasSuffix (Lib.cut x [40]).2.1 [41] = true ∧ numOk (Lib.cut x [40]).1 = true ∧ Lib.hasPrefix (Lib.trimSuffix (Lib.cut x [40]).2.1 [41]) [120] = true ∧ numOk (Lib.trimPrefix (Lib.trimSuffix (Lib.cut x [40]).2.1 [41]) [120]) = true := by
  unfold Scan.far at h
  obtain ⟨h1, h2, h3⟩ := reg_bad h
  obtain ⟨h4, h5⟩ := num_bad h1
  simp only [Bool.or_eq_false_iff, Bool.not_eq_false'] at h4
  exact ⟨h4.1, h4.2, h5, h2, h3⟩
/-- a good scan's register, number, number with a register -/
theorem nreg_ok {l : List (List UInt8)} {b : Bool} (h : (Scan.nreg ⟨l, b⟩).2.bad = false) : ∃ x r n, l = x :: r ∧ Scan.nreg ⟨l, b⟩ = (n, ⟨r, false⟩) ∧ b = false ∧ x = regT n := by
  unfold Scan.nreg at h ⊢
  cases l with
  | nil => have h1 := (reg_bad h).1; cases h1
  | cons x r =>
    obtain ⟨h1, h2, h3⟩ := reg_bad h
    have hb : b = false := h1
    subst hb
    refine ⟨x, r, _, rfl, ?_, rfl, reg_ok h2 h3⟩
    replace h2 : Lib.hasPrefix x [120] = true := h2
    replace h3 : numOk (Lib.trimPrefix x [120]) = true := h3
    show Scan.reg ⟨r, false⟩ x = (numV (Lib.trimPrefix x [120]), _)
    unfold Scan.reg Scan.num
    rw [h2, h3]; rfl
theorem nnum_ok {l : List (List UInt8)} {b : Bool} (h : (Scan.nnum ⟨l, b⟩).2.bad = false) : ∃ x r n, l = x :: r ∧ Scan.nnum ⟨l, b⟩ = (n, ⟨r, false⟩) ∧ b = false ∧ x = Lib.itoa n ∧ -4294967296 ≤ n ∧ n ≤ 4294967296 := by
  unfold Scan.nnum at h ⊢
  cases l with
  | nil => have h1 := (num_bad h).1; cases h1
  | cons x r =>
    obtain ⟨h1, h2⟩ := num_bad h
    have hb : b = false := h1
    subst hb
    refine ⟨x, r, _, rfl, ?_, rfl, num_ok h2⟩
    replace h2 : numOk x = true := h2
    show Scan.num ⟨r, false⟩ x = (numV x, _)
    unfold Scan.num
    rw [h2]; rfl
theorem nfar_ok {l : List (List UInt8)} {b : Bool} (h : (Scan.nfar ⟨l, b⟩).2.bad = false) : ∃ x r n m, l = x :: r ∧ Scan.nfar ⟨l, b⟩ = ((n, m), ⟨r, false⟩) ∧ b = false ∧ x = farT n m := by
  unfold Scan.nfar at h ⊢
  cases l with
  | nil => have h1 := (far_bad h).1; cases h1
  | cons x r =>
    obtain ⟨h1, h2, h3, h4, h5⟩ := far_bad h
    have hb : b = false := h1
    subst hb
    refine ⟨x, r, _, _, rfl, ?_, rfl, far_ok h2 h3 h4 h5⟩
    replace h2 : Lib.hasSuffix (Lib.cut x [40]).2.1 [41] = true := h2
    replace h3 : numOk (Lib.cut x [40]).1 = true := h3
    replace h4 : Lib.hasPrefix (Lib.trimSuffix (Lib.cut x [40]).2.1 [41]) [120] = true := h4
    replace h5 : numOk (Lib.trimPrefix (Lib.trimSuffix (Lib.cut x [40]).2.1 [41]) [120]) = true := h5
    show Scan.far ⟨r, false⟩ x = ((numV (Lib.cut x [40]).1, numV (Lib.trimPrefix (Lib.trimSuffix (Lib.cut x [40]).2.1 [41]) [120])), _)
    unfold Scan.far Scan.reg Scan.num
    rw [h2, h3, h4, h5]; rfl
/-- what the scan was given, if it was good -/
theorem bad_next {s : Scan} (h : s.bad = true) : s.next.2.bad = true := by
  unfold Scan.next
  cases e : s.l with
  | nil => rfl
  | cons x r => exact h
theorem nreg_bad {s : Scan} (h : s.nreg.2.bad = false) : s.bad = false := by
  cases e : s.bad with
  | false => rfl
  | true => have h1 := (reg_bad h).1; rw [bad_next e] at h1; cases h1
theorem nnum_bad {s : Scan} (h : s.nnum.2.bad = false) : s.bad = false := by
  cases e : s.bad with
  | false => rfl
  | true => have h1 := (num_bad h).1; rw [bad_next e] at h1; cases h1
theorem nfar_bad {s : Scan} (h : s.nfar.2.bad = false) : s.bad = false := by
  cases e : s.bad with
  | false => rfl
  | true => have h1 := (far_bad h).1; rw [bad_next e] at h1; cases h1
theorem scan_text {op : Nat} {l : List (List UInt8)} (h1 : (Scan.read ⟨l, false⟩ op).2.bad = false) (h2 : (Scan.read ⟨l, false⟩ op).2.l = []) : operT (Scan.read ⟨l, false⟩ op).1 = l ∧ (Scan.read ⟨l, false⟩ op).1.op = op := by
  unfold Scan.read at h1 h2 ⊢
  by_cases k1 : kN op = 85
  · rw [if_pos k1] at h1 h2 ⊢
    obtain ⟨x, r, n, rfl, e1, _, hx⟩ := nreg_ok (nnum_bad h1)
    rw [e1] at h1 h2 ⊢
    obtain ⟨y, r, m, rfl, e2, _, hy, hm0, hm1⟩ := nnum_ok h1
    rw [e2] at h2 ⊢
    have hr : r = [] := h2
    refine ⟨?_, rfl⟩
    unfold operT
    simp only [Int.toNat_natCast]
    rw [if_pos k1, wrap_small hm0 hm1, Int.mul_tdiv_cancel _ (by decide), hx, hy, hr]
  rw [if_neg k1] at h1 h2 ⊢
  by_cases k2 : kN op = 74
  · rw [if_pos k2] at h1 h2 ⊢
    obtain ⟨x, r, n, rfl, e1, _, hx⟩ := nreg_ok (nnum_bad h1)
    rw [e1] at h1 h2 ⊢
    obtain ⟨y, r, m, rfl, e2, _, hy, hm0, hm1⟩ := nnum_ok h1
    rw [e2] at h2 ⊢
    have hr : r = [] := h2
    refine ⟨?_, rfl⟩
    unfold operT
    simp only [Int.toNat_natCast]
    rw [if_neg k1, if_pos k2, hx, hy, hr]
  rw [if_neg k2] at h1 h2 ⊢
  by_cases k3 : kN op = 73 ∨ kN op = 70 ∨ kN op = 72
  · rw [if_pos k3] at h1 h2 ⊢
    obtain ⟨x, r, n, rfl, e1, _, hx⟩ := nreg_ok (nreg_bad (nnum_bad h1))
    rw [e1] at h1 h2 ⊢
    obtain ⟨y, r, m, rfl, e2, _, hy⟩ := nreg_ok (nnum_bad h1)
    rw [e2] at h1 h2 ⊢
    obtain ⟨z, r, o, rfl, e3, _, hz, _, _⟩ := nnum_ok h1
    rw [e3] at h2 ⊢
    have hr : r = [] := h2
    refine ⟨?_, rfl⟩
    unfold operT
    simp only [Int.toNat_natCast]
    rw [if_neg k1, if_neg k2, if_pos k3, hx, hy, hz, hr]
  rw [if_neg k3] at h1 h2 ⊢
  by_cases k4 : kN op = 76
  · rw [if_pos k4] at h1 h2 ⊢
    obtain ⟨x, r, n, rfl, e1, _, hx⟩ := nreg_ok (nfar_bad h1)
    rw [e1] at h1 h2 ⊢
    obtain ⟨y, r, m, o, rfl, e2, _, hy⟩ := nfar_ok h1
    rw [e2] at h2 ⊢
    have hr : r = [] := h2
    refine ⟨?_, rfl⟩
    unfold operT
    simp only [Int.toNat_natCast]
    rw [if_neg k1, if_neg k2, if_neg k3, if_pos k4, hx, hy, hr]
  rw [if_neg k4] at h1 h2 ⊢
  by_cases k5 : kN op = 66
  · rw [if_pos k5] at h1 h2 ⊢
    obtain ⟨x, r, n, rfl, e1, _, hx⟩ := nreg_ok (nreg_bad (nnum_bad h1))
    rw [e1] at h1 h2 ⊢
    obtain ⟨y, r, m, rfl, e2, _, hy⟩ := nreg_ok (nnum_bad h1)
    rw [e2] at h1 h2 ⊢
    obtain ⟨z, r, o, rfl, e3, _, hz, _, _⟩ := nnum_ok h1
    rw [e3] at h2 ⊢
    have hr : r = [] := h2
    refine ⟨?_, rfl⟩
    unfold operT
    simp only [Int.toNat_natCast]
    rw [if_neg k1, if_neg k2, if_neg k3, if_neg k4, if_pos k5, hx, hy, hz, hr]
  rw [if_neg k5] at h1 h2 ⊢
  by_cases k6 : kN op = 83
  · rw [if_pos k6] at h1 h2 ⊢
    obtain ⟨x, r, n, rfl, e1, _, hx⟩ := nreg_ok (nfar_bad h1)
    rw [e1] at h1 h2 ⊢
    obtain ⟨y, r, m, o, rfl, e2, _, hy⟩ := nfar_ok h1
    rw [e2] at h2 ⊢
    have hr : r = [] := h2
    refine ⟨?_, rfl⟩
    unfold operT
    simp only [Int.toNat_natCast]
    rw [if_neg k1, if_neg k2, if_neg k3, if_neg k4, if_neg k5, if_pos k6, hx, hy, hr]
  rw [if_neg k6] at h1 h2 ⊢
  by_cases k7 : kN op = 82
  · rw [if_pos k7] at h1 h2 ⊢
    obtain ⟨x, r, n, rfl, e1, _, hx⟩ := nreg_ok (nreg_bad (nreg_bad h1))
    rw [e1] at h1 h2 ⊢
    obtain ⟨y, r, m, rfl, e2, _, hy⟩ := nreg_ok (nreg_bad h1)
    rw [e2] at h1 h2 ⊢
    obtain ⟨z, r, o, rfl, e3, _, hz⟩ := nreg_ok h1
    rw [e3] at h2 ⊢
    have hr : r = [] := h2
    refine ⟨?_, rfl⟩
    unfold operT
    simp only [Int.toNat_natCast]
    rw [if_neg k1, if_neg k2, if_neg k3, if_neg k4, if_neg k5, if_neg k6, if_pos k7, hx, hy, hz, hr]
  rw [if_neg k7] at h1 h2 ⊢
  by_cases k8 : kN op = 67
  · rw [if_pos k8] at h1 h2 ⊢
    by_cases k9 : 54 ≤ op
    · rw [if_pos k9] at h1 h2 ⊢
      obtain ⟨x, r, n, rfl, e1, _, hx⟩ := nreg_ok (nnum_bad (nnum_bad h1))
      rw [e1] at h1 h2 ⊢
      obtain ⟨y, r, m, rfl, e2, _, hy, _, _⟩ := nnum_ok (nnum_bad h1)
      rw [e2] at h1 h2 ⊢
      obtain ⟨z, r, o, rfl, e3, _, hz, _, _⟩ := nnum_ok h1
      rw [e3] at h2 ⊢
      have hr : r = [] := h2
      refine ⟨?_, rfl⟩
      unfold operT
      simp only [Int.toNat_natCast]
      rw [if_neg k1, if_neg k2, if_neg k3, if_neg k4, if_neg k5, if_neg k6, if_neg k7, if_pos k8, if_pos (by omega), hx, hy, hz, hr]
    · rw [if_neg k9] at h1 h2 ⊢
      obtain ⟨x, r, n, rfl, e1, _, hx⟩ := nreg_ok (nnum_bad (nreg_bad h1))
      rw [e1] at h1 h2 ⊢
      obtain ⟨y, r, m, rfl, e2, _, hy, _, _⟩ := nnum_ok (nreg_bad h1)
      rw [e2] at h1 h2 ⊢
      obtain ⟨z, r, o, rfl, e3, _, hz⟩ := nreg_ok h1
      rw [e3] at h2 ⊢
      have hr : r = [] := h2
      refine ⟨?_, rfl⟩
      unfold operT
      simp only [Int.toNat_natCast]
      rw [if_neg k1, if_neg k2, if_neg k3, if_neg k4, if_neg k5, if_neg k6, if_neg k7, if_pos k8, if_neg (by omega), hx, hy, hz, hr]
  rw [if_neg k8] at h1 h2 ⊢
  have hl : l = [] := h2
  refine ⟨?_, rfl⟩
  unfold operT
  simp only [Int.toNat_natCast]
  rw [if_neg k1, if_neg k2, if_neg k3, if_neg k4, if_neg k5, if_neg k6, if_neg k7, if_neg k8, hl]
/-- what a text tells has that text -/
theorem parse_text {s : List UInt8} {i : Ins} (h : parseT s = some i) : i.can ∧ textT i = s := by
  unfold parseT at h
  cases e : findT (partsT s).1 with
  | none => rw [e] at h; cases h
  | some op =>
    rw [e] at h
    simp only at h
    split at h
    · next hc =>
      obtain rfl := Option.some.inj h
      obtain ⟨⟨h1, h2⟩, h3⟩ := hc
      refine ⟨h3, ?_⟩
      obtain ⟨t1, t2⟩ := scan_text h1 h2
      obtain ⟨f1, f2⟩ := find_some e
      unfold textT nmOf
      rw [t1, t2, Int.toNat_natCast, f2]
      unfold partsT
      by_cases hm : (Lib.cut s [32]).2.2 = true
      · rw [if_pos hm, if_neg (split_ne _ _)]
        show (Lib.cut s [32]).1 ++ 32 :: Lib.join (Lib.split (Lib.cut s [32]).2.1 [44, 32]) [44, 32] = s
        rw [join_split _ _ _ (Nat.lt_succ_self _) (by simp)]
        exact (cut_back hm).symm
      · rw [if_neg hm, if_pos rfl, cut_miss (by simpa using hm)]
    · cases h

theorem dec_mem : ∀ (f u : Nat), u < f → ∀ c ∈ Lib.decDigits u, 48 ≤ c.toNat ∧ c.toNat ≤ 57
  | 0, u, h => by omega
  | f + 1, u, h => by
    intro c hc
    by_cases h10 : u < 10
    · rw [Lib.decDigits_one h10] at hc
      obtain rfl := List.mem_singleton.1 hc
      rw [digit_nat h10]; omega
    · rw [Lib.decDigits, dif_neg h10] at hc
      rcases List.mem_append.1 hc with h1 | h1
      · exact dec_mem f (u / 10) (by omega) c h1
      · obtain rfl := List.mem_singleton.1 h1
        rw [digit_nat (Nat.mod_lt _ (by decide))]
        have := Nat.mod_lt u (show 0 < 10 by decide)
        omega
theorem itoa_no {c : UInt8} (n : Int) (h : c.toNat ≠ 45 ∧ ¬ (48 ≤ c.toNat ∧ c.toNat ≤ 57)) : c ∉ Lib.itoa n := by
  intro hc
  unfold Lib.itoa at hc
  split at hc
  · rcases List.mem_cons.1 hc with h1 | h1
    · subst h1; exact h.1 rfl
    · exact h.2 (dec_mem _ _ (Nat.lt_succ_self _) c h1)
  · exact h.2 (dec_mem _ _ (Nat.lt_succ_self _) c hc)
theorem reg_no {c : UInt8} (n : Int) (h : c.toNat ≠ 45 ∧ ¬ (48 ≤ c.toNat ∧ c.toNat ≤ 57)) (h2 : c ≠ 120) : c ∉ regT n := by
  intro hc
  rcases List.mem_cons.1 hc with h1 | h1
  · exact h2 h1
  · exact itoa_no n h h1
theorem far_no (n m : Int) : (44 : UInt8) ∉ farT n m := by
  intro hc
  unfold farT at hc
  rcases List.mem_append.1 hc with h1 | h1
  · exact itoa_no n (by decide) h1
  · rcases List.mem_cons.1 h1 with h2 | h2
    · exact absurd h2 (by decide)
    · rcases List.mem_append.1 h2 with h3 | h3
      · exact reg_no m (by decide) (by decide) h3
      · exact absurd (List.mem_singleton.1 h3) (by decide)
theorem nnum_at {n : Int} (h0 : -4294967296 ≤ n) (h1 : n ≤ 4294967296) (r : List (List UInt8)) : Scan.nnum ⟨Lib.itoa n :: r, false⟩ = (n, ⟨r, false⟩) := by
  obtain ⟨e1, e2⟩ := num_itoa h0 h1
  show Scan.num ⟨r, false⟩ (Lib.itoa n) = _
  unfold Scan.num
  rw [e1, e2]; rfl
theorem reg_at {n : Int} (h0 : 0 ≤ n) (h1 : n < 32) (b : Bool) (r : List (List UInt8)) : Scan.reg ⟨r, b⟩ (regT n) = (n, ⟨r, b⟩) := by
  obtain ⟨e1, e2⟩ := num_itoa (v := n) (by omega) (by omega)
  have hp : Lib.hasPrefix (regT n) [120] = true := by
    show List.isPrefixOf [120] (120 :: Lib.itoa n) = true
    simp [List.isPrefixOf]
  have ht : Lib.trimPrefix (regT n) [120] = Lib.itoa n := by
    unfold Lib.trimPrefix; rw [if_pos hp]; rfl
  unfold Scan.reg Scan.num
  rw [ht, hp, e1, e2]
  simp
theorem nreg_at {n : Int} (h0 : 0 ≤ n) (h1 : n < 32) (r : List (List UInt8)) : Scan.nreg ⟨regT n :: r, false⟩ = (n, ⟨r, false⟩) := reg_at h0 h1 false r
theorem nfar_at {n m : Int} (h0 : -4294967296 ≤ n) (h1 : n ≤ 4294967296) (h2 : 0 ≤ m) (h3 : m < 32) (r : List (List UInt8)) : Scan.nfar ⟨farT n m :: r, false⟩ = ((n, m), ⟨r, false⟩) := by
  have hc : Lib.cut (farT n m) [40] = (Lib.itoa n, regT m ++ [41], true) := cut_app (itoa_no n (by decide))
  have hs : Lib.hasSuffix (regT m ++ [41]) [41] = true := List.isSuffixOf_iff_suffix.2 ⟨regT m, rfl⟩
  have ht : Lib.trimSuffix (regT m ++ [41]) [41] = regT m := by unfold Lib.trimSuffix; rw [if_pos hs]; simp
  obtain ⟨e1, e2⟩ := num_itoa h0 h1
  show Scan.far ⟨r, false⟩ (farT n m) = _
  unfold Scan.far
  rw [hc]
  simp only [hs, ht]
  unfold Scan.num
  rw [e1, e2]
  simp only [Bool.not_true, Bool.or_false]
  rw [reg_at h2 h3]
theorem can_ex {i : Ins} (h : i.can) : ∃ op x : Nat, op < 57 ∧ x < 4294967296 ∧ i = ⟨op, rdOf (kN op) x, r1Of (kN op) x, r2Of (kN op) x, immOf (kN op) x, csrOf (kN op) x⟩ := by
  obtain ⟨op, rd, r1, r2, imm, cs⟩ := i
  obtain ⟨⟨h0, h1⟩, e1, e2, e3, e4, e5⟩ := h
  refine ⟨op.toNat, lw op rd r1 r2 imm cs, by simp only at h0 h1; omega, lw_lt _ _ _ _ _ _ (by simp only at h0 h1; omega), ?_⟩
  simp only at e1 e2 e3 e4 e5 h0
  rw [e1, e2, e3, e4, e5, Int.toNat_of_nonneg h0]
theorem rd_b (k x : Nat) : 0 ≤ rdOf k x ∧ rdOf k x < 32 := by unfold rdOf; split <;> omega
theorem r1_b (k x : Nat) : 0 ≤ r1Of k x ∧ r1Of k x < 32 := by unfold r1Of; split <;> omega
theorem r2_b (k x : Nat) : 0 ≤ r2Of k x ∧ r2Of k x < 32 := by unfold r2Of; split <;> omega
theorem cs_b (k : Nat) {x : Nat} (hx : x < 4294967296) : -4294967296 ≤ csrOf k x ∧ csrOf k x ≤ 4294967296 := by unfold csrOf; split <;> omega
theorem imm_b (k : Nat) {x : Nat} (hx : x < 4294967296) : -4294967296 ≤ immOf k x ∧ immOf k x ≤ 4294967296 := by
  unfold immOf
  repeat' split
  all_goals (try unfold sx)
  all_goals (try split)
  all_goals omega
theorem imm_85 (x : Nat) : ∃ m : Int, immOf 85 x = m * 4096 := by
  unfold immOf
  rw [if_pos rfl]
  unfold sx
  split
  · exact ⟨(x / 4096 : Nat), by omega⟩
  · exact ⟨(x / 4096 : Nat) - 1048576, by omega⟩
theorem k_cases : ∀ op, op < 57 → kN op = 85 ∨ kN op = 74 ∨ (kN op = 73 ∨ kN op = 70 ∨ kN op = 72) ∨ kN op = 76 ∨ kN op = 66 ∨ kN op = 83 ∨ kN op = 82 ∨ kN op = 67 ∨ kN op = 78 := by decide
theorem scan_at {i : Ins} (h : i.can) : Scan.read ⟨operT i, false⟩ i.op.toNat = (i, ⟨[], false⟩) := by
  obtain ⟨op, x, hop, hx, rfl⟩ := can_ex h
  simp only [Int.toNat_natCast]
  obtain ⟨d0, d1⟩ := rd_b (kN op) x
  obtain ⟨a0, a1⟩ := r1_b (kN op) x
  obtain ⟨b0, b1⟩ := r2_b (kN op) x
  obtain ⟨c0, c1⟩ := cs_b (kN op) hx
  obtain ⟨n0, n1⟩ := imm_b (kN op) hx
  rcases k_cases op hop with k | k | k | k | k | k | k | k | k
  · have e : operT ⟨op, rdOf (kN op) x, r1Of (kN op) x, r2Of (kN op) x, immOf (kN op) x, csrOf (kN op) x⟩ = [regT (rdOf (kN op) x), Lib.itoa (Int.tdiv (immOf (kN op) x) 4096)] := by unfold operT; simp only [Int.toNat_natCast]; rw [if_pos k]
    rw [e]
    unfold Scan.read
    rw [if_pos k]
    obtain ⟨m, hm⟩ := imm_85 x
    rw [k] at d0 d1 n0 n1 ⊢
    rw [hm] at n0 n1 ⊢
    rw [Int.mul_tdiv_cancel _ (by decide), nreg_at d0 d1, nnum_at (by omega) (by omega), wrap_small (by omega) (by omega)]
    simp [r1Of, r2Of, csrOf]
  · have e : operT ⟨op, rdOf (kN op) x, r1Of (kN op) x, r2Of (kN op) x, immOf (kN op) x, csrOf (kN op) x⟩ = [regT (rdOf (kN op) x), Lib.itoa (immOf (kN op) x)] := by unfold operT; simp only [Int.toNat_natCast]; rw [if_neg (by omega), if_pos k]
    rw [e]
    unfold Scan.read
    rw [if_neg (by omega), if_pos k]
    rw [nreg_at d0 d1, nnum_at n0 n1, k]
    simp [r1Of, r2Of, csrOf]
  · have e : operT ⟨op, rdOf (kN op) x, r1Of (kN op) x, r2Of (kN op) x, immOf (kN op) x, csrOf (kN op) x⟩ = [regT (rdOf (kN op) x), regT (r1Of (kN op) x), Lib.itoa (immOf (kN op) x)] := by unfold operT; simp only [Int.toNat_natCast]; rw [if_neg (by omega), if_neg (by omega), if_pos k]
    rw [e]
    unfold Scan.read
    rw [if_neg (by omega), if_neg (by omega), if_pos k]
    rw [nreg_at d0 d1, nreg_at a0 a1, nnum_at n0 n1]
    rcases k with k | k | k <;> rw [k] <;> simp [r2Of, csrOf]
  · have e : operT ⟨op, rdOf (kN op) x, r1Of (kN op) x, r2Of (kN op) x, immOf (kN op) x, csrOf (kN op) x⟩ = [regT (rdOf (kN op) x), farT (immOf (kN op) x) (r1Of (kN op) x)] := by unfold operT; simp only [Int.toNat_natCast]; rw [if_neg (by omega), if_neg (by omega), if_neg (by omega), if_pos k]
    rw [e]
    unfold Scan.read
    rw [if_neg (by omega), if_neg (by omega), if_neg (by omega), if_pos k]
    rw [nreg_at d0 d1, nfar_at n0 n1 a0 a1, k]
    simp [r2Of, csrOf]
  · have e : operT ⟨op, rdOf (kN op) x, r1Of (kN op) x, r2Of (kN op) x, immOf (kN op) x, csrOf (kN op) x⟩ = [regT (r1Of (kN op) x), regT (r2Of (kN op) x), Lib.itoa (immOf (kN op) x)] := by unfold operT; simp only [Int.toNat_natCast]; rw [if_neg (by omega), if_neg (by omega), if_neg (by omega), if_neg (by omega), if_pos k]
    rw [e]
    unfold Scan.read
    rw [if_neg (by omega), if_neg (by omega), if_neg (by omega), if_neg (by omega), if_pos k]
    rw [nreg_at a0 a1, nreg_at b0 b1, nnum_at n0 n1, k]
    simp [rdOf, csrOf]
  · have e : operT ⟨op, rdOf (kN op) x, r1Of (kN op) x, r2Of (kN op) x, immOf (kN op) x, csrOf (kN op) x⟩ = [regT (r2Of (kN op) x), farT (immOf (kN op) x) (r1Of (kN op) x)] := by unfold operT; simp only [Int.toNat_natCast]; rw [if_neg (by omega), if_neg (by omega), if_neg (by omega), if_neg (by omega), if_neg (by omega), if_pos k]
    rw [e]
    unfold Scan.read
    rw [if_neg (by omega), if_neg (by omega), if_neg (by omega), if_neg (by omega), if_neg (by omega), if_pos k]
    rw [nreg_at b0 b1, nfar_at n0 n1 a0 a1, k]
    simp [rdOf, csrOf]
  · have e : operT ⟨op, rdOf (kN op) x, r1Of (kN op) x, r2Of (kN op) x, immOf (kN op) x, csrOf (kN op) x⟩ = [regT (rdOf (kN op) x), regT (r1Of (kN op) x), regT (r2Of (kN op) x)] := by unfold operT; simp only [Int.toNat_natCast]; rw [if_neg (by omega), if_neg (by omega), if_neg (by omega), if_neg (by omega), if_neg (by omega), if_neg (by omega), if_pos k]
    rw [e]
    unfold Scan.read
    rw [if_neg (by omega), if_neg (by omega), if_neg (by omega), if_neg (by omega), if_neg (by omega), if_neg (by omega), if_pos k]
    rw [nreg_at d0 d1, nreg_at a0 a1, nreg_at b0 b1, k]
    simp [immOf, csrOf]
  · by_cases h9 : 54 ≤ op
    · have e : operT ⟨op, rdOf (kN op) x, r1Of (kN op) x, r2Of (kN op) x, immOf (kN op) x, csrOf (kN op) x⟩ = [regT (rdOf (kN op) x), Lib.itoa (csrOf (kN op) x), Lib.itoa (r1Of (kN op) x)] := by unfold operT; simp only [Int.toNat_natCast]; rw [if_neg (by omega), if_neg (by omega), if_neg (by omega), if_neg (by omega), if_neg (by omega), if_neg (by omega), if_neg (by omega), if_pos k, if_pos (by omega)]
      rw [e]
      unfold Scan.read
      rw [if_neg (by omega), if_neg (by omega), if_neg (by omega), if_neg (by omega), if_neg (by omega), if_neg (by omega), if_neg (by omega), if_pos k, if_pos h9]
      rw [nreg_at d0 d1, nnum_at c0 c1, nnum_at (by omega) (by omega), k]
      simp [r2Of, immOf]
    · have e : operT ⟨op, rdOf (kN op) x, r1Of (kN op) x, r2Of (kN op) x, immOf (kN op) x, csrOf (kN op) x⟩ = [regT (rdOf (kN op) x), Lib.itoa (csrOf (kN op) x), regT (r1Of (kN op) x)] := by unfold operT; simp only [Int.toNat_natCast]; rw [if_neg (by omega), if_neg (by omega), if_neg (by omega), if_neg (by omega), if_neg (by omega), if_neg (by omega), if_neg (by omega), if_pos k, if_neg (by omega)]
      rw [e]
      unfold Scan.read
      rw [if_neg (by omega), if_neg (by omega), if_neg (by omega), if_neg (by omega), if_neg (by omega), if_neg (by omega), if_neg (by omega), if_pos k, if_neg h9]
      rw [nreg_at d0 d1, nnum_at c0 c1, nreg_at a0 a1, k]
      simp [r2Of, immOf]
  · have e : operT ⟨op, rdOf (kN op) x, r1Of (kN op) x, r2Of (kN op) x, immOf (kN op) x, csrOf (kN op) x⟩ = [] := by unfold operT; simp only [Int.toNat_natCast]; rw [if_neg (by omega), if_neg (by omega), if_neg (by omega), if_neg (by omega), if_neg (by omega), if_neg (by omega), if_neg (by omega), if_neg (by omega)]
    rw [e]
    unfold Scan.read
    rw [if_neg (by omega), if_neg (by omega), if_neg (by omega), if_neg (by omega), if_neg (by omega), if_neg (by omega), if_neg (by omega), if_neg (by omega), k]
    simp [rdOf, r1Of, r2Of, immOf, csrOf]
theorem oper_no (i : Ins) : ∀ y ∈ operT i, (44 : UInt8) ∉ y := by
  have hn := fun n => itoa_no (c := 44) n (by decide)
  have hr := fun n => reg_no (c := 44) n (by decide) (by decide)
  have hf := far_no
  unfold operT
  repeat' split
  all_goals (intro y hy; simp only [List.mem_cons, List.not_mem_nil, or_false] at hy)
  all_goals first
    | (rcases hy with rfl | rfl | rfl <;> first | exact hn _ | exact hr _ | exact hf _ _)
    | (rcases hy with rfl | rfl <;> first | exact hn _ | exact hr _ | exact hf _ _)
    | exact hy.elim
theorem nm_no : ∀ op, op < 57 → (32 : UInt8) ∉ nmTab.getD op [] := by decide +kernel
/-- the text of an instruction is its own again -/
theorem text_parse {i : Ins} (h : i.can) : parseT (textT i) = some i := by
  have hop : i.op.toNat < 57 := by have := h.1; omega
  have hn : (32 : UInt8) ∉ nmOf i.op := nm_no _ hop
  have hp : partsT (textT i) = (nmOf i.op, operT i) := by
    cases e : operT i with
    | nil =>
      have ht : textT i = nmOf i.op := by unfold textT; rw [if_pos e]
      unfold partsT
      rw [ht, cut_no (t := []) hn]
      rfl
    | cons x r =>
      have ht : textT i = nmOf i.op ++ 32 :: Lib.join (x :: r) [44, 32] := by unfold textT; rw [if_neg (by rw [e]; simp), e]
      unfold partsT
      rw [ht, cut_app hn]
      simp only [if_true]
      rw [split_join r x (fun y hy => oper_no i y (by rw [e]; exact hy))]
  unfold parseT
  rw [hp]
  simp only
  rw [show findT (nmOf i.op) = some i.op.toNat from find_at hop]
  simp only
  rw [scan_at h, if_pos ⟨⟨rfl, rfl⟩, h⟩]

end Go.Proofs.YtkcdnhennnjneaaGreatDoor
