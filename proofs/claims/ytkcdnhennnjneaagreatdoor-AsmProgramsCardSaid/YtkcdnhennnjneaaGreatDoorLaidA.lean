import Derived.Test.YtkcdnhennnjneaaGreatDoorAsmE
import Derived.Test.YtkcdnhennnjneaaGreatDoorDoorK
import Derived.LaidHandle
import Derived.LaidLaws
import Derived.Lib.LaidTab
import Derived.Stop.LaidErr
import Derived.Shelf.Vars
import Derived.Lay
import Derived.Handed
namespace Go.Proofs.YtkcdnhennnjneaaGreatDoor
open Go.RowKit
set_option maxRecDepth 100000
set_option linter.unusedVariables false
set_option linter.unusedSimpArgs false

theorem door_names : Tryz.prog.globalNamed "pinnace/inst.names" = some 1 := by kernel_rfl
theorem door_words : Tryz.prog.globalNamed "pinnace/inst.words" = some 2 := by kernel_rfl
theorem door_namesT : (Tryz.prog.globals[1]?).map (·.type) = some 120 := by kernel_rfl
theorem door_wordsT : (Tryz.prog.globals[2]?).map (·.type) = some 129 := by kernel_rfl
def wOf (d : DataW Unit) : Int := match d with | .lit (.int _ n) => n | _ => 0
def sOf (d : DataW Unit) : List UInt8 := match d with | .lit (.string s) => s | _ => []
def partsOf (d : DataW Unit) : List (DataW Unit) := match d with | .agg l => l | _ => []
theorem words_tab : ∀ j, j < 57 → ((partsOf Rows.laid_pinnace_inst_words).map wOf).getD j 0 = (wN j : Int) := by decide +kernel
/-- what the condition gives a walk: the two tables -/
theorem tabs_of_metR {W : World} {rest : List (String × DataW Unit)} (h : laidMet Tryz.prog (("pinnace/inst.names", Rows.laid_pinnace_inst_names) :: ("pinnace/inst.words", Rows.laid_pinnace_inst_words) :: rest) W) : TabW W ∧ TabS W := by
  obtain ⟨ps, ⟨g, t, cs, fuel, p, q, hg, ht, hvar, hd, ⟨g2, t2, cs2, fuel2, p2, q2, hg2, ht2, hvar2, hd2, _, _⟩, _⟩, _⟩ := h
  obtain rfl := Option.some.inj (door_names.symm.trans hg)
  obtain rfl := Option.some.inj (door_namesT.symm.trans ht)
  obtain rfl := Option.some.inj (door_words.symm.trans hg2)
  obtain rfl := Option.some.inj (door_wordsT.symm.trans ht2)
  have hd' : DataW.trod (fun _ => ()) Tryz.prog W 0 (fun _ => true) false fuel 120 cs.toList = some (.agg (partsOf Rows.laid_pinnace_inst_names), p) := hd
  have hd2' : DataW.trod (fun _ => ()) Tryz.prog W 0 (fun _ => true) false fuel2 129 cs2.toList = some (.agg (partsOf Rows.laid_pinnace_inst_words), p2) := hd2
  obtain ⟨_, k1⟩ := tab_at Tryz.underlying120 (by kernel_rfl) (by kernel_rfl) hd'
  obtain ⟨_, k2⟩ := tab_at Tryz.underlying129 (by kernel_rfl) (by kernel_rfl) hd2'
  refine ⟨fun j hj => ?_, fun j hj => ?_⟩
  · obtain ⟨c, f, y, hc, hy, hdj⟩ := k2 j hj
    obtain ⟨n, rfl, hy1⟩ := int_at Tryz.underlying44 hy
    have e := words_tab j hj
    rw [hy1] at hdj
    simp only [List.getD, List.getElem?_map, hdj, Option.map_some, Option.getD_some, wOf] at e
    rw [World.var?_cell hg2 hvar2 j, ← Array.getElem?_toList, hc, e]
  · obtain ⟨c, f, y, hc, hy, hdj⟩ := k1 j hj
    obtain ⟨s, rfl, hy1⟩ := str_at Tryz.underlying9 hy
    refine ⟨s, ?_, ?_⟩
    · rw [World.var?_cell hg hvar j, ← Array.getElem?_toList, hc]
    · rw [hy1] at hdj
      have e : nmTab = (partsOf Rows.laid_pinnace_inst_names).map sOf := rfl
      rw [e]
      simp only [List.getD, List.getElem?_map, hdj, Option.map_some, Option.getD_some, sOf]
abbrev asmData : List (String × DataW Unit) := [("math/bits.deBruijn32tab", Rows.laid_math_bits_deBruijn32tab), ("math/bits.deBruijn64tab", Rows.laid_math_bits_deBruijn64tab), ("internal/strconv.uint64pow10", Rows.laid_internal_strconv_uint64pow10), ("unicode/utf8.acceptRanges", Rows.laid_unicode_utf8_acceptRanges), ("strconv.ErrRange", Rows.laid_strconv_ErrRange), ("strconv.ErrSyntax", Rows.laid_strconv_ErrSyntax), ("pinnace/inst.names", Rows.laid_pinnace_inst_names), ("pinnace/inst.words", Rows.laid_pinnace_inst_words), ("unicode/utf8.first", Rows.laid_unicode_utf8_first)]
abbrev asmAll : List (String × DataW Unit) := [("math/bits.deBruijn32tab", Rows.laid_math_bits_deBruijn32tab), ("math/bits.deBruijn64tab", Rows.laid_math_bits_deBruijn64tab), ("internal/strconv.uint64pow10", Rows.laid_internal_strconv_uint64pow10), ("unicode/utf8.acceptRanges", Rows.laid_unicode_utf8_acceptRanges), ("errors.errorType", Rows.laid_errors_errorType), ("strconv.ErrRange", Rows.laid_strconv_ErrRange), ("strconv.ErrSyntax", Rows.laid_strconv_ErrSyntax), ("pinnace/inst.names", Rows.laid_pinnace_inst_names), ("pinnace/inst.words", Rows.laid_pinnace_inst_words), ("unicode/utf8.first", Rows.laid_unicode_utf8_first)]
theorem esStar : "*" ++ "errors.errorString" = "*errors.errorString" := by decide
theorem row_es (u : TypeId) (h : Tryz.prog.typeName? 3 u = some "*errors.errorString") : u = 206 :=
  typeName_ptr_named (nm := "errors.errorString") (by rw [esStar]; kernel_rfl) (by kernel_rfl) (by decide) u (by rw [esStar]; exact h)
theorem lt_of_var {W : World} {n : String} {g : Nat} {v : Value} (hg : Tryz.prog.globalNamed n = some g) (h : W.var? Tryz.prog n = some #[v]) : g < W.heap.size := by
  have h2 := World.var?_cell hg h 0
  exact World.block_lt_of_cell? W ⟨g, 0, none⟩ (by simpa using h2)
/-- what the conditions give a walk -/
theorem env_of_data {W : World} (h : laidMet Tryz.prog asmData W) (hsh : W.ShapedOpen Tryz.prog) : Env W.heap.size W := by
  have h3 : laidMet Tryz.prog (("internal/strconv.uint64pow10", Lib.tabData .u64 Lib.pow10Tab) :: asmData.drop 3) W := h.tail.tail
  have ht : Lib.TabIs Tryz.prog W "internal/strconv.uint64pow10" .u64 Lib.pow10Tab := Lib.tabIs_of_head g_tab (by kernel_rfl) Tryz.underlying196 Tryz.underlying173 (by kernel_rfl) (by kernel_rfl) h3
  obtain ⟨a1, _, hv1, _⟩ := laid_sentinel h.tail.tail.tail.tail g_er (by kernel_rfl) Tryz.underlying25 row_es Tryz.underlying206 Tryz.underlying208 rfl rfl Tryz.underlying9 (by kernel_rfl) (by kernel_rfl)
  obtain ⟨a2, _, hv2, _⟩ := laid_sentinel h.tail.tail.tail.tail.tail g_es (by kernel_rfl) Tryz.underlying25 row_es Tryz.underlying206 Tryz.underlying208 rfl rfl Tryz.underlying9 (by kernel_rfl) (by kernel_rfl)
  obtain ⟨hw, hn⟩ := tabs_of_metR h.tail.tail.tail.tail.tail.tail
  have hm : ∃ m, W.cell? ⟨3, 0, none⟩ = some (.int .i64 m) := cell_of_shapedOpen_int hsh (of_decide_eq_true (by kernel_rfl)) (zero := #[.int .i64 0]) (t := 3) (by kernel_rfl) rfl (by kernel_rfl) (by kernel_rfl) Tryz.underlying3
  have hp := ht.cell g_tab 0 (by decide)
  obtain ⟨m, hm2⟩ := hm
  obtain ⟨s, hs, _⟩ := hn 0 (by decide)
  exact ⟨Nat.le_refl _, World.block_lt_of_cell? W _ hp, lt_of_var g_es hv2, lt_of_var g_er hv1, World.block_lt_of_cell? W _ hm2, World.block_lt_of_cell? W _ (hw 0 (by decide)), World.block_lt_of_cell? W _ hs, ht, ⟨_, _, hv2⟩, ⟨_, _, hv1⟩, ⟨m, hm2⟩, hw, hn⟩
theorem env_of_laid9 {W : World} (h : laidMetH Tryz.prog asmData W) (hsh : W.ShapedOpen Tryz.prog) : Env W.heap.size W := env_of_data h hsh
theorem env_of_laid10 {W : World} (h : laidMetH Tryz.prog asmAll W) (hsh : W.ShapedOpen Tryz.prog) : Env W.heap.size W ∧ W.cell? ⟨0, 0, none⟩ = some errTy := by
  have h' : laidMet Tryz.prog asmData W ∧ handlesMet Tryz.prog [("errors.errorType", Rows.laid_errors_errorType)] W := h
  refine ⟨env_of_data h'.1 hsh, handle_of_laid ⟨⟨[], rfl, List.nodup_nil, fun _ _ h => by cases h⟩, h'.2⟩⟩

/-- a world that meets the conditions -/
noncomputable def laidWorldA (os : Os) : World := (laidWorld os).layVars Tryz.prog asmData
theorem laidWorldA_data (os : Os) (args : Array Value) : laidMet Tryz.prog asmData ((laidWorldA os).forCall (fun _ _ => 0) ⟨#[], args, []⟩).memory := by
  have e1 : (asmData.filter fun x => (asmData.map (·.1)).contains x.1) = asmData := List.filter_eq_self.2 fun x hx => List.contains_iff_mem.2 (List.mem_map.2 ⟨x, hx, rfl⟩)
  have e2 : (asmData.filter fun x => !(asmData.map (·.1)).contains x.1) = [] := List.filter_eq_nil_iff.2 fun x hx => by rw [List.contains_iff_mem.2 (List.mem_map.2 ⟨x, hx, rfl⟩)]; simp
  have hf : (laidWorld os).layFits Tryz.prog asmData [] = true := by kernel_rfl
  have hi : (laidWorld os).layIfaces Tryz.prog asmData (laidWorldA os) = true := by kernel_rfl
  have h : laidMet Tryz.prog asmData (laidWorldA os) := laidMet_layVars (w0 := laidWorld os) (asmData.map (·.1)) [] (by rw [e1]; rfl) (by rw [e1]; exact hf) (by rw [e1]; exact hi) (by rw [e2]; exact LaidIn.none)
  exact h.of_heap (by simp [World.memory, World.forCall, Input.heap])
theorem laidWorldA_met9 (os : Os) (args : Array Value) : laidMetH Tryz.prog asmData ((laidWorldA os).forCall (fun _ _ => 0) ⟨#[], args, []⟩).memory := laidWorldA_data os args
theorem laidWorldA_met10 (os : Os) (args : Array Value) : laidMetH Tryz.prog asmAll ((laidWorldA os).forCall (fun _ _ => 0) ⟨#[], args, []⟩).memory :=
  laidMetH_of_parts (laidWorldA_data os args) (by kernel_rfl)
theorem laidWorldA_shaped (os : Os) (args : Array Value) : ((laidWorldA os).forCall (fun _ _ => 0) ⟨#[], args, []⟩).Shaped Tryz.prog :=
  World.shaped_of_ZipB (by kernel_rfl) (by kernel_rfl)

/-- the plain wrap beside a further condition, the world's shape kept -/
theorem rih_and_shaped {H : Type} {enc : TypeId × Value → H} {a : Assume} {C : Checked} {os : Os} {f : FuncId} {fn : Func} {s : ChangeSpec} {conds : List PathCond} {apart fresh handsOn again : Bool} {X : World → Array Value → Prop}
    (hX : ∀ (w w' : World) (args : Array Value), w.heap = w'.heap → X w args → X w' args)
    (own : ownKnob C.prog.godebug = none) (started : os.Started) (noInit : C.prog.inits.idxOf? f = none) (hfn : C.prog.funcs[f]? = some fn)
    (witness : ∃ (w : World) (tape : Tape) (i : Input), w.os = os ∧ (w.forCall tape i).Shaped C.prog ∧ i.vars = [] ∧ Input.okWide C.prog (w.forCall tape i) .any w.heap.size f i ∧
      ((s.pre enc C.prog fn conds apart (w.forCall tape i).memory i.args ∧ X (w.forCall tape i).memory i.args) ∧ sizedMet enc C.prog fn (OpenSpec.ofChange s) apart (w.forCall tape i).memory i.args) ∧ a.holds C.prog (lone (Frame.enter C.prog f i.args .normal) [] (w.forCall tape i)))
    (contract : ∀ (W : World) (base : Nat) (args : Array Value) (ds gs : List (DataW H)) (before : List MemPlace),
      (∀ (j : Nat) t v, fn.params[j]? = some t → args[j]? = some v → Value.okWide C.prog W .any base t v) →
      DataW.Whole enc C.prog fn.params.toList s.vars apart W args.toList ds gs before →
      conds.all (PathCond.test C.prog ⟨fn.params.toList, ds, s.plain.varTypes C.prog, gs⟩) = true →
      (DataW.weightsEach C.prog (fn.params.toList ++ s.plain.varTypes C.prog) (ds ++ gs)).all (· ≤ reachBytes) = true → X W args →
      W.ShapedOpen C.prog →
      a.holds C.prog (lone (Frame.enter C.prog f args .normal) [] W) →
      Calls C.prog f args W fun e W' => ∃ v, e = .returned v ∧ s.post enc C.prog fn apart fresh handsOn again W args v W') :
    ReturnsInHanded a C os f .any (fun w args => (s.pre enc C.prog fn conds apart w args ∧ X w args) ∧ sizedMet enc C.prog fn (OpenSpec.ofChange s) apart w args) (s.post enc C.prog fn apart fresh handsOn again) := by
  refine returnsInHanded_of_calls own started noInit witness ?_
  intro w tape i _ hsh _ hok hpre hholds
  obtain ⟨_, _, _, fn', hfn', _, _, _, _, hval⟩ := hok
  have e : fn' = fn := Option.some.inj (hfn'.symm.trans hfn)
  subst e
  obtain ⟨⟨⟨ds, gs, before, hw, hc⟩, hx⟩, hz⟩ := hpre
  have hw' := DataW.Whole.of_heap (w' := w.forCall tape i) (by rfl) hw
  refine (contract (w.forCall tape i) w.heap.size i.args ds gs before hval hw' hc (hz.weights hw) (hX _ _ _ (by rfl) hx) hsh hholds).mono fun e W' ⟨v, he, hp⟩ => ?_
  subst he
  exact ChangeSpec.post_blind hp

end Go.Proofs.YtkcdnhennnjneaaGreatDoor
