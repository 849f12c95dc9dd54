/- parchmentlaw24.CheckArity returns true for every string, and leaves it as it was; the package-level tables start as the program lays them. -/
import Derived.Test.YtfigbonpcodfpaaDoorTop
import Derived.Test.YtfigbonpcodfpaaDoorLaw
set_option linter.unusedSimpArgs false
set_option linter.unusedVariables false
set_option linter.unusedSectionVars false
/- THE CLAIM: parchmentlaw24.CheckArity returns true for every string, and leaves it as it was. -/
set_option maxRecDepth 100000
namespace Go.Proofs.YtfigbonpcodfpaaDoor
open Go Go.Abs Go.ChangeShapes Go.WideShapes Go.ChangeAt Go.RowKit Go.Lib
open Go.ChangeMaps (open_string shut_string)

theorem arity_answers (x : Bytes) : AnswersTo Tryd.prog Abs.env 5 [.str x] [] false (.bool true) [] :=
  entry_answers (a := true) (us := [.str x]) (st := []) (v := w24_CheckArity 66 (calAt 66) x) (r := fun r => (.bool r, [])) (w24_CheckArity_eok 66 (tab_all 66)) (by kernel_rfl) (arity_law x)

theorem arity_walk (s : ByteArray) (W : World) (hG : GlobOK (immOf W) Abs.env) : Calls Tryd.prog 5 #[.string s] W fun e w' => e = .returned (.bool true) ∧ Below W.heap.size W w' := by
  refine (calls_of_answers (code := bodyOf Tryd.f5) Tryd.func5 (by kernel_rfl) (by kernel_rfl) (arity_answers s.data.toList) hG ⟨rfl, fun i hi => ?_⟩).mono ?_
  · obtain rfl : i = 0 := by simp at hi; omega
    exact .str _ _ rfl
  · rintro e w' ⟨v, imm, loc, rfl, hr, hb⟩
    exact ⟨by rw [hr.bool_inv], hb⟩

theorem arity_contract (H : Type) (enc : TypeId × Value → H) (W : World) (base : Nat) (args : Array Value) (ds gs : List (DataW H)) (before : List MemPlace)
    (hval : ∀ (j : Nat) t v, Tryd.f5.params[j]? = some t → args[j]? = some v → Value.okWide Tryd.prog W .any base t v)
    (hW : DataW.Whole enc Tryd.prog Tryd.f5.params.toList Rows.checkAritySpec.vars false W args.toList ds gs before) (hG : GlobOK (immOf W) Abs.env) :
    Calls Tryd.prog 5 args W fun e W' => ∃ v, e = .returned v ∧ Rows.checkAritySpec.post enc Tryd.prog Tryd.f5 false true false false W args v W' := by
  have hW' := hW
  obtain ⟨p, q, hA0, hV0, rfl, _, _⟩ := hW
  have hA : DataW.TrodAll enc Tryd.prog W 0 (fun _ => true) true Tryd.f5.params.toList args.toList ds p := hA0
  rw [Tryd.params5] at hA hval
  obtain ⟨v0, d0, rfl, rfl, h0⟩ := trodAll_one hA
  obtain ⟨rfl, rfl⟩ := trodVars_none hV0
  obtain ⟨s, rfl, rfl, rfl, ws⟩ := open_string Tryd.underlying9 (hval 0 9 v0 rfl rfl) h0
  clear hA0 hV0
  refine (arity_walk s W hG).mono ?_
  rintro e W' ⟨rfl, bel⟩
  have e1 : Rows.checkAritySpec.fn H ([.lit (.string s.data.toList)] ++ []) = { results := [.lit (.bool true)], args := [.lit (.string s.data.toList)] } := rfl
  refine ⟨_, rfl, _, _, _, [], [], [], hW', ?_, ?_, ?_, bel.frame _, fun h => by cases h⟩
  · rw [e1]; exact trodAll_mk1 (shut_bool Tryd.underlying4 _)
  · rw [e1]; exact trodAll_mk1 (shut_string Tryd.underlying9 ws)
  · rw [e1]; rfl

theorem arity_reads (os : Os) {H : Type} (enc : TypeId × Value → H) : ∃ places, DataW.whole enc Tryd.prog ((laidWorld os).forCall (fun _ _ => 0) ⟨#[], #[.string ⟨#[]⟩], []⟩).memory Tryd.f5.params.toList Rows.checkAritySpec.vars false #[Value.string ⟨#[]⟩].toList 8 = some ([.lit (.string [])], [], places) :=
  ⟨[], by kernel_rfl⟩

theorem arity_lifted (os : Os) (started : os.Started) (H : Type) (enc : TypeId × Value → H) (F : Stop.Interp) :
    ReturnsInHanded {} Tryd.checked os 5 .any ((OpenSpec.ofChange Rows.checkAritySpec).preRow enc Tryd.prog Tryd.f5 Rows.checkArityRow.domain false Rows.checkArityRow.laid) (((OpenSpec.ofChange Rows.checkAritySpec).at F).post enc Tryd.prog Tryd.f5 false true false false) := by
  obtain ⟨places, hx⟩ := arity_reads os enc
  refine returnsInHanded_of_row (C := Tryd.checked) (s := OpenSpec.ofChange Rows.checkAritySpec) own started (by kernel_rfl) Tryd.func5
    (witness_row_at (enc := enc) (C := Tryd.checked) false (laidWorld os) #[.string ⟨#[]⟩] rfl (by kernel_rfl) (by kernel_rfl) (by kernel_rfl)
      (OpenSpec.preRow_of_cond 8 hx (by kernel_rfl) (fun k hk => by cases hk) (by kernel_rfl) (laid_met os _))) ?_
  intro W base args ds gs before hval hW _ _ _ hL hS _
  exact arity_contract H enc W base args ds gs before hval hW (glob_ok hL hS)

theorem arity_said : Rows.CheckAritySaid :=
  OpenClaim.holds_of_cond 5 Tryd.f5 rfl rfl rfl rfl rfl rfl rfl ⟨rfl, rfl, rfl, rfl, rfl⟩ rfl rfl rfl rfl rfl (by kernel_rfl) Tryd.func5 (by kernel_rfl)
    (of_decide_eq_true (by kernel_rfl)) (by unfold Func.isWrapper; first | (rw [if_pos (by decide +kernel)]; kernel_rfl) | (rw [if_neg (by decide +kernel)]; exact ⟨rfl, rfl⟩))
    (fun os started H enc _ F => by rw [OpenClaim.pre_eq_preRow]; exact arity_lifted os started H enc F)

theorem arity_plain (f : FuncId) (fn : Func) (hf : Tryd.pinned.checked.prog.funcNamed "parchment/parchmentlaw24.CheckArity" = some f) (hfn : Tryd.pinned.checked.prog.funcs[f]? = some fn) :
    true = Tryd.pinned.checked.prog.looks [] ∧ ∀ (j : Nat) t, fn.params[j]? = some t → Tryd.pinned.checked.prog.wantsStandIn t = false := by
  obtain rfl : f = 5 := Option.some.inj ((show Tryd.prog.funcNamed "parchment/parchmentlaw24.CheckArity" = some 5 by kernel_rfl).symm.trans hf) |>.symm
  obtain rfl : fn = Tryd.f5 := (Option.some.inj (Tryd.func5.symm.trans hfn)).symm
  refine ⟨by kernel_rfl, fun j t ht => ?_⟩
  rw [Tryd.params5] at ht
  obtain rfl : t = 9 := by simpa using Array.mem_of_getElem? ht
  exact (show Tryd.prog.wantsStandIn 9 = false by kernel_rfl)

theorem checkArity_card : Rows.CheckArityCardSaid :=
  Claim7.holds_tied_plain_at .later [] _ _ _ _ arity_said (fun _ h => by cases h) (by kernel_rfl) (fun _ h => by cases h) checkArity_row_tie rfl ⟨rfl, rfl⟩ (by kernel_rfl) rfl arity_plain (by kernel_rfl)

end Go.Proofs.YtfigbonpcodfpaaDoor

