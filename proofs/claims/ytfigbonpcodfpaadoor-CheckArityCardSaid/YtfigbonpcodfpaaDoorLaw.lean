/- The laws, told of the typed functions alone. -/
import Derived.Test.YtfigbonpcodfpaaDoorPure
import Derived.KernelRfl
set_option linter.unusedSimpArgs false
set_option linter.unusedVariables false
set_option linter.unusedSectionVars false
/- The laws, told of the typed functions alone: no program in sight. -/
set_option maxRecDepth 100000
namespace Go.Abs
open Go

theorem awake_true : w24_awake 64 (calAt 64) = some true := by kernel_rfl

def arityMap : List (Bytes × List Cell) := (check_many 64 (calAt 64)).getD []
def arityKeys : List Bytes := [[112, 111, 115, 105, 116, 105, 111, 110], [108, 97, 115, 116], [116, 114, 117, 101], [102, 97, 108, 115, 101], [115, 116, 114, 105, 110, 103], [115, 116, 114, 105, 110, 103, 45, 108, 101, 110, 103, 116, 104], [110, 111, 114, 109, 97, 108, 105, 122, 101, 45, 115, 112, 97, 99, 101], [110, 97, 109, 101], [110, 117, 109, 98, 101, 114], [99, 111, 117, 110, 116], [101, 109, 112, 116, 121], [101, 120, 105, 115, 116, 115], [110, 111, 116], [98, 111, 111, 108, 101, 97, 110], [117, 112, 112, 101, 114, 45, 99, 97, 115, 101], [108, 111, 119, 101, 114, 45, 99, 97, 115, 101], [115, 117, 109], [109, 105, 110], [109, 97, 120], [100, 105, 115, 116, 105, 110, 99, 116, 45, 118, 97, 108, 117, 101, 115], [114, 101, 118, 101, 114, 115, 101], [97, 98, 115], [99, 111, 110, 116, 97, 105, 110, 115], [115, 116, 97, 114, 116, 115, 45, 119, 105, 116, 104], [101, 110, 100, 115, 45, 119, 105, 116, 104], [115, 116, 114, 105, 110, 103, 45, 106, 111, 105, 110], [115, 117, 98, 115, 116, 114, 105, 110, 103], [99, 111, 110, 99, 97, 116]]

theorem mapHas_none {l : List (Bytes × List Cell)} {k : Bytes} (h : k ∉ l.map (·.1)) : mapGet l k = [] ∧ mapHas l k = false := by
  induction l with
  | nil => exact ⟨rfl, rfl⟩
  | cons p r ih =>
    obtain ⟨a, b⟩ := p
    rw [List.map_cons, List.mem_cons, not_or] at h
    have h2 : ¬ a = k := fun e => h.1 e.symm
    have := ih h.2
    exact ⟨by simp only [mapGet, h2, decide_false, cond_false, this.1], by simp only [mapHas, h2, decide_false, Bool.false_or, this.2]⟩

theorem arity_none {x : Bytes} (h : x ∉ arityKeys) (n : Nat) (C : Cal) : r24_Arity n C x = some (0, 0, false) := by
  simp only [arityKeys, List.mem_cons, List.not_mem_nil, or_false, not_or] at h
  obtain ⟨h0, h1, h2, h3, h4, h5, h6, h7, h8, h9, h10, h11, h12, h13, h14, h15, h16, h17, h18, h19, h20, h21, h22, h23, h24, h25, h26, h27⟩ := h
  simp only [r24_Arity, h0, h1, h2, h3, h4, h5, h6, h7, h8, h9, h10, h11, h12, h13, h14, h15, h16, h17, h18, h19, h20, h21, h22, h23, h24, h25, h26, h27, decide_false, cond_false]

theorem arity_law (x : Bytes) : w24_CheckArity 66 (calAt 66) x = some true := by
  by_cases h : x ∈ arityKeys
  · have hall : (arityKeys.all fun k => w24_CheckArity 66 (calAt 66) k == some true) = true := by kernel_rfl
    simpa using List.all_eq_true.1 hall x h
  · have ha : w24_awake 65 (calAt 65) = some true := by kernel_rfl
    have hm : check_many 64 (calAt 64) = some arityMap := by kernel_rfl
    have hk : (arityMap.map (·.1)).all (fun k => arityKeys.contains k) = true := by kernel_rfl
    have hx : x ∉ arityMap.map (·.1) := fun hc => h (by simpa using List.all_eq_true.1 hk x hc)
    obtain ⟨h1, h2⟩ := mapHas_none hx
    have hc : check_Arity 65 (calAt 65) x = some (0, 0, false) := by
      have : check_Arity 65 (calAt 65) x = Option.bind (check_many 64 (calAt 64)) fun r1 => some (((mapGet r1 x).getD 0 (.int 0)).i, ((mapGet r1 x).getD 1 (.int 0)).i, mapHas r1 x) := rfl
      rw [this, hm, Option.bind_some, h1, h2]; rfl
    have : w24_CheckArity 66 (calAt 66) x = Option.bind (w24_awake 65 (calAt 65)) fun r1 => (bif !r1 then some false else (Option.bind (check_Arity 65 (calAt 65) x) fun r2 => (Option.bind (r24_Arity 65 (calAt 65) x) fun r3 => (bif decide (r2.1 = r3.1) then (bif decide (r2.2.1 = r3.2.1) then some (r2.2.2 == r3.2.2) else some false) else some false)))) := rfl
    rw [this, ha, hc, arity_none h]; rfl

end Go.Abs

