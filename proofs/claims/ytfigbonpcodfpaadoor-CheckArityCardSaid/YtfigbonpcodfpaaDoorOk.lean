/- The typed functions answer for the program, given what the library functions answer. -/
import Derived.Test.YtfigbonpcodfpaaDoorRun
import Derived.Test.YtfigbonpcodfpaaDoorAbsSndD
set_option linter.unusedSimpArgs false
set_option linter.unusedVariables false
set_option linter.unusedSectionVars false
/- The typed functions answer for the program: printed by gen.py. -/
set_option maxRecDepth 100000
set_option linter.unusedVariables false
set_option linter.unusedSimpArgs false
namespace Go.Abs
open Go Go.Proofs

theorem env_ok : EnvOK Tryd.prog env := envB_ok (by kernel_rfl)
theorem ents_cons {P : Program} {f : FuncId} {e : Entry} {l : List (FuncId × Entry)} (h : EntryOK P env f e) (H : ∀ p, p ∈ l → EntryOK P env p.1 p.2) : ∀ p, p ∈ (f, e) :: l → EntryOK P env p.1 p.2 := fun p hp => by
  rcases List.mem_cons.1 hp with rfl | hp
  · exact h
  · exact H p hp
theorem ents_nil {P : Program} : ∀ p, p ∈ ([] : List (FuncId × Entry)) → EntryOK P env p.1 p.2 := fun p hp => nomatch hp

theorem w24_CheckOne_fn (n : Nat) (C : Cal) (hT : TableOK Tryd.prog env (tab C)) : FnOK Tryd.prog env (w24_CheckOne_ctx n C) 3 (bodyOf Tryd.f3) :=
  ⟨⟨Tryd.f3, Tryd.func3, by kernel_rfl, by kernel_rfl, by kernel_rfl, by kernel_rfl⟩, by kernel_rfl, by kernel_rfl, by kernel_rfl, by kernel_rfl,
  loopsOK_none fun _ => by kernel_rfl,
  sectsOK_none fun _ => by kernel_rfl, hT⟩
theorem w24_CheckWithin_l0_ok (n : Nat) (C : Cal) : LoopOK (w24_CheckWithin_ctx n C) 0 { keep := [1, 5, 6, 7], grow := [], cells := [], out := [1], res := [4] } (loopBody 0 (bodyOf Tryd.f4)) (w24_CheckWithin_l0_T n C n) := by
  refine ⟨fun k => w24_CheckWithin_l0_T n C k, n, rfl, fun fr st κ κp => by show w24_CheckWithin_l0_T n C 0 fr st κ κp = .fail; unfold w24_CheckWithin_l0_T; split <;> rfl, fun k fr st κ κp hne => ?_⟩
  replace hne : w24_CheckWithin_l0_T n C (k + 1) fr st κ κp ≠ .fail := hne
  unfold w24_CheckWithin_l0_T at hne
  split at hne
  · rename_i v0 v1 v2 v3 v4
    exact Eq.trans (by kernel_rfl) (Eq.trans (w24_CheckWithin_l0_step n C k κ κp v0 v1 v2 v3 v4) (by kernel_rfl))
  · exact absurd rfl hne
theorem w24_CheckWithin_fn (n : Nat) (C : Cal) (hT : TableOK Tryd.prog env (tab C)) : FnOK Tryd.prog env (w24_CheckWithin_ctx n C) 4 (bodyOf Tryd.f4) :=
  ⟨⟨Tryd.f4, Tryd.func4, by kernel_rfl, by kernel_rfl, by kernel_rfl, by kernel_rfl⟩, by kernel_rfl, by kernel_rfl, by kernel_rfl, by kernel_rfl,
  loopsOK_of (by kernel_rfl) (by
    intro p hp f hf
    have hp : p ∈ [(0, { keep := [1, 5, 6, 7], grow := [], cells := [], out := [1], res := [4] })] := hp
    simp only [List.mem_cons, List.not_mem_nil, or_false] at hp
    rcases hp with rfl
    · have hf : some (w24_CheckWithin_l0_T n C n) = some f := hf
      cases hf; exact w24_CheckWithin_l0_ok n C
    ),
  sectsOK_none fun _ => by kernel_rfl, hT⟩
theorem w24_CheckArity_fn (n : Nat) (C : Cal) (hT : TableOK Tryd.prog env (tab C)) : FnOK Tryd.prog env (w24_CheckArity_ctx n C) 5 (bodyOf Tryd.f5) :=
  ⟨⟨Tryd.f5, Tryd.func5, by kernel_rfl, by kernel_rfl, by kernel_rfl, by kernel_rfl⟩, by kernel_rfl, by kernel_rfl, by kernel_rfl, by kernel_rfl,
  loopsOK_none fun _ => by kernel_rfl,
  sectsOK_none fun _ => by kernel_rfl, hT⟩
theorem w24_awake_fn (n : Nat) (C : Cal) (hT : TableOK Tryd.prog env (tab C)) : FnOK Tryd.prog env (w24_awake_ctx n C) 8 (bodyOf Tryd.f8) :=
  ⟨⟨Tryd.f8, Tryd.func8, by kernel_rfl, by kernel_rfl, by kernel_rfl, by kernel_rfl⟩, by kernel_rfl, by kernel_rfl, by kernel_rfl, by kernel_rfl,
  loopsOK_none fun _ => by kernel_rfl,
  sectsOK_none fun _ => by kernel_rfl, hT⟩
theorem w24_size_l0_ok (n : Nat) (C : Cal) : LoopOK (w24_size_ctx n C) 0 { keep := [1, 2, 5, 6], grow := [], cells := [], out := [5], res := [4] } (loopBody 0 (bodyOf Tryd.f9)) (w24_size_l0_T n C n) := by
  refine ⟨fun k => w24_size_l0_T n C k, n, rfl, fun fr st κ κp => by show w24_size_l0_T n C 0 fr st κ κp = .fail; unfold w24_size_l0_T; split <;> rfl, fun k fr st κ κp hne => ?_⟩
  replace hne : w24_size_l0_T n C (k + 1) fr st κ κp ≠ .fail := hne
  unfold w24_size_l0_T at hne
  split at hne
  · rename_i v0 v1 v2 v3_k v3_p v3_a v3_t v3_n v3_s v3_l
    exact Eq.trans (by kernel_rfl) (Eq.trans (w24_size_l0_step n C k κ κp v0 v1 v2 (XE.mk v3_k v3_p v3_a v3_t v3_n v3_s v3_l)) (by kernel_rfl))
  · exact absurd rfl hne
theorem w24_size_fn (n : Nat) (C : Cal) (hT : TableOK Tryd.prog env (tab C)) : FnOK Tryd.prog env (w24_size_ctx n C) 9 (bodyOf Tryd.f9) :=
  ⟨⟨Tryd.f9, Tryd.func9, by kernel_rfl, by kernel_rfl, by kernel_rfl, by kernel_rfl⟩, by kernel_rfl, by kernel_rfl, by kernel_rfl, by kernel_rfl,
  loopsOK_of (by kernel_rfl) (by
    intro p hp f hf
    have hp : p ∈ [(0, { keep := [1, 2, 5, 6], grow := [], cells := [], out := [5], res := [4] })] := hp
    simp only [List.mem_cons, List.not_mem_nil, or_false] at hp
    rcases hp with rfl
    · have hf : some (w24_size_l0_T n C n) = some f := hf
      cases hf; exact w24_size_l0_ok n C
    ),
  sectsOK_none fun _ => by kernel_rfl, hT⟩
theorem r23_Right_fn (n : Nat) (C : Cal) (hT : TableOK Tryd.prog env (tab C)) : FnOK Tryd.prog env (r23_Right_ctx n C) 10 (bodyOf Tryd.f10) :=
  ⟨⟨Tryd.f10, Tryd.func10, by kernel_rfl, by kernel_rfl, by kernel_rfl, by kernel_rfl⟩, by kernel_rfl, by kernel_rfl, by kernel_rfl, by kernel_rfl,
  loopsOK_none fun _ => by kernel_rfl,
  sectsOK_none fun _ => by kernel_rfl, hT⟩
theorem check_Query_fn (n : Nat) (C : Cal) (hT : TableOK Tryd.prog env (tab C)) : FnOK Tryd.prog env (check_Query_ctx n C) 11 (bodyOf Tryd.f11) :=
  ⟨⟨Tryd.f11, Tryd.func11, by kernel_rfl, by kernel_rfl, by kernel_rfl, by kernel_rfl⟩, by kernel_rfl, by kernel_rfl, by kernel_rfl, by kernel_rfl,
  loopsOK_none fun _ => by kernel_rfl,
  sectsOK_none fun _ => by kernel_rfl, hT⟩
theorem check_Update_fn (n : Nat) (C : Cal) (hT : TableOK Tryd.prog env (tab C)) : FnOK Tryd.prog env (check_Update_ctx n C) 12 (bodyOf Tryd.f12) :=
  ⟨⟨Tryd.f12, Tryd.func12, by kernel_rfl, by kernel_rfl, by kernel_rfl, by kernel_rfl⟩, by kernel_rfl, by kernel_rfl, by kernel_rfl, by kernel_rfl,
  loopsOK_none fun _ => by kernel_rfl,
  sectsOK_none fun _ => by kernel_rfl, hT⟩
theorem w24_empties_l1_ok (n : Nat) (C : Cal) : LoopOK (w24_empties_ctx n C) 1 { keep := [1, 3], grow := [], cells := [], out := [], res := [2] } (loopBody 1 (bodyOf Tryd.f13)) (w24_empties_l1_T n C n) := by
  refine ⟨fun k => w24_empties_l1_T n C k, n, rfl, fun fr st κ κp => by show w24_empties_l1_T n C 0 fr st κ κp = .fail; unfold w24_empties_l1_T; split <;> rfl, fun k fr st κ κp hne => ?_⟩
  replace hne : w24_empties_l1_T n C (k + 1) fr st κ κp ≠ .fail := hne
  unfold w24_empties_l1_T at hne
  split at hne
  · rename_i v0 v1_k v1_p v1_a v1_t v1_n v1_s v1_l
    exact Eq.trans (by kernel_rfl) (Eq.trans (w24_empties_l1_step n C k κ κp v0 (XE.mk v1_k v1_p v1_a v1_t v1_n v1_s v1_l)) (by kernel_rfl))
  · exact absurd rfl hne
theorem w24_empties_fn (n : Nat) (C : Cal) (hT : TableOK Tryd.prog env (tab C)) : FnOK Tryd.prog env (w24_empties_ctx n C) 13 (bodyOf Tryd.f13) :=
  ⟨⟨Tryd.f13, Tryd.func13, by kernel_rfl, by kernel_rfl, by kernel_rfl, by kernel_rfl⟩, by kernel_rfl, by kernel_rfl, by kernel_rfl, by kernel_rfl,
  loopsOK_of (by kernel_rfl) (by
    intro p hp f hf
    have hp : p ∈ [(1, { keep := [1, 3], grow := [], cells := [], out := [], res := [2] })] := hp
    simp only [List.mem_cons, List.not_mem_nil, or_false] at hp
    rcases hp with rfl
    · have hf : some (w24_empties_l1_T n C n) = some f := hf
      cases hf; exact w24_empties_l1_ok n C
    ),
  sectsOK_none fun _ => by kernel_rfl, hT⟩
theorem w24_stands_l0_ok (n : Nat) (C : Cal) : LoopOK (w24_stands_ctx n C) 0 { keep := [1, 2, 5], grow := [], cells := [], out := [], res := [4] } (loopBody 0 (bodyOf Tryd.f14)) (w24_stands_l0_T n C n) := by
  refine ⟨fun k => w24_stands_l0_T n C k, n, rfl, fun fr st κ κp => by show w24_stands_l0_T n C 0 fr st κ κp = .fail; unfold w24_stands_l0_T; split <;> rfl, fun k fr st κ κp hne => ?_⟩
  replace hne : w24_stands_l0_T n C (k + 1) fr st κ κp ≠ .fail := hne
  unfold w24_stands_l0_T at hne
  split at hne
  · rename_i v0 v1 v2_k v2_p v2_a v2_t v2_n v2_s v2_l
    exact Eq.trans (by kernel_rfl) (Eq.trans (w24_stands_l0_step n C k κ κp v0 v1 (XE.mk v2_k v2_p v2_a v2_t v2_n v2_s v2_l)) (by kernel_rfl))
  · exact absurd rfl hne
theorem w24_stands_fn (n : Nat) (C : Cal) (hT : TableOK Tryd.prog env (tab C)) : FnOK Tryd.prog env (w24_stands_ctx n C) 14 (bodyOf Tryd.f14) :=
  ⟨⟨Tryd.f14, Tryd.func14, by kernel_rfl, by kernel_rfl, by kernel_rfl, by kernel_rfl⟩, by kernel_rfl, by kernel_rfl, by kernel_rfl, by kernel_rfl,
  loopsOK_of (by kernel_rfl) (by
    intro p hp f hf
    have hp : p ∈ [(0, { keep := [1, 2, 5], grow := [], cells := [], out := [], res := [4] })] := hp
    simp only [List.mem_cons, List.not_mem_nil, or_false] at hp
    rcases hp with rfl
    · have hf : some (w24_stands_l0_T n C n) = some f := hf
      cases hf; exact w24_stands_l0_ok n C
    ),
  sectsOK_none fun _ => by kernel_rfl, hT⟩
theorem check_Arity_fn (n : Nat) (C : Cal) (hT : TableOK Tryd.prog env (tab C)) : FnOK Tryd.prog env (check_Arity_ctx n C) 15 (bodyOf Tryd.f15) :=
  ⟨⟨Tryd.f15, Tryd.func15, by kernel_rfl, by kernel_rfl, by kernel_rfl, by kernel_rfl⟩, by kernel_rfl, by kernel_rfl, by kernel_rfl, by kernel_rfl,
  loopsOK_none fun _ => by kernel_rfl,
  sectsOK_none fun _ => by kernel_rfl, hT⟩
theorem r24_Arity_fn (n : Nat) (C : Cal) (hT : TableOK Tryd.prog env (tab C)) : FnOK Tryd.prog env (r24_Arity_ctx n C) 16 (bodyOf Tryd.f16) :=
  ⟨⟨Tryd.f16, Tryd.func16, by kernel_rfl, by kernel_rfl, by kernel_rfl, by kernel_rfl⟩, by kernel_rfl, by kernel_rfl, by kernel_rfl, by kernel_rfl,
  loopsOK_none fun _ => by kernel_rfl,
  sectsOK_none fun _ => by kernel_rfl, hT⟩
theorem w24_of_fn (n : Nat) (C : Cal) (hT : TableOK Tryd.prog env (tab C)) : FnOK Tryd.prog env (w24_of_ctx n C) 20 (bodyOf Tryd.f20) :=
  ⟨⟨Tryd.f20, Tryd.func20, by kernel_rfl, by kernel_rfl, by kernel_rfl, by kernel_rfl⟩, by kernel_rfl, by kernel_rfl, by kernel_rfl, by kernel_rfl,
  loopsOK_none fun _ => by kernel_rfl,
  sectsOK_none fun _ => by kernel_rfl, hT⟩
theorem r23_Deep_l0_ok (n : Nat) (C : Cal) : LoopOK (r23_Deep_ctx n C) 0 { keep := [1, 3, 4], grow := [], cells := [], out := [3], res := [2] } (loopBody 0 (bodyOf Tryd.f21)) (r23_Deep_l0_T n C n) := by
  refine ⟨fun k => r23_Deep_l0_T n C k, n, rfl, fun fr st κ κp => by show r23_Deep_l0_T n C 0 fr st κ κp = .fail; unfold r23_Deep_l0_T; split <;> rfl, fun k fr st κ κp hne => ?_⟩
  replace hne : r23_Deep_l0_T n C (k + 1) fr st κ κp ≠ .fail := hne
  unfold r23_Deep_l0_T at hne
  split at hne
  · rename_i v0 v1 v2_k v2_p v2_a v2_t v2_n v2_s v2_l
    exact Eq.trans (by kernel_rfl) (Eq.trans (r23_Deep_l0_step n C k κ κp v0 v1 (XE.mk v2_k v2_p v2_a v2_t v2_n v2_s v2_l)) (by kernel_rfl))
  · exact absurd rfl hne
theorem r23_Deep_fn (n : Nat) (C : Cal) (hT : TableOK Tryd.prog env (tab C)) : FnOK Tryd.prog env (r23_Deep_ctx n C) 21 (bodyOf Tryd.f21) :=
  ⟨⟨Tryd.f21, Tryd.func21, by kernel_rfl, by kernel_rfl, by kernel_rfl, by kernel_rfl⟩, by kernel_rfl, by kernel_rfl, by kernel_rfl, by kernel_rfl,
  loopsOK_of (by kernel_rfl) (by
    intro p hp f hf
    have hp : p ∈ [(0, { keep := [1, 3, 4], grow := [], cells := [], out := [3], res := [2] })] := hp
    simp only [List.mem_cons, List.not_mem_nil, or_false] at hp
    rcases hp with rfl
    · have hf : some (r23_Deep_l0_T n C n) = some f := hf
      cases hf; exact r23_Deep_l0_ok n C
    ),
  sectsOK_none fun _ => by kernel_rfl, hT⟩
theorem r23_all_l0_ok (n : Nat) (C : Cal) : LoopOK (r23_all_ctx n C) 0 { keep := [2, 5], grow := [], cells := [], out := [], res := [4] } (loopBody 0 (bodyOf Tryd.f22)) (r23_all_l0_T n C n) := by
  refine ⟨fun k => r23_all_l0_T n C k, n, rfl, fun fr st κ κp => by show r23_all_l0_T n C 0 fr st κ κp = .fail; unfold r23_all_l0_T; split <;> rfl, fun k fr st κ κp hne => ?_⟩
  replace hne : r23_all_l0_T n C (k + 1) fr st κ κp ≠ .fail := hne
  unfold r23_all_l0_T at hne
  split at hne
  · rename_i v0 v1_k v1_p v1_a v1_t v1_n v1_s v1_l
    exact Eq.trans (by kernel_rfl) (Eq.trans (r23_all_l0_step n C k κ κp v0 (XE.mk v1_k v1_p v1_a v1_t v1_n v1_s v1_l)) (by kernel_rfl))
  · exact absurd rfl hne
theorem r23_all_fn (n : Nat) (C : Cal) (hT : TableOK Tryd.prog env (tab C)) : FnOK Tryd.prog env (r23_all_ctx n C) 22 (bodyOf Tryd.f22) :=
  ⟨⟨Tryd.f22, Tryd.func22, by kernel_rfl, by kernel_rfl, by kernel_rfl, by kernel_rfl⟩, by kernel_rfl, by kernel_rfl, by kernel_rfl, by kernel_rfl,
  loopsOK_of (by kernel_rfl) (by
    intro p hp f hf
    have hp : p ∈ [(0, { keep := [2, 5], grow := [], cells := [], out := [], res := [4] })] := hp
    simp only [List.mem_cons, List.not_mem_nil, or_false] at hp
    rcases hp with rfl
    · have hf : some (r23_all_l0_T n C n) = some f := hf
      cases hf; exact r23_all_l0_ok n C
    ),
  sectsOK_none fun _ => by kernel_rfl, hT⟩
theorem check_all_fn (n : Nat) (C : Cal) (hT : TableOK Tryd.prog env (tab C)) : FnOK Tryd.prog env (check_all_ctx n C) 23 (bodyOf Tryd.f23) :=
  ⟨⟨Tryd.f23, Tryd.func23, by kernel_rfl, by kernel_rfl, by kernel_rfl, by kernel_rfl⟩, by kernel_rfl, by kernel_rfl, by kernel_rfl, by kernel_rfl,
  loopsOK_none fun _ => by kernel_rfl,
  sectsOK_none fun _ => by kernel_rfl, hT⟩
theorem check_many_fn (n : Nat) (C : Cal) (hT : TableOK Tryd.prog env (tab C)) : FnOK Tryd.prog env (check_many_ctx n C) 24 (bodyOf Tryd.f24) :=
  ⟨⟨Tryd.f24, Tryd.func24, by kernel_rfl, by kernel_rfl, by kernel_rfl, by kernel_rfl⟩, by kernel_rfl, by kernel_rfl, by kernel_rfl, by kernel_rfl,
  loopsOK_none fun _ => by kernel_rfl,
  sectsOK_none fun _ => by kernel_rfl, hT⟩
theorem r23_Parse_fn (n : Nat) (C : Cal) (hT : TableOK Tryd.prog env (tab C)) : FnOK Tryd.prog env (r23_Parse_ctx n C) 29 (bodyOf Tryd.f29) :=
  ⟨⟨Tryd.f29, Tryd.func29, by kernel_rfl, by kernel_rfl, by kernel_rfl, by kernel_rfl⟩, by kernel_rfl, by kernel_rfl, by kernel_rfl, by kernel_rfl,
  loopsOK_none fun _ => by kernel_rfl,
  sectsOK_none fun _ => by kernel_rfl, hT⟩
theorem r23_one_fn (n : Nat) (C : Cal) (hT : TableOK Tryd.prog env (tab C)) : FnOK Tryd.prog env (r23_one_ctx n C) 30 (bodyOf Tryd.f30) :=
  ⟨⟨Tryd.f30, Tryd.func30, by kernel_rfl, by kernel_rfl, by kernel_rfl, by kernel_rfl⟩, by kernel_rfl, by kernel_rfl, by kernel_rfl, by kernel_rfl,
  loopsOK_none fun _ => by kernel_rfl,
  sectsOK_none fun _ => by kernel_rfl, hT⟩
theorem r23_holds_fn (n : Nat) (C : Cal) (hT : TableOK Tryd.prog env (tab C)) : FnOK Tryd.prog env (r23_holds_ctx n C) 31 (bodyOf Tryd.f31) :=
  ⟨⟨Tryd.f31, Tryd.func31, by kernel_rfl, by kernel_rfl, by kernel_rfl, by kernel_rfl⟩, by kernel_rfl, by kernel_rfl, by kernel_rfl, by kernel_rfl,
  loopsOK_none fun _ => by kernel_rfl,
  sectsOK_none fun _ => by kernel_rfl, hT⟩
theorem xpath_Right_fn (n : Nat) (C : Cal) (hT : TableOK Tryd.prog env (tab C)) : FnOK Tryd.prog env (xpath_Right_ctx n C) 32 (bodyOf Tryd.f32) :=
  ⟨⟨Tryd.f32, Tryd.func32, by kernel_rfl, by kernel_rfl, by kernel_rfl, by kernel_rfl⟩, by kernel_rfl, by kernel_rfl, by kernel_rfl, by kernel_rfl,
  loopsOK_none fun _ => by kernel_rfl,
  sectsOK_none fun _ => by kernel_rfl, hT⟩
theorem check_checker_check_l0_ok (n : Nat) (C : Cal) : LoopOK (check_checker_check_ctx n C) 0 { keep := [0, 2, 3, 5, 8, 10, 31, 32, 33], grow := [], cells := [], out := [0, 8, 10], res := [8] } (loopBody 0 (bodyOf Tryd.f33)) (check_checker_check_l0_T n C n) := by
  refine ⟨fun k => check_checker_check_l0_T n C k, n, rfl, fun fr st κ κp => by show check_checker_check_l0_T n C 0 fr st κ κp = .fail; unfold check_checker_check_l0_T; split <;> rfl, fun k fr st κ κp hne => ?_⟩
  replace hne : check_checker_check_l0_T n C (k + 1) fr st κ κp ≠ .fail := hne
  unfold check_checker_check_l0_T at hne
  split at hne
  · rename_i v0 v1 v2 v3 v4 v5 v6 v7 v8_k v8_p v8_a v8_t v8_n v8_s v8_l
    exact Eq.trans (by kernel_rfl) (Eq.trans (check_checker_check_l0_step n C k κ κp v0 v1 v2 v3 v4 v5 v6 v7 (XE.mk v8_k v8_p v8_a v8_t v8_n v8_s v8_l)) (by kernel_rfl))
  · exact absurd rfl hne
theorem check_checker_check_s32_ok (n : Nat) (C : Cal) : SectOK (check_checker_check_ctx n C) check_checker_check_s32_h (sectBody 32 (bodyOf Tryd.f33)) (check_checker_check_s32_T n C) := by
  intro fr st κ κp hne
  unfold check_checker_check_s32_T at hne
  split at hne
  · rename_i v0 v1 v2 v3 v4 v5 v6 v7 v8 v9_k v9_p v9_a v9_t v9_n v9_s v9_l v10 v11 v12_k v12_p v12_a v12_t v12_n v12_s v12_l
    exact Eq.trans (by kernel_rfl) (Eq.trans (check_checker_check_s32_step n C κ κp v0 v1 v2 v3 v4 v5 v6 v7 v8 (XE.mk v9_k v9_p v9_a v9_t v9_n v9_s v9_l) v10 v11 (XE.mk v12_k v12_p v12_a v12_t v12_n v12_s v12_l)) (by kernel_rfl))
  · exact absurd rfl hne
theorem check_checker_check_fn (n : Nat) (C : Cal) (hT : TableOK Tryd.prog env (tab C)) : FnOK Tryd.prog env (check_checker_check_ctx n C) 33 (bodyOf Tryd.f33) :=
  ⟨⟨Tryd.f33, Tryd.func33, by kernel_rfl, by kernel_rfl, by kernel_rfl, by kernel_rfl⟩, by kernel_rfl, by kernel_rfl, by kernel_rfl, by kernel_rfl,
  loopsOK_of (by kernel_rfl) (by
    intro p hp f hf
    have hp : p ∈ [(0, { keep := [0, 2, 3, 5, 8, 10, 31, 32, 33], grow := [], cells := [], out := [0, 8, 10], res := [8] })] := hp
    simp only [List.mem_cons, List.not_mem_nil, or_false] at hp
    rcases hp with rfl
    · have hf : some (check_checker_check_l0_T n C n) = some f := hf
      cases hf; exact check_checker_check_l0_ok n C
    ),
  sectsOK_of (by kernel_rfl) (by
    intro p hp f hf
    have hp : p ∈ [(32, check_checker_check_s32_h)] := hp
    simp only [List.mem_cons, List.not_mem_nil, or_false] at hp
    rcases hp with rfl
    · have hf : some (check_checker_check_s32_T n C) = some f := hf
      cases hf; exact check_checker_check_s32_ok n C
    ), hT⟩
theorem r22_Scan_l0_ok (n : Nat) (C : Cal) : LoopOK (r22_Scan_ctx n C) 0 { keep := [0, 3, 4], grow := [], cells := [], out := [0, 3], res := [2, 3] } (loopBody 0 (bodyOf Tryd.f48)) (r22_Scan_l0_T n C n) := by
  refine ⟨fun k => r22_Scan_l0_T n C k, n, rfl, fun fr st κ κp => by show r22_Scan_l0_T n C 0 fr st κ κp = .fail; unfold r22_Scan_l0_T; split <;> rfl, fun k fr st κ κp hne => ?_⟩
  replace hne : r22_Scan_l0_T n C (k + 1) fr st κ κp ≠ .fail := hne
  unfold r22_Scan_l0_T at hne
  split at hne
  · rename_i v0 v1
    exact Eq.trans (by kernel_rfl) (Eq.trans (r22_Scan_l0_step n C k κ κp v0 v1) (by kernel_rfl))
  · exact absurd rfl hne
theorem r22_Scan_l2_ok (n : Nat) (C : Cal) : LoopOK (r22_Scan_ctx n C) 2 { keep := [0, 3, 7, 8], grow := [(7, false)], cells := [], out := [3, 7, 8], res := [2, 3] } (loopBody 2 (bodyOf Tryd.f48)) (r22_Scan_l2_T n C n) := by
  refine ⟨fun k => r22_Scan_l2_T n C k, n, rfl, fun fr st κ κp => by show r22_Scan_l2_T n C 0 fr st κ κp = .fail; unfold r22_Scan_l2_T; split <;> rfl, fun k fr st κ κp hne => ?_⟩
  replace hne : r22_Scan_l2_T n C (k + 1) fr st κ κp ≠ .fail := hne
  unfold r22_Scan_l2_T at hne
  split at hne
  · rename_i v0 v1 v4
    exact Eq.trans (by kernel_rfl) (Eq.trans (r22_Scan_l2_step n C k κ κp v0 v1 v4) (by kernel_rfl))
  · exact absurd rfl hne
theorem r22_Scan_fn (n : Nat) (C : Cal) (hT : TableOK Tryd.prog env (tab C)) : FnOK Tryd.prog env (r22_Scan_ctx n C) 48 (bodyOf Tryd.f48) :=
  ⟨⟨Tryd.f48, Tryd.func48, by kernel_rfl, by kernel_rfl, by kernel_rfl, by kernel_rfl⟩, by kernel_rfl, by kernel_rfl, by kernel_rfl, by kernel_rfl,
  loopsOK_of (by kernel_rfl) (by
    intro p hp f hf
    have hp : p ∈ [(0, { keep := [0, 3, 4], grow := [], cells := [], out := [0, 3], res := [2, 3] }), (2, { keep := [0, 3, 7, 8], grow := [(7, false)], cells := [], out := [3, 7, 8], res := [2, 3] })] := hp
    simp only [List.mem_cons, List.not_mem_nil, or_false] at hp
    rcases hp with rfl | rfl
    · have hf : some (r22_Scan_l0_T n C n) = some f := hf
      cases hf; exact r22_Scan_l0_ok n C
    · have hf : some (r22_Scan_l2_T n C n) = some f := hf
      cases hf; exact r22_Scan_l2_ok n C
    ),
  sectsOK_none fun _ => by kernel_rfl, hT⟩
theorem r23_reader_expr_l0_ok (n : Nat) (C : Cal) : LoopOK (r23_reader_expr_ctx n C) 0 { keep := [0, 2, 5], grow := [], cells := [(5, 6, true)], out := [2, 5], res := [2] } (loopBody 0 (bodyOf Tryd.f49)) (r23_reader_expr_l0_T n C n) := by
  refine ⟨fun k => r23_reader_expr_l0_T n C k, n, rfl, fun fr st κ κp => by show r23_reader_expr_l0_T n C 0 fr st κ κp = .fail; unfold r23_reader_expr_l0_T; split <;> rfl, fun k fr st κ κp hne => ?_⟩
  replace hne : r23_reader_expr_l0_T n C (k + 1) fr st κ κp ≠ .fail := hne
  unfold r23_reader_expr_l0_T at hne
  split at hne
  · rename_i v0 v1 v2 v5 v10
    exact Eq.trans (by kernel_rfl) (Eq.trans (r23_reader_expr_l0_step n C k κ κp v0 v1 v2 v5 v10) (by kernel_rfl))
  · exact absurd rfl hne
theorem r23_reader_expr_fn (n : Nat) (C : Cal) (hT : TableOK Tryd.prog env (tab C)) : FnOK Tryd.prog env (r23_reader_expr_ctx n C) 49 (bodyOf Tryd.f49) :=
  ⟨⟨Tryd.f49, Tryd.func49, by kernel_rfl, by kernel_rfl, by kernel_rfl, by kernel_rfl⟩, by kernel_rfl, by kernel_rfl, by kernel_rfl, by kernel_rfl,
  loopsOK_of (by kernel_rfl) (by
    intro p hp f hf
    have hp : p ∈ [(0, { keep := [0, 2, 5], grow := [], cells := [(5, 6, true)], out := [2, 5], res := [2] })] := hp
    simp only [List.mem_cons, List.not_mem_nil, or_false] at hp
    rcases hp with rfl
    · have hf : some (r23_reader_expr_l0_T n C n) = some f := hf
      cases hf; exact r23_reader_expr_l0_ok n C
    ),
  sectsOK_none fun _ => by kernel_rfl, hT⟩
theorem r23_reader_kind_fn (n : Nat) (C : Cal) (hT : TableOK Tryd.prog env (tab C)) : FnOK Tryd.prog env (r23_reader_kind_ctx n C) 50 (bodyOf Tryd.f50) :=
  ⟨⟨Tryd.f50, Tryd.func50, by kernel_rfl, by kernel_rfl, by kernel_rfl, by kernel_rfl⟩, by kernel_rfl, by kernel_rfl, by kernel_rfl, by kernel_rfl,
  loopsOK_none fun _ => by kernel_rfl,
  sectsOK_none fun _ => by kernel_rfl, hT⟩
theorem r23_reader_here_fn (n : Nat) (C : Cal) (hT : TableOK Tryd.prog env (tab C)) : FnOK Tryd.prog env (r23_reader_here_ctx n C) 51 (bodyOf Tryd.f51) :=
  ⟨⟨Tryd.f51, Tryd.func51, by kernel_rfl, by kernel_rfl, by kernel_rfl, by kernel_rfl⟩, by kernel_rfl, by kernel_rfl, by kernel_rfl, by kernel_rfl,
  loopsOK_none fun _ => by kernel_rfl,
  sectsOK_none fun _ => by kernel_rfl, hT⟩
theorem r23_many_fn (n : Nat) (C : Cal) (hT : TableOK Tryd.prog env (tab C)) : FnOK Tryd.prog env (r23_many_ctx n C) 52 (bodyOf Tryd.f52) :=
  ⟨⟨Tryd.f52, Tryd.func52, by kernel_rfl, by kernel_rfl, by kernel_rfl, by kernel_rfl⟩, by kernel_rfl, by kernel_rfl, by kernel_rfl, by kernel_rfl,
  loopsOK_none fun _ => by kernel_rfl,
  sectsOK_none fun _ => by kernel_rfl, hT⟩
theorem r23_text_fn (n : Nat) (C : Cal) (hT : TableOK Tryd.prog env (tab C)) : FnOK Tryd.prog env (r23_text_ctx n C) 53 (bodyOf Tryd.f53) :=
  ⟨⟨Tryd.f53, Tryd.func53, by kernel_rfl, by kernel_rfl, by kernel_rfl, by kernel_rfl⟩, by kernel_rfl, by kernel_rfl, by kernel_rfl, by kernel_rfl,
  loopsOK_none fun _ => by kernel_rfl,
  sectsOK_none fun _ => by kernel_rfl, hT⟩
theorem xpath_deep_l0_ok (n : Nat) (C : Cal) : LoopOK (xpath_deep_ctx n C) 0 { keep := [3, 7, 8, 9], grow := [], cells := [], out := [3], res := [2] } (loopBody 0 (bodyOf Tryd.f54)) (xpath_deep_l0_T n C n) := by
  refine ⟨fun k => xpath_deep_l0_T n C k, n, rfl, fun fr st κ κp => by show xpath_deep_l0_T n C 0 fr st κ κp = .fail; unfold xpath_deep_l0_T; split <;> rfl, fun k fr st κ κp hne => ?_⟩
  replace hne : xpath_deep_l0_T n C (k + 1) fr st κ κp ≠ .fail := hne
  unfold xpath_deep_l0_T at hne
  split at hne
  · rename_i v0 v1 v2 v3
    exact Eq.trans (by kernel_rfl) (Eq.trans (xpath_deep_l0_step n C k κ κp v0 v1 v2 v3) (by kernel_rfl))
  · exact absurd rfl hne
theorem xpath_deep_fn (n : Nat) (C : Cal) (hT : TableOK Tryd.prog env (tab C)) : FnOK Tryd.prog env (xpath_deep_ctx n C) 54 (bodyOf Tryd.f54) :=
  ⟨⟨Tryd.f54, Tryd.func54, by kernel_rfl, by kernel_rfl, by kernel_rfl, by kernel_rfl⟩, by kernel_rfl, by kernel_rfl, by kernel_rfl, by kernel_rfl,
  loopsOK_of (by kernel_rfl) (by
    intro p hp f hf
    have hp : p ∈ [(0, { keep := [3, 7, 8, 9], grow := [], cells := [], out := [3], res := [2] })] := hp
    simp only [List.mem_cons, List.not_mem_nil, or_false] at hp
    rcases hp with rfl
    · have hf : some (xpath_deep_l0_T n C n) = some f := hf
      cases hf; exact xpath_deep_l0_ok n C
    ),
  sectsOK_none fun _ => by kernel_rfl, hT⟩
theorem xpath_right_l0_ok (n : Nat) (C : Cal) : LoopOK (xpath_right_ctx n C) 0 { keep := [6, 7, 130, 131, 132], grow := [], cells := [], out := [], res := [4] } (loopBody 0 (bodyOf Tryd.f55)) (xpath_right_l0_T n C n) := by
  refine ⟨fun k => xpath_right_l0_T n C k, n, rfl, fun fr st κ κp => by show xpath_right_l0_T n C 0 fr st κ κp = .fail; unfold xpath_right_l0_T; split <;> rfl, fun k fr st κ κp hne => ?_⟩
  replace hne : xpath_right_l0_T n C (k + 1) fr st κ κp ≠ .fail := hne
  unfold xpath_right_l0_T at hne
  split at hne
  · rename_i v0 v1 v2 v3 v4
    exact Eq.trans (by kernel_rfl) (Eq.trans (xpath_right_l0_step n C k κ κp v0 v1 v2 v3 v4) (by kernel_rfl))
  · exact absurd rfl hne
theorem xpath_right_s2_ok (n : Nat) (C : Cal) : SectOK (xpath_right_ctx n C) xpath_right_s2_h (sectBody 2 (bodyOf Tryd.f55)) (xpath_right_s2_T n C) := by
  intro fr st κ κp hne
  unfold xpath_right_s2_T at hne
  split at hne
  · rename_i v0 v1_k v1_p v1_a v1_t v1_n v1_s v1_l
    exact Eq.trans (by kernel_rfl) (Eq.trans (xpath_right_s2_step n C κ κp v0 (XE.mk v1_k v1_p v1_a v1_t v1_n v1_s v1_l)) (by kernel_rfl))
  · exact absurd rfl hne
theorem xpath_right_s8_ok (n : Nat) (C : Cal) : SectOK (xpath_right_ctx n C) xpath_right_s8_h (sectBody 8 (bodyOf Tryd.f55)) (xpath_right_s8_T n C) := by
  intro fr st κ κp hne
  unfold xpath_right_s8_T at hne
  split at hne
  · rename_i v0 v1_k v1_p v1_a v1_t v1_n v1_s v1_l v2 v3 v4 v5
    exact Eq.trans (by kernel_rfl) (Eq.trans (xpath_right_s8_step n C κ κp v0 (XE.mk v1_k v1_p v1_a v1_t v1_n v1_s v1_l) v2 v3 v4 v5) (by kernel_rfl))
  · exact absurd rfl hne
theorem xpath_right_s12_ok (n : Nat) (C : Cal) : SectOK (xpath_right_ctx n C) xpath_right_s12_h (sectBody 12 (bodyOf Tryd.f55)) (xpath_right_s12_T n C) := by
  intro fr st κ κp hne
  unfold xpath_right_s12_T at hne
  split at hne
  · rename_i v0 v1_k v1_p v1_a v1_t v1_n v1_s v1_l v2 v3 v4 v5
    exact Eq.trans (by kernel_rfl) (Eq.trans (xpath_right_s12_step n C κ κp v0 (XE.mk v1_k v1_p v1_a v1_t v1_n v1_s v1_l) v2 v3 v4 v5) (by kernel_rfl))
  · exact absurd rfl hne
theorem xpath_right_s16_ok (n : Nat) (C : Cal) : SectOK (xpath_right_ctx n C) xpath_right_s16_h (sectBody 16 (bodyOf Tryd.f55)) (xpath_right_s16_T n C) := by
  intro fr st κ κp hne
  unfold xpath_right_s16_T at hne
  split at hne
  · rename_i v0 v1_k v1_p v1_a v1_t v1_n v1_s v1_l
    exact Eq.trans (by kernel_rfl) (Eq.trans (xpath_right_s16_step n C κ κp v0 (XE.mk v1_k v1_p v1_a v1_t v1_n v1_s v1_l)) (by kernel_rfl))
  · exact absurd rfl hne
theorem xpath_right_fn (n : Nat) (C : Cal) (hT : TableOK Tryd.prog env (tab C)) : FnOK Tryd.prog env (xpath_right_ctx n C) 55 (bodyOf Tryd.f55) :=
  ⟨⟨Tryd.f55, Tryd.func55, by kernel_rfl, by kernel_rfl, by kernel_rfl, by kernel_rfl⟩, by kernel_rfl, by kernel_rfl, by kernel_rfl, by kernel_rfl,
  loopsOK_of (by kernel_rfl) (by
    intro p hp f hf
    have hp : p ∈ [(0, { keep := [6, 7, 130, 131, 132], grow := [], cells := [], out := [], res := [4] })] := hp
    simp only [List.mem_cons, List.not_mem_nil, or_false] at hp
    rcases hp with rfl
    · have hf : some (xpath_right_l0_T n C n) = some f := hf
      cases hf; exact xpath_right_l0_ok n C
    ),
  sectsOK_of (by kernel_rfl) (by
    intro p hp f hf
    have hp : p ∈ [(2, xpath_right_s2_h), (8, xpath_right_s8_h), (12, xpath_right_s12_h), (16, xpath_right_s16_h)] := hp
    simp only [List.mem_cons, List.not_mem_nil, or_false] at hp
    rcases hp with rfl | rfl | rfl | rfl
    · have hf : some (xpath_right_s2_T n C) = some f := hf
      cases hf; exact xpath_right_s2_ok n C
    · have hf : some (xpath_right_s8_T n C) = some f := hf
      cases hf; exact xpath_right_s8_ok n C
    · have hf : some (xpath_right_s12_T n C) = some f := hf
      cases hf; exact xpath_right_s12_ok n C
    · have hf : some (xpath_right_s16_T n C) = some f := hf
      cases hf; exact xpath_right_s16_ok n C
    ), hT⟩
theorem check_checker_own_s38_ok (n : Nat) (C : Cal) : SectOK (check_checker_own_ctx n C) check_checker_own_s38_h (sectBody 38 (bodyOf Tryd.f56)) (check_checker_own_s38_T n C) := by
  intro fr st κ κp hne
  unfold check_checker_own_s38_T at hne
  split at hne
  · rename_i v0 v1 v2 v3_k v3_p v3_a v3_t v3_n v3_s v3_l
    exact Eq.trans (by kernel_rfl) (Eq.trans (check_checker_own_s38_step n C κ κp v0 v1 v2 (XE.mk v3_k v3_p v3_a v3_t v3_n v3_s v3_l)) (by kernel_rfl))
  · exact absurd rfl hne
theorem check_checker_own_s44_ok (n : Nat) (C : Cal) : SectOK (check_checker_own_ctx n C) check_checker_own_s44_h (sectBody 44 (bodyOf Tryd.f56)) (check_checker_own_s44_T n C) := by
  intro fr st κ κp hne
  unfold check_checker_own_s44_T at hne
  split at hne
  · rename_i v0 v1_k v1_p v1_a v1_t v1_n v1_s v1_l v2 v3 v4 v5
    exact Eq.trans (by kernel_rfl) (Eq.trans (check_checker_own_s44_step n C κ κp v0 (XE.mk v1_k v1_p v1_a v1_t v1_n v1_s v1_l) v2 v3 v4 v5) (by kernel_rfl))
  · exact absurd rfl hne
theorem check_checker_own_fn (n : Nat) (C : Cal) (hT : TableOK Tryd.prog env (tab C)) : FnOK Tryd.prog env (check_checker_own_ctx n C) 56 (bodyOf Tryd.f56) :=
  ⟨⟨Tryd.f56, Tryd.func56, by kernel_rfl, by kernel_rfl, by kernel_rfl, by kernel_rfl⟩, by kernel_rfl, by kernel_rfl, by kernel_rfl, by kernel_rfl,
  loopsOK_none fun _ => by kernel_rfl,
  sectsOK_of (by kernel_rfl) (by
    intro p hp f hf
    have hp : p ∈ [(38, check_checker_own_s38_h), (44, check_checker_own_s44_h)] := hp
    simp only [List.mem_cons, List.not_mem_nil, or_false] at hp
    rcases hp with rfl | rfl
    · have hf : some (check_checker_own_s38_T n C) = some f := hf
      cases hf; exact check_checker_own_s38_ok n C
    · have hf : some (check_checker_own_s44_T n C) = some f := hf
      cases hf; exact check_checker_own_s44_ok n C
    ), hT⟩
theorem check_kid_fn (n : Nat) (C : Cal) (hT : TableOK Tryd.prog env (tab C)) : FnOK Tryd.prog env (check_kid_ctx n C) 57 (bodyOf Tryd.f57) :=
  ⟨⟨Tryd.f57, Tryd.func57, by kernel_rfl, by kernel_rfl, by kernel_rfl, by kernel_rfl⟩, by kernel_rfl, by kernel_rfl, by kernel_rfl, by kernel_rfl,
  loopsOK_none fun _ => by kernel_rfl,
  sectsOK_none fun _ => by kernel_rfl, hT⟩
theorem chars_Char_fn (n : Nat) (C : Cal) (hT : TableOK Tryd.prog env (tab C)) : FnOK Tryd.prog env (chars_Char_ctx n C) 60 (bodyOf Tryd.f60) :=
  ⟨⟨Tryd.f60, Tryd.func60, by kernel_rfl, by kernel_rfl, by kernel_rfl, by kernel_rfl⟩, by kernel_rfl, by kernel_rfl, by kernel_rfl, by kernel_rfl,
  loopsOK_none fun _ => by kernel_rfl,
  sectsOK_none fun _ => by kernel_rfl, hT⟩
theorem r05_Next_l1_ok (n : Nat) (C : Cal) : LoopOK (r05_Next_ctx n C) 1 { keep := [0, 1, 7, 8, 9], grow := [], cells := [], out := [7, 8], res := [4, 5] } (loopBody 1 (bodyOf Tryd.f74)) (r05_Next_l1_T n C n) := by
  refine ⟨fun k => r05_Next_l1_T n C k, n, rfl, fun fr st κ κp => by show r05_Next_l1_T n C 0 fr st κ κp = .fail; unfold r05_Next_l1_T; split <;> rfl, fun k fr st κ κp hne => ?_⟩
  replace hne : r05_Next_l1_T n C (k + 1) fr st κ κp ≠ .fail := hne
  unfold r05_Next_l1_T at hne
  split at hne
  · rename_i v0 v1 v2 v3 v4
    exact Eq.trans (by kernel_rfl) (Eq.trans (r05_Next_l1_step n C k κ κp v0 v1 v2 v3 v4) (by kernel_rfl))
  · exact absurd rfl hne
theorem r05_Next_fn (n : Nat) (C : Cal) (hT : TableOK Tryd.prog env (tab C)) : FnOK Tryd.prog env (r05_Next_ctx n C) 74 (bodyOf Tryd.f74) :=
  ⟨⟨Tryd.f74, Tryd.func74, by kernel_rfl, by kernel_rfl, by kernel_rfl, by kernel_rfl⟩, by kernel_rfl, by kernel_rfl, by kernel_rfl, by kernel_rfl,
  loopsOK_of (by kernel_rfl) (by
    intro p hp f hf
    have hp : p ∈ [(1, { keep := [0, 1, 7, 8, 9], grow := [], cells := [], out := [7, 8], res := [4, 5] })] := hp
    simp only [List.mem_cons, List.not_mem_nil, or_false] at hp
    rcases hp with rfl
    · have hf : some (r05_Next_l1_T n C n) = some f := hf
      cases hf; exact r05_Next_l1_ok n C
    ),
  sectsOK_none fun _ => by kernel_rfl, hT⟩
theorem r05_Char_fn (n : Nat) (C : Cal) (hT : TableOK Tryd.prog env (tab C)) : FnOK Tryd.prog env (r05_Char_ctx n C) 75 (bodyOf Tryd.f75) :=
  ⟨⟨Tryd.f75, Tryd.func75, by kernel_rfl, by kernel_rfl, by kernel_rfl, by kernel_rfl⟩, by kernel_rfl, by kernel_rfl, by kernel_rfl, by kernel_rfl,
  loopsOK_none fun _ => by kernel_rfl,
  sectsOK_none fun _ => by kernel_rfl, hT⟩
theorem r05_Blank_l0_ok (n : Nat) (C : Cal) : LoopOK (r05_Blank_ctx n C) 0 { keep := [0, 3], grow := [], cells := [], out := [], res := [2] } (loopBody 0 (bodyOf Tryd.f76)) (r05_Blank_l0_T n C n) := by
  refine ⟨fun k => r05_Blank_l0_T n C k, n, rfl, fun fr st κ κp => by show r05_Blank_l0_T n C 0 fr st κ κp = .fail; unfold r05_Blank_l0_T; split <;> rfl, fun k fr st κ κp hne => ?_⟩
  replace hne : r05_Blank_l0_T n C (k + 1) fr st κ κp ≠ .fail := hne
  unfold r05_Blank_l0_T at hne
  split at hne
  · rename_i v0 v1
    exact Eq.trans (by kernel_rfl) (Eq.trans (r05_Blank_l0_step n C k κ κp v0 v1) (by kernel_rfl))
  · exact absurd rfl hne
theorem r05_Blank_fn (n : Nat) (C : Cal) (hT : TableOK Tryd.prog env (tab C)) : FnOK Tryd.prog env (r05_Blank_ctx n C) 76 (bodyOf Tryd.f76) :=
  ⟨⟨Tryd.f76, Tryd.func76, by kernel_rfl, by kernel_rfl, by kernel_rfl, by kernel_rfl⟩, by kernel_rfl, by kernel_rfl, by kernel_rfl, by kernel_rfl,
  loopsOK_of (by kernel_rfl) (by
    intro p hp f hf
    have hp : p ∈ [(0, { keep := [0, 3], grow := [], cells := [], out := [], res := [2] })] := hp
    simp only [List.mem_cons, List.not_mem_nil, or_false] at hp
    rcases hp with rfl
    · have hf : some (r05_Blank_l0_T n C n) = some f := hf
      cases hf; exact r05_Blank_l0_ok n C
    ),
  sectsOK_none fun _ => by kernel_rfl, hT⟩
theorem r22_comment_l0_ok (n : Nat) (C : Cal) : LoopOK (r22_comment_ctx n C) 0 { keep := [0, 1, 5], grow := [], cells := [], out := [], res := [4] } (loopBody 0 (bodyOf Tryd.f77)) (r22_comment_l0_T n C n) := by
  refine ⟨fun k => r22_comment_l0_T n C k, n, rfl, fun fr st κ κp => by show r22_comment_l0_T n C 0 fr st κ κp = .fail; unfold r22_comment_l0_T; split <;> rfl, fun k fr st κ κp hne => ?_⟩
  replace hne : r22_comment_l0_T n C (k + 1) fr st κ κp ≠ .fail := hne
  unfold r22_comment_l0_T at hne
  split at hne
  · rename_i v0 v1 v2
    exact Eq.trans (by kernel_rfl) (Eq.trans (r22_comment_l0_step n C k κ κp v0 v1 v2) (by kernel_rfl))
  · exact absurd rfl hne
theorem r22_comment_fn (n : Nat) (C : Cal) (hT : TableOK Tryd.prog env (tab C)) : FnOK Tryd.prog env (r22_comment_ctx n C) 77 (bodyOf Tryd.f77) :=
  ⟨⟨Tryd.f77, Tryd.func77, by kernel_rfl, by kernel_rfl, by kernel_rfl, by kernel_rfl⟩, by kernel_rfl, by kernel_rfl, by kernel_rfl, by kernel_rfl,
  loopsOK_of (by kernel_rfl) (by
    intro p hp f hf
    have hp : p ∈ [(0, { keep := [0, 1, 5], grow := [], cells := [], out := [], res := [4] })] := hp
    simp only [List.mem_cons, List.not_mem_nil, or_false] at hp
    rcases hp with rfl
    · have hf : some (r22_comment_l0_T n C n) = some f := hf
      cases hf; exact r22_comment_l0_ok n C
    ),
  sectsOK_none fun _ => by kernel_rfl, hT⟩
theorem r22_token_l0_ok (n : Nat) (C : Cal) : LoopOK (r22_token_ctx n C) 0 { keep := [0, 1, 4, 16, 17], grow := [], cells := [], out := [4], res := [4, 5, 6] } (loopBody 0 (bodyOf Tryd.f78)) (r22_token_l0_T n C n) := by
  refine ⟨fun k => r22_token_l0_T n C k, n, rfl, fun fr st κ κp => by show r22_token_l0_T n C 0 fr st κ κp = .fail; unfold r22_token_l0_T; split <;> rfl, fun k fr st κ κp hne => ?_⟩
  replace hne : r22_token_l0_T n C (k + 1) fr st κ κp ≠ .fail := hne
  unfold r22_token_l0_T at hne
  split at hne
  · rename_i v0 v1 v2 v3
    exact Eq.trans (by kernel_rfl) (Eq.trans (r22_token_l0_step n C k κ κp v0 v1 v2 v3) (by kernel_rfl))
  · exact absurd rfl hne
theorem r22_token_fn (n : Nat) (C : Cal) (hT : TableOK Tryd.prog env (tab C)) : FnOK Tryd.prog env (r22_token_ctx n C) 78 (bodyOf Tryd.f78) :=
  ⟨⟨Tryd.f78, Tryd.func78, by kernel_rfl, by kernel_rfl, by kernel_rfl, by kernel_rfl⟩, by kernel_rfl, by kernel_rfl, by kernel_rfl, by kernel_rfl,
  loopsOK_of (by kernel_rfl) (by
    intro p hp f hf
    have hp : p ∈ [(0, { keep := [0, 1, 4, 16, 17], grow := [], cells := [], out := [4], res := [4, 5, 6] })] := hp
    simp only [List.mem_cons, List.not_mem_nil, or_false] at hp
    rcases hp with rfl
    · have hf : some (r22_token_l0_T n C n) = some f := hf
      cases hf; exact r22_token_l0_ok n C
    ),
  sectsOK_none fun _ => by kernel_rfl, hT⟩
theorem r23_reader_single_s4_ok (n : Nat) (C : Cal) : SectOK (r23_reader_single_ctx n C) r23_reader_single_s4_h (sectBody 4 (bodyOf Tryd.f79)) (r23_reader_single_s4_T n C) := by
  intro fr st κ κp hne
  unfold r23_reader_single_s4_T at hne
  split at hne
  · rename_i v0 v1 v2 v3
    exact Eq.trans (by kernel_rfl) (Eq.trans (r23_reader_single_s4_step n C κ κp v0 v1 v2 v3) (by kernel_rfl))
  · exact absurd rfl hne
theorem r23_reader_single_s8_ok (n : Nat) (C : Cal) : SectOK (r23_reader_single_ctx n C) r23_reader_single_s8_h (sectBody 8 (bodyOf Tryd.f79)) (r23_reader_single_s8_T n C) := by
  intro fr st κ κp hne
  unfold r23_reader_single_s8_T at hne
  split at hne
  · rename_i v0 v1 v2 v3 v4_k v4_p v4_a v4_t v4_n v4_s v4_l
    exact Eq.trans (by kernel_rfl) (Eq.trans (r23_reader_single_s8_step n C κ κp v0 v1 v2 v3 (XE.mk v4_k v4_p v4_a v4_t v4_n v4_s v4_l)) (by kernel_rfl))
  · exact absurd rfl hne
theorem r23_reader_single_fn (n : Nat) (C : Cal) (hT : TableOK Tryd.prog env (tab C)) : FnOK Tryd.prog env (r23_reader_single_ctx n C) 79 (bodyOf Tryd.f79) :=
  ⟨⟨Tryd.f79, Tryd.func79, by kernel_rfl, by kernel_rfl, by kernel_rfl, by kernel_rfl⟩, by kernel_rfl, by kernel_rfl, by kernel_rfl, by kernel_rfl,
  loopsOK_none fun _ => by kernel_rfl,
  sectsOK_of (by kernel_rfl) (by
    intro p hp f hf
    have hp : p ∈ [(4, r23_reader_single_s4_h), (8, r23_reader_single_s8_h)] := hp
    simp only [List.mem_cons, List.not_mem_nil, or_false] at hp
    rcases hp with rfl | rfl
    · have hf : some (r23_reader_single_s4_T n C) = some f := hf
      cases hf; exact r23_reader_single_s4_ok n C
    · have hf : some (r23_reader_single_s8_T n C) = some f := hf
      cases hf; exact r23_reader_single_s8_ok n C
    ), hT⟩
theorem r23_reader_sign_fn (n : Nat) (C : Cal) (hT : TableOK Tryd.prog env (tab C)) : FnOK Tryd.prog env (r23_reader_sign_ctx n C) 80 (bodyOf Tryd.f80) :=
  ⟨⟨Tryd.f80, Tryd.func80, by kernel_rfl, by kernel_rfl, by kernel_rfl, by kernel_rfl⟩, by kernel_rfl, by kernel_rfl, by kernel_rfl, by kernel_rfl,
  loopsOK_none fun _ => by kernel_rfl,
  sectsOK_none fun _ => by kernel_rfl, hT⟩
theorem r23_reader_is_fn (n : Nat) (C : Cal) (hT : TableOK Tryd.prog env (tab C)) : FnOK Tryd.prog env (r23_reader_is_ctx n C) 81 (bodyOf Tryd.f81) :=
  ⟨⟨Tryd.f81, Tryd.func81, by kernel_rfl, by kernel_rfl, by kernel_rfl, by kernel_rfl⟩, by kernel_rfl, by kernel_rfl, by kernel_rfl, by kernel_rfl,
  loopsOK_none fun _ => by kernel_rfl,
  sectsOK_none fun _ => by kernel_rfl, hT⟩
theorem r23_reader_tok_fn (n : Nat) (C : Cal) (hT : TableOK Tryd.prog env (tab C)) : FnOK Tryd.prog env (r23_reader_tok_ctx n C) 82 (bodyOf Tryd.f82) :=
  ⟨⟨Tryd.f82, Tryd.func82, by kernel_rfl, by kernel_rfl, by kernel_rfl, by kernel_rfl⟩, by kernel_rfl, by kernel_rfl, by kernel_rfl, by kernel_rfl,
  loopsOK_none fun _ => by kernel_rfl,
  sectsOK_none fun _ => by kernel_rfl, hT⟩
theorem r23_kids_fn (n : Nat) (C : Cal) (hT : TableOK Tryd.prog env (tab C)) : FnOK Tryd.prog env (r23_kids_ctx n C) 83 (bodyOf Tryd.f83) :=
  ⟨⟨Tryd.f83, Tryd.func83, by kernel_rfl, by kernel_rfl, by kernel_rfl, by kernel_rfl⟩, by kernel_rfl, by kernel_rfl, by kernel_rfl, by kernel_rfl,
  loopsOK_none fun _ => by kernel_rfl,
  sectsOK_none fun _ => by kernel_rfl, hT⟩
theorem r05_Texts_l0_ok (n : Nat) (C : Cal) : LoopOK (r05_Texts_ctx n C) 0 { keep := [0, 3], grow := [], cells := [], out := [], res := [2] } (loopBody 0 (bodyOf Tryd.f84)) (r05_Texts_l0_T n C n) := by
  refine ⟨fun k => r05_Texts_l0_T n C k, n, rfl, fun fr st κ κp => by show r05_Texts_l0_T n C 0 fr st κ κp = .fail; unfold r05_Texts_l0_T; split <;> rfl, fun k fr st κ κp hne => ?_⟩
  replace hne : r05_Texts_l0_T n C (k + 1) fr st κ κp ≠ .fail := hne
  unfold r05_Texts_l0_T at hne
  split at hne
  · rename_i v0 v1
    exact Eq.trans (by kernel_rfl) (Eq.trans (r05_Texts_l0_step n C k κ κp v0 v1) (by kernel_rfl))
  · exact absurd rfl hne
theorem r05_Texts_fn (n : Nat) (C : Cal) (hT : TableOK Tryd.prog env (tab C)) : FnOK Tryd.prog env (r05_Texts_ctx n C) 84 (bodyOf Tryd.f84) :=
  ⟨⟨Tryd.f84, Tryd.func84, by kernel_rfl, by kernel_rfl, by kernel_rfl, by kernel_rfl⟩, by kernel_rfl, by kernel_rfl, by kernel_rfl, by kernel_rfl,
  loopsOK_of (by kernel_rfl) (by
    intro p hp f hf
    have hp : p ∈ [(0, { keep := [0, 3], grow := [], cells := [], out := [], res := [2] })] := hp
    simp only [List.mem_cons, List.not_mem_nil, or_false] at hp
    rcases hp with rfl
    · have hf : some (r05_Texts_l0_T n C n) = some f := hf
      cases hf; exact r05_Texts_l0_ok n C
    ),
  sectsOK_none fun _ => by kernel_rfl, hT⟩
theorem r05_Name_l0_ok (n : Nat) (C : Cal) : LoopOK (r05_Name_ctx n C) 0 { keep := [0, 3], grow := [], cells := [], out := [], res := [2] } (loopBody 0 (bodyOf Tryd.f85)) (r05_Name_l0_T n C n) := by
  refine ⟨fun k => r05_Name_l0_T n C k, n, rfl, fun fr st κ κp => by show r05_Name_l0_T n C 0 fr st κ κp = .fail; unfold r05_Name_l0_T; split <;> rfl, fun k fr st κ κp hne => ?_⟩
  replace hne : r05_Name_l0_T n C (k + 1) fr st κ κp ≠ .fail := hne
  unfold r05_Name_l0_T at hne
  split at hne
  · rename_i v0 v1
    exact Eq.trans (by kernel_rfl) (Eq.trans (r05_Name_l0_step n C k κ κp v0 v1) (by kernel_rfl))
  · exact absurd rfl hne
theorem r05_Name_fn (n : Nat) (C : Cal) (hT : TableOK Tryd.prog env (tab C)) : FnOK Tryd.prog env (r05_Name_ctx n C) 85 (bodyOf Tryd.f85) :=
  ⟨⟨Tryd.f85, Tryd.func85, by kernel_rfl, by kernel_rfl, by kernel_rfl, by kernel_rfl⟩, by kernel_rfl, by kernel_rfl, by kernel_rfl, by kernel_rfl,
  loopsOK_of (by kernel_rfl) (by
    intro p hp f hf
    have hp : p ∈ [(0, { keep := [0, 3], grow := [], cells := [], out := [], res := [2] })] := hp
    simp only [List.mem_cons, List.not_mem_nil, or_false] at hp
    rcases hp with rfl
    · have hf : some (r05_Name_l0_T n C n) = some f := hf
      cases hf; exact r05_Name_l0_ok n C
    ),
  sectsOK_none fun _ => by kernel_rfl, hT⟩
theorem r23_Special_fn (n : Nat) (C : Cal) (hT : TableOK Tryd.prog env (tab C)) : FnOK Tryd.prog env (r23_Special_ctx n C) 86 (bodyOf Tryd.f86) :=
  ⟨⟨Tryd.f86, Tryd.func86, by kernel_rfl, by kernel_rfl, by kernel_rfl, by kernel_rfl⟩, by kernel_rfl, by kernel_rfl, by kernel_rfl, by kernel_rfl,
  loopsOK_none fun _ => by kernel_rfl,
  sectsOK_none fun _ => by kernel_rfl, hT⟩
theorem r23_among_l0_ok (n : Nat) (C : Cal) : LoopOK (r23_among_ctx n C) 0 { keep := [0, 1, 5], grow := [], cells := [], out := [], res := [4] } (loopBody 0 (bodyOf Tryd.f87)) (r23_among_l0_T n C n) := by
  refine ⟨fun k => r23_among_l0_T n C k, n, rfl, fun fr st κ κp => by show r23_among_l0_T n C 0 fr st κ κp = .fail; unfold r23_among_l0_T; split <;> rfl, fun k fr st κ κp hne => ?_⟩
  replace hne : r23_among_l0_T n C (k + 1) fr st κ κp ≠ .fail := hne
  unfold r23_among_l0_T at hne
  split at hne
  · rename_i v0 v1 v2
    exact Eq.trans (by kernel_rfl) (Eq.trans (r23_among_l0_step n C k κ κp v0 v1 v2) (by kernel_rfl))
  · exact absurd rfl hne
theorem r23_among_fn (n : Nat) (C : Cal) (hT : TableOK Tryd.prog env (tab C)) : FnOK Tryd.prog env (r23_among_ctx n C) 87 (bodyOf Tryd.f87) :=
  ⟨⟨Tryd.f87, Tryd.func87, by kernel_rfl, by kernel_rfl, by kernel_rfl, by kernel_rfl⟩, by kernel_rfl, by kernel_rfl, by kernel_rfl, by kernel_rfl,
  loopsOK_of (by kernel_rfl) (by
    intro p hp f hf
    have hp : p ∈ [(0, { keep := [0, 1, 5], grow := [], cells := [], out := [], res := [4] })] := hp
    simp only [List.mem_cons, List.not_mem_nil, or_false] at hp
    rcases hp with rfl
    · have hf : some (r23_among_l0_T n C n) = some f := hf
      cases hf; exact r23_among_l0_ok n C
    ),
  sectsOK_none fun _ => by kernel_rfl, hT⟩
theorem xpath_shape_right_fn (n : Nat) (C : Cal) (hT : TableOK Tryd.prog env (tab C)) : FnOK Tryd.prog env (xpath_shape_right_ctx n C) 88 (bodyOf Tryd.f88) :=
  ⟨⟨Tryd.f88, Tryd.func88, by kernel_rfl, by kernel_rfl, by kernel_rfl, by kernel_rfl⟩, by kernel_rfl, by kernel_rfl, by kernel_rfl, by kernel_rfl,
  loopsOK_none fun _ => by kernel_rfl,
  sectsOK_none fun _ => by kernel_rfl, hT⟩
theorem check_updates_fn (n : Nat) (C : Cal) (hT : TableOK Tryd.prog env (tab C)) : FnOK Tryd.prog env (check_updates_ctx n C) 89 (bodyOf Tryd.f89) :=
  ⟨⟨Tryd.f89, Tryd.func89, by kernel_rfl, by kernel_rfl, by kernel_rfl, by kernel_rfl⟩, by kernel_rfl, by kernel_rfl, by kernel_rfl, by kernel_rfl,
  loopsOK_none fun _ => by kernel_rfl,
  sectsOK_none fun _ => by kernel_rfl, hT⟩
theorem slices_Contains_fn (n : Nat) (C : Cal) (hT : TableOK Tryd.prog env (tab C)) : FnOK Tryd.prog env (slices_Contains_ctx n C) 90 (bodyOf Tryd.f90) :=
  ⟨⟨Tryd.f90, Tryd.func90, by kernel_rfl, by kernel_rfl, by kernel_rfl, by kernel_rfl⟩, by kernel_rfl, by kernel_rfl, by kernel_rfl, by kernel_rfl,
  loopsOK_none fun _ => by kernel_rfl,
  sectsOK_none fun _ => by kernel_rfl, hT⟩
theorem chars_NameStart_fn (n : Nat) (C : Cal) (hT : TableOK Tryd.prog env (tab C)) : FnOK Tryd.prog env (chars_NameStart_ctx n C) 107 (bodyOf Tryd.f107) :=
  ⟨⟨Tryd.f107, Tryd.func107, by kernel_rfl, by kernel_rfl, by kernel_rfl, by kernel_rfl⟩, by kernel_rfl, by kernel_rfl, by kernel_rfl, by kernel_rfl,
  loopsOK_none fun _ => by kernel_rfl,
  sectsOK_none fun _ => by kernel_rfl, hT⟩
theorem chars_NameChar_fn (n : Nat) (C : Cal) (hT : TableOK Tryd.prog env (tab C)) : FnOK Tryd.prog env (chars_NameChar_ctx n C) 108 (bodyOf Tryd.f108) :=
  ⟨⟨Tryd.f108, Tryd.func108, by kernel_rfl, by kernel_rfl, by kernel_rfl, by kernel_rfl⟩, by kernel_rfl, by kernel_rfl, by kernel_rfl, by kernel_rfl,
  loopsOK_none fun _ => by kernel_rfl,
  sectsOK_none fun _ => by kernel_rfl, hT⟩
theorem r05_within_fn (n : Nat) (C : Cal) (hT : TableOK Tryd.prog env (tab C)) : FnOK Tryd.prog env (r05_within_ctx n C) 113 (bodyOf Tryd.f113) :=
  ⟨⟨Tryd.f113, Tryd.func113, by kernel_rfl, by kernel_rfl, by kernel_rfl, by kernel_rfl⟩, by kernel_rfl, by kernel_rfl, by kernel_rfl, by kernel_rfl,
  loopsOK_none fun _ => by kernel_rfl,
  sectsOK_none fun _ => by kernel_rfl, hT⟩
theorem r22_whole_l0_ok (n : Nat) (C : Cal) : LoopOK (r22_whole_ctx n C) 0 { keep := [0, 1, 7, 8], grow := [], cells := [], out := [0, 1, 7, 8], res := [4, 5, 6] } (loopBody 0 (bodyOf Tryd.f114)) (r22_whole_l0_T n C n) := by
  refine ⟨fun k => r22_whole_l0_T n C k, n, rfl, fun fr st κ κp => by show r22_whole_l0_T n C 0 fr st κ κp = .fail; unfold r22_whole_l0_T; split <;> rfl, fun k fr st κ κp hne => ?_⟩
  replace hne : r22_whole_l0_T n C (k + 1) fr st κ κp ≠ .fail := hne
  unfold r22_whole_l0_T at hne
  split at hne
  · rename_i v0 v1 v2 v3
    exact Eq.trans (by kernel_rfl) (Eq.trans (r22_whole_l0_step n C k κ κp v0 v1 v2 v3) (by kernel_rfl))
  · exact absurd rfl hne
theorem r22_whole_fn (n : Nat) (C : Cal) (hT : TableOK Tryd.prog env (tab C)) : FnOK Tryd.prog env (r22_whole_ctx n C) 114 (bodyOf Tryd.f114) :=
  ⟨⟨Tryd.f114, Tryd.func114, by kernel_rfl, by kernel_rfl, by kernel_rfl, by kernel_rfl⟩, by kernel_rfl, by kernel_rfl, by kernel_rfl, by kernel_rfl,
  loopsOK_of (by kernel_rfl) (by
    intro p hp f hf
    have hp : p ∈ [(0, { keep := [0, 1, 7, 8], grow := [], cells := [], out := [0, 1, 7, 8], res := [4, 5, 6] })] := hp
    simp only [List.mem_cons, List.not_mem_nil, or_false] at hp
    rcases hp with rfl
    · have hf : some (r22_whole_l0_T n C n) = some f := hf
      cases hf; exact r22_whole_l0_ok n C
    ),
  sectsOK_none fun _ => by kernel_rfl, hT⟩
theorem r22_quoted_l0_ok (n : Nat) (C : Cal) : LoopOK (r22_quoted_ctx n C) 0 { keep := [0, 6, 7, 8], grow := [(7, false)], cells := [], out := [], res := [4, 5] } (loopBody 0 (bodyOf Tryd.f115)) (r22_quoted_l0_T n C n) := by
  refine ⟨fun k => r22_quoted_l0_T n C k, n, rfl, fun fr st κ κp => by show r22_quoted_l0_T n C 0 fr st κ κp = .fail; unfold r22_quoted_l0_T; split <;> rfl, fun k fr st κ κp hne => ?_⟩
  replace hne : r22_quoted_l0_T n C (k + 1) fr st κ κp ≠ .fail := hne
  unfold r22_quoted_l0_T at hne
  split at hne
  · rename_i v0 v1 v2 v3
    exact Eq.trans (by kernel_rfl) (Eq.trans (r22_quoted_l0_step n C k κ κp v0 v1 v2 v3) (by kernel_rfl))
  · exact absurd rfl hne
theorem r22_quoted_fn (n : Nat) (C : Cal) (hT : TableOK Tryd.prog env (tab C)) : FnOK Tryd.prog env (r22_quoted_ctx n C) 115 (bodyOf Tryd.f115) :=
  ⟨⟨Tryd.f115, Tryd.func115, by kernel_rfl, by kernel_rfl, by kernel_rfl, by kernel_rfl⟩, by kernel_rfl, by kernel_rfl, by kernel_rfl, by kernel_rfl,
  loopsOK_of (by kernel_rfl) (by
    intro p hp f hf
    have hp : p ∈ [(0, { keep := [0, 6, 7, 8], grow := [(7, false)], cells := [], out := [], res := [4, 5] })] := hp
    simp only [List.mem_cons, List.not_mem_nil, or_false] at hp
    rcases hp with rfl
    · have hf : some (r22_quoted_l0_T n C n) = some f := hf
      cases hf; exact r22_quoted_l0_ok n C
    ),
  sectsOK_none fun _ => by kernel_rfl, hT⟩
theorem r22_name_l0_ok (n : Nat) (C : Cal) : LoopOK (r22_name_ctx n C) 0 { keep := [0, 1, 5, 6], grow := [], cells := [], out := [1], res := [4] } (loopBody 0 (bodyOf Tryd.f116)) (r22_name_l0_T n C n) := by
  refine ⟨fun k => r22_name_l0_T n C k, n, rfl, fun fr st κ κp => by show r22_name_l0_T n C 0 fr st κ κp = .fail; unfold r22_name_l0_T; split <;> rfl, fun k fr st κ κp hne => ?_⟩
  replace hne : r22_name_l0_T n C (k + 1) fr st κ κp ≠ .fail := hne
  unfold r22_name_l0_T at hne
  split at hne
  · rename_i v0 v1 v2 v3
    exact Eq.trans (by kernel_rfl) (Eq.trans (r22_name_l0_step n C k κ κp v0 v1 v2 v3) (by kernel_rfl))
  · exact absurd rfl hne
theorem r22_name_fn (n : Nat) (C : Cal) (hT : TableOK Tryd.prog env (tab C)) : FnOK Tryd.prog env (r22_name_ctx n C) 116 (bodyOf Tryd.f116) :=
  ⟨⟨Tryd.f116, Tryd.func116, by kernel_rfl, by kernel_rfl, by kernel_rfl, by kernel_rfl⟩, by kernel_rfl, by kernel_rfl, by kernel_rfl, by kernel_rfl,
  loopsOK_of (by kernel_rfl) (by
    intro p hp f hf
    have hp : p ∈ [(0, { keep := [0, 1, 5, 6], grow := [], cells := [], out := [1], res := [4] })] := hp
    simp only [List.mem_cons, List.not_mem_nil, or_false] at hp
    rcases hp with rfl
    · have hf : some (r22_name_l0_T n C n) = some f := hf
      cases hf; exact r22_name_l0_ok n C
    ),
  sectsOK_none fun _ => by kernel_rfl, hT⟩
theorem r22_signs_fn (n : Nat) (C : Cal) (hT : TableOK Tryd.prog env (tab C)) : FnOK Tryd.prog env (r22_signs_ctx n C) 117 (bodyOf Tryd.f117) :=
  ⟨⟨Tryd.f117, Tryd.func117, by kernel_rfl, by kernel_rfl, by kernel_rfl, by kernel_rfl⟩, by kernel_rfl, by kernel_rfl, by kernel_rfl, by kernel_rfl,
  loopsOK_none fun _ => by kernel_rfl,
  sectsOK_none fun _ => by kernel_rfl, hT⟩
theorem r23_reader_word_fn (n : Nat) (C : Cal) (hT : TableOK Tryd.prog env (tab C)) : FnOK Tryd.prog env (r23_reader_word_ctx n C) 118 (bodyOf Tryd.f118) :=
  ⟨⟨Tryd.f118, Tryd.func118, by kernel_rfl, by kernel_rfl, by kernel_rfl, by kernel_rfl⟩, by kernel_rfl, by kernel_rfl, by kernel_rfl, by kernel_rfl,
  loopsOK_none fun _ => by kernel_rfl,
  sectsOK_none fun _ => by kernel_rfl, hT⟩
theorem r23_reader_clause_fn (n : Nat) (C : Cal) (hT : TableOK Tryd.prog env (tab C)) : FnOK Tryd.prog env (r23_reader_clause_ctx n C) 119 (bodyOf Tryd.f119) :=
  ⟨⟨Tryd.f119, Tryd.func119, by kernel_rfl, by kernel_rfl, by kernel_rfl, by kernel_rfl⟩, by kernel_rfl, by kernel_rfl, by kernel_rfl, by kernel_rfl,
  loopsOK_none fun _ => by kernel_rfl,
  sectsOK_none fun _ => by kernel_rfl, hT⟩
theorem r23_reader_next_fn (n : Nat) (C : Cal) (hT : TableOK Tryd.prog env (tab C)) : FnOK Tryd.prog env (r23_reader_next_ctx n C) 120 (bodyOf Tryd.f120) :=
  ⟨⟨Tryd.f120, Tryd.func120, by kernel_rfl, by kernel_rfl, by kernel_rfl, by kernel_rfl⟩, by kernel_rfl, by kernel_rfl, by kernel_rfl, by kernel_rfl,
  loopsOK_none fun _ => by kernel_rfl,
  sectsOK_none fun _ => by kernel_rfl, hT⟩
theorem r23_reader_some_fn (n : Nat) (C : Cal) (hT : TableOK Tryd.prog env (tab C)) : FnOK Tryd.prog env (r23_reader_some_ctx n C) 121 (bodyOf Tryd.f121) :=
  ⟨⟨Tryd.f121, Tryd.func121, by kernel_rfl, by kernel_rfl, by kernel_rfl, by kernel_rfl⟩, by kernel_rfl, by kernel_rfl, by kernel_rfl, by kernel_rfl,
  loopsOK_none fun _ => by kernel_rfl,
  sectsOK_none fun _ => by kernel_rfl, hT⟩
theorem r23_reader_must_fn (n : Nat) (C : Cal) (hT : TableOK Tryd.prog env (tab C)) : FnOK Tryd.prog env (r23_reader_must_ctx n C) 122 (bodyOf Tryd.f122) :=
  ⟨⟨Tryd.f122, Tryd.func122, by kernel_rfl, by kernel_rfl, by kernel_rfl, by kernel_rfl⟩, by kernel_rfl, by kernel_rfl, by kernel_rfl, by kernel_rfl,
  loopsOK_none fun _ => by kernel_rfl,
  sectsOK_none fun _ => by kernel_rfl, hT⟩
theorem r23_reader_updates_fn (n : Nat) (C : Cal) (hT : TableOK Tryd.prog env (tab C)) : FnOK Tryd.prog env (r23_reader_updates_ctx n C) 123 (bodyOf Tryd.f123) :=
  ⟨⟨Tryd.f123, Tryd.func123, by kernel_rfl, by kernel_rfl, by kernel_rfl, by kernel_rfl⟩, by kernel_rfl, by kernel_rfl, by kernel_rfl, by kernel_rfl,
  loopsOK_none fun _ => by kernel_rfl,
  sectsOK_none fun _ => by kernel_rfl, hT⟩
theorem r23_reader_update_fn (n : Nat) (C : Cal) (hT : TableOK Tryd.prog env (tab C)) : FnOK Tryd.prog env (r23_reader_update_ctx n C) 124 (bodyOf Tryd.f124) :=
  ⟨⟨Tryd.f124, Tryd.func124, by kernel_rfl, by kernel_rfl, by kernel_rfl, by kernel_rfl⟩, by kernel_rfl, by kernel_rfl, by kernel_rfl, by kernel_rfl,
  loopsOK_none fun _ => by kernel_rfl,
  sectsOK_none fun _ => by kernel_rfl, hT⟩
theorem r23_reader_or_fn (n : Nat) (C : Cal) (hT : TableOK Tryd.prog env (tab C)) : FnOK Tryd.prog env (r23_reader_or_ctx n C) 125 (bodyOf Tryd.f125) :=
  ⟨⟨Tryd.f125, Tryd.func125, by kernel_rfl, by kernel_rfl, by kernel_rfl, by kernel_rfl⟩, by kernel_rfl, by kernel_rfl, by kernel_rfl, by kernel_rfl,
  loopsOK_none fun _ => by kernel_rfl,
  sectsOK_none fun _ => by kernel_rfl, hT⟩
theorem r05_NameChar_fn (n : Nat) (C : Cal) (hT : TableOK Tryd.prog env (tab C)) : FnOK Tryd.prog env (r05_NameChar_ctx n C) 126 (bodyOf Tryd.f126) :=
  ⟨⟨Tryd.f126, Tryd.func126, by kernel_rfl, by kernel_rfl, by kernel_rfl, by kernel_rfl⟩, by kernel_rfl, by kernel_rfl, by kernel_rfl, by kernel_rfl,
  loopsOK_none fun _ => by kernel_rfl,
  sectsOK_none fun _ => by kernel_rfl, hT⟩
theorem r05_NameStart_fn (n : Nat) (C : Cal) (hT : TableOK Tryd.prog env (tab C)) : FnOK Tryd.prog env (r05_NameStart_ctx n C) 127 (bodyOf Tryd.f127) :=
  ⟨⟨Tryd.f127, Tryd.func127, by kernel_rfl, by kernel_rfl, by kernel_rfl, by kernel_rfl⟩, by kernel_rfl, by kernel_rfl, by kernel_rfl, by kernel_rfl,
  loopsOK_none fun _ => by kernel_rfl,
  sectsOK_none fun _ => by kernel_rfl, hT⟩
theorem chars_Name_l0_ok (n : Nat) (C : Cal) : LoopOK (chars_Name_ctx n C) 0 { keep := [0, 6], grow := [], cells := [], out := [0], res := [2] } (loopBody 0 (bodyOf Tryd.f128)) (chars_Name_l0_T n C n) := by
  refine ⟨fun k => chars_Name_l0_T n C k, n, rfl, fun fr st κ κp => by show chars_Name_l0_T n C 0 fr st κ κp = .fail; unfold chars_Name_l0_T; split <;> rfl, fun k fr st κ κp hne => ?_⟩
  replace hne : chars_Name_l0_T n C (k + 1) fr st κ κp ≠ .fail := hne
  unfold chars_Name_l0_T at hne
  split at hne
  · rename_i v0 v1 v2
    exact Eq.trans (by kernel_rfl) (Eq.trans (chars_Name_l0_step n C k κ κp v0 v1 v2) (by kernel_rfl))
  · exact absurd rfl hne
theorem chars_Name_fn (n : Nat) (C : Cal) (hT : TableOK Tryd.prog env (tab C)) : FnOK Tryd.prog env (chars_Name_ctx n C) 128 (bodyOf Tryd.f128) :=
  ⟨⟨Tryd.f128, Tryd.func128, by kernel_rfl, by kernel_rfl, by kernel_rfl, by kernel_rfl⟩, by kernel_rfl, by kernel_rfl, by kernel_rfl, by kernel_rfl,
  loopsOK_of (by kernel_rfl) (by
    intro p hp f hf
    have hp : p ∈ [(0, { keep := [0, 6], grow := [], cells := [], out := [0], res := [2] })] := hp
    simp only [List.mem_cons, List.not_mem_nil, or_false] at hp
    rcases hp with rfl
    · have hf : some (chars_Name_l0_T n C n) = some f := hf
      cases hf; exact chars_Name_l0_ok n C
    ),
  sectsOK_none fun _ => by kernel_rfl, hT⟩
theorem chars_Texts_l0_ok (n : Nat) (C : Cal) : LoopOK (chars_Texts_ctx n C) 0 { keep := [0, 6], grow := [], cells := [], out := [0], res := [2] } (loopBody 0 (bodyOf Tryd.f129)) (chars_Texts_l0_T n C n) := by
  refine ⟨fun k => chars_Texts_l0_T n C k, n, rfl, fun fr st κ κp => by show chars_Texts_l0_T n C 0 fr st κ κp = .fail; unfold chars_Texts_l0_T; split <;> rfl, fun k fr st κ κp hne => ?_⟩
  replace hne : chars_Texts_l0_T n C (k + 1) fr st κ κp ≠ .fail := hne
  unfold chars_Texts_l0_T at hne
  split at hne
  · rename_i v0 v1 v2
    exact Eq.trans (by kernel_rfl) (Eq.trans (chars_Texts_l0_step n C k κ κp v0 v1 v2) (by kernel_rfl))
  · exact absurd rfl hne
theorem chars_Texts_fn (n : Nat) (C : Cal) (hT : TableOK Tryd.prog env (tab C)) : FnOK Tryd.prog env (chars_Texts_ctx n C) 129 (bodyOf Tryd.f129) :=
  ⟨⟨Tryd.f129, Tryd.func129, by kernel_rfl, by kernel_rfl, by kernel_rfl, by kernel_rfl⟩, by kernel_rfl, by kernel_rfl, by kernel_rfl, by kernel_rfl,
  loopsOK_of (by kernel_rfl) (by
    intro p hp f hf
    have hp : p ∈ [(0, { keep := [0, 6], grow := [], cells := [], out := [0], res := [2] })] := hp
    simp only [List.mem_cons, List.not_mem_nil, or_false] at hp
    rcases hp with rfl
    · have hf : some (chars_Texts_l0_T n C n) = some f := hf
      cases hf; exact chars_Texts_l0_ok n C
    ),
  sectsOK_none fun _ => by kernel_rfl, hT⟩
theorem xpath_called_fn (n : Nat) (C : Cal) (hT : TableOK Tryd.prog env (tab C)) : FnOK Tryd.prog env (xpath_called_ctx n C) 130 (bodyOf Tryd.f130) :=
  ⟨⟨Tryd.f130, Tryd.func130, by kernel_rfl, by kernel_rfl, by kernel_rfl, by kernel_rfl⟩, by kernel_rfl, by kernel_rfl, by kernel_rfl, by kernel_rfl,
  loopsOK_none fun _ => by kernel_rfl,
  sectsOK_none fun _ => by kernel_rfl, hT⟩
theorem slices_Index_l0_ok (n : Nat) (C : Cal) : LoopOK (slices_Index_ctx n C) 0 { keep := [0, 1, 7, 8], grow := [], cells := [], out := [], res := [4] } (loopBody 0 (bodyOf Tryd.f132)) (slices_Index_l0_T n C n) := by
  refine ⟨fun k => slices_Index_l0_T n C k, n, rfl, fun fr st κ κp => by show slices_Index_l0_T n C 0 fr st κ κp = .fail; unfold slices_Index_l0_T; split <;> rfl, fun k fr st κ κp hne => ?_⟩
  replace hne : slices_Index_l0_T n C (k + 1) fr st κ κp ≠ .fail := hne
  unfold slices_Index_l0_T at hne
  split at hne
  · rename_i v0 v1 v2 v3
    exact Eq.trans (by kernel_rfl) (Eq.trans (slices_Index_l0_step n C k κ κp v0 v1 v2 v3) (by kernel_rfl))
  · exact absurd rfl hne
theorem slices_Index_fn (n : Nat) (C : Cal) (hT : TableOK Tryd.prog env (tab C)) : FnOK Tryd.prog env (slices_Index_ctx n C) 132 (bodyOf Tryd.f132) :=
  ⟨⟨Tryd.f132, Tryd.func132, by kernel_rfl, by kernel_rfl, by kernel_rfl, by kernel_rfl⟩, by kernel_rfl, by kernel_rfl, by kernel_rfl, by kernel_rfl,
  loopsOK_of (by kernel_rfl) (by
    intro p hp f hf
    have hp : p ∈ [(0, { keep := [0, 1, 7, 8], grow := [], cells := [], out := [], res := [4] })] := hp
    simp only [List.mem_cons, List.not_mem_nil, or_false] at hp
    rcases hp with rfl
    · have hf : some (slices_Index_l0_T n C n) = some f := hf
      cases hf; exact slices_Index_l0_ok n C
    ),
  sectsOK_none fun _ => by kernel_rfl, hT⟩
theorem chars_among_l0_ok (n : Nat) (C : Cal) : LoopOK (chars_among_ctx n C) 0 { keep := [0, 7, 8, 9], grow := [], cells := [], out := [], res := [4] } (loopBody 0 (bodyOf Tryd.f140)) (chars_among_l0_T n C n) := by
  refine ⟨fun k => chars_among_l0_T n C k, n, rfl, fun fr st κ κp => by show chars_among_l0_T n C 0 fr st κ κp = .fail; unfold chars_among_l0_T; split <;> rfl, fun k fr st κ κp hne => ?_⟩
  replace hne : chars_among_l0_T n C (k + 1) fr st κ κp ≠ .fail := hne
  unfold chars_among_l0_T at hne
  split at hne
  · rename_i v0 v1 v2 v3
    exact Eq.trans (by kernel_rfl) (Eq.trans (chars_among_l0_step n C k κ κp v0 v1 v2 v3) (by kernel_rfl))
  · exact absurd rfl hne
theorem chars_among_fn (n : Nat) (C : Cal) (hT : TableOK Tryd.prog env (tab C)) : FnOK Tryd.prog env (chars_among_ctx n C) 140 (bodyOf Tryd.f140) :=
  ⟨⟨Tryd.f140, Tryd.func140, by kernel_rfl, by kernel_rfl, by kernel_rfl, by kernel_rfl⟩, by kernel_rfl, by kernel_rfl, by kernel_rfl, by kernel_rfl,
  loopsOK_of (by kernel_rfl) (by
    intro p hp f hf
    have hp : p ∈ [(0, { keep := [0, 7, 8, 9], grow := [], cells := [], out := [], res := [4] })] := hp
    simp only [List.mem_cons, List.not_mem_nil, or_false] at hp
    rcases hp with rfl
    · have hf : some (chars_among_l0_T n C n) = some f := hf
      cases hf; exact chars_among_l0_ok n C
    ),
  sectsOK_none fun _ => by kernel_rfl, hT⟩
theorem r23_reader_variable_fn (n : Nat) (C : Cal) (hT : TableOK Tryd.prog env (tab C)) : FnOK Tryd.prog env (r23_reader_variable_ctx n C) 145 (bodyOf Tryd.f145) :=
  ⟨⟨Tryd.f145, Tryd.func145, by kernel_rfl, by kernel_rfl, by kernel_rfl, by kernel_rfl⟩, by kernel_rfl, by kernel_rfl, by kernel_rfl, by kernel_rfl,
  loopsOK_none fun _ => by kernel_rfl,
  sectsOK_none fun _ => by kernel_rfl, hT⟩
theorem r23_reader_more_fn (n : Nat) (C : Cal) (hT : TableOK Tryd.prog env (tab C)) : FnOK Tryd.prog env (r23_reader_more_ctx n C) 146 (bodyOf Tryd.f146) :=
  ⟨⟨Tryd.f146, Tryd.func146, by kernel_rfl, by kernel_rfl, by kernel_rfl, by kernel_rfl⟩, by kernel_rfl, by kernel_rfl, by kernel_rfl, by kernel_rfl,
  loopsOK_none fun _ => by kernel_rfl,
  sectsOK_none fun _ => by kernel_rfl, hT⟩
theorem r23_reader_no_fn (n : Nat) (C : Cal) (hT : TableOK Tryd.prog env (tab C)) : FnOK Tryd.prog env (r23_reader_no_ctx n C) 147 (bodyOf Tryd.f147) :=
  ⟨⟨Tryd.f147, Tryd.func147, by kernel_rfl, by kernel_rfl, by kernel_rfl, by kernel_rfl⟩, by kernel_rfl, by kernel_rfl, by kernel_rfl, by kernel_rfl,
  loopsOK_none fun _ => by kernel_rfl,
  sectsOK_none fun _ => by kernel_rfl, hT⟩
theorem r23_reader_place_l0_ok (n : Nat) (C : Cal) : LoopOK (r23_reader_place_ctx n C) 0 { keep := [0, 3, 4], grow := [], cells := [], out := [0], res := [2] } (loopBody 0 (bodyOf Tryd.f148)) (r23_reader_place_l0_T n C n) := by
  refine ⟨fun k => r23_reader_place_l0_T n C k, n, rfl, fun fr st κ κp => by show r23_reader_place_l0_T n C 0 fr st κ κp = .fail; unfold r23_reader_place_l0_T; split <;> rfl, fun k fr st κ κp hne => ?_⟩
  replace hne : r23_reader_place_l0_T n C (k + 1) fr st κ κp ≠ .fail := hne
  unfold r23_reader_place_l0_T at hne
  split at hne
  · rename_i v0 v1 v2 v3 v4
    exact Eq.trans (by kernel_rfl) (Eq.trans (r23_reader_place_l0_step n C k κ κp v0 v1 v2 v3 v4) (by kernel_rfl))
  · exact absurd rfl hne
theorem r23_reader_place_fn (n : Nat) (C : Cal) (hT : TableOK Tryd.prog env (tab C)) : FnOK Tryd.prog env (r23_reader_place_ctx n C) 148 (bodyOf Tryd.f148) :=
  ⟨⟨Tryd.f148, Tryd.func148, by kernel_rfl, by kernel_rfl, by kernel_rfl, by kernel_rfl⟩, by kernel_rfl, by kernel_rfl, by kernel_rfl, by kernel_rfl,
  loopsOK_of (by kernel_rfl) (by
    intro p hp f hf
    have hp : p ∈ [(0, { keep := [0, 3, 4], grow := [], cells := [], out := [0], res := [2] })] := hp
    simp only [List.mem_cons, List.not_mem_nil, or_false] at hp
    rcases hp with rfl
    · have hf : some (r23_reader_place_l0_T n C n) = some f := hf
      cases hf; exact r23_reader_place_l0_ok n C
    ),
  sectsOK_none fun _ => by kernel_rfl, hT⟩
theorem r23_reader_binary_l0_ok (n : Nat) (C : Cal) : LoopOK (r23_reader_binary_ctx n C) 0 { keep := [0, 1, 4, 5, 6, 7], grow := [], cells := [], out := [4, 7], res := [4] } (loopBody 0 (bodyOf Tryd.f149)) (r23_reader_binary_l0_T n C n) := by
  refine ⟨fun k => r23_reader_binary_l0_T n C k, n, rfl, fun fr st κ κp => by show r23_reader_binary_l0_T n C 0 fr st κ κp = .fail; unfold r23_reader_binary_l0_T; split <;> rfl, fun k fr st κ κp hne => ?_⟩
  replace hne : r23_reader_binary_l0_T n C (k + 1) fr st κ κp ≠ .fail := hne
  unfold r23_reader_binary_l0_T at hne
  split at hne
  · rename_i v0 v1 v2 v3 v4 v5 v7_k v7_p v7_a v7_t v7_n v7_s v7_l
    exact Eq.trans (by kernel_rfl) (Eq.trans (r23_reader_binary_l0_step n C k κ κp v0 v1 v2 v3 v4 v5 (XE.mk v7_k v7_p v7_a v7_t v7_n v7_s v7_l)) (by kernel_rfl))
  · exact absurd rfl hne
theorem r23_reader_binary_l2_ok (n : Nat) (C : Cal) : LoopOK (r23_reader_binary_ctx n C) 2 { keep := [0, 1, 4, 5, 6, 7, 8, 9, 10], grow := [], cells := [], out := [0, 1, 4, 5, 6, 7, 8, 9], res := [4] } (loopBody 2 (bodyOf Tryd.f149)) (r23_reader_binary_l2_T n C n) := by
  refine ⟨fun k => r23_reader_binary_l2_T n C k, n, rfl, fun fr st κ κp => by show r23_reader_binary_l2_T n C 0 fr st κ κp = .fail; unfold r23_reader_binary_l2_T; split <;> rfl, fun k fr st κ κp hne => ?_⟩
  replace hne : r23_reader_binary_l2_T n C (k + 1) fr st κ κp ≠ .fail := hne
  unfold r23_reader_binary_l2_T at hne
  split at hne
  · rename_i v0 v1 v2 v3 v4 v5 v6 v7 v8_k v8_p v8_a v8_t v8_n v8_s v8_l v9_k v9_p v9_a v9_t v9_n v9_s v9_l v10_k v10_s v10_n v10_p
    exact Eq.trans (by kernel_rfl) (Eq.trans (r23_reader_binary_l2_step n C k κ κp v0 v1 v2 v3 v4 v5 v6 v7 (XE.mk v8_k v8_p v8_a v8_t v8_n v8_s v8_l) (XE.mk v9_k v9_p v9_a v9_t v9_n v9_s v9_l) (XT.mk v10_k v10_s v10_n v10_p)) (by kernel_rfl))
  · exact absurd rfl hne
theorem r23_reader_binary_fn (n : Nat) (C : Cal) (hT : TableOK Tryd.prog env (tab C)) : FnOK Tryd.prog env (r23_reader_binary_ctx n C) 149 (bodyOf Tryd.f149) :=
  ⟨⟨Tryd.f149, Tryd.func149, by kernel_rfl, by kernel_rfl, by kernel_rfl, by kernel_rfl⟩, by kernel_rfl, by kernel_rfl, by kernel_rfl, by kernel_rfl,
  loopsOK_of (by kernel_rfl) (by
    intro p hp f hf
    have hp : p ∈ [(0, { keep := [0, 1, 4, 5, 6, 7], grow := [], cells := [], out := [4, 7], res := [4] }), (2, { keep := [0, 1, 4, 5, 6, 7, 8, 9, 10], grow := [], cells := [], out := [0, 1, 4, 5, 6, 7, 8, 9], res := [4] })] := hp
    simp only [List.mem_cons, List.not_mem_nil, or_false] at hp
    rcases hp with rfl | rfl
    · have hf : some (r23_reader_binary_l0_T n C n) = some f := hf
      cases hf; exact r23_reader_binary_l0_ok n C
    · have hf : some (r23_reader_binary_l2_T n C n) = some f := hf
      cases hf; exact r23_reader_binary_l2_ok n C
    ),
  sectsOK_none fun _ => by kernel_rfl, hT⟩
theorem r23_reader_minus_fn (n : Nat) (C : Cal) (hT : TableOK Tryd.prog env (tab C)) : FnOK Tryd.prog env (r23_reader_minus_ctx n C) 162 (bodyOf Tryd.f162) :=
  ⟨⟨Tryd.f162, Tryd.func162, by kernel_rfl, by kernel_rfl, by kernel_rfl, by kernel_rfl⟩, by kernel_rfl, by kernel_rfl, by kernel_rfl, by kernel_rfl,
  loopsOK_none fun _ => by kernel_rfl,
  sectsOK_none fun _ => by kernel_rfl, hT⟩
theorem r23_level_fn (n : Nat) (C : Cal) (hT : TableOK Tryd.prog env (tab C)) : FnOK Tryd.prog env (r23_level_ctx n C) 163 (bodyOf Tryd.f163) :=
  ⟨⟨Tryd.f163, Tryd.func163, by kernel_rfl, by kernel_rfl, by kernel_rfl, by kernel_rfl⟩, by kernel_rfl, by kernel_rfl, by kernel_rfl, by kernel_rfl,
  loopsOK_none fun _ => by kernel_rfl,
  sectsOK_none fun _ => by kernel_rfl, hT⟩
theorem r23_reader_union_l0_ok (n : Nat) (C : Cal) : LoopOK (r23_reader_union_ctx n C) 0 { keep := [0, 2, 3], grow := [], cells := [], out := [2, 3], res := [2] } (loopBody 0 (bodyOf Tryd.f172)) (r23_reader_union_l0_T n C n) := by
  refine ⟨fun k => r23_reader_union_l0_T n C k, n, rfl, fun fr st κ κp => by show r23_reader_union_l0_T n C 0 fr st κ κp = .fail; unfold r23_reader_union_l0_T; split <;> rfl, fun k fr st κ κp hne => ?_⟩
  replace hne : r23_reader_union_l0_T n C (k + 1) fr st κ κp ≠ .fail := hne
  unfold r23_reader_union_l0_T at hne
  split at hne
  · rename_i v0 v1 v2 v4_k v4_p v4_a v4_t v4_n v4_s v4_l
    exact Eq.trans (by kernel_rfl) (Eq.trans (r23_reader_union_l0_step n C k κ κp v0 v1 v2 (XE.mk v4_k v4_p v4_a v4_t v4_n v4_s v4_l)) (by kernel_rfl))
  · exact absurd rfl hne
theorem r23_reader_union_fn (n : Nat) (C : Cal) (hT : TableOK Tryd.prog env (tab C)) : FnOK Tryd.prog env (r23_reader_union_ctx n C) 172 (bodyOf Tryd.f172) :=
  ⟨⟨Tryd.f172, Tryd.func172, by kernel_rfl, by kernel_rfl, by kernel_rfl, by kernel_rfl⟩, by kernel_rfl, by kernel_rfl, by kernel_rfl, by kernel_rfl,
  loopsOK_of (by kernel_rfl) (by
    intro p hp f hf
    have hp : p ∈ [(0, { keep := [0, 2, 3], grow := [], cells := [], out := [2, 3], res := [2] })] := hp
    simp only [List.mem_cons, List.not_mem_nil, or_false] at hp
    rcases hp with rfl
    · have hf : some (r23_reader_union_l0_T n C n) = some f := hf
      cases hf; exact r23_reader_union_l0_ok n C
    ),
  sectsOK_none fun _ => by kernel_rfl, hT⟩
theorem r23_reader_path_fn (n : Nat) (C : Cal) (hT : TableOK Tryd.prog env (tab C)) : FnOK Tryd.prog env (r23_reader_path_ctx n C) 174 (bodyOf Tryd.f174) :=
  ⟨⟨Tryd.f174, Tryd.func174, by kernel_rfl, by kernel_rfl, by kernel_rfl, by kernel_rfl⟩, by kernel_rfl, by kernel_rfl, by kernel_rfl, by kernel_rfl,
  loopsOK_none fun _ => by kernel_rfl,
  sectsOK_none fun _ => by kernel_rfl, hT⟩
theorem r23_reader_begins_fn (n : Nat) (C : Cal) (hT : TableOK Tryd.prog env (tab C)) : FnOK Tryd.prog env (r23_reader_begins_ctx n C) 175 (bodyOf Tryd.f175) :=
  ⟨⟨Tryd.f175, Tryd.func175, by kernel_rfl, by kernel_rfl, by kernel_rfl, by kernel_rfl⟩, by kernel_rfl, by kernel_rfl, by kernel_rfl, by kernel_rfl,
  loopsOK_none fun _ => by kernel_rfl,
  sectsOK_none fun _ => by kernel_rfl, hT⟩
theorem r23_reader_row_l0_ok (n : Nat) (C : Cal) : LoopOK (r23_reader_row_ctx n C) 0 { keep := [0, 3, 4], grow := [], cells := [], out := [3, 4], res := [4] } (loopBody 0 (bodyOf Tryd.f176)) (r23_reader_row_l0_T n C n) := by
  refine ⟨fun k => r23_reader_row_l0_T n C k, n, rfl, fun fr st κ κp => by show r23_reader_row_l0_T n C 0 fr st κ κp = .fail; unfold r23_reader_row_l0_T; split <;> rfl, fun k fr st κ κp hne => ?_⟩
  replace hne : r23_reader_row_l0_T n C (k + 1) fr st κ κp ≠ .fail := hne
  unfold r23_reader_row_l0_T at hne
  split at hne
  · rename_i v0 v1 v2 v3_k v3_p v3_a v3_t v3_n v3_s v3_l
    exact Eq.trans (by kernel_rfl) (Eq.trans (r23_reader_row_l0_step n C k κ κp v0 v1 v2 (XE.mk v3_k v3_p v3_a v3_t v3_n v3_s v3_l)) (by kernel_rfl))
  · exact absurd rfl hne
theorem r23_reader_row_fn (n : Nat) (C : Cal) (hT : TableOK Tryd.prog env (tab C)) : FnOK Tryd.prog env (r23_reader_row_ctx n C) 176 (bodyOf Tryd.f176) :=
  ⟨⟨Tryd.f176, Tryd.func176, by kernel_rfl, by kernel_rfl, by kernel_rfl, by kernel_rfl⟩, by kernel_rfl, by kernel_rfl, by kernel_rfl, by kernel_rfl,
  loopsOK_of (by kernel_rfl) (by
    intro p hp f hf
    have hp : p ∈ [(0, { keep := [0, 3, 4], grow := [], cells := [], out := [3, 4], res := [4] })] := hp
    simp only [List.mem_cons, List.not_mem_nil, or_false] at hp
    rcases hp with rfl
    · have hf : some (r23_reader_row_l0_T n C n) = some f := hf
      cases hf; exact r23_reader_row_l0_ok n C
    ),
  sectsOK_none fun _ => by kernel_rfl, hT⟩
theorem r23_reader_step_l1_ok (n : Nat) (C : Cal) : LoopOK (r23_reader_step_ctx n C) 1 { keep := [0, 2, 3], grow := [], cells := [(3, 6, true)], out := [2, 3], res := [2] } (loopBody 1 (bodyOf Tryd.f177)) (r23_reader_step_l1_T n C n) := by
  refine ⟨fun k => r23_reader_step_l1_T n C k, n, rfl, fun fr st κ κp => by show r23_reader_step_l1_T n C 0 fr st κ κp = .fail; unfold r23_reader_step_l1_T; split <;> rfl, fun k fr st κ κp hne => ?_⟩
  replace hne : r23_reader_step_l1_T n C (k + 1) fr st κ κp ≠ .fail := hne
  unfold r23_reader_step_l1_T at hne
  split at hne
  · rename_i v0 v1 v2 v4 v5 v6 v7 v9 v10
    exact Eq.trans (by kernel_rfl) (Eq.trans (r23_reader_step_l1_step n C k κ κp v0 v1 v2 v4 v5 v6 v7 v9 v10) (by kernel_rfl))
  · exact absurd rfl hne
theorem r23_reader_step_fn (n : Nat) (C : Cal) (hT : TableOK Tryd.prog env (tab C)) : FnOK Tryd.prog env (r23_reader_step_ctx n C) 177 (bodyOf Tryd.f177) :=
  ⟨⟨Tryd.f177, Tryd.func177, by kernel_rfl, by kernel_rfl, by kernel_rfl, by kernel_rfl⟩, by kernel_rfl, by kernel_rfl, by kernel_rfl, by kernel_rfl,
  loopsOK_of (by kernel_rfl) (by
    intro p hp f hf
    have hp : p ∈ [(1, { keep := [0, 2, 3], grow := [], cells := [(3, 6, true)], out := [2, 3], res := [2] })] := hp
    simp only [List.mem_cons, List.not_mem_nil, or_false] at hp
    rcases hp with rfl
    · have hf : some (r23_reader_step_l1_T n C n) = some f := hf
      cases hf; exact r23_reader_step_l1_ok n C
    ),
  sectsOK_none fun _ => by kernel_rfl, hT⟩
theorem r23_deep_fn (n : Nat) (C : Cal) (hT : TableOK Tryd.prog env (tab C)) : FnOK Tryd.prog env (r23_deep_ctx n C) 178 (bodyOf Tryd.f178) :=
  ⟨⟨Tryd.f178, Tryd.func178, by kernel_rfl, by kernel_rfl, by kernel_rfl, by kernel_rfl⟩, by kernel_rfl, by kernel_rfl, by kernel_rfl, by kernel_rfl,
  loopsOK_none fun _ => by kernel_rfl,
  sectsOK_none fun _ => by kernel_rfl, hT⟩
theorem r23_reader_axis_l0_ok (n : Nat) (C : Cal) : LoopOK (r23_reader_axis_ctx n C) 0 { keep := [0, 3, 4], grow := [], cells := [], out := [], res := [2] } (loopBody 0 (bodyOf Tryd.f179)) (r23_reader_axis_l0_T n C n) := by
  refine ⟨fun k => r23_reader_axis_l0_T n C k, n, rfl, fun fr st κ κp => by show r23_reader_axis_l0_T n C 0 fr st κ κp = .fail; unfold r23_reader_axis_l0_T; split <;> rfl, fun k fr st κ κp hne => ?_⟩
  replace hne : r23_reader_axis_l0_T n C (k + 1) fr st κ κp ≠ .fail := hne
  unfold r23_reader_axis_l0_T at hne
  split at hne
  · rename_i v0 v1 v2 v3 v4
    exact Eq.trans (by kernel_rfl) (Eq.trans (r23_reader_axis_l0_step n C k κ κp v0 v1 v2 v3 v4) (by kernel_rfl))
  · exact absurd rfl hne
theorem r23_reader_axis_fn (n : Nat) (C : Cal) (hT : TableOK Tryd.prog env (tab C)) : FnOK Tryd.prog env (r23_reader_axis_ctx n C) 179 (bodyOf Tryd.f179) :=
  ⟨⟨Tryd.f179, Tryd.func179, by kernel_rfl, by kernel_rfl, by kernel_rfl, by kernel_rfl⟩, by kernel_rfl, by kernel_rfl, by kernel_rfl, by kernel_rfl,
  loopsOK_of (by kernel_rfl) (by
    intro p hp f hf
    have hp : p ∈ [(0, { keep := [0, 3, 4], grow := [], cells := [], out := [], res := [2] })] := hp
    simp only [List.mem_cons, List.not_mem_nil, or_false] at hp
    rcases hp with rfl
    · have hf : some (r23_reader_axis_l0_T n C n) = some f := hf
      cases hf; exact r23_reader_axis_l0_ok n C
    ),
  sectsOK_none fun _ => by kernel_rfl, hT⟩
theorem r23_reader_test_fn (n : Nat) (C : Cal) (hT : TableOK Tryd.prog env (tab C)) : FnOK Tryd.prog env (r23_reader_test_ctx n C) 180 (bodyOf Tryd.f180) :=
  ⟨⟨Tryd.f180, Tryd.func180, by kernel_rfl, by kernel_rfl, by kernel_rfl, by kernel_rfl⟩, by kernel_rfl, by kernel_rfl, by kernel_rfl, by kernel_rfl,
  loopsOK_none fun _ => by kernel_rfl,
  sectsOK_none fun _ => by kernel_rfl, hT⟩
theorem r23_reader_primary_fn (n : Nat) (C : Cal) (hT : TableOK Tryd.prog env (tab C)) : FnOK Tryd.prog env (r23_reader_primary_ctx n C) 181 (bodyOf Tryd.f181) :=
  ⟨⟨Tryd.f181, Tryd.func181, by kernel_rfl, by kernel_rfl, by kernel_rfl, by kernel_rfl⟩, by kernel_rfl, by kernel_rfl, by kernel_rfl, by kernel_rfl,
  loopsOK_none fun _ => by kernel_rfl,
  sectsOK_none fun _ => by kernel_rfl, hT⟩
theorem r23_axes_fn (n : Nat) (C : Cal) (hT : TableOK Tryd.prog env (tab C)) : FnOK Tryd.prog env (r23_axes_ctx n C) 182 (bodyOf Tryd.f182) :=
  ⟨⟨Tryd.f182, Tryd.func182, by kernel_rfl, by kernel_rfl, by kernel_rfl, by kernel_rfl⟩, by kernel_rfl, by kernel_rfl, by kernel_rfl, by kernel_rfl,
  loopsOK_none fun _ => by kernel_rfl,
  sectsOK_none fun _ => by kernel_rfl, hT⟩
theorem r23_reader_brackets_fn (n : Nat) (C : Cal) (hT : TableOK Tryd.prog env (tab C)) : FnOK Tryd.prog env (r23_reader_brackets_ctx n C) 183 (bodyOf Tryd.f183) :=
  ⟨⟨Tryd.f183, Tryd.func183, by kernel_rfl, by kernel_rfl, by kernel_rfl, by kernel_rfl⟩, by kernel_rfl, by kernel_rfl, by kernel_rfl, by kernel_rfl,
  loopsOK_none fun _ => by kernel_rfl,
  sectsOK_none fun _ => by kernel_rfl, hT⟩
theorem r23_reader_call_l0_ok (n : Nat) (C : Cal) : LoopOK (r23_reader_call_ctx n C) 0 { keep := [0, 2, 4], grow := [], cells := [], out := [0, 2, 4], res := [2] } (loopBody 0 (bodyOf Tryd.f184)) (r23_reader_call_l0_T n C n) := by
  refine ⟨fun k => r23_reader_call_l0_T n C k, n, rfl, fun fr st κ κp => by show r23_reader_call_l0_T n C 0 fr st κ κp = .fail; unfold r23_reader_call_l0_T; split <;> rfl, fun k fr st κ κp hne => ?_⟩
  replace hne : r23_reader_call_l0_T n C (k + 1) fr st κ κp ≠ .fail := hne
  unfold r23_reader_call_l0_T at hne
  split at hne
  · rename_i v0 v1 v2 v5 v9 v10
    exact Eq.trans (by kernel_rfl) (Eq.trans (r23_reader_call_l0_step n C k κ κp v0 v1 v2 v5 v9 v10) (by kernel_rfl))
  · exact absurd rfl hne
theorem r23_reader_call_fn (n : Nat) (C : Cal) (hT : TableOK Tryd.prog env (tab C)) : FnOK Tryd.prog env (r23_reader_call_ctx n C) 184 (bodyOf Tryd.f184) :=
  ⟨⟨Tryd.f184, Tryd.func184, by kernel_rfl, by kernel_rfl, by kernel_rfl, by kernel_rfl⟩, by kernel_rfl, by kernel_rfl, by kernel_rfl, by kernel_rfl,
  loopsOK_of (by kernel_rfl) (by
    intro p hp f hf
    have hp : p ∈ [(0, { keep := [0, 2, 4], grow := [], cells := [], out := [0, 2, 4], res := [2] })] := hp
    simp only [List.mem_cons, List.not_mem_nil, or_false] at hp
    rcases hp with rfl
    · have hf : some (r23_reader_call_l0_T n C n) = some f := hf
      cases hf; exact r23_reader_call_l0_ok n C
    ),
  sectsOK_none fun _ => by kernel_rfl, hT⟩
theorem slices_Contains_v1_fn (n : Nat) (C : Cal) (hT : TableOK Tryd.prog env (tab C)) : FnOK Tryd.prog env (slices_Contains_v1_ctx n C) 90 (bodyOf Tryd.f90) :=
  ⟨⟨Tryd.f90, Tryd.func90, by kernel_rfl, by kernel_rfl, by kernel_rfl, by kernel_rfl⟩, by kernel_rfl, by kernel_rfl, by kernel_rfl, by kernel_rfl,
  loopsOK_none fun _ => by kernel_rfl,
  sectsOK_none fun _ => by kernel_rfl, hT⟩
theorem slices_Index_v1_l0_ok (n : Nat) (C : Cal) : LoopOK (slices_Index_v1_ctx n C) 0 { keep := [0, 1, 7, 8], grow := [], cells := [], out := [], res := [4] } (loopBody 0 (bodyOf Tryd.f132)) (slices_Index_v1_l0_T n C n) := by
  refine ⟨fun k => slices_Index_v1_l0_T n C k, n, rfl, fun fr st κ κp => by show slices_Index_v1_l0_T n C 0 fr st κ κp = .fail; unfold slices_Index_v1_l0_T; split <;> rfl, fun k fr st κ κp hne => ?_⟩
  replace hne : slices_Index_v1_l0_T n C (k + 1) fr st κ κp ≠ .fail := hne
  unfold slices_Index_v1_l0_T at hne
  split at hne
  · rename_i v0 v1 v2 v3
    exact Eq.trans (by kernel_rfl) (Eq.trans (slices_Index_v1_l0_step n C k κ κp v0 v1 v2 v3) (by kernel_rfl))
  · exact absurd rfl hne
theorem slices_Index_v1_fn (n : Nat) (C : Cal) (hT : TableOK Tryd.prog env (tab C)) : FnOK Tryd.prog env (slices_Index_v1_ctx n C) 132 (bodyOf Tryd.f132) :=
  ⟨⟨Tryd.f132, Tryd.func132, by kernel_rfl, by kernel_rfl, by kernel_rfl, by kernel_rfl⟩, by kernel_rfl, by kernel_rfl, by kernel_rfl, by kernel_rfl,
  loopsOK_of (by kernel_rfl) (by
    intro p hp f hf
    have hp : p ∈ [(0, { keep := [0, 1, 7, 8], grow := [], cells := [], out := [], res := [4] })] := hp
    simp only [List.mem_cons, List.not_mem_nil, or_false] at hp
    rcases hp with rfl
    · have hf : some (slices_Index_v1_l0_T n C n) = some f := hf
      cases hf; exact slices_Index_v1_l0_ok n C
    ),
  sectsOK_none fun _ => by kernel_rfl, hT⟩
theorem w24_CheckOne_eok (n : Nat) (hT : TableOK Tryd.prog env (tab (calAt n))) : EntryOK Tryd.prog env 3 (w24_CheckOne_en (calAt (n + 1))) := by
  intro us st
  unfold w24_CheckOne_en
  split
  · rename_i x0_k x0_p x0_a x0_t x0_n x0_s x0_l
    refine .inr ⟨_, rfl, fun a ha => body_answers env_ok (w24_CheckOne_fn n (calAt n) hT) (Nat.le_of_ble_eq_true (by kernel_rfl)) (pan := false) ?_⟩
    have h : w24_CheckOne n (calAt n) (XE.mk x0_k x0_p x0_a x0_t x0_n x0_s x0_l) = some a := ha
    have h2 := w24_CheckOne_run n (calAt n) (XE.mk x0_k x0_p x0_a x0_t x0_n x0_s x0_l)
    rw [h] at h2
    exact Eq.trans (by kernel_rfl) (Eq.trans h2 (by kernel_rfl))
  · exact .inl rfl
theorem w24_CheckWithin_eok (n : Nat) (hT : TableOK Tryd.prog env (tab (calAt n))) : EntryOK Tryd.prog env 4 (w24_CheckWithin_en (calAt (n + 1))) := by
  intro us st
  unfold w24_CheckWithin_en
  split
  · rename_i x0_k x0_p x0_a x0_t x0_n x0_s x0_l x1
    refine .inr ⟨_, rfl, fun a ha => body_answers env_ok (w24_CheckWithin_fn n (calAt n) hT) (Nat.le_of_ble_eq_true (by kernel_rfl)) (pan := false) ?_⟩
    have h : w24_CheckWithin n (calAt n) (XE.mk x0_k x0_p x0_a x0_t x0_n x0_s x0_l) x1 = some a := ha
    have h2 := w24_CheckWithin_run n (calAt n) (XE.mk x0_k x0_p x0_a x0_t x0_n x0_s x0_l) x1
    rw [h] at h2
    exact Eq.trans (by kernel_rfl) (Eq.trans h2 (by kernel_rfl))
  · exact .inl rfl
theorem w24_CheckArity_eok (n : Nat) (hT : TableOK Tryd.prog env (tab (calAt n))) : EntryOK Tryd.prog env 5 (w24_CheckArity_en (calAt (n + 1))) := by
  intro us st
  unfold w24_CheckArity_en
  split
  · rename_i x0
    refine .inr ⟨_, rfl, fun a ha => body_answers env_ok (w24_CheckArity_fn n (calAt n) hT) (Nat.le_of_ble_eq_true (by kernel_rfl)) (pan := false) ?_⟩
    have h : w24_CheckArity n (calAt n) x0 = some a := ha
    have h2 := w24_CheckArity_run n (calAt n) x0
    rw [h] at h2
    exact Eq.trans (by kernel_rfl) (Eq.trans h2 (by kernel_rfl))
  · exact .inl rfl
theorem w24_awake_eok (n : Nat) (hT : TableOK Tryd.prog env (tab (calAt n))) : EntryOK Tryd.prog env 8 (w24_awake_en (calAt (n + 1))) := by
  intro us st
  unfold w24_awake_en
  split
  · refine .inr ⟨_, rfl, fun a ha => body_answers env_ok (w24_awake_fn n (calAt n) hT) (Nat.le_of_ble_eq_true (by kernel_rfl)) (pan := false) ?_⟩
    have h : w24_awake n (calAt n)  = some a := ha
    have h2 := w24_awake_run n (calAt n) 
    rw [h] at h2
    exact Eq.trans (by kernel_rfl) (Eq.trans h2 (by kernel_rfl))
  · exact .inl rfl
theorem w24_size_eok (n : Nat) (hT : TableOK Tryd.prog env (tab (calAt n))) : EntryOK Tryd.prog env 9 (w24_size_en (calAt (n + 1))) := by
  intro us st
  unfold w24_size_en
  split
  · rename_i x0_k x0_p x0_a x0_t x0_n x0_s x0_l x1
    refine .inr ⟨_, rfl, fun a ha => body_answers env_ok (w24_size_fn n (calAt n) hT) (Nat.le_of_ble_eq_true (by kernel_rfl)) (pan := false) ?_⟩
    have h : w24_size n (calAt n) (XE.mk x0_k x0_p x0_a x0_t x0_n x0_s x0_l) x1 = some a := ha
    have h2 := w24_size_run n (calAt n) (XE.mk x0_k x0_p x0_a x0_t x0_n x0_s x0_l) x1
    rw [h] at h2
    exact Eq.trans (by kernel_rfl) (Eq.trans h2 (by kernel_rfl))
  · exact .inl rfl
theorem r23_Right_eok (n : Nat) (hT : TableOK Tryd.prog env (tab (calAt n))) : EntryOK Tryd.prog env 10 (r23_Right_en (calAt (n + 1))) := by
  intro us st
  unfold r23_Right_en
  split
  · rename_i x0_k x0_p x0_a x0_t x0_n x0_s x0_l
    refine .inr ⟨_, rfl, fun a ha => body_answers env_ok (r23_Right_fn n (calAt n) hT) (Nat.le_of_ble_eq_true (by kernel_rfl)) (pan := false) ?_⟩
    have h : r23_Right n (calAt n) (XE.mk x0_k x0_p x0_a x0_t x0_n x0_s x0_l) = some a := ha
    have h2 := r23_Right_run n (calAt n) (XE.mk x0_k x0_p x0_a x0_t x0_n x0_s x0_l)
    rw [h] at h2
    exact Eq.trans (by kernel_rfl) (Eq.trans h2 (by kernel_rfl))
  · exact .inl rfl
theorem check_Query_eok (n : Nat) (hT : TableOK Tryd.prog env (tab (calAt n))) : EntryOK Tryd.prog env 11 (check_Query_en (calAt (n + 1))) := by
  intro us st
  unfold check_Query_en
  split
  · rename_i x0_k x0_p x0_a x0_t x0_n x0_s x0_l
    refine .inr ⟨_, rfl, fun a ha => body_answers env_ok (check_Query_fn n (calAt n) hT) (Nat.le_of_ble_eq_true (by kernel_rfl)) (pan := false) ?_⟩
    have h : check_Query n (calAt n) (XE.mk x0_k x0_p x0_a x0_t x0_n x0_s x0_l) = some a := ha
    have h2 := check_Query_run n (calAt n) (XE.mk x0_k x0_p x0_a x0_t x0_n x0_s x0_l)
    rw [h] at h2
    exact Eq.trans (by kernel_rfl) (Eq.trans h2 (by kernel_rfl))
  · exact .inl rfl
theorem check_Update_eok (n : Nat) (hT : TableOK Tryd.prog env (tab (calAt n))) : EntryOK Tryd.prog env 12 (check_Update_en (calAt (n + 1))) := by
  intro us st
  unfold check_Update_en
  split
  · rename_i x0_k x0_p x0_a x0_t x0_n x0_s x0_l
    refine .inr ⟨_, rfl, fun a ha => body_answers env_ok (check_Update_fn n (calAt n) hT) (Nat.le_of_ble_eq_true (by kernel_rfl)) (pan := false) ?_⟩
    have h : check_Update n (calAt n) (XE.mk x0_k x0_p x0_a x0_t x0_n x0_s x0_l) = some a := ha
    have h2 := check_Update_run n (calAt n) (XE.mk x0_k x0_p x0_a x0_t x0_n x0_s x0_l)
    rw [h] at h2
    exact Eq.trans (by kernel_rfl) (Eq.trans h2 (by kernel_rfl))
  · exact .inl rfl
theorem w24_empties_eok (n : Nat) (hT : TableOK Tryd.prog env (tab (calAt n))) : EntryOK Tryd.prog env 13 (w24_empties_en (calAt (n + 1))) := by
  intro us st
  unfold w24_empties_en
  split
  · rename_i x0_k x0_p x0_a x0_t x0_n x0_s x0_l
    refine .inr ⟨_, rfl, fun a ha => body_answers env_ok (w24_empties_fn n (calAt n) hT) (Nat.le_of_ble_eq_true (by kernel_rfl)) (pan := false) ?_⟩
    have h : w24_empties n (calAt n) (XE.mk x0_k x0_p x0_a x0_t x0_n x0_s x0_l) = some a := ha
    have h2 := w24_empties_run n (calAt n) (XE.mk x0_k x0_p x0_a x0_t x0_n x0_s x0_l)
    rw [h] at h2
    exact Eq.trans (by kernel_rfl) (Eq.trans h2 (by kernel_rfl))
  · exact .inl rfl
theorem w24_stands_eok (n : Nat) (hT : TableOK Tryd.prog env (tab (calAt n))) : EntryOK Tryd.prog env 14 (w24_stands_en (calAt (n + 1))) := by
  intro us st
  unfold w24_stands_en
  split
  · rename_i x0_k x0_p x0_a x0_t x0_n x0_s x0_l x1
    refine .inr ⟨_, rfl, fun a ha => body_answers env_ok (w24_stands_fn n (calAt n) hT) (Nat.le_of_ble_eq_true (by kernel_rfl)) (pan := false) ?_⟩
    have h : w24_stands n (calAt n) (XE.mk x0_k x0_p x0_a x0_t x0_n x0_s x0_l) x1 = some a := ha
    have h2 := w24_stands_run n (calAt n) (XE.mk x0_k x0_p x0_a x0_t x0_n x0_s x0_l) x1
    rw [h] at h2
    exact Eq.trans (by kernel_rfl) (Eq.trans h2 (by kernel_rfl))
  · exact .inl rfl
theorem check_Arity_eok (n : Nat) (hT : TableOK Tryd.prog env (tab (calAt n))) : EntryOK Tryd.prog env 15 (check_Arity_en (calAt (n + 1))) := by
  intro us st
  unfold check_Arity_en
  split
  · rename_i x0
    refine .inr ⟨_, rfl, fun a ha => body_answers env_ok (check_Arity_fn n (calAt n) hT) (Nat.le_of_ble_eq_true (by kernel_rfl)) (pan := false) ?_⟩
    have h : check_Arity n (calAt n) x0 = some a := ha
    have h2 := check_Arity_run n (calAt n) x0
    rw [h] at h2
    exact Eq.trans (by kernel_rfl) (Eq.trans h2 (by kernel_rfl))
  · exact .inl rfl
theorem r24_Arity_eok (n : Nat) (hT : TableOK Tryd.prog env (tab (calAt n))) : EntryOK Tryd.prog env 16 (r24_Arity_en (calAt (n + 1))) := by
  intro us st
  unfold r24_Arity_en
  split
  · rename_i x0
    refine .inr ⟨_, rfl, fun a ha => body_answers env_ok (r24_Arity_fn n (calAt n) hT) (Nat.le_of_ble_eq_true (by kernel_rfl)) (pan := false) ?_⟩
    have h : r24_Arity n (calAt n) x0 = some a := ha
    have h2 := r24_Arity_run n (calAt n) x0
    rw [h] at h2
    exact Eq.trans (by kernel_rfl) (Eq.trans h2 (by kernel_rfl))
  · exact .inl rfl
theorem w24_of_eok (n : Nat) (hT : TableOK Tryd.prog env (tab (calAt n))) : EntryOK Tryd.prog env 20 (w24_of_en (calAt (n + 1))) := by
  intro us st
  unfold w24_of_en
  split
  · rename_i x0
    refine .inr ⟨_, rfl, fun a ha => body_answers env_ok (w24_of_fn n (calAt n) hT) (Nat.le_of_ble_eq_true (by kernel_rfl)) (pan := false) ?_⟩
    have h : w24_of n (calAt n) x0 = some a := ha
    have h2 := w24_of_run n (calAt n) x0
    rw [h] at h2
    exact Eq.trans (by kernel_rfl) (Eq.trans h2 (by kernel_rfl))
  · exact .inl rfl
theorem r23_Deep_eok (n : Nat) (hT : TableOK Tryd.prog env (tab (calAt n))) : EntryOK Tryd.prog env 21 (r23_Deep_en (calAt (n + 1))) := by
  intro us st
  unfold r23_Deep_en
  split
  · rename_i x0_k x0_p x0_a x0_t x0_n x0_s x0_l
    refine .inr ⟨_, rfl, fun a ha => body_answers env_ok (r23_Deep_fn n (calAt n) hT) (Nat.le_of_ble_eq_true (by kernel_rfl)) (pan := false) ?_⟩
    have h : r23_Deep n (calAt n) (XE.mk x0_k x0_p x0_a x0_t x0_n x0_s x0_l) = some a := ha
    have h2 := r23_Deep_run n (calAt n) (XE.mk x0_k x0_p x0_a x0_t x0_n x0_s x0_l)
    rw [h] at h2
    exact Eq.trans (by kernel_rfl) (Eq.trans h2 (by kernel_rfl))
  · exact .inl rfl
theorem r23_all_eok (n : Nat) (hT : TableOK Tryd.prog env (tab (calAt n))) : EntryOK Tryd.prog env 22 (r23_all_en (calAt (n + 1))) := by
  intro us st
  unfold r23_all_en
  split
  · rename_i x0_k x0_p x0_a x0_t x0_n x0_s x0_l x1
    refine .inr ⟨_, rfl, fun a ha => body_answers env_ok (r23_all_fn n (calAt n) hT) (Nat.le_of_ble_eq_true (by kernel_rfl)) (pan := false) ?_⟩
    have h : r23_all n (calAt n) (XE.mk x0_k x0_p x0_a x0_t x0_n x0_s x0_l) x1 = some a := ha
    have h2 := r23_all_run n (calAt n) (XE.mk x0_k x0_p x0_a x0_t x0_n x0_s x0_l) x1
    rw [h] at h2
    exact Eq.trans (by kernel_rfl) (Eq.trans h2 (by kernel_rfl))
  · exact .inl rfl
theorem check_all_eok (n : Nat) (hT : TableOK Tryd.prog env (tab (calAt n))) : EntryOK Tryd.prog env 23 (check_all_en (calAt (n + 1))) := by
  intro us st
  unfold check_all_en
  split
  · rename_i x0_k x0_p x0_a x0_t x0_n x0_s x0_l x1
    refine .inr ⟨_, rfl, fun a ha => body_answers env_ok (check_all_fn n (calAt n) hT) (Nat.le_of_ble_eq_true (by kernel_rfl)) (pan := false) ?_⟩
    have h : check_all n (calAt n) (XE.mk x0_k x0_p x0_a x0_t x0_n x0_s x0_l) x1 = some a := ha
    have h2 := check_all_run n (calAt n) (XE.mk x0_k x0_p x0_a x0_t x0_n x0_s x0_l) x1
    rw [h] at h2
    exact Eq.trans (by kernel_rfl) (Eq.trans h2 (by kernel_rfl))
  · exact .inl rfl
theorem check_many_eok (n : Nat) (hT : TableOK Tryd.prog env (tab (calAt n))) : EntryOK Tryd.prog env 24 (check_many_en (calAt (n + 1))) := by
  intro us st
  unfold check_many_en
  split
  · refine .inr ⟨_, rfl, fun a ha => body_answers env_ok (check_many_fn n (calAt n) hT) (Nat.le_of_ble_eq_true (by kernel_rfl)) (pan := false) ?_⟩
    have h : check_many n (calAt n)  = some a := ha
    have h2 := check_many_run n (calAt n) 
    rw [h] at h2
    exact Eq.trans (by kernel_rfl) (Eq.trans h2 (by kernel_rfl))
  · exact .inl rfl
theorem r23_Parse_eok (n : Nat) (hT : TableOK Tryd.prog env (tab (calAt n))) : EntryOK Tryd.prog env 29 (r23_Parse_en (calAt (n + 1))) := by
  intro us st
  unfold r23_Parse_en
  split
  · rename_i x0
    refine .inr ⟨_, rfl, fun a ha => body_answers env_ok (r23_Parse_fn n (calAt n) hT) (Nat.le_of_ble_eq_true (by kernel_rfl)) (pan := false) ?_⟩
    have h : r23_Parse n (calAt n) x0 = some a := ha
    have h2 := r23_Parse_run n (calAt n) x0
    rw [h] at h2
    exact Eq.trans (by kernel_rfl) (Eq.trans h2 (by kernel_rfl))
  · exact .inl rfl
theorem r23_one_eok (n : Nat) (hT : TableOK Tryd.prog env (tab (calAt n))) : EntryOK Tryd.prog env 30 (r23_one_en (calAt (n + 1))) := by
  intro us st
  unfold r23_one_en
  split
  · rename_i x0_k x0_p x0_a x0_t x0_n x0_s x0_l x1
    refine .inr ⟨_, rfl, fun a ha => body_answers env_ok (r23_one_fn n (calAt n) hT) (Nat.le_of_ble_eq_true (by kernel_rfl)) (pan := false) ?_⟩
    have h : r23_one n (calAt n) (XE.mk x0_k x0_p x0_a x0_t x0_n x0_s x0_l) x1 = some a := ha
    have h2 := r23_one_run n (calAt n) (XE.mk x0_k x0_p x0_a x0_t x0_n x0_s x0_l) x1
    rw [h] at h2
    exact Eq.trans (by kernel_rfl) (Eq.trans h2 (by kernel_rfl))
  · exact .inl rfl
theorem r23_holds_eok (n : Nat) (hT : TableOK Tryd.prog env (tab (calAt n))) : EntryOK Tryd.prog env 31 (r23_holds_en (calAt (n + 1))) := by
  intro us st
  unfold r23_holds_en
  split
  · rename_i x0
    refine .inr ⟨_, rfl, fun a ha => body_answers env_ok (r23_holds_fn n (calAt n) hT) (Nat.le_of_ble_eq_true (by kernel_rfl)) (pan := false) ?_⟩
    have h : r23_holds n (calAt n) x0 = some a := ha
    have h2 := r23_holds_run n (calAt n) x0
    rw [h] at h2
    exact Eq.trans (by kernel_rfl) (Eq.trans h2 (by kernel_rfl))
  · exact .inl rfl
theorem xpath_Right_eok (n : Nat) (hT : TableOK Tryd.prog env (tab (calAt n))) : EntryOK Tryd.prog env 32 (xpath_Right_en (calAt (n + 1))) := by
  intro us st
  unfold xpath_Right_en
  split
  · rename_i x0_k x0_p x0_a x0_t x0_n x0_s x0_l
    refine .inr ⟨_, rfl, fun a ha => body_answers env_ok (xpath_Right_fn n (calAt n) hT) (Nat.le_of_ble_eq_true (by kernel_rfl)) (pan := false) ?_⟩
    have h : xpath_Right n (calAt n) (XE.mk x0_k x0_p x0_a x0_t x0_n x0_s x0_l) = some a := ha
    have h2 := xpath_Right_run n (calAt n) (XE.mk x0_k x0_p x0_a x0_t x0_n x0_s x0_l)
    rw [h] at h2
    exact Eq.trans (by kernel_rfl) (Eq.trans h2 (by kernel_rfl))
  · exact .inl rfl
theorem check_checker_check_eok (n : Nat) (hT : TableOK Tryd.prog env (tab (calAt n))) : EntryOK Tryd.prog env 33 (check_checker_check_en (calAt (n + 1))) := by
  intro us st
  unfold check_checker_check_en
  split
  · rename_i x1_k x1_p x1_a x1_t x1_n x1_s x1_l x2 x3 x0_functions x0_bound
    refine .inr ⟨_, rfl, fun a ha => body_answers env_ok (check_checker_check_fn n (calAt n) hT) (Nat.le_of_ble_eq_true (by kernel_rfl)) (pan := false) ?_⟩
    have h : check_checker_check n (calAt n) (XE.mk x1_k x1_p x1_a x1_t x1_n x1_s x1_l) x2 x3 x0_functions x0_bound = some a := ha
    have h2 := check_checker_check_run n (calAt n) (XE.mk x1_k x1_p x1_a x1_t x1_n x1_s x1_l) x2 x3 x0_functions x0_bound
    rw [h] at h2
    exact Eq.trans (by kernel_rfl) (Eq.trans h2 (by kernel_rfl))
  · exact .inl rfl
theorem r22_Scan_eok (n : Nat) (hT : TableOK Tryd.prog env (tab (calAt n))) : EntryOK Tryd.prog env 48 (r22_Scan_en (calAt (n + 1))) := by
  intro us st
  unfold r22_Scan_en
  split
  · rename_i x0
    refine .inr ⟨_, rfl, fun a ha => body_answers env_ok (r22_Scan_fn n (calAt n) hT) (Nat.le_of_ble_eq_true (by kernel_rfl)) (pan := false) ?_⟩
    have h : r22_Scan n (calAt n) x0 = some a := ha
    have h2 := r22_Scan_run n (calAt n) x0
    rw [h] at h2
    exact Eq.trans (by kernel_rfl) (Eq.trans h2 (by kernel_rfl))
  · exact .inl rfl
theorem r23_reader_expr_eok (n : Nat) (hT : TableOK Tryd.prog env (tab (calAt n))) : EntryOK Tryd.prog env 49 (r23_reader_expr_en (calAt (n + 1))) := by
  intro us st
  unfold r23_reader_expr_en
  split
  · rename_i x0_l x0_i x0_bad
    refine .inr ⟨_, rfl, fun a ha => body_answers env_ok (r23_reader_expr_fn n (calAt n) hT) (Nat.le_of_ble_eq_true (by kernel_rfl)) (pan := false) ?_⟩
    have h : r23_reader_expr n (calAt n) x0_l x0_i x0_bad = some a := ha
    have h2 := r23_reader_expr_run n (calAt n) x0_l x0_i x0_bad
    rw [h] at h2
    exact Eq.trans (by kernel_rfl) (Eq.trans h2 (by kernel_rfl))
  · exact .inl rfl
theorem r23_reader_kind_eok (n : Nat) (hT : TableOK Tryd.prog env (tab (calAt n))) : EntryOK Tryd.prog env 50 (r23_reader_kind_en (calAt (n + 1))) := by
  intro us st
  unfold r23_reader_kind_en
  split
  · rename_i x1 x2 x0_l x0_i x0_bad
    refine .inr ⟨_, rfl, fun a ha => body_answers env_ok (r23_reader_kind_fn n (calAt n) hT) (Nat.le_of_ble_eq_true (by kernel_rfl)) (pan := false) ?_⟩
    have h : r23_reader_kind n (calAt n) x1 x2 x0_l x0_i x0_bad = some a := ha
    have h2 := r23_reader_kind_run n (calAt n) x1 x2 x0_l x0_i x0_bad
    rw [h] at h2
    exact Eq.trans (by kernel_rfl) (Eq.trans h2 (by kernel_rfl))
  · exact .inl rfl
theorem r23_reader_here_eok (n : Nat) (hT : TableOK Tryd.prog env (tab (calAt n))) : EntryOK Tryd.prog env 51 (r23_reader_here_en (calAt (n + 1))) := by
  intro us st
  unfold r23_reader_here_en
  split
  · rename_i x0_l x0_i x0_bad
    refine .inr ⟨_, rfl, fun a ha => body_answers env_ok (r23_reader_here_fn n (calAt n) hT) (Nat.le_of_ble_eq_true (by kernel_rfl)) (pan := false) ?_⟩
    have h : r23_reader_here n (calAt n) x0_l x0_i x0_bad = some a := ha
    have h2 := r23_reader_here_run n (calAt n) x0_l x0_i x0_bad
    rw [h] at h2
    exact Eq.trans (by kernel_rfl) (Eq.trans h2 (by kernel_rfl))
  · exact .inl rfl
theorem r23_many_eok (n : Nat) (hT : TableOK Tryd.prog env (tab (calAt n))) : EntryOK Tryd.prog env 52 (r23_many_en (calAt (n + 1))) := by
  intro us st
  unfold r23_many_en
  split
  · rename_i x0 x1
    refine .inr ⟨_, rfl, fun a ha => body_answers env_ok (r23_many_fn n (calAt n) hT) (Nat.le_of_ble_eq_true (by kernel_rfl)) (pan := false) ?_⟩
    have h : r23_many n (calAt n) x0 x1 = some a := ha
    have h2 := r23_many_run n (calAt n) x0 x1
    rw [h] at h2
    exact Eq.trans (by kernel_rfl) (Eq.trans h2 (by kernel_rfl))
  · exact .inl rfl
theorem r23_text_eok (n : Nat) (hT : TableOK Tryd.prog env (tab (calAt n))) : EntryOK Tryd.prog env 53 (r23_text_en (calAt (n + 1))) := by
  intro us st
  unfold r23_text_en
  split
  · rename_i x0_k x0_p x0_a x0_t x0_n x0_s x0_l
    refine .inr ⟨_, rfl, fun a ha => body_answers env_ok (r23_text_fn n (calAt n) hT) (Nat.le_of_ble_eq_true (by kernel_rfl)) (pan := false) ?_⟩
    have h : r23_text n (calAt n) (XE.mk x0_k x0_p x0_a x0_t x0_n x0_s x0_l) = some a := ha
    have h2 := r23_text_run n (calAt n) (XE.mk x0_k x0_p x0_a x0_t x0_n x0_s x0_l)
    rw [h] at h2
    exact Eq.trans (by kernel_rfl) (Eq.trans h2 (by kernel_rfl))
  · exact .inl rfl
theorem xpath_deep_eok (n : Nat) (hT : TableOK Tryd.prog env (tab (calAt n))) : EntryOK Tryd.prog env 54 (xpath_deep_en (calAt (n + 1))) := by
  intro us st
  unfold xpath_deep_en
  split
  · rename_i x0_k x0_p x0_a x0_t x0_n x0_s x0_l
    refine .inr ⟨_, rfl, fun a ha => body_answers env_ok (xpath_deep_fn n (calAt n) hT) (Nat.le_of_ble_eq_true (by kernel_rfl)) (pan := false) ?_⟩
    have h : xpath_deep n (calAt n) (XE.mk x0_k x0_p x0_a x0_t x0_n x0_s x0_l) = some a := ha
    have h2 := xpath_deep_run n (calAt n) (XE.mk x0_k x0_p x0_a x0_t x0_n x0_s x0_l)
    rw [h] at h2
    exact Eq.trans (by kernel_rfl) (Eq.trans h2 (by kernel_rfl))
  · exact .inl rfl
theorem xpath_right_eok (n : Nat) (hT : TableOK Tryd.prog env (tab (calAt n))) : EntryOK Tryd.prog env 55 (xpath_right_en (calAt (n + 1))) := by
  intro us st
  unfold xpath_right_en
  split
  · rename_i x0_k x0_p x0_a x0_t x0_n x0_s x0_l x1
    refine .inr ⟨_, rfl, fun a ha => body_answers env_ok (xpath_right_fn n (calAt n) hT) (Nat.le_of_ble_eq_true (by kernel_rfl)) (pan := false) ?_⟩
    have h : xpath_right n (calAt n) (XE.mk x0_k x0_p x0_a x0_t x0_n x0_s x0_l) x1 = some a := ha
    have h2 := xpath_right_run n (calAt n) (XE.mk x0_k x0_p x0_a x0_t x0_n x0_s x0_l) x1
    rw [h] at h2
    exact Eq.trans (by kernel_rfl) (Eq.trans h2 (by kernel_rfl))
  · exact .inl rfl
theorem check_checker_own_eok (n : Nat) (hT : TableOK Tryd.prog env (tab (calAt n))) : EntryOK Tryd.prog env 56 (check_checker_own_en (calAt (n + 1))) := by
  intro us st
  unfold check_checker_own_en
  split
  · rename_i x1_k x1_p x1_a x1_t x1_n x1_s x1_l x2 x3 x0_functions x0_bound
    refine .inr ⟨_, rfl, fun a ha => body_answers env_ok (check_checker_own_fn n (calAt n) hT) (Nat.le_of_ble_eq_true (by kernel_rfl)) (pan := false) ?_⟩
    have h : check_checker_own n (calAt n) (XE.mk x1_k x1_p x1_a x1_t x1_n x1_s x1_l) x2 x3 x0_functions x0_bound = some a := ha
    have h2 := check_checker_own_run n (calAt n) (XE.mk x1_k x1_p x1_a x1_t x1_n x1_s x1_l) x2 x3 x0_functions x0_bound
    rw [h] at h2
    exact Eq.trans (by kernel_rfl) (Eq.trans h2 (by kernel_rfl))
  · exact .inl rfl
theorem check_kid_eok (n : Nat) (hT : TableOK Tryd.prog env (tab (calAt n))) : EntryOK Tryd.prog env 57 (check_kid_en (calAt (n + 1))) := by
  intro us st
  unfold check_kid_en
  split
  · rename_i x0_k x0_p x0_a x0_t x0_n x0_s x0_l x1 x2
    refine .inr ⟨_, rfl, fun a ha => body_answers env_ok (check_kid_fn n (calAt n) hT) (Nat.le_of_ble_eq_true (by kernel_rfl)) (pan := false) ?_⟩
    have h : check_kid n (calAt n) (XE.mk x0_k x0_p x0_a x0_t x0_n x0_s x0_l) x1 x2 = some a := ha
    have h2 := check_kid_run n (calAt n) (XE.mk x0_k x0_p x0_a x0_t x0_n x0_s x0_l) x1 x2
    rw [h] at h2
    exact Eq.trans (by kernel_rfl) (Eq.trans h2 (by kernel_rfl))
  · exact .inl rfl
theorem chars_Char_eok (n : Nat) (hT : TableOK Tryd.prog env (tab (calAt n))) : EntryOK Tryd.prog env 60 (chars_Char_en (calAt (n + 1))) := by
  intro us st
  unfold chars_Char_en
  split
  · rename_i x0
    refine .inr ⟨_, rfl, fun a ha => body_answers env_ok (chars_Char_fn n (calAt n) hT) (Nat.le_of_ble_eq_true (by kernel_rfl)) (pan := false) ?_⟩
    have h : chars_Char n (calAt n) x0 = some a := ha
    have h2 := chars_Char_run n (calAt n) x0
    rw [h] at h2
    exact Eq.trans (by kernel_rfl) (Eq.trans h2 (by kernel_rfl))
  · exact .inl rfl
theorem r05_Next_eok (n : Nat) (hT : TableOK Tryd.prog env (tab (calAt n))) : EntryOK Tryd.prog env 74 (r05_Next_en (calAt (n + 1))) := by
  intro us st
  unfold r05_Next_en
  split
  · rename_i x0 x1
    refine .inr ⟨_, rfl, fun a ha => body_answers env_ok (r05_Next_fn n (calAt n) hT) (Nat.le_of_ble_eq_true (by kernel_rfl)) (pan := false) ?_⟩
    have h : r05_Next n (calAt n) x0 x1 = some a := ha
    have h2 := r05_Next_run n (calAt n) x0 x1
    rw [h] at h2
    exact Eq.trans (by kernel_rfl) (Eq.trans h2 (by kernel_rfl))
  · exact .inl rfl
theorem r05_Char_eok (n : Nat) (hT : TableOK Tryd.prog env (tab (calAt n))) : EntryOK Tryd.prog env 75 (r05_Char_en (calAt (n + 1))) := by
  intro us st
  unfold r05_Char_en
  split
  · rename_i x0
    refine .inr ⟨_, rfl, fun a ha => body_answers env_ok (r05_Char_fn n (calAt n) hT) (Nat.le_of_ble_eq_true (by kernel_rfl)) (pan := false) ?_⟩
    have h : r05_Char n (calAt n) x0 = some a := ha
    have h2 := r05_Char_run n (calAt n) x0
    rw [h] at h2
    exact Eq.trans (by kernel_rfl) (Eq.trans h2 (by kernel_rfl))
  · exact .inl rfl
theorem r05_Blank_eok (n : Nat) (hT : TableOK Tryd.prog env (tab (calAt n))) : EntryOK Tryd.prog env 76 (r05_Blank_en (calAt (n + 1))) := by
  intro us st
  unfold r05_Blank_en
  split
  · rename_i x0
    refine .inr ⟨_, rfl, fun a ha => body_answers env_ok (r05_Blank_fn n (calAt n) hT) (Nat.le_of_ble_eq_true (by kernel_rfl)) (pan := false) ?_⟩
    have h : r05_Blank n (calAt n) x0 = some a := ha
    have h2 := r05_Blank_run n (calAt n) x0
    rw [h] at h2
    exact Eq.trans (by kernel_rfl) (Eq.trans h2 (by kernel_rfl))
  · exact .inl rfl
theorem r22_comment_eok (n : Nat) (hT : TableOK Tryd.prog env (tab (calAt n))) : EntryOK Tryd.prog env 77 (r22_comment_en (calAt (n + 1))) := by
  intro us st
  unfold r22_comment_en
  split
  · rename_i x0 x1
    refine .inr ⟨_, rfl, fun a ha => body_answers env_ok (r22_comment_fn n (calAt n) hT) (Nat.le_of_ble_eq_true (by kernel_rfl)) (pan := false) ?_⟩
    have h : r22_comment n (calAt n) x0 x1 = some a := ha
    have h2 := r22_comment_run n (calAt n) x0 x1
    rw [h] at h2
    exact Eq.trans (by kernel_rfl) (Eq.trans h2 (by kernel_rfl))
  · exact .inl rfl
theorem r22_token_eok (n : Nat) (hT : TableOK Tryd.prog env (tab (calAt n))) : EntryOK Tryd.prog env 78 (r22_token_en (calAt (n + 1))) := by
  intro us st
  unfold r22_token_en
  split
  · rename_i x0 x1
    refine .inr ⟨_, rfl, fun a ha => body_answers env_ok (r22_token_fn n (calAt n) hT) (Nat.le_of_ble_eq_true (by kernel_rfl)) (pan := false) ?_⟩
    have h : r22_token n (calAt n) x0 x1 = some a := ha
    have h2 := r22_token_run n (calAt n) x0 x1
    rw [h] at h2
    exact Eq.trans (by kernel_rfl) (Eq.trans h2 (by kernel_rfl))
  · exact .inl rfl
theorem r23_reader_single_eok (n : Nat) (hT : TableOK Tryd.prog env (tab (calAt n))) : EntryOK Tryd.prog env 79 (r23_reader_single_en (calAt (n + 1))) := by
  intro us st
  unfold r23_reader_single_en
  split
  · rename_i x0_l x0_i x0_bad
    refine .inr ⟨_, rfl, fun a ha => body_answers env_ok (r23_reader_single_fn n (calAt n) hT) (Nat.le_of_ble_eq_true (by kernel_rfl)) (pan := false) ?_⟩
    have h : r23_reader_single n (calAt n) x0_l x0_i x0_bad = some a := ha
    have h2 := r23_reader_single_run n (calAt n) x0_l x0_i x0_bad
    rw [h] at h2
    exact Eq.trans (by kernel_rfl) (Eq.trans h2 (by kernel_rfl))
  · exact .inl rfl
theorem r23_reader_sign_eok (n : Nat) (hT : TableOK Tryd.prog env (tab (calAt n))) : EntryOK Tryd.prog env 80 (r23_reader_sign_en (calAt (n + 1))) := by
  intro us st
  unfold r23_reader_sign_en
  split
  · rename_i x1 x2 x0_l x0_i x0_bad
    refine .inr ⟨_, rfl, fun a ha => body_answers env_ok (r23_reader_sign_fn n (calAt n) hT) (Nat.le_of_ble_eq_true (by kernel_rfl)) (pan := false) ?_⟩
    have h : r23_reader_sign n (calAt n) x1 x2 x0_l x0_i x0_bad = some a := ha
    have h2 := r23_reader_sign_run n (calAt n) x1 x2 x0_l x0_i x0_bad
    rw [h] at h2
    exact Eq.trans (by kernel_rfl) (Eq.trans h2 (by kernel_rfl))
  · exact .inl rfl
theorem r23_reader_is_eok (n : Nat) (hT : TableOK Tryd.prog env (tab (calAt n))) : EntryOK Tryd.prog env 81 (r23_reader_is_en (calAt (n + 1))) := by
  intro us st
  unfold r23_reader_is_en
  split
  · rename_i x1 x0_l x0_i x0_bad
    refine .inr ⟨_, rfl, fun a ha => body_answers env_ok (r23_reader_is_fn n (calAt n) hT) (Nat.le_of_ble_eq_true (by kernel_rfl)) (pan := false) ?_⟩
    have h : r23_reader_is n (calAt n) x1 x0_l x0_i x0_bad = some a := ha
    have h2 := r23_reader_is_run n (calAt n) x1 x0_l x0_i x0_bad
    rw [h] at h2
    exact Eq.trans (by kernel_rfl) (Eq.trans h2 (by kernel_rfl))
  · exact .inl rfl
theorem r23_reader_tok_eok (n : Nat) (hT : TableOK Tryd.prog env (tab (calAt n))) : EntryOK Tryd.prog env 82 (r23_reader_tok_en (calAt (n + 1))) := by
  intro us st
  unfold r23_reader_tok_en
  split
  · rename_i x1 x0_l x0_i x0_bad
    refine .inr ⟨_, rfl, fun a ha => body_answers env_ok (r23_reader_tok_fn n (calAt n) hT) (Nat.le_of_ble_eq_true (by kernel_rfl)) (pan := false) ?_⟩
    have h : r23_reader_tok n (calAt n) x1 x0_l x0_i x0_bad = some a := ha
    have h2 := r23_reader_tok_run n (calAt n) x1 x0_l x0_i x0_bad
    rw [h] at h2
    exact Eq.trans (by kernel_rfl) (Eq.trans h2 (by kernel_rfl))
  · exact .inl rfl
theorem r23_kids_eok (n : Nat) (hT : TableOK Tryd.prog env (tab (calAt n))) : EntryOK Tryd.prog env 83 (r23_kids_en (calAt (n + 1))) := by
  intro us st
  unfold r23_kids_en
  split
  · rename_i x0
    refine .inr ⟨_, rfl, fun a ha => body_answers env_ok (r23_kids_fn n (calAt n) hT) (Nat.le_of_ble_eq_true (by kernel_rfl)) (pan := false) ?_⟩
    have h : r23_kids n (calAt n) x0 = some a := ha
    have h2 := r23_kids_run n (calAt n) x0
    rw [h] at h2
    exact Eq.trans (by kernel_rfl) (Eq.trans h2 (by kernel_rfl))
  · exact .inl rfl
theorem r05_Texts_eok (n : Nat) (hT : TableOK Tryd.prog env (tab (calAt n))) : EntryOK Tryd.prog env 84 (r05_Texts_en (calAt (n + 1))) := by
  intro us st
  unfold r05_Texts_en
  split
  · rename_i x0
    refine .inr ⟨_, rfl, fun a ha => body_answers env_ok (r05_Texts_fn n (calAt n) hT) (Nat.le_of_ble_eq_true (by kernel_rfl)) (pan := false) ?_⟩
    have h : r05_Texts n (calAt n) x0 = some a := ha
    have h2 := r05_Texts_run n (calAt n) x0
    rw [h] at h2
    exact Eq.trans (by kernel_rfl) (Eq.trans h2 (by kernel_rfl))
  · exact .inl rfl
theorem r05_Name_eok (n : Nat) (hT : TableOK Tryd.prog env (tab (calAt n))) : EntryOK Tryd.prog env 85 (r05_Name_en (calAt (n + 1))) := by
  intro us st
  unfold r05_Name_en
  split
  · rename_i x0
    refine .inr ⟨_, rfl, fun a ha => body_answers env_ok (r05_Name_fn n (calAt n) hT) (Nat.le_of_ble_eq_true (by kernel_rfl)) (pan := false) ?_⟩
    have h : r05_Name n (calAt n) x0 = some a := ha
    have h2 := r05_Name_run n (calAt n) x0
    rw [h] at h2
    exact Eq.trans (by kernel_rfl) (Eq.trans h2 (by kernel_rfl))
  · exact .inl rfl
theorem r23_Special_eok (n : Nat) (hT : TableOK Tryd.prog env (tab (calAt n))) : EntryOK Tryd.prog env 86 (r23_Special_en (calAt (n + 1))) := by
  intro us st
  unfold r23_Special_en
  split
  · rename_i x0
    refine .inr ⟨_, rfl, fun a ha => body_answers env_ok (r23_Special_fn n (calAt n) hT) (Nat.le_of_ble_eq_true (by kernel_rfl)) (pan := false) ?_⟩
    have h : r23_Special n (calAt n) x0 = some a := ha
    have h2 := r23_Special_run n (calAt n) x0
    rw [h] at h2
    exact Eq.trans (by kernel_rfl) (Eq.trans h2 (by kernel_rfl))
  · exact .inl rfl
theorem r23_among_eok (n : Nat) (hT : TableOK Tryd.prog env (tab (calAt n))) : EntryOK Tryd.prog env 87 (r23_among_en (calAt (n + 1))) := by
  intro us st
  unfold r23_among_en
  split
  · rename_i x0 x1
    refine .inr ⟨_, rfl, fun a ha => body_answers env_ok (r23_among_fn n (calAt n) hT) (Nat.le_of_ble_eq_true (by kernel_rfl)) (pan := false) ?_⟩
    have h : r23_among n (calAt n) x0 x1 = some a := ha
    have h2 := r23_among_run n (calAt n) x0 x1
    rw [h] at h2
    exact Eq.trans (by kernel_rfl) (Eq.trans h2 (by kernel_rfl))
  · exact .inl rfl
theorem xpath_shape_right_eok (n : Nat) (hT : TableOK Tryd.prog env (tab (calAt n))) : EntryOK Tryd.prog env 88 (xpath_shape_right_en (calAt (n + 1))) := by
  intro us st
  unfold xpath_shape_right_en
  split
  · rename_i x0_least x0_most x0_text x0_words x1_k x1_p x1_a x1_t x1_n x1_s x1_l
    refine .inr ⟨_, rfl, fun a ha => body_answers env_ok (xpath_shape_right_fn n (calAt n) hT) (Nat.le_of_ble_eq_true (by kernel_rfl)) (pan := false) ?_⟩
    have h : xpath_shape_right n (calAt n) x0_least x0_most x0_text x0_words (XE.mk x1_k x1_p x1_a x1_t x1_n x1_s x1_l) = some a := ha
    have h2 := xpath_shape_right_run n (calAt n) x0_least x0_most x0_text x0_words (XE.mk x1_k x1_p x1_a x1_t x1_n x1_s x1_l)
    rw [h] at h2
    exact Eq.trans (by kernel_rfl) (Eq.trans h2 (by kernel_rfl))
  · exact .inl rfl
theorem check_updates_eok (n : Nat) (hT : TableOK Tryd.prog env (tab (calAt n))) : EntryOK Tryd.prog env 89 (check_updates_en (calAt (n + 1))) := by
  intro us st
  unfold check_updates_en
  split
  · rename_i x0
    refine .inr ⟨_, rfl, fun a ha => body_answers env_ok (check_updates_fn n (calAt n) hT) (Nat.le_of_ble_eq_true (by kernel_rfl)) (pan := false) ?_⟩
    have h : check_updates n (calAt n) x0 = some a := ha
    have h2 := check_updates_run n (calAt n) x0
    rw [h] at h2
    exact Eq.trans (by kernel_rfl) (Eq.trans h2 (by kernel_rfl))
  · exact .inl rfl
theorem slices_Contains_eok (n : Nat) (hT : TableOK Tryd.prog env (tab (calAt n))) : EntryOK Tryd.prog env 90 (slices_Contains_en (calAt (n + 1))) := by
  intro us st
  unfold slices_Contains_en
  split
  · rename_i x0 x1
    refine .inr ⟨_, rfl, fun a ha => body_answers env_ok (slices_Contains_fn n (calAt n) hT) (Nat.le_of_ble_eq_true (by kernel_rfl)) (pan := false) ?_⟩
    have h : slices_Contains n (calAt n) x0 x1 = some a := ha
    have h2 := slices_Contains_run n (calAt n) x0 x1
    rw [h] at h2
    exact Eq.trans (by kernel_rfl) (Eq.trans h2 (by kernel_rfl))
  · rename_i x0 x1
    refine .inr ⟨_, rfl, fun a ha => body_answers env_ok (slices_Contains_v1_fn n (calAt n) hT) (Nat.le_of_ble_eq_true (by kernel_rfl)) (pan := false) ?_⟩
    have h : slices_Contains_v1 n (calAt n) x0 x1 = some a := ha
    have h2 := slices_Contains_v1_run n (calAt n) x0 x1
    rw [h] at h2
    exact Eq.trans (by kernel_rfl) (Eq.trans h2 (by kernel_rfl))
  · exact .inl rfl
theorem chars_NameStart_eok (n : Nat) (hT : TableOK Tryd.prog env (tab (calAt n))) : EntryOK Tryd.prog env 107 (chars_NameStart_en (calAt (n + 1))) := by
  intro us st
  unfold chars_NameStart_en
  split
  · rename_i x0
    refine .inr ⟨_, rfl, fun a ha => body_answers env_ok (chars_NameStart_fn n (calAt n) hT) (Nat.le_of_ble_eq_true (by kernel_rfl)) (pan := false) ?_⟩
    have h : chars_NameStart n (calAt n) x0 = some a := ha
    have h2 := chars_NameStart_run n (calAt n) x0
    rw [h] at h2
    exact Eq.trans (by kernel_rfl) (Eq.trans h2 (by kernel_rfl))
  · exact .inl rfl
theorem chars_NameChar_eok (n : Nat) (hT : TableOK Tryd.prog env (tab (calAt n))) : EntryOK Tryd.prog env 108 (chars_NameChar_en (calAt (n + 1))) := by
  intro us st
  unfold chars_NameChar_en
  split
  · rename_i x0
    refine .inr ⟨_, rfl, fun a ha => body_answers env_ok (chars_NameChar_fn n (calAt n) hT) (Nat.le_of_ble_eq_true (by kernel_rfl)) (pan := false) ?_⟩
    have h : chars_NameChar n (calAt n) x0 = some a := ha
    have h2 := chars_NameChar_run n (calAt n) x0
    rw [h] at h2
    exact Eq.trans (by kernel_rfl) (Eq.trans h2 (by kernel_rfl))
  · exact .inl rfl
theorem r05_within_eok (n : Nat) (hT : TableOK Tryd.prog env (tab (calAt n))) : EntryOK Tryd.prog env 113 (r05_within_en (calAt (n + 1))) := by
  intro us st
  unfold r05_within_en
  split
  · rename_i x0 x1 x2
    refine .inr ⟨_, rfl, fun a ha => body_answers env_ok (r05_within_fn n (calAt n) hT) (Nat.le_of_ble_eq_true (by kernel_rfl)) (pan := false) ?_⟩
    have h : r05_within n (calAt n) x0 x1 x2 = some a := ha
    have h2 := r05_within_run n (calAt n) x0 x1 x2
    rw [h] at h2
    exact Eq.trans (by kernel_rfl) (Eq.trans h2 (by kernel_rfl))
  · exact .inl rfl
theorem r22_whole_eok (n : Nat) (hT : TableOK Tryd.prog env (tab (calAt n))) : EntryOK Tryd.prog env 114 (r22_whole_en (calAt (n + 1))) := by
  intro us st
  unfold r22_whole_en
  split
  · rename_i x0 x1
    refine .inr ⟨_, rfl, fun a ha => body_answers env_ok (r22_whole_fn n (calAt n) hT) (Nat.le_of_ble_eq_true (by kernel_rfl)) (pan := false) ?_⟩
    have h : r22_whole n (calAt n) x0 x1 = some a := ha
    have h2 := r22_whole_run n (calAt n) x0 x1
    rw [h] at h2
    exact Eq.trans (by kernel_rfl) (Eq.trans h2 (by kernel_rfl))
  · exact .inl rfl
theorem r22_quoted_eok (n : Nat) (hT : TableOK Tryd.prog env (tab (calAt n))) : EntryOK Tryd.prog env 115 (r22_quoted_en (calAt (n + 1))) := by
  intro us st
  unfold r22_quoted_en
  split
  · rename_i x0 x1
    refine .inr ⟨_, rfl, fun a ha => body_answers env_ok (r22_quoted_fn n (calAt n) hT) (Nat.le_of_ble_eq_true (by kernel_rfl)) (pan := false) ?_⟩
    have h : r22_quoted n (calAt n) x0 x1 = some a := ha
    have h2 := r22_quoted_run n (calAt n) x0 x1
    rw [h] at h2
    exact Eq.trans (by kernel_rfl) (Eq.trans h2 (by kernel_rfl))
  · exact .inl rfl
theorem r22_name_eok (n : Nat) (hT : TableOK Tryd.prog env (tab (calAt n))) : EntryOK Tryd.prog env 116 (r22_name_en (calAt (n + 1))) := by
  intro us st
  unfold r22_name_en
  split
  · rename_i x0 x1
    refine .inr ⟨_, rfl, fun a ha => body_answers env_ok (r22_name_fn n (calAt n) hT) (Nat.le_of_ble_eq_true (by kernel_rfl)) (pan := false) ?_⟩
    have h : r22_name n (calAt n) x0 x1 = some a := ha
    have h2 := r22_name_run n (calAt n) x0 x1
    rw [h] at h2
    exact Eq.trans (by kernel_rfl) (Eq.trans h2 (by kernel_rfl))
  · exact .inl rfl
theorem r22_signs_eok (n : Nat) (hT : TableOK Tryd.prog env (tab (calAt n))) : EntryOK Tryd.prog env 117 (r22_signs_en (calAt (n + 1))) := by
  intro us st
  unfold r22_signs_en
  split
  · refine .inr ⟨_, rfl, fun a ha => body_answers env_ok (r22_signs_fn n (calAt n) hT) (Nat.le_of_ble_eq_true (by kernel_rfl)) (pan := false) ?_⟩
    have h : r22_signs n (calAt n)  = some a := ha
    have h2 := r22_signs_run n (calAt n) 
    rw [h] at h2
    exact Eq.trans (by kernel_rfl) (Eq.trans h2 (by kernel_rfl))
  · exact .inl rfl
theorem r23_reader_word_eok (n : Nat) (hT : TableOK Tryd.prog env (tab (calAt n))) : EntryOK Tryd.prog env 118 (r23_reader_word_en (calAt (n + 1))) := by
  intro us st
  unfold r23_reader_word_en
  split
  · rename_i x1 x2 x0_l x0_i x0_bad
    refine .inr ⟨_, rfl, fun a ha => body_answers env_ok (r23_reader_word_fn n (calAt n) hT) (Nat.le_of_ble_eq_true (by kernel_rfl)) (pan := false) ?_⟩
    have h : r23_reader_word n (calAt n) x1 x2 x0_l x0_i x0_bad = some a := ha
    have h2 := r23_reader_word_run n (calAt n) x1 x2 x0_l x0_i x0_bad
    rw [h] at h2
    exact Eq.trans (by kernel_rfl) (Eq.trans h2 (by kernel_rfl))
  · exact .inl rfl
theorem r23_reader_clause_eok (n : Nat) (hT : TableOK Tryd.prog env (tab (calAt n))) : EntryOK Tryd.prog env 119 (r23_reader_clause_en (calAt (n + 1))) := by
  intro us st
  unfold r23_reader_clause_en
  split
  · rename_i x1 x0_l x0_i x0_bad
    refine .inr ⟨_, rfl, fun a ha => body_answers env_ok (r23_reader_clause_fn n (calAt n) hT) (Nat.le_of_ble_eq_true (by kernel_rfl)) (pan := false) ?_⟩
    have h : r23_reader_clause n (calAt n) x1 x0_l x0_i x0_bad = some a := ha
    have h2 := r23_reader_clause_run n (calAt n) x1 x0_l x0_i x0_bad
    rw [h] at h2
    exact Eq.trans (by kernel_rfl) (Eq.trans h2 (by kernel_rfl))
  · exact .inl rfl
theorem r23_reader_next_eok (n : Nat) (hT : TableOK Tryd.prog env (tab (calAt n))) : EntryOK Tryd.prog env 120 (r23_reader_next_en (calAt (n + 1))) := by
  intro us st
  unfold r23_reader_next_en
  split
  · rename_i x0_l x0_i x0_bad
    refine .inr ⟨_, rfl, fun a ha => body_answers env_ok (r23_reader_next_fn n (calAt n) hT) (Nat.le_of_ble_eq_true (by kernel_rfl)) (pan := false) ?_⟩
    have h : r23_reader_next n (calAt n) x0_l x0_i x0_bad = some a := ha
    have h2 := r23_reader_next_run n (calAt n) x0_l x0_i x0_bad
    rw [h] at h2
    exact Eq.trans (by kernel_rfl) (Eq.trans h2 (by kernel_rfl))
  · exact .inl rfl
theorem r23_reader_some_eok (n : Nat) (hT : TableOK Tryd.prog env (tab (calAt n))) : EntryOK Tryd.prog env 121 (r23_reader_some_en (calAt (n + 1))) := by
  intro us st
  unfold r23_reader_some_en
  split
  · rename_i x1 x0_l x0_i x0_bad
    refine .inr ⟨_, rfl, fun a ha => body_answers env_ok (r23_reader_some_fn n (calAt n) hT) (Nat.le_of_ble_eq_true (by kernel_rfl)) (pan := false) ?_⟩
    have h : r23_reader_some n (calAt n) x1 x0_l x0_i x0_bad = some a := ha
    have h2 := r23_reader_some_run n (calAt n) x1 x0_l x0_i x0_bad
    rw [h] at h2
    exact Eq.trans (by kernel_rfl) (Eq.trans h2 (by kernel_rfl))
  · exact .inl rfl
theorem r23_reader_must_eok (n : Nat) (hT : TableOK Tryd.prog env (tab (calAt n))) : EntryOK Tryd.prog env 122 (r23_reader_must_en (calAt (n + 1))) := by
  intro us st
  unfold r23_reader_must_en
  split
  · rename_i x1 x0_l x0_i x0_bad
    refine .inr ⟨_, rfl, fun a ha => body_answers env_ok (r23_reader_must_fn n (calAt n) hT) (Nat.le_of_ble_eq_true (by kernel_rfl)) (pan := false) ?_⟩
    have h : r23_reader_must n (calAt n) x1 x0_l x0_i x0_bad = some a := ha
    have h2 := r23_reader_must_run n (calAt n) x1 x0_l x0_i x0_bad
    rw [h] at h2
    exact Eq.trans (by kernel_rfl) (Eq.trans h2 (by kernel_rfl))
  · exact .inl rfl
theorem r23_reader_updates_eok (n : Nat) (hT : TableOK Tryd.prog env (tab (calAt n))) : EntryOK Tryd.prog env 123 (r23_reader_updates_en (calAt (n + 1))) := by
  intro us st
  unfold r23_reader_updates_en
  split
  · rename_i x0_l x0_i x0_bad
    refine .inr ⟨_, rfl, fun a ha => body_answers env_ok (r23_reader_updates_fn n (calAt n) hT) (Nat.le_of_ble_eq_true (by kernel_rfl)) (pan := false) ?_⟩
    have h : r23_reader_updates n (calAt n) x0_l x0_i x0_bad = some a := ha
    have h2 := r23_reader_updates_run n (calAt n) x0_l x0_i x0_bad
    rw [h] at h2
    exact Eq.trans (by kernel_rfl) (Eq.trans h2 (by kernel_rfl))
  · exact .inl rfl
theorem r23_reader_update_eok (n : Nat) (hT : TableOK Tryd.prog env (tab (calAt n))) : EntryOK Tryd.prog env 124 (r23_reader_update_en (calAt (n + 1))) := by
  intro us st
  unfold r23_reader_update_en
  split
  · rename_i x0_l x0_i x0_bad
    refine .inr ⟨_, rfl, fun a ha => body_answers env_ok (r23_reader_update_fn n (calAt n) hT) (Nat.le_of_ble_eq_true (by kernel_rfl)) (pan := false) ?_⟩
    have h : r23_reader_update n (calAt n) x0_l x0_i x0_bad = some a := ha
    have h2 := r23_reader_update_run n (calAt n) x0_l x0_i x0_bad
    rw [h] at h2
    exact Eq.trans (by kernel_rfl) (Eq.trans h2 (by kernel_rfl))
  · exact .inl rfl
theorem r23_reader_or_eok (n : Nat) (hT : TableOK Tryd.prog env (tab (calAt n))) : EntryOK Tryd.prog env 125 (r23_reader_or_en (calAt (n + 1))) := by
  intro us st
  unfold r23_reader_or_en
  split
  · rename_i x0_l x0_i x0_bad
    refine .inr ⟨_, rfl, fun a ha => body_answers env_ok (r23_reader_or_fn n (calAt n) hT) (Nat.le_of_ble_eq_true (by kernel_rfl)) (pan := false) ?_⟩
    have h : r23_reader_or n (calAt n) x0_l x0_i x0_bad = some a := ha
    have h2 := r23_reader_or_run n (calAt n) x0_l x0_i x0_bad
    rw [h] at h2
    exact Eq.trans (by kernel_rfl) (Eq.trans h2 (by kernel_rfl))
  · exact .inl rfl
theorem r05_NameChar_eok (n : Nat) (hT : TableOK Tryd.prog env (tab (calAt n))) : EntryOK Tryd.prog env 126 (r05_NameChar_en (calAt (n + 1))) := by
  intro us st
  unfold r05_NameChar_en
  split
  · rename_i x0
    refine .inr ⟨_, rfl, fun a ha => body_answers env_ok (r05_NameChar_fn n (calAt n) hT) (Nat.le_of_ble_eq_true (by kernel_rfl)) (pan := false) ?_⟩
    have h : r05_NameChar n (calAt n) x0 = some a := ha
    have h2 := r05_NameChar_run n (calAt n) x0
    rw [h] at h2
    exact Eq.trans (by kernel_rfl) (Eq.trans h2 (by kernel_rfl))
  · exact .inl rfl
theorem r05_NameStart_eok (n : Nat) (hT : TableOK Tryd.prog env (tab (calAt n))) : EntryOK Tryd.prog env 127 (r05_NameStart_en (calAt (n + 1))) := by
  intro us st
  unfold r05_NameStart_en
  split
  · rename_i x0
    refine .inr ⟨_, rfl, fun a ha => body_answers env_ok (r05_NameStart_fn n (calAt n) hT) (Nat.le_of_ble_eq_true (by kernel_rfl)) (pan := false) ?_⟩
    have h : r05_NameStart n (calAt n) x0 = some a := ha
    have h2 := r05_NameStart_run n (calAt n) x0
    rw [h] at h2
    exact Eq.trans (by kernel_rfl) (Eq.trans h2 (by kernel_rfl))
  · exact .inl rfl
theorem chars_Name_eok (n : Nat) (hT : TableOK Tryd.prog env (tab (calAt n))) : EntryOK Tryd.prog env 128 (chars_Name_en (calAt (n + 1))) := by
  intro us st
  unfold chars_Name_en
  split
  · rename_i x0
    refine .inr ⟨_, rfl, fun a ha => body_answers env_ok (chars_Name_fn n (calAt n) hT) (Nat.le_of_ble_eq_true (by kernel_rfl)) (pan := false) ?_⟩
    have h : chars_Name n (calAt n) x0 = some a := ha
    have h2 := chars_Name_run n (calAt n) x0
    rw [h] at h2
    exact Eq.trans (by kernel_rfl) (Eq.trans h2 (by kernel_rfl))
  · exact .inl rfl
theorem chars_Texts_eok (n : Nat) (hT : TableOK Tryd.prog env (tab (calAt n))) : EntryOK Tryd.prog env 129 (chars_Texts_en (calAt (n + 1))) := by
  intro us st
  unfold chars_Texts_en
  split
  · rename_i x0
    refine .inr ⟨_, rfl, fun a ha => body_answers env_ok (chars_Texts_fn n (calAt n) hT) (Nat.le_of_ble_eq_true (by kernel_rfl)) (pan := false) ?_⟩
    have h : chars_Texts n (calAt n) x0 = some a := ha
    have h2 := chars_Texts_run n (calAt n) x0
    rw [h] at h2
    exact Eq.trans (by kernel_rfl) (Eq.trans h2 (by kernel_rfl))
  · exact .inl rfl
theorem xpath_called_eok (n : Nat) (hT : TableOK Tryd.prog env (tab (calAt n))) : EntryOK Tryd.prog env 130 (xpath_called_en (calAt (n + 1))) := by
  intro us st
  unfold xpath_called_en
  split
  · rename_i x0
    refine .inr ⟨_, rfl, fun a ha => body_answers env_ok (xpath_called_fn n (calAt n) hT) (Nat.le_of_ble_eq_true (by kernel_rfl)) (pan := false) ?_⟩
    have h : xpath_called n (calAt n) x0 = some a := ha
    have h2 := xpath_called_run n (calAt n) x0
    rw [h] at h2
    exact Eq.trans (by kernel_rfl) (Eq.trans h2 (by kernel_rfl))
  · exact .inl rfl
theorem slices_Index_eok (n : Nat) (hT : TableOK Tryd.prog env (tab (calAt n))) : EntryOK Tryd.prog env 132 (slices_Index_en (calAt (n + 1))) := by
  intro us st
  unfold slices_Index_en
  split
  · rename_i x0 x1
    refine .inr ⟨_, rfl, fun a ha => body_answers env_ok (slices_Index_fn n (calAt n) hT) (Nat.le_of_ble_eq_true (by kernel_rfl)) (pan := false) ?_⟩
    have h : slices_Index n (calAt n) x0 x1 = some a := ha
    have h2 := slices_Index_run n (calAt n) x0 x1
    rw [h] at h2
    exact Eq.trans (by kernel_rfl) (Eq.trans h2 (by kernel_rfl))
  · rename_i x0 x1
    refine .inr ⟨_, rfl, fun a ha => body_answers env_ok (slices_Index_v1_fn n (calAt n) hT) (Nat.le_of_ble_eq_true (by kernel_rfl)) (pan := false) ?_⟩
    have h : slices_Index_v1 n (calAt n) x0 x1 = some a := ha
    have h2 := slices_Index_v1_run n (calAt n) x0 x1
    rw [h] at h2
    exact Eq.trans (by kernel_rfl) (Eq.trans h2 (by kernel_rfl))
  · exact .inl rfl
theorem chars_among_eok (n : Nat) (hT : TableOK Tryd.prog env (tab (calAt n))) : EntryOK Tryd.prog env 140 (chars_among_en (calAt (n + 1))) := by
  intro us st
  unfold chars_among_en
  split
  · rename_i x0 x1
    refine .inr ⟨_, rfl, fun a ha => body_answers env_ok (chars_among_fn n (calAt n) hT) (Nat.le_of_ble_eq_true (by kernel_rfl)) (pan := false) ?_⟩
    have h : chars_among n (calAt n) x0 x1 = some a := ha
    have h2 := chars_among_run n (calAt n) x0 x1
    rw [h] at h2
    exact Eq.trans (by kernel_rfl) (Eq.trans h2 (by kernel_rfl))
  · exact .inl rfl
theorem r23_reader_variable_eok (n : Nat) (hT : TableOK Tryd.prog env (tab (calAt n))) : EntryOK Tryd.prog env 145 (r23_reader_variable_en (calAt (n + 1))) := by
  intro us st
  unfold r23_reader_variable_en
  split
  · rename_i x0_l x0_i x0_bad
    refine .inr ⟨_, rfl, fun a ha => body_answers env_ok (r23_reader_variable_fn n (calAt n) hT) (Nat.le_of_ble_eq_true (by kernel_rfl)) (pan := false) ?_⟩
    have h : r23_reader_variable n (calAt n) x0_l x0_i x0_bad = some a := ha
    have h2 := r23_reader_variable_run n (calAt n) x0_l x0_i x0_bad
    rw [h] at h2
    exact Eq.trans (by kernel_rfl) (Eq.trans h2 (by kernel_rfl))
  · exact .inl rfl
theorem r23_reader_more_eok (n : Nat) (hT : TableOK Tryd.prog env (tab (calAt n))) : EntryOK Tryd.prog env 146 (r23_reader_more_en (calAt (n + 1))) := by
  intro us st
  unfold r23_reader_more_en
  split
  · rename_i x1 x0_l x0_i x0_bad
    refine .inr ⟨_, rfl, fun a ha => body_answers env_ok (r23_reader_more_fn n (calAt n) hT) (Nat.le_of_ble_eq_true (by kernel_rfl)) (pan := false) ?_⟩
    have h : r23_reader_more n (calAt n) x1 x0_l x0_i x0_bad = some a := ha
    have h2 := r23_reader_more_run n (calAt n) x1 x0_l x0_i x0_bad
    rw [h] at h2
    exact Eq.trans (by kernel_rfl) (Eq.trans h2 (by kernel_rfl))
  · exact .inl rfl
theorem r23_reader_no_eok (n : Nat) (hT : TableOK Tryd.prog env (tab (calAt n))) : EntryOK Tryd.prog env 147 (r23_reader_no_en (calAt (n + 1))) := by
  intro us st
  unfold r23_reader_no_en
  split
  · rename_i x0_l x0_i x0_bad
    refine .inr ⟨_, rfl, fun a ha => body_answers env_ok (r23_reader_no_fn n (calAt n) hT) (Nat.le_of_ble_eq_true (by kernel_rfl)) (pan := false) ?_⟩
    have h : r23_reader_no n (calAt n) x0_l x0_i x0_bad = some a := ha
    have h2 := r23_reader_no_run n (calAt n) x0_l x0_i x0_bad
    rw [h] at h2
    exact Eq.trans (by kernel_rfl) (Eq.trans h2 (by kernel_rfl))
  · exact .inl rfl
theorem r23_reader_place_eok (n : Nat) (hT : TableOK Tryd.prog env (tab (calAt n))) : EntryOK Tryd.prog env 148 (r23_reader_place_en (calAt (n + 1))) := by
  intro us st
  unfold r23_reader_place_en
  split
  · rename_i x0_l x0_i x0_bad
    refine .inr ⟨_, rfl, fun a ha => body_answers env_ok (r23_reader_place_fn n (calAt n) hT) (Nat.le_of_ble_eq_true (by kernel_rfl)) (pan := false) ?_⟩
    have h : r23_reader_place n (calAt n) x0_l x0_i x0_bad = some a := ha
    have h2 := r23_reader_place_run n (calAt n) x0_l x0_i x0_bad
    rw [h] at h2
    exact Eq.trans (by kernel_rfl) (Eq.trans h2 (by kernel_rfl))
  · exact .inl rfl
theorem r23_reader_binary_eok (n : Nat) (hT : TableOK Tryd.prog env (tab (calAt n))) : EntryOK Tryd.prog env 149 (r23_reader_binary_en (calAt (n + 1))) := by
  intro us st
  unfold r23_reader_binary_en
  split
  · rename_i x1 x0_l x0_i x0_bad
    refine .inr ⟨_, rfl, fun a ha => body_answers env_ok (r23_reader_binary_fn n (calAt n) hT) (Nat.le_of_ble_eq_true (by kernel_rfl)) (pan := false) ?_⟩
    have h : r23_reader_binary n (calAt n) x1 x0_l x0_i x0_bad = some a := ha
    have h2 := r23_reader_binary_run n (calAt n) x1 x0_l x0_i x0_bad
    rw [h] at h2
    exact Eq.trans (by kernel_rfl) (Eq.trans h2 (by kernel_rfl))
  · exact .inl rfl
theorem r23_reader_minus_eok (n : Nat) (hT : TableOK Tryd.prog env (tab (calAt n))) : EntryOK Tryd.prog env 162 (r23_reader_minus_en (calAt (n + 1))) := by
  intro us st
  unfold r23_reader_minus_en
  split
  · rename_i x0_l x0_i x0_bad
    refine .inr ⟨_, rfl, fun a ha => body_answers env_ok (r23_reader_minus_fn n (calAt n) hT) (Nat.le_of_ble_eq_true (by kernel_rfl)) (pan := false) ?_⟩
    have h : r23_reader_minus n (calAt n) x0_l x0_i x0_bad = some a := ha
    have h2 := r23_reader_minus_run n (calAt n) x0_l x0_i x0_bad
    rw [h] at h2
    exact Eq.trans (by kernel_rfl) (Eq.trans h2 (by kernel_rfl))
  · exact .inl rfl
theorem r23_level_eok (n : Nat) (hT : TableOK Tryd.prog env (tab (calAt n))) : EntryOK Tryd.prog env 163 (r23_level_en (calAt (n + 1))) := by
  intro us st
  unfold r23_level_en
  split
  · rename_i x0
    refine .inr ⟨_, rfl, fun a ha => body_answers env_ok (r23_level_fn n (calAt n) hT) (Nat.le_of_ble_eq_true (by kernel_rfl)) (pan := false) ?_⟩
    have h : r23_level n (calAt n) x0 = some a := ha
    have h2 := r23_level_run n (calAt n) x0
    rw [h] at h2
    exact Eq.trans (by kernel_rfl) (Eq.trans h2 (by kernel_rfl))
  · exact .inl rfl
theorem r23_reader_union_eok (n : Nat) (hT : TableOK Tryd.prog env (tab (calAt n))) : EntryOK Tryd.prog env 172 (r23_reader_union_en (calAt (n + 1))) := by
  intro us st
  unfold r23_reader_union_en
  split
  · rename_i x0_l x0_i x0_bad
    refine .inr ⟨_, rfl, fun a ha => body_answers env_ok (r23_reader_union_fn n (calAt n) hT) (Nat.le_of_ble_eq_true (by kernel_rfl)) (pan := false) ?_⟩
    have h : r23_reader_union n (calAt n) x0_l x0_i x0_bad = some a := ha
    have h2 := r23_reader_union_run n (calAt n) x0_l x0_i x0_bad
    rw [h] at h2
    exact Eq.trans (by kernel_rfl) (Eq.trans h2 (by kernel_rfl))
  · exact .inl rfl
theorem r23_reader_path_eok (n : Nat) (hT : TableOK Tryd.prog env (tab (calAt n))) : EntryOK Tryd.prog env 174 (r23_reader_path_en (calAt (n + 1))) := by
  intro us st
  unfold r23_reader_path_en
  split
  · rename_i x0_l x0_i x0_bad
    refine .inr ⟨_, rfl, fun a ha => body_answers env_ok (r23_reader_path_fn n (calAt n) hT) (Nat.le_of_ble_eq_true (by kernel_rfl)) (pan := false) ?_⟩
    have h : r23_reader_path n (calAt n) x0_l x0_i x0_bad = some a := ha
    have h2 := r23_reader_path_run n (calAt n) x0_l x0_i x0_bad
    rw [h] at h2
    exact Eq.trans (by kernel_rfl) (Eq.trans h2 (by kernel_rfl))
  · exact .inl rfl
theorem r23_reader_begins_eok (n : Nat) (hT : TableOK Tryd.prog env (tab (calAt n))) : EntryOK Tryd.prog env 175 (r23_reader_begins_en (calAt (n + 1))) := by
  intro us st
  unfold r23_reader_begins_en
  split
  · rename_i x0_l x0_i x0_bad
    refine .inr ⟨_, rfl, fun a ha => body_answers env_ok (r23_reader_begins_fn n (calAt n) hT) (Nat.le_of_ble_eq_true (by kernel_rfl)) (pan := false) ?_⟩
    have h : r23_reader_begins n (calAt n) x0_l x0_i x0_bad = some a := ha
    have h2 := r23_reader_begins_run n (calAt n) x0_l x0_i x0_bad
    rw [h] at h2
    exact Eq.trans (by kernel_rfl) (Eq.trans h2 (by kernel_rfl))
  · exact .inl rfl
theorem r23_reader_row_eok (n : Nat) (hT : TableOK Tryd.prog env (tab (calAt n))) : EntryOK Tryd.prog env 176 (r23_reader_row_en (calAt (n + 1))) := by
  intro us st
  unfold r23_reader_row_en
  split
  · rename_i x1_k x1_p x1_a x1_t x1_n x1_s x1_l x0_l x0_i x0_bad
    refine .inr ⟨_, rfl, fun a ha => body_answers env_ok (r23_reader_row_fn n (calAt n) hT) (Nat.le_of_ble_eq_true (by kernel_rfl)) (pan := false) ?_⟩
    have h : r23_reader_row n (calAt n) (XE.mk x1_k x1_p x1_a x1_t x1_n x1_s x1_l) x0_l x0_i x0_bad = some a := ha
    have h2 := r23_reader_row_run n (calAt n) (XE.mk x1_k x1_p x1_a x1_t x1_n x1_s x1_l) x0_l x0_i x0_bad
    rw [h] at h2
    exact Eq.trans (by kernel_rfl) (Eq.trans h2 (by kernel_rfl))
  · exact .inl rfl
theorem r23_reader_step_eok (n : Nat) (hT : TableOK Tryd.prog env (tab (calAt n))) : EntryOK Tryd.prog env 177 (r23_reader_step_en (calAt (n + 1))) := by
  intro us st
  unfold r23_reader_step_en
  split
  · rename_i x0_l x0_i x0_bad
    refine .inr ⟨_, rfl, fun a ha => body_answers env_ok (r23_reader_step_fn n (calAt n) hT) (Nat.le_of_ble_eq_true (by kernel_rfl)) (pan := false) ?_⟩
    have h : r23_reader_step n (calAt n) x0_l x0_i x0_bad = some a := ha
    have h2 := r23_reader_step_run n (calAt n) x0_l x0_i x0_bad
    rw [h] at h2
    exact Eq.trans (by kernel_rfl) (Eq.trans h2 (by kernel_rfl))
  · exact .inl rfl
theorem r23_deep_eok (n : Nat) (hT : TableOK Tryd.prog env (tab (calAt n))) : EntryOK Tryd.prog env 178 (r23_deep_en (calAt (n + 1))) := by
  intro us st
  unfold r23_deep_en
  split
  · rename_i x0_k x0_p x0_a x0_t x0_n x0_s x0_l x1
    refine .inr ⟨_, rfl, fun a ha => body_answers env_ok (r23_deep_fn n (calAt n) hT) (Nat.le_of_ble_eq_true (by kernel_rfl)) (pan := false) ?_⟩
    have h : r23_deep n (calAt n) (XE.mk x0_k x0_p x0_a x0_t x0_n x0_s x0_l) x1 = some a := ha
    have h2 := r23_deep_run n (calAt n) (XE.mk x0_k x0_p x0_a x0_t x0_n x0_s x0_l) x1
    rw [h] at h2
    exact Eq.trans (by kernel_rfl) (Eq.trans h2 (by kernel_rfl))
  · exact .inl rfl
theorem r23_reader_axis_eok (n : Nat) (hT : TableOK Tryd.prog env (tab (calAt n))) : EntryOK Tryd.prog env 179 (r23_reader_axis_en (calAt (n + 1))) := by
  intro us st
  unfold r23_reader_axis_en
  split
  · rename_i x0_l x0_i x0_bad
    refine .inr ⟨_, rfl, fun a ha => body_answers env_ok (r23_reader_axis_fn n (calAt n) hT) (Nat.le_of_ble_eq_true (by kernel_rfl)) (pan := false) ?_⟩
    have h : r23_reader_axis n (calAt n) x0_l x0_i x0_bad = some a := ha
    have h2 := r23_reader_axis_run n (calAt n) x0_l x0_i x0_bad
    rw [h] at h2
    exact Eq.trans (by kernel_rfl) (Eq.trans h2 (by kernel_rfl))
  · exact .inl rfl
theorem r23_reader_test_eok (n : Nat) (hT : TableOK Tryd.prog env (tab (calAt n))) : EntryOK Tryd.prog env 180 (r23_reader_test_en (calAt (n + 1))) := by
  intro us st
  unfold r23_reader_test_en
  split
  · rename_i x0_l x0_i x0_bad x1_Kind x1_At x1_Axis x1_Test x1_Num x1_Text x1_Kids
    refine .inr ⟨_, rfl, fun a ha => body_answers env_ok (r23_reader_test_fn n (calAt n) hT) (Nat.le_of_ble_eq_true (by kernel_rfl)) (pan := false) ?_⟩
    have h : r23_reader_test n (calAt n) x0_l x0_i x0_bad x1_Kind x1_At x1_Axis x1_Test x1_Num x1_Text x1_Kids = some a := ha
    have h2 := r23_reader_test_run n (calAt n) x0_l x0_i x0_bad x1_Kind x1_At x1_Axis x1_Test x1_Num x1_Text x1_Kids
    rw [h] at h2
    exact Eq.trans (by kernel_rfl) (Eq.trans h2 (by kernel_rfl))
  · exact .inl rfl
theorem r23_reader_primary_eok (n : Nat) (hT : TableOK Tryd.prog env (tab (calAt n))) : EntryOK Tryd.prog env 181 (r23_reader_primary_en (calAt (n + 1))) := by
  intro us st
  unfold r23_reader_primary_en
  split
  · rename_i x0_l x0_i x0_bad
    refine .inr ⟨_, rfl, fun a ha => body_answers env_ok (r23_reader_primary_fn n (calAt n) hT) (Nat.le_of_ble_eq_true (by kernel_rfl)) (pan := false) ?_⟩
    have h : r23_reader_primary n (calAt n) x0_l x0_i x0_bad = some a := ha
    have h2 := r23_reader_primary_run n (calAt n) x0_l x0_i x0_bad
    rw [h] at h2
    exact Eq.trans (by kernel_rfl) (Eq.trans h2 (by kernel_rfl))
  · exact .inl rfl
theorem r23_axes_eok (n : Nat) (hT : TableOK Tryd.prog env (tab (calAt n))) : EntryOK Tryd.prog env 182 (r23_axes_en (calAt (n + 1))) := by
  intro us st
  unfold r23_axes_en
  split
  · refine .inr ⟨_, rfl, fun a ha => body_answers env_ok (r23_axes_fn n (calAt n) hT) (Nat.le_of_ble_eq_true (by kernel_rfl)) (pan := false) ?_⟩
    have h : r23_axes n (calAt n)  = some a := ha
    have h2 := r23_axes_run n (calAt n) 
    rw [h] at h2
    exact Eq.trans (by kernel_rfl) (Eq.trans h2 (by kernel_rfl))
  · exact .inl rfl
theorem r23_reader_brackets_eok (n : Nat) (hT : TableOK Tryd.prog env (tab (calAt n))) : EntryOK Tryd.prog env 183 (r23_reader_brackets_en (calAt (n + 1))) := by
  intro us st
  unfold r23_reader_brackets_en
  split
  · rename_i x0_l x0_i x0_bad
    refine .inr ⟨_, rfl, fun a ha => body_answers env_ok (r23_reader_brackets_fn n (calAt n) hT) (Nat.le_of_ble_eq_true (by kernel_rfl)) (pan := false) ?_⟩
    have h : r23_reader_brackets n (calAt n) x0_l x0_i x0_bad = some a := ha
    have h2 := r23_reader_brackets_run n (calAt n) x0_l x0_i x0_bad
    rw [h] at h2
    exact Eq.trans (by kernel_rfl) (Eq.trans h2 (by kernel_rfl))
  · exact .inl rfl
theorem r23_reader_call_eok (n : Nat) (hT : TableOK Tryd.prog env (tab (calAt n))) : EntryOK Tryd.prog env 184 (r23_reader_call_en (calAt (n + 1))) := by
  intro us st
  unfold r23_reader_call_en
  split
  · rename_i x0_l x0_i x0_bad
    refine .inr ⟨_, rfl, fun a ha => body_answers env_ok (r23_reader_call_fn n (calAt n) hT) (Nat.le_of_ble_eq_true (by kernel_rfl)) (pan := false) ?_⟩
    have h : r23_reader_call n (calAt n) x0_l x0_i x0_bad = some a := ha
    have h2 := r23_reader_call_run n (calAt n) x0_l x0_i x0_bad
    rw [h] at h2
    exact Eq.trans (by kernel_rfl) (Eq.trans h2 (by kernel_rfl))
  · exact .inl rfl
theorem w24_CheckOne_eok0 : EntryOK Tryd.prog env 3 (w24_CheckOne_en (calAt 0)) := by
  intro us st
  unfold w24_CheckOne_en
  split
  · exact .inr ⟨_, rfl, fun a ha => by have ha : none = some a := ha; cases ha⟩
  · exact .inl rfl
theorem w24_CheckWithin_eok0 : EntryOK Tryd.prog env 4 (w24_CheckWithin_en (calAt 0)) := by
  intro us st
  unfold w24_CheckWithin_en
  split
  · exact .inr ⟨_, rfl, fun a ha => by have ha : none = some a := ha; cases ha⟩
  · exact .inl rfl
theorem w24_CheckArity_eok0 : EntryOK Tryd.prog env 5 (w24_CheckArity_en (calAt 0)) := by
  intro us st
  unfold w24_CheckArity_en
  split
  · exact .inr ⟨_, rfl, fun a ha => by have ha : none = some a := ha; cases ha⟩
  · exact .inl rfl
theorem w24_awake_eok0 : EntryOK Tryd.prog env 8 (w24_awake_en (calAt 0)) := by
  intro us st
  unfold w24_awake_en
  split
  · exact .inr ⟨_, rfl, fun a ha => by have ha : none = some a := ha; cases ha⟩
  · exact .inl rfl
theorem w24_size_eok0 : EntryOK Tryd.prog env 9 (w24_size_en (calAt 0)) := by
  intro us st
  unfold w24_size_en
  split
  · exact .inr ⟨_, rfl, fun a ha => by have ha : none = some a := ha; cases ha⟩
  · exact .inl rfl
theorem r23_Right_eok0 : EntryOK Tryd.prog env 10 (r23_Right_en (calAt 0)) := by
  intro us st
  unfold r23_Right_en
  split
  · exact .inr ⟨_, rfl, fun a ha => by have ha : none = some a := ha; cases ha⟩
  · exact .inl rfl
theorem check_Query_eok0 : EntryOK Tryd.prog env 11 (check_Query_en (calAt 0)) := by
  intro us st
  unfold check_Query_en
  split
  · exact .inr ⟨_, rfl, fun a ha => by have ha : none = some a := ha; cases ha⟩
  · exact .inl rfl
theorem check_Update_eok0 : EntryOK Tryd.prog env 12 (check_Update_en (calAt 0)) := by
  intro us st
  unfold check_Update_en
  split
  · exact .inr ⟨_, rfl, fun a ha => by have ha : none = some a := ha; cases ha⟩
  · exact .inl rfl
theorem w24_empties_eok0 : EntryOK Tryd.prog env 13 (w24_empties_en (calAt 0)) := by
  intro us st
  unfold w24_empties_en
  split
  · exact .inr ⟨_, rfl, fun a ha => by have ha : none = some a := ha; cases ha⟩
  · exact .inl rfl
theorem w24_stands_eok0 : EntryOK Tryd.prog env 14 (w24_stands_en (calAt 0)) := by
  intro us st
  unfold w24_stands_en
  split
  · exact .inr ⟨_, rfl, fun a ha => by have ha : none = some a := ha; cases ha⟩
  · exact .inl rfl
theorem check_Arity_eok0 : EntryOK Tryd.prog env 15 (check_Arity_en (calAt 0)) := by
  intro us st
  unfold check_Arity_en
  split
  · exact .inr ⟨_, rfl, fun a ha => by have ha : none = some a := ha; cases ha⟩
  · exact .inl rfl
theorem r24_Arity_eok0 : EntryOK Tryd.prog env 16 (r24_Arity_en (calAt 0)) := by
  intro us st
  unfold r24_Arity_en
  split
  · exact .inr ⟨_, rfl, fun a ha => by have ha : none = some a := ha; cases ha⟩
  · exact .inl rfl
theorem w24_of_eok0 : EntryOK Tryd.prog env 20 (w24_of_en (calAt 0)) := by
  intro us st
  unfold w24_of_en
  split
  · exact .inr ⟨_, rfl, fun a ha => by have ha : none = some a := ha; cases ha⟩
  · exact .inl rfl
theorem r23_Deep_eok0 : EntryOK Tryd.prog env 21 (r23_Deep_en (calAt 0)) := by
  intro us st
  unfold r23_Deep_en
  split
  · exact .inr ⟨_, rfl, fun a ha => by have ha : none = some a := ha; cases ha⟩
  · exact .inl rfl
theorem r23_all_eok0 : EntryOK Tryd.prog env 22 (r23_all_en (calAt 0)) := by
  intro us st
  unfold r23_all_en
  split
  · exact .inr ⟨_, rfl, fun a ha => by have ha : none = some a := ha; cases ha⟩
  · exact .inl rfl
theorem check_all_eok0 : EntryOK Tryd.prog env 23 (check_all_en (calAt 0)) := by
  intro us st
  unfold check_all_en
  split
  · exact .inr ⟨_, rfl, fun a ha => by have ha : none = some a := ha; cases ha⟩
  · exact .inl rfl
theorem check_many_eok0 : EntryOK Tryd.prog env 24 (check_many_en (calAt 0)) := by
  intro us st
  unfold check_many_en
  split
  · exact .inr ⟨_, rfl, fun a ha => by have ha : none = some a := ha; cases ha⟩
  · exact .inl rfl
theorem r23_Parse_eok0 : EntryOK Tryd.prog env 29 (r23_Parse_en (calAt 0)) := by
  intro us st
  unfold r23_Parse_en
  split
  · exact .inr ⟨_, rfl, fun a ha => by have ha : none = some a := ha; cases ha⟩
  · exact .inl rfl
theorem r23_one_eok0 : EntryOK Tryd.prog env 30 (r23_one_en (calAt 0)) := by
  intro us st
  unfold r23_one_en
  split
  · exact .inr ⟨_, rfl, fun a ha => by have ha : none = some a := ha; cases ha⟩
  · exact .inl rfl
theorem r23_holds_eok0 : EntryOK Tryd.prog env 31 (r23_holds_en (calAt 0)) := by
  intro us st
  unfold r23_holds_en
  split
  · exact .inr ⟨_, rfl, fun a ha => by have ha : none = some a := ha; cases ha⟩
  · exact .inl rfl
theorem xpath_Right_eok0 : EntryOK Tryd.prog env 32 (xpath_Right_en (calAt 0)) := by
  intro us st
  unfold xpath_Right_en
  split
  · exact .inr ⟨_, rfl, fun a ha => by have ha : none = some a := ha; cases ha⟩
  · exact .inl rfl
theorem check_checker_check_eok0 : EntryOK Tryd.prog env 33 (check_checker_check_en (calAt 0)) := by
  intro us st
  unfold check_checker_check_en
  split
  · exact .inr ⟨_, rfl, fun a ha => by have ha : none = some a := ha; cases ha⟩
  · exact .inl rfl
theorem r22_Scan_eok0 : EntryOK Tryd.prog env 48 (r22_Scan_en (calAt 0)) := by
  intro us st
  unfold r22_Scan_en
  split
  · exact .inr ⟨_, rfl, fun a ha => by have ha : none = some a := ha; cases ha⟩
  · exact .inl rfl
theorem r23_reader_expr_eok0 : EntryOK Tryd.prog env 49 (r23_reader_expr_en (calAt 0)) := by
  intro us st
  unfold r23_reader_expr_en
  split
  · exact .inr ⟨_, rfl, fun a ha => by have ha : none = some a := ha; cases ha⟩
  · exact .inl rfl
theorem r23_reader_kind_eok0 : EntryOK Tryd.prog env 50 (r23_reader_kind_en (calAt 0)) := by
  intro us st
  unfold r23_reader_kind_en
  split
  · exact .inr ⟨_, rfl, fun a ha => by have ha : none = some a := ha; cases ha⟩
  · exact .inl rfl
theorem r23_reader_here_eok0 : EntryOK Tryd.prog env 51 (r23_reader_here_en (calAt 0)) := by
  intro us st
  unfold r23_reader_here_en
  split
  · exact .inr ⟨_, rfl, fun a ha => by have ha : none = some a := ha; cases ha⟩
  · exact .inl rfl
theorem r23_many_eok0 : EntryOK Tryd.prog env 52 (r23_many_en (calAt 0)) := by
  intro us st
  unfold r23_many_en
  split
  · exact .inr ⟨_, rfl, fun a ha => by have ha : none = some a := ha; cases ha⟩
  · exact .inl rfl
theorem r23_text_eok0 : EntryOK Tryd.prog env 53 (r23_text_en (calAt 0)) := by
  intro us st
  unfold r23_text_en
  split
  · exact .inr ⟨_, rfl, fun a ha => by have ha : none = some a := ha; cases ha⟩
  · exact .inl rfl
theorem xpath_deep_eok0 : EntryOK Tryd.prog env 54 (xpath_deep_en (calAt 0)) := by
  intro us st
  unfold xpath_deep_en
  split
  · exact .inr ⟨_, rfl, fun a ha => by have ha : none = some a := ha; cases ha⟩
  · exact .inl rfl
theorem xpath_right_eok0 : EntryOK Tryd.prog env 55 (xpath_right_en (calAt 0)) := by
  intro us st
  unfold xpath_right_en
  split
  · exact .inr ⟨_, rfl, fun a ha => by have ha : none = some a := ha; cases ha⟩
  · exact .inl rfl
theorem check_checker_own_eok0 : EntryOK Tryd.prog env 56 (check_checker_own_en (calAt 0)) := by
  intro us st
  unfold check_checker_own_en
  split
  · exact .inr ⟨_, rfl, fun a ha => by have ha : none = some a := ha; cases ha⟩
  · exact .inl rfl
theorem check_kid_eok0 : EntryOK Tryd.prog env 57 (check_kid_en (calAt 0)) := by
  intro us st
  unfold check_kid_en
  split
  · exact .inr ⟨_, rfl, fun a ha => by have ha : none = some a := ha; cases ha⟩
  · exact .inl rfl
theorem chars_Char_eok0 : EntryOK Tryd.prog env 60 (chars_Char_en (calAt 0)) := by
  intro us st
  unfold chars_Char_en
  split
  · exact .inr ⟨_, rfl, fun a ha => by have ha : none = some a := ha; cases ha⟩
  · exact .inl rfl
theorem r05_Next_eok0 : EntryOK Tryd.prog env 74 (r05_Next_en (calAt 0)) := by
  intro us st
  unfold r05_Next_en
  split
  · exact .inr ⟨_, rfl, fun a ha => by have ha : none = some a := ha; cases ha⟩
  · exact .inl rfl
theorem r05_Char_eok0 : EntryOK Tryd.prog env 75 (r05_Char_en (calAt 0)) := by
  intro us st
  unfold r05_Char_en
  split
  · exact .inr ⟨_, rfl, fun a ha => by have ha : none = some a := ha; cases ha⟩
  · exact .inl rfl
theorem r05_Blank_eok0 : EntryOK Tryd.prog env 76 (r05_Blank_en (calAt 0)) := by
  intro us st
  unfold r05_Blank_en
  split
  · exact .inr ⟨_, rfl, fun a ha => by have ha : none = some a := ha; cases ha⟩
  · exact .inl rfl
theorem r22_comment_eok0 : EntryOK Tryd.prog env 77 (r22_comment_en (calAt 0)) := by
  intro us st
  unfold r22_comment_en
  split
  · exact .inr ⟨_, rfl, fun a ha => by have ha : none = some a := ha; cases ha⟩
  · exact .inl rfl
theorem r22_token_eok0 : EntryOK Tryd.prog env 78 (r22_token_en (calAt 0)) := by
  intro us st
  unfold r22_token_en
  split
  · exact .inr ⟨_, rfl, fun a ha => by have ha : none = some a := ha; cases ha⟩
  · exact .inl rfl
theorem r23_reader_single_eok0 : EntryOK Tryd.prog env 79 (r23_reader_single_en (calAt 0)) := by
  intro us st
  unfold r23_reader_single_en
  split
  · exact .inr ⟨_, rfl, fun a ha => by have ha : none = some a := ha; cases ha⟩
  · exact .inl rfl
theorem r23_reader_sign_eok0 : EntryOK Tryd.prog env 80 (r23_reader_sign_en (calAt 0)) := by
  intro us st
  unfold r23_reader_sign_en
  split
  · exact .inr ⟨_, rfl, fun a ha => by have ha : none = some a := ha; cases ha⟩
  · exact .inl rfl
theorem r23_reader_is_eok0 : EntryOK Tryd.prog env 81 (r23_reader_is_en (calAt 0)) := by
  intro us st
  unfold r23_reader_is_en
  split
  · exact .inr ⟨_, rfl, fun a ha => by have ha : none = some a := ha; cases ha⟩
  · exact .inl rfl
theorem r23_reader_tok_eok0 : EntryOK Tryd.prog env 82 (r23_reader_tok_en (calAt 0)) := by
  intro us st
  unfold r23_reader_tok_en
  split
  · exact .inr ⟨_, rfl, fun a ha => by have ha : none = some a := ha; cases ha⟩
  · exact .inl rfl
theorem r23_kids_eok0 : EntryOK Tryd.prog env 83 (r23_kids_en (calAt 0)) := by
  intro us st
  unfold r23_kids_en
  split
  · exact .inr ⟨_, rfl, fun a ha => by have ha : none = some a := ha; cases ha⟩
  · exact .inl rfl
theorem r05_Texts_eok0 : EntryOK Tryd.prog env 84 (r05_Texts_en (calAt 0)) := by
  intro us st
  unfold r05_Texts_en
  split
  · exact .inr ⟨_, rfl, fun a ha => by have ha : none = some a := ha; cases ha⟩
  · exact .inl rfl
theorem r05_Name_eok0 : EntryOK Tryd.prog env 85 (r05_Name_en (calAt 0)) := by
  intro us st
  unfold r05_Name_en
  split
  · exact .inr ⟨_, rfl, fun a ha => by have ha : none = some a := ha; cases ha⟩
  · exact .inl rfl
theorem r23_Special_eok0 : EntryOK Tryd.prog env 86 (r23_Special_en (calAt 0)) := by
  intro us st
  unfold r23_Special_en
  split
  · exact .inr ⟨_, rfl, fun a ha => by have ha : none = some a := ha; cases ha⟩
  · exact .inl rfl
theorem r23_among_eok0 : EntryOK Tryd.prog env 87 (r23_among_en (calAt 0)) := by
  intro us st
  unfold r23_among_en
  split
  · exact .inr ⟨_, rfl, fun a ha => by have ha : none = some a := ha; cases ha⟩
  · exact .inl rfl
theorem xpath_shape_right_eok0 : EntryOK Tryd.prog env 88 (xpath_shape_right_en (calAt 0)) := by
  intro us st
  unfold xpath_shape_right_en
  split
  · exact .inr ⟨_, rfl, fun a ha => by have ha : none = some a := ha; cases ha⟩
  · exact .inl rfl
theorem check_updates_eok0 : EntryOK Tryd.prog env 89 (check_updates_en (calAt 0)) := by
  intro us st
  unfold check_updates_en
  split
  · exact .inr ⟨_, rfl, fun a ha => by have ha : none = some a := ha; cases ha⟩
  · exact .inl rfl
theorem slices_Contains_eok0 : EntryOK Tryd.prog env 90 (slices_Contains_en (calAt 0)) := by
  intro us st
  unfold slices_Contains_en
  split
  · exact .inr ⟨_, rfl, fun a ha => by have ha : none = some a := ha; cases ha⟩
  · exact .inr ⟨_, rfl, fun a ha => by have ha : none = some a := ha; cases ha⟩
  · exact .inl rfl
theorem chars_NameStart_eok0 : EntryOK Tryd.prog env 107 (chars_NameStart_en (calAt 0)) := by
  intro us st
  unfold chars_NameStart_en
  split
  · exact .inr ⟨_, rfl, fun a ha => by have ha : none = some a := ha; cases ha⟩
  · exact .inl rfl
theorem chars_NameChar_eok0 : EntryOK Tryd.prog env 108 (chars_NameChar_en (calAt 0)) := by
  intro us st
  unfold chars_NameChar_en
  split
  · exact .inr ⟨_, rfl, fun a ha => by have ha : none = some a := ha; cases ha⟩
  · exact .inl rfl
theorem r05_within_eok0 : EntryOK Tryd.prog env 113 (r05_within_en (calAt 0)) := by
  intro us st
  unfold r05_within_en
  split
  · exact .inr ⟨_, rfl, fun a ha => by have ha : none = some a := ha; cases ha⟩
  · exact .inl rfl
theorem r22_whole_eok0 : EntryOK Tryd.prog env 114 (r22_whole_en (calAt 0)) := by
  intro us st
  unfold r22_whole_en
  split
  · exact .inr ⟨_, rfl, fun a ha => by have ha : none = some a := ha; cases ha⟩
  · exact .inl rfl
theorem r22_quoted_eok0 : EntryOK Tryd.prog env 115 (r22_quoted_en (calAt 0)) := by
  intro us st
  unfold r22_quoted_en
  split
  · exact .inr ⟨_, rfl, fun a ha => by have ha : none = some a := ha; cases ha⟩
  · exact .inl rfl
theorem r22_name_eok0 : EntryOK Tryd.prog env 116 (r22_name_en (calAt 0)) := by
  intro us st
  unfold r22_name_en
  split
  · exact .inr ⟨_, rfl, fun a ha => by have ha : none = some a := ha; cases ha⟩
  · exact .inl rfl
theorem r22_signs_eok0 : EntryOK Tryd.prog env 117 (r22_signs_en (calAt 0)) := by
  intro us st
  unfold r22_signs_en
  split
  · exact .inr ⟨_, rfl, fun a ha => by have ha : none = some a := ha; cases ha⟩
  · exact .inl rfl
theorem r23_reader_word_eok0 : EntryOK Tryd.prog env 118 (r23_reader_word_en (calAt 0)) := by
  intro us st
  unfold r23_reader_word_en
  split
  · exact .inr ⟨_, rfl, fun a ha => by have ha : none = some a := ha; cases ha⟩
  · exact .inl rfl
theorem r23_reader_clause_eok0 : EntryOK Tryd.prog env 119 (r23_reader_clause_en (calAt 0)) := by
  intro us st
  unfold r23_reader_clause_en
  split
  · exact .inr ⟨_, rfl, fun a ha => by have ha : none = some a := ha; cases ha⟩
  · exact .inl rfl
theorem r23_reader_next_eok0 : EntryOK Tryd.prog env 120 (r23_reader_next_en (calAt 0)) := by
  intro us st
  unfold r23_reader_next_en
  split
  · exact .inr ⟨_, rfl, fun a ha => by have ha : none = some a := ha; cases ha⟩
  · exact .inl rfl
theorem r23_reader_some_eok0 : EntryOK Tryd.prog env 121 (r23_reader_some_en (calAt 0)) := by
  intro us st
  unfold r23_reader_some_en
  split
  · exact .inr ⟨_, rfl, fun a ha => by have ha : none = some a := ha; cases ha⟩
  · exact .inl rfl
theorem r23_reader_must_eok0 : EntryOK Tryd.prog env 122 (r23_reader_must_en (calAt 0)) := by
  intro us st
  unfold r23_reader_must_en
  split
  · exact .inr ⟨_, rfl, fun a ha => by have ha : none = some a := ha; cases ha⟩
  · exact .inl rfl
theorem r23_reader_updates_eok0 : EntryOK Tryd.prog env 123 (r23_reader_updates_en (calAt 0)) := by
  intro us st
  unfold r23_reader_updates_en
  split
  · exact .inr ⟨_, rfl, fun a ha => by have ha : none = some a := ha; cases ha⟩
  · exact .inl rfl
theorem r23_reader_update_eok0 : EntryOK Tryd.prog env 124 (r23_reader_update_en (calAt 0)) := by
  intro us st
  unfold r23_reader_update_en
  split
  · exact .inr ⟨_, rfl, fun a ha => by have ha : none = some a := ha; cases ha⟩
  · exact .inl rfl
theorem r23_reader_or_eok0 : EntryOK Tryd.prog env 125 (r23_reader_or_en (calAt 0)) := by
  intro us st
  unfold r23_reader_or_en
  split
  · exact .inr ⟨_, rfl, fun a ha => by have ha : none = some a := ha; cases ha⟩
  · exact .inl rfl
theorem r05_NameChar_eok0 : EntryOK Tryd.prog env 126 (r05_NameChar_en (calAt 0)) := by
  intro us st
  unfold r05_NameChar_en
  split
  · exact .inr ⟨_, rfl, fun a ha => by have ha : none = some a := ha; cases ha⟩
  · exact .inl rfl
theorem r05_NameStart_eok0 : EntryOK Tryd.prog env 127 (r05_NameStart_en (calAt 0)) := by
  intro us st
  unfold r05_NameStart_en
  split
  · exact .inr ⟨_, rfl, fun a ha => by have ha : none = some a := ha; cases ha⟩
  · exact .inl rfl
theorem chars_Name_eok0 : EntryOK Tryd.prog env 128 (chars_Name_en (calAt 0)) := by
  intro us st
  unfold chars_Name_en
  split
  · exact .inr ⟨_, rfl, fun a ha => by have ha : none = some a := ha; cases ha⟩
  · exact .inl rfl
theorem chars_Texts_eok0 : EntryOK Tryd.prog env 129 (chars_Texts_en (calAt 0)) := by
  intro us st
  unfold chars_Texts_en
  split
  · exact .inr ⟨_, rfl, fun a ha => by have ha : none = some a := ha; cases ha⟩
  · exact .inl rfl
theorem xpath_called_eok0 : EntryOK Tryd.prog env 130 (xpath_called_en (calAt 0)) := by
  intro us st
  unfold xpath_called_en
  split
  · exact .inr ⟨_, rfl, fun a ha => by have ha : none = some a := ha; cases ha⟩
  · exact .inl rfl
theorem slices_Index_eok0 : EntryOK Tryd.prog env 132 (slices_Index_en (calAt 0)) := by
  intro us st
  unfold slices_Index_en
  split
  · exact .inr ⟨_, rfl, fun a ha => by have ha : none = some a := ha; cases ha⟩
  · exact .inr ⟨_, rfl, fun a ha => by have ha : none = some a := ha; cases ha⟩
  · exact .inl rfl
theorem chars_among_eok0 : EntryOK Tryd.prog env 140 (chars_among_en (calAt 0)) := by
  intro us st
  unfold chars_among_en
  split
  · exact .inr ⟨_, rfl, fun a ha => by have ha : none = some a := ha; cases ha⟩
  · exact .inl rfl
theorem r23_reader_variable_eok0 : EntryOK Tryd.prog env 145 (r23_reader_variable_en (calAt 0)) := by
  intro us st
  unfold r23_reader_variable_en
  split
  · exact .inr ⟨_, rfl, fun a ha => by have ha : none = some a := ha; cases ha⟩
  · exact .inl rfl
theorem r23_reader_more_eok0 : EntryOK Tryd.prog env 146 (r23_reader_more_en (calAt 0)) := by
  intro us st
  unfold r23_reader_more_en
  split
  · exact .inr ⟨_, rfl, fun a ha => by have ha : none = some a := ha; cases ha⟩
  · exact .inl rfl
theorem r23_reader_no_eok0 : EntryOK Tryd.prog env 147 (r23_reader_no_en (calAt 0)) := by
  intro us st
  unfold r23_reader_no_en
  split
  · exact .inr ⟨_, rfl, fun a ha => by have ha : none = some a := ha; cases ha⟩
  · exact .inl rfl
theorem r23_reader_place_eok0 : EntryOK Tryd.prog env 148 (r23_reader_place_en (calAt 0)) := by
  intro us st
  unfold r23_reader_place_en
  split
  · exact .inr ⟨_, rfl, fun a ha => by have ha : none = some a := ha; cases ha⟩
  · exact .inl rfl
theorem r23_reader_binary_eok0 : EntryOK Tryd.prog env 149 (r23_reader_binary_en (calAt 0)) := by
  intro us st
  unfold r23_reader_binary_en
  split
  · exact .inr ⟨_, rfl, fun a ha => by have ha : none = some a := ha; cases ha⟩
  · exact .inl rfl
theorem r23_reader_minus_eok0 : EntryOK Tryd.prog env 162 (r23_reader_minus_en (calAt 0)) := by
  intro us st
  unfold r23_reader_minus_en
  split
  · exact .inr ⟨_, rfl, fun a ha => by have ha : none = some a := ha; cases ha⟩
  · exact .inl rfl
theorem r23_level_eok0 : EntryOK Tryd.prog env 163 (r23_level_en (calAt 0)) := by
  intro us st
  unfold r23_level_en
  split
  · exact .inr ⟨_, rfl, fun a ha => by have ha : none = some a := ha; cases ha⟩
  · exact .inl rfl
theorem r23_reader_union_eok0 : EntryOK Tryd.prog env 172 (r23_reader_union_en (calAt 0)) := by
  intro us st
  unfold r23_reader_union_en
  split
  · exact .inr ⟨_, rfl, fun a ha => by have ha : none = some a := ha; cases ha⟩
  · exact .inl rfl
theorem r23_reader_path_eok0 : EntryOK Tryd.prog env 174 (r23_reader_path_en (calAt 0)) := by
  intro us st
  unfold r23_reader_path_en
  split
  · exact .inr ⟨_, rfl, fun a ha => by have ha : none = some a := ha; cases ha⟩
  · exact .inl rfl
theorem r23_reader_begins_eok0 : EntryOK Tryd.prog env 175 (r23_reader_begins_en (calAt 0)) := by
  intro us st
  unfold r23_reader_begins_en
  split
  · exact .inr ⟨_, rfl, fun a ha => by have ha : none = some a := ha; cases ha⟩
  · exact .inl rfl
theorem r23_reader_row_eok0 : EntryOK Tryd.prog env 176 (r23_reader_row_en (calAt 0)) := by
  intro us st
  unfold r23_reader_row_en
  split
  · exact .inr ⟨_, rfl, fun a ha => by have ha : none = some a := ha; cases ha⟩
  · exact .inl rfl
theorem r23_reader_step_eok0 : EntryOK Tryd.prog env 177 (r23_reader_step_en (calAt 0)) := by
  intro us st
  unfold r23_reader_step_en
  split
  · exact .inr ⟨_, rfl, fun a ha => by have ha : none = some a := ha; cases ha⟩
  · exact .inl rfl
theorem r23_deep_eok0 : EntryOK Tryd.prog env 178 (r23_deep_en (calAt 0)) := by
  intro us st
  unfold r23_deep_en
  split
  · exact .inr ⟨_, rfl, fun a ha => by have ha : none = some a := ha; cases ha⟩
  · exact .inl rfl
theorem r23_reader_axis_eok0 : EntryOK Tryd.prog env 179 (r23_reader_axis_en (calAt 0)) := by
  intro us st
  unfold r23_reader_axis_en
  split
  · exact .inr ⟨_, rfl, fun a ha => by have ha : none = some a := ha; cases ha⟩
  · exact .inl rfl
theorem r23_reader_test_eok0 : EntryOK Tryd.prog env 180 (r23_reader_test_en (calAt 0)) := by
  intro us st
  unfold r23_reader_test_en
  split
  · exact .inr ⟨_, rfl, fun a ha => by have ha : none = some a := ha; cases ha⟩
  · exact .inl rfl
theorem r23_reader_primary_eok0 : EntryOK Tryd.prog env 181 (r23_reader_primary_en (calAt 0)) := by
  intro us st
  unfold r23_reader_primary_en
  split
  · exact .inr ⟨_, rfl, fun a ha => by have ha : none = some a := ha; cases ha⟩
  · exact .inl rfl
theorem r23_axes_eok0 : EntryOK Tryd.prog env 182 (r23_axes_en (calAt 0)) := by
  intro us st
  unfold r23_axes_en
  split
  · exact .inr ⟨_, rfl, fun a ha => by have ha : none = some a := ha; cases ha⟩
  · exact .inl rfl
theorem r23_reader_brackets_eok0 : EntryOK Tryd.prog env 183 (r23_reader_brackets_en (calAt 0)) := by
  intro us st
  unfold r23_reader_brackets_en
  split
  · exact .inr ⟨_, rfl, fun a ha => by have ha : none = some a := ha; cases ha⟩
  · exact .inl rfl
theorem r23_reader_call_eok0 : EntryOK Tryd.prog env 184 (r23_reader_call_en (calAt 0)) := by
  intro us st
  unfold r23_reader_call_en
  split
  · exact .inr ⟨_, rfl, fun a ha => by have ha : none = some a := ha; cases ha⟩
  · exact .inl rfl
theorem strings_Contains_eok0 : EntryOK Tryd.prog env 131 (strings_Contains_en (calAt 0)) := by
  intro us st
  unfold strings_Contains_en
  split
  · exact .inr ⟨_, rfl, fun a ha => by have ha : none = some a := ha; cases ha⟩
  · exact .inl rfl
theorem unicodeutf8_ValidString_eok0 : EntryOK Tryd.prog env 150 (unicodeutf8_ValidString_en (calAt 0)) := by
  intro us st
  unfold unicodeutf8_ValidString_en
  split
  · exact .inr ⟨_, rfl, fun a ha => by have ha : none = some a := ha; cases ha⟩
  · exact .inl rfl
theorem tab_ok (h_strings_Contains : ∀ n, EntryOK Tryd.prog env 131 (strings_Contains_en (calAt (n + 1)))) (h_unicodeutf8_ValidString : ∀ n, EntryOK Tryd.prog env 150 (unicodeutf8_ValidString_en (calAt (n + 1)))) : ∀ n, TableOK Tryd.prog env (tab (calAt n))
  | 0 => tableOf_ok (ents_cons w24_CheckOne_eok0 (ents_cons w24_CheckWithin_eok0 (ents_cons w24_CheckArity_eok0 (ents_cons w24_awake_eok0 (ents_cons w24_size_eok0 (ents_cons r23_Right_eok0 (ents_cons check_Query_eok0 (ents_cons check_Update_eok0 (ents_cons w24_empties_eok0 (ents_cons w24_stands_eok0 (ents_cons check_Arity_eok0 (ents_cons r24_Arity_eok0 (ents_cons w24_of_eok0 (ents_cons r23_Deep_eok0 (ents_cons r23_all_eok0 (ents_cons check_all_eok0 (ents_cons check_many_eok0 (ents_cons r23_Parse_eok0 (ents_cons r23_one_eok0 (ents_cons r23_holds_eok0 (ents_cons xpath_Right_eok0 (ents_cons check_checker_check_eok0 (ents_cons r22_Scan_eok0 (ents_cons r23_reader_expr_eok0 (ents_cons r23_reader_kind_eok0 (ents_cons r23_reader_here_eok0 (ents_cons r23_many_eok0 (ents_cons r23_text_eok0 (ents_cons xpath_deep_eok0 (ents_cons xpath_right_eok0 (ents_cons check_checker_own_eok0 (ents_cons check_kid_eok0 (ents_cons chars_Char_eok0 (ents_cons r05_Next_eok0 (ents_cons r05_Char_eok0 (ents_cons r05_Blank_eok0 (ents_cons r22_comment_eok0 (ents_cons r22_token_eok0 (ents_cons r23_reader_single_eok0 (ents_cons r23_reader_sign_eok0 (ents_cons r23_reader_is_eok0 (ents_cons r23_reader_tok_eok0 (ents_cons r23_kids_eok0 (ents_cons r05_Texts_eok0 (ents_cons r05_Name_eok0 (ents_cons r23_Special_eok0 (ents_cons r23_among_eok0 (ents_cons xpath_shape_right_eok0 (ents_cons check_updates_eok0 (ents_cons slices_Contains_eok0 (ents_cons chars_NameStart_eok0 (ents_cons chars_NameChar_eok0 (ents_cons r05_within_eok0 (ents_cons r22_whole_eok0 (ents_cons r22_quoted_eok0 (ents_cons r22_name_eok0 (ents_cons r22_signs_eok0 (ents_cons r23_reader_word_eok0 (ents_cons r23_reader_clause_eok0 (ents_cons r23_reader_next_eok0 (ents_cons r23_reader_some_eok0 (ents_cons r23_reader_must_eok0 (ents_cons r23_reader_updates_eok0 (ents_cons r23_reader_update_eok0 (ents_cons r23_reader_or_eok0 (ents_cons r05_NameChar_eok0 (ents_cons r05_NameStart_eok0 (ents_cons chars_Name_eok0 (ents_cons chars_Texts_eok0 (ents_cons xpath_called_eok0 (ents_cons slices_Index_eok0 (ents_cons chars_among_eok0 (ents_cons r23_reader_variable_eok0 (ents_cons r23_reader_more_eok0 (ents_cons r23_reader_no_eok0 (ents_cons r23_reader_place_eok0 (ents_cons r23_reader_binary_eok0 (ents_cons r23_reader_minus_eok0 (ents_cons r23_level_eok0 (ents_cons r23_reader_union_eok0 (ents_cons r23_reader_path_eok0 (ents_cons r23_reader_begins_eok0 (ents_cons r23_reader_row_eok0 (ents_cons r23_reader_step_eok0 (ents_cons r23_deep_eok0 (ents_cons r23_reader_axis_eok0 (ents_cons r23_reader_test_eok0 (ents_cons r23_reader_primary_eok0 (ents_cons r23_axes_eok0 (ents_cons r23_reader_brackets_eok0 (ents_cons r23_reader_call_eok0 (ents_cons strings_Contains_eok0 (ents_cons unicodeutf8_ValidString_eok0 (ents_nil))))))))))))))))))))))))))))))))))))))))))))))))))))))))))))))))))))))))))))))))))))))))))))))
  | n + 1 => by
    have ih := tab_ok h_strings_Contains h_unicodeutf8_ValidString n
    exact tableOf_ok (ents_cons (w24_CheckOne_eok n ih) (ents_cons (w24_CheckWithin_eok n ih) (ents_cons (w24_CheckArity_eok n ih) (ents_cons (w24_awake_eok n ih) (ents_cons (w24_size_eok n ih) (ents_cons (r23_Right_eok n ih) (ents_cons (check_Query_eok n ih) (ents_cons (check_Update_eok n ih) (ents_cons (w24_empties_eok n ih) (ents_cons (w24_stands_eok n ih) (ents_cons (check_Arity_eok n ih) (ents_cons (r24_Arity_eok n ih) (ents_cons (w24_of_eok n ih) (ents_cons (r23_Deep_eok n ih) (ents_cons (r23_all_eok n ih) (ents_cons (check_all_eok n ih) (ents_cons (check_many_eok n ih) (ents_cons (r23_Parse_eok n ih) (ents_cons (r23_one_eok n ih) (ents_cons (r23_holds_eok n ih) (ents_cons (xpath_Right_eok n ih) (ents_cons (check_checker_check_eok n ih) (ents_cons (r22_Scan_eok n ih) (ents_cons (r23_reader_expr_eok n ih) (ents_cons (r23_reader_kind_eok n ih) (ents_cons (r23_reader_here_eok n ih) (ents_cons (r23_many_eok n ih) (ents_cons (r23_text_eok n ih) (ents_cons (xpath_deep_eok n ih) (ents_cons (xpath_right_eok n ih) (ents_cons (check_checker_own_eok n ih) (ents_cons (check_kid_eok n ih) (ents_cons (chars_Char_eok n ih) (ents_cons (r05_Next_eok n ih) (ents_cons (r05_Char_eok n ih) (ents_cons (r05_Blank_eok n ih) (ents_cons (r22_comment_eok n ih) (ents_cons (r22_token_eok n ih) (ents_cons (r23_reader_single_eok n ih) (ents_cons (r23_reader_sign_eok n ih) (ents_cons (r23_reader_is_eok n ih) (ents_cons (r23_reader_tok_eok n ih) (ents_cons (r23_kids_eok n ih) (ents_cons (r05_Texts_eok n ih) (ents_cons (r05_Name_eok n ih) (ents_cons (r23_Special_eok n ih) (ents_cons (r23_among_eok n ih) (ents_cons (xpath_shape_right_eok n ih) (ents_cons (check_updates_eok n ih) (ents_cons (slices_Contains_eok n ih) (ents_cons (chars_NameStart_eok n ih) (ents_cons (chars_NameChar_eok n ih) (ents_cons (r05_within_eok n ih) (ents_cons (r22_whole_eok n ih) (ents_cons (r22_quoted_eok n ih) (ents_cons (r22_name_eok n ih) (ents_cons (r22_signs_eok n ih) (ents_cons (r23_reader_word_eok n ih) (ents_cons (r23_reader_clause_eok n ih) (ents_cons (r23_reader_next_eok n ih) (ents_cons (r23_reader_some_eok n ih) (ents_cons (r23_reader_must_eok n ih) (ents_cons (r23_reader_updates_eok n ih) (ents_cons (r23_reader_update_eok n ih) (ents_cons (r23_reader_or_eok n ih) (ents_cons (r05_NameChar_eok n ih) (ents_cons (r05_NameStart_eok n ih) (ents_cons (chars_Name_eok n ih) (ents_cons (chars_Texts_eok n ih) (ents_cons (xpath_called_eok n ih) (ents_cons (slices_Index_eok n ih) (ents_cons (chars_among_eok n ih) (ents_cons (r23_reader_variable_eok n ih) (ents_cons (r23_reader_more_eok n ih) (ents_cons (r23_reader_no_eok n ih) (ents_cons (r23_reader_place_eok n ih) (ents_cons (r23_reader_binary_eok n ih) (ents_cons (r23_reader_minus_eok n ih) (ents_cons (r23_level_eok n ih) (ents_cons (r23_reader_union_eok n ih) (ents_cons (r23_reader_path_eok n ih) (ents_cons (r23_reader_begins_eok n ih) (ents_cons (r23_reader_row_eok n ih) (ents_cons (r23_reader_step_eok n ih) (ents_cons (r23_deep_eok n ih) (ents_cons (r23_reader_axis_eok n ih) (ents_cons (r23_reader_test_eok n ih) (ents_cons (r23_reader_primary_eok n ih) (ents_cons (r23_axes_eok n ih) (ents_cons (r23_reader_brackets_eok n ih) (ents_cons (r23_reader_call_eok n ih) (ents_cons (h_strings_Contains n) (ents_cons (h_unicodeutf8_ValidString n) (ents_nil))))))))))))))))))))))))))))))))))))))))))))))))))))))))))))))))))))))))))))))))))))))))))))))

end Go.Abs

