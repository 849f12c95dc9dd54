/- The typed functions answer for the program; what a row of this seat gives a walk; a world for the witness. -/
import Derived.Shelf.Strings.Search3
import Derived.Shelf.Unicode.ValidAny
import Derived.Test.YtfigbonpcodfpaaDoorProg
import Derived.Test.YtfigbonpcodfpaaDoorOk
import Derived.Test.YtfigbonpcodfpaaDoorAbsSndD
import Derived.Test.YtfigbonpcodfpaaDoorCards
import Derived.Test.YtfigbonpcodfpaaDoorTie
import Derived.WalkKit
import Derived.ProofKit
import Derived.OpenShut
import Derived.Deep.DeepHandedRow
import Derived.Deep.DeepWitnessRowRef
import Derived.Lib.LaidIn
import Derived.Shelf.Vars
import Derived.SizedLaws
set_option linter.unusedSimpArgs false
set_option linter.unusedVariables false
set_option linter.unusedSectionVars false
/-
  DERIVED: THE SHELF's CONTRACTS AT THIS DUMP, IN PLAIN WORDS (tools/lay-plain.mjs out of 'TrydHooks.lean', which tools/lay-shelf.mjs wrote): THE SAME DECLARATIONS UNDER THE SAME NAMES: 'import', 'namespace', 'open', 'def', 'theorem' AND NOTHING ELSE: no command of the shelf's: FOR A HAND-IN. Each laying: the table of numbers ('.._ren') and one theorem, a field a fact of the dump's own or the kernel's comparison; each contract: ONE APPLICATION.
-/
namespace Go.Proofs
open Go.Shelf
def Tryd.lays144_ren : Go.Shelf.Ren := ⟨fun | 144 => 131 | 143 => 110 | 219 => 143 | 217 => 156 | 225 => 157 | 224 => 158 | 267 => 159 | 266 => 167 | 314 => 168 | n => n, fun | 9 => 9 | 4 => 4 | 3 => 3 | 5 => 5 | 46 => 146 | 146 => 186 | 51 => 174 | n => n, fun | 1 => 9 | n => n⟩
theorem Tryd.lays144 : Go.Proofs.Lays.n144 Tryd.prog Tryd.lays144_ren := {
  mixed := by kernel_rfl
  f143 := Tryd.func110.trans (congrArg some (by kernel_rfl))
  f144 := Tryd.func131.trans (congrArg some (by kernel_rfl))
  f217 := Tryd.func156.trans (congrArg some (by kernel_rfl))
  f219 := Tryd.func143.trans (congrArg some (by kernel_rfl))
  f224 := Tryd.func158.trans (congrArg some (by kernel_rfl))
  f225 := Tryd.func157.trans (congrArg some (by kernel_rfl))
  f266 := Tryd.func167.trans (congrArg some (by kernel_rfl))
  f267 := Tryd.func159.trans (congrArg some (by kernel_rfl))
  f314 := Tryd.func168.trans (congrArg some (by kernel_rfl))
  t3 := Tryd.underlying3
  a3 := Tryd.isAgg3
  z3 := Tryd.sizeOf3
  v3 := Tryd.zeroValue3
  t4 := Tryd.underlying4
  a4 := Tryd.isAgg4
  z4 := Tryd.sizeOf4
  v4 := Tryd.zeroValue4
  t5 := Tryd.underlying5
  a5 := Tryd.isAgg5
  z5 := Tryd.sizeOf5
  v5 := Tryd.zeroValue5
  t9 := Tryd.underlying9
  a9 := Tryd.isAgg9
  z9 := Tryd.sizeOf9
  v9 := Tryd.zeroValue9
  t46 := Tryd.underlying146
  a46 := Tryd.isAgg146
  z46 := Tryd.sizeOf146
  v46 := Tryd.zeroValue146
  t51 := Tryd.underlying174
  a51 := Tryd.isAgg174
  z51 := Tryd.sizeOf174
  v51 := Tryd.zeroValue174
  t146 := Tryd.underlying186
  a146 := Tryd.isAgg186
  z146 := Tryd.sizeOf186
  v146 := Tryd.zeroValue186
  g1 := by kernel_rfl }
open Go.RowKit Go.Lib in
/-- strings.Contains at this dump. -/
theorem Tryd.strings_Contains (s sub : ByteArray) (m : Int) (w : World) (hs : s.size < 4294967281) (hm : w.cell? ⟨9, 0, none⟩ = some (.int .i64 m)) :
    Calls Tryd.prog 131 #[.string s, .string sub] w fun e w' => e = .returned (.bool (Lib.contains s.data.toList sub.data.toList)) ∧ w' = w := Any.strings_Contains Tryd.lays144 s sub m w hs hm
def Tryd.laysValid_ren : Go.Shelf.Ren := ⟨fun | 196 => 150 | 259 => 164 | n => n, fun | 9 => 9 | 4 => 4 | 3 => 3 | 5 => 5 | 12 => 12 | 119 => 145 | 0 => 0 | 46 => 146 | 139 => 149 | 138 => 148 | 53 => 169 | n => n, fun | 3 => 1 | 4 => 2 | n => n⟩
theorem Tryd.laysValid : Go.Proofs.Lays.n196 Tryd.prog Tryd.laysValid_ren := {
  mixed := by kernel_rfl
  f196 := Tryd.func150.trans (congrArg some (by kernel_rfl))
  f259 := Tryd.func164.trans (congrArg some (by kernel_rfl))
  t0 := Tryd.underlying0
  a0 := Tryd.isAgg0
  z0 := Tryd.sizeOf0
  v0 := Tryd.zeroValue0
  t3 := Tryd.underlying3
  a3 := Tryd.isAgg3
  z3 := Tryd.sizeOf3
  v3 := Tryd.zeroValue3
  t4 := Tryd.underlying4
  a4 := Tryd.isAgg4
  z4 := Tryd.sizeOf4
  v4 := Tryd.zeroValue4
  t5 := Tryd.underlying5
  a5 := Tryd.isAgg5
  z5 := Tryd.sizeOf5
  v5 := Tryd.zeroValue5
  t9 := Tryd.underlying9
  a9 := Tryd.isAgg9
  z9 := Tryd.sizeOf9
  v9 := Tryd.zeroValue9
  t12 := Tryd.underlying12
  a12 := Tryd.isAgg12
  z12 := Tryd.sizeOf12
  v12 := Tryd.zeroValue12
  t46 := Tryd.underlying146
  a46 := Tryd.isAgg146
  z46 := Tryd.sizeOf146
  v46 := Tryd.zeroValue146
  t53 := Tryd.underlying169
  a53 := Tryd.isAgg169
  z53 := Tryd.sizeOf169
  v53 := Tryd.zeroValue169
  t119 := Tryd.underlying145
  a119 := Tryd.isAgg145
  z119 := Tryd.sizeOf145
  t138 := Tryd.underlying148
  a138 := Tryd.isAgg148
  z138 := Tryd.sizeOf148
  v138 := Tryd.zeroValue148
  t139 := Tryd.underlying149
  a139 := Tryd.isAgg149
  z139 := Tryd.sizeOf149
  v139 := Tryd.zeroValue149
  g3 := by kernel_rfl
  g4 := by kernel_rfl }
end Go.Proofs

/- The library functions that stand by their contracts answer for the program. -/
set_option linter.unusedSimpArgs false
namespace Go.Abs
open Go Go.Proofs Go.Lib

theorem locs_none {imm : Imm} {loc : Locs} {w : World} (R : Rel imm loc (fun i => look i []) w) (i : Nat) : loc i = none := by
  cases h : loc i with
  | none => rfl
  | some l => obtain ⟨o, ho⟩ := R.dom i l h; cases ho

theorem str_args {imm : Imm} {loc : Locs} {l : List Bytes} {vs : Array Value} (h : ArgsRel imm loc (l.map .str) vs) : ∃ ss : List ByteArray, vs = (ss.map Value.string).toArray ∧ ss.map (fun s => s.data.toList) = l := by
  obtain ⟨hl, h⟩ := h
  have key : ∀ (l : List Bytes) (xs : List Value), xs.length = l.length → (∀ i, i < xs.length → Rep imm loc ((l.map U.str).getD i .undef) (xs.getD i undef)) → ∃ ss : List ByteArray, xs = ss.map Value.string ∧ ss.map (fun s => s.data.toList) = l := by
    intro l
    induction l with
    | nil => intro xs hx _; exact ⟨[], by cases xs <;> simp_all, rfl⟩
    | cons b r ih =>
      intro xs hx hr
      cases xs with
      | nil => simp at hx
      | cons x xs =>
        obtain ⟨ss, h1, h2⟩ := ih xs (by simpa using hx) fun i hi => by simpa using hr (i + 1) (by simp; omega)
        have h0 := hr 0 (by simp)
        simp only [List.map_cons, List.getD_cons_zero] at h0
        obtain ⟨s, rfl, hs⟩ := h0.str_inv
        exact ⟨s :: ss, by simp [h1], by simp [hs, h2]⟩
  obtain ⟨ss, h1, h2⟩ := key l vs.toList (by simpa using hl.symm) fun i hi => by
    have := h i (by simpa using hi)
    simpa using this
  exact ⟨ss, by rw [← h1], h2⟩

theorem contains_eok (n : Nat) : EntryOK Tryd.prog env 131 (strings_Contains_en (calAt (n + 1))) := by
  intro us st
  unfold strings_Contains_en
  split
  · rename_i x0 x1
    refine .inr ⟨_, rfl, fun a ha => ?_⟩
    have ha : hk_contains x0 x1 = some a := ha
    unfold hk_contains at ha
    by_cases hs : x0.length < 4294967281
    · simp only [hs, decide_true, cond_true, Option.some.injEq] at ha
      subst ha
      intro imm loc w vs hG R hargs
      obtain ⟨ss, rfl, hss⟩ := str_args (l := [x0, x1]) hargs
      match ss, hss with
      | [s, sub], hss =>
        simp only [List.map_cons, List.map_nil, List.cons.injEq, and_true] at hss
        obtain ⟨rfl, rfl⟩ := hss
        obtain ⟨m, hm⟩ := hG.var 9 (List.mem_singleton.2 rfl : 9 ∈ [9])
        have hc := (R.claims _ _ hm).2
        refine .inl ⟨callFunc_enter (code := bodyOf Tryd.f131) Tryd.func131 (by kernel_rfl) (by kernel_rfl) _ _, (Tryd.strings_Contains s sub m w (by rw [Array.length_toList] at hs; exact hs) hc).mono fun e w' h => ?_⟩
        obtain ⟨rfl, rfl⟩ := h
        exact ⟨imm, loc, _, Evolve.refl _ _ _, R, .bool _, rfl⟩
    · simp only [hs, decide_false, cond_false] at ha
      cases ha
  · exact .inl rfl

theorem elem_cell {imm : Imm} {w : World} {S : Rows} {g : Nat} (hr : Rep imm noLoc (.elem S 0 0) (.pointer (some ⟨g, 0, none⟩))) (hc : ∀ a v, imm a = some v → a.spot = none ∧ w.cell? a = some v) {i j : Nat} {k : IntKind} {z : Int} (hi : i < S.len) (hj : j < S.width)
    (hrow : (S.row i).getD j .undef = .int k z) : w.cell? ⟨g, i * S.width + j, none⟩ = some (.int k z) := by
  obtain ⟨b, o, vals, he, _, h1, h2⟩ := hr.elem_inv
  simp only [Value.pointer.injEq, Option.some.injEq, Addr.mk.injEq, and_true] at he
  obtain ⟨rfl, h0⟩ := he
  have h0 : o = 0 := by omega
  subst h0
  have h3 := h2 i j hi hj
  rw [hrow] at h3
  have h4 := h1 i j hi hj
  rw [h3.int_inv] at h4
  simpa using (hc _ _ h4).2

def bytesOf : Option Rows → Bytes | some (.bytes l) => l | _ => []
def rowsOf : Option Rows → List (List Cell) | some (.tab _ l) => l | _ => []
def intU : U → Option Int | .int .u8 z => some z | _ => none
theorem intU_eq {u : U} {z : Int} (h : intU u = some z) : u = .int .u8 z := by
  unfold intU at h
  split at h
  · cases h; rfl
  · cases h

theorem utf8_tabs {imm : Imm} {w : World} (hG : GlobOK imm env) (hc : ∀ a v, imm a = some v → a.spot = none ∧ w.cell? a = some v) : Lib.Utf8Tabs 1 2 w := by
  have hF : look 1 env.globs = some (.bytes (bytesOf (look 1 env.globs))) := by kernel_rfl
  have hA : look 2 env.globs = some (.tab [.int .u8, .int .u8] (rowsOf (look 2 env.globs))) := by kernel_rfl
  have lF : (Rows.bytes (bytesOf (look 1 env.globs))).len = 256 := by kernel_rfl
  have lA : (Rows.tab [.int .u8, .int .u8] (rowsOf (look 2 env.globs))).len = 16 := by kernel_rfl
  have aF : ((List.range 256).all fun c => (intU (((Rows.bytes (bytesOf (look 1 env.globs))).row c).getD 0 .undef) == some (firstT c : Int))) = true := by kernel_rfl
  have aA : ((List.range 16).all fun c => (intU (((Rows.tab [.int .u8, .int .u8] (rowsOf (look 2 env.globs))).row c).getD 0 .undef) == some (accLo c : Int)) && (intU (((Rows.tab [.int .u8, .int .u8] (rowsOf (look 2 env.globs))).row c).getD 1 .undef) == some (accHi c : Int))) = true := by kernel_rfl
  simp only [List.all_eq_true, List.mem_range, Bool.and_eq_true, beq_iff_eq] at aF aA
  refine ⟨fun c h => ?_, fun i h => ⟨?_, ?_⟩⟩
  · have := elem_cell (hG.tab 1 _ hF noLoc) hc (i := c) (j := 0) (by rw [lF]; exact h) (by simp [Rows.width]) (intU_eq (aF c h))
    simpa [Rows.width] using this
  · have := elem_cell (hG.tab 2 _ hA noLoc) hc (i := i) (j := 0) (by rw [lA]; exact h) (by simp [Rows.width]) (intU_eq (aA i h).1)
    simpa [Rows.width, Nat.mul_comm] using this
  · have := elem_cell (hG.tab 2 _ hA noLoc) hc (i := i) (j := 1) (by rw [lA]; exact h) (by simp [Rows.width]) (intU_eq (aA i h).2)
    simpa [Rows.width, Nat.mul_comm] using this

theorem valid_eok (n : Nat) : EntryOK Tryd.prog env 150 (unicodeutf8_ValidString_en (calAt (n + 1))) := by
  intro us st
  unfold unicodeutf8_ValidString_en
  split
  · rename_i x0
    refine .inr ⟨_, rfl, fun a ha => ?_⟩
    have ha : hk_valid x0 = some a := ha
    unfold hk_valid at ha
    by_cases hs : x0.length ≤ 9223372036854775807
    · simp only [hs, decide_true, cond_true, Option.some.injEq] at ha
      subst ha
      intro imm loc w vs hG R hargs
      obtain ⟨ss, rfl, hss⟩ := str_args (l := [x0]) hargs
      match ss, hss with
      | [s], hss =>
        simp only [List.map_cons, List.map_nil, List.cons.injEq, and_true] at hss
        subst hss
        have hT : Lib.Utf8Tabs 1 2 w := utf8_tabs hG R.claims
        refine .inl ⟨callFunc_enter (code := bodyOf Tryd.f150) Tryd.func150 (by kernel_rfl) (by kernel_rfl) _ _, (Any.utf8_ValidString Tryd.laysValid s w (by rw [Array.length_toList] at hs; exact hs) hT).mono fun e w' h => ?_⟩
        obtain ⟨rfl, hb⟩ := h
        have hlt : ∀ a v, w.cell? a = some v → a.block < w.heap.size := fun a v h => by
          unfold World.cell? at h
          by_cases hh : a.block < w.heap.size
          · exact hh
          · rw [Array.getElem?_eq_none (by omega)] at h
            cases h
        have hno : loc = noLoc := funext fun i => locs_none R i
        subst hno
        refine ⟨imm, noLoc, _, ?_, ?_, .bool _, rfl⟩
        · exact { os := hb.os, tape := hb.tape, output := hb.output, size := hb.size, block := fun k hk _ => hb.block k hk, grow := fun _ _ h => h, claims := fun _ _ h => .inl h, own := fun _ _ _ h _ => (nomatch h), par := fun _ _ => .inl rfl }
        · exact { claims := fun a v h => ⟨(R.claims a v h).1, by rw [hb.cell (hlt a v (R.claims a v h).2)]; exact (R.claims a v h).2⟩, objs := fun _ _ h => (nomatch h), dom := fun _ _ h => (nomatch h), inj := R.inj, sep := R.sep }
    · simp only [hs, decide_false, cond_false] at ha
      cases ha
  · exact .inl rfl

theorem tab_all : ∀ n, TableOK Tryd.prog env (tab (calAt n)) := tab_ok contains_eok valid_eok

end Go.Abs

/- What a row of this seat gives a walk: the tables; and a world for the witness. -/
set_option maxRecDepth 100000
namespace Go.Proofs.YtfigbonpcodfpaaDoor
open Go Go.Abs Go.ChangeShapes Go.WideShapes Go.ChangeAt Go.RowKit Go.Lib

theorem own : ownKnob Tryd.prog.godebug = none := by kernel_rfl

theorem glob_ok {W : World} (hL : laidMetH Tryd.prog Rows.checkArityRow.laid W) (hS : W.ShapedOpen Tryd.prog) : GlobOK (immOf W) Abs.env := by
  refine globOK_of (tabs_cons (fun loc => ?_) (tabs_cons (fun loc => ?_) (tabs_cons (fun loc => ?_) (tabs_cons (fun loc => ?_) (tabs_cons (fun loc => ?_) (tabs_cons (fun loc => ?_) tabs_nil)))))) fun g hg => ?_
  · exact tab_rep (t := 117) (n := 35) (e := 116) (Lib.laidMet.reads hL (.tail _ (.tail _ (.tail _ (.tail _ (.head _)))))) (by kernel_rfl) (by kernel_rfl) (by kernel_rfl) (by kernel_rfl) loc
  · exact tab_rep (t := 149) (n := 16) (e := 148) (Lib.laidMet.reads hL (.head _)) (by kernel_rfl) (by kernel_rfl) (by kernel_rfl) (by kernel_rfl) loc
  · exact tab_rep (t := 157) (n := 15) (e := 156) (Lib.laidMet.reads hL (.tail _ (.head _))) (by kernel_rfl) (by kernel_rfl) (by kernel_rfl) (by kernel_rfl) loc
  · exact tab_rep (t := 158) (n := 5) (e := 156) (Lib.laidMet.reads hL (.tail _ (.tail _ (.head _)))) (by kernel_rfl) (by kernel_rfl) (by kernel_rfl) (by kernel_rfl) loc
  · exact tab_rep (t := 171) (n := 7) (e := 9) (Lib.laidMet.reads hL (.tail _ (.tail _ (.tail _ (.head _))))) (by kernel_rfl) (by kernel_rfl) (by kernel_rfl) (by kernel_rfl) loc
  · exact tab_rep (t := 145) (n := 256) (e := 5) (Lib.laidMet.reads hL (.tail _ (.tail _ (.tail _ (.tail _ (.tail _ (.head _))))))) (by kernel_rfl) (by kernel_rfl) (by kernel_rfl) (by kernel_rfl) loc
  · have hg : g ∈ [9] := hg
    obtain rfl := List.mem_singleton.1 hg
    obtain ⟨m, hm⟩ := cell_of_shapedOpen_int (g := 9) (t := 3) (zero := #[.int .i64 0]) (k := .i64) hS (Nat.le_of_ble_eq_true (by kernel_rfl)) (by kernel_rfl) (by kernel_rfl) (by kernel_rfl) (by kernel_rfl) (by kernel_rfl)
    exact ⟨m, by simp [immOf, hm]⟩

noncomputable def laidWorld (os : Os) : World :=
  { World.holding Tryd.prog os ⟨#[], #[], []⟩ with heap := putTabs Abs.env.globs (World.holding Tryd.prog os ⟨#[], #[], []⟩).heap }

theorem laid_met (os : Os) (args : Array Value) : laidMet Tryd.prog Rows.checkArityRow.laid ((laidWorld os).forCall (fun _ _ => 0) ⟨#[], args, []⟩).memory :=
  laidMet_of_run' 8 (by kernel_rfl) (by kernel_rfl)

end Go.Proofs.YtfigbonpcodfpaaDoor

