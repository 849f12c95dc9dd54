/- Soundness of the abstract machine, first part: what stands for what; operations that touch no memory. -/
import Derived.Test.YtfigbonpcodfpaaDoorAbsMach
import Derived.WalkKit
import Derived.Great.BuildSlice
set_option linter.unusedSimpArgs false
set_option linter.unusedVariables false
set_option linter.unusedSectionVars false
/- Soundness of the abstract machine, part 1: what an abstract value says of a value in memory; stores; how that goes on as the world does. -/
namespace Go.Abs
open Go

inductive Loc where
  | cells (b : Nat)
  | buf (b n cap : Nat) (e : TypeId)
  | full (a : Option Addr) (n : Nat)
  | iter (b : Nat)
  | map (b : Nat)

def Loc.block : Loc → Option Nat
  | .cells b => some b
  | .buf b _ _ _ => some b
  | .full _ _ => none
  | .iter b => some b
  | .map b => some b

abbrev Imm := Addr → Option Value
abbrev Locs := Nat → Option Loc

def U.ref? : U → Option Nat
  | .gsl id => some id
  | .ptr id _ => some id
  | .gelem id _ _ _ => some id
  | .map id => some id
  | .iter id => some id
  | _ => none

/-- what is still known of a reference to what is no more -/
def deadOK : U → Value → Prop
  | .ptr _ off, v => ∃ b, v = .pointer (some ⟨b, off, none⟩)
  | .gelem _ w i off, v => ∃ b o, v = .pointer (some ⟨b, o + i * w + off, none⟩)
  | .gsl _, v => ∃ a n cap, v = .slice a n cap
  | .map _, v => ∃ b, v = .map (some b)
  | .iter _, v => ∃ b, v = .pointer (some ⟨b, 0, none⟩)
  | _, _ => False

inductive Rep (imm : Imm) (loc : Locs) : U → Value → Prop where
  | undef (v : Value) : Rep imm loc .undef v
  | int (k : IntKind) (n : Int) : Rep imm loc (.int k n) (.int k n)
  | bool (b : Bool) : Rep imm loc (.bool b) (.bool b)
  | str (l : Bytes) (s : ByteArray) (h : s.data.toList = l) : Rep imm loc (.str l) (.string s)
  | agg (us : List U) (vs : Array Value) (hl : us.length = vs.size) (h : ∀ i, i < vs.size → Rep imm loc (us.getD i .undef) (vs.getD i undef)) : Rep imm loc (.agg us) (.agg vs)
  | tup (us : List U) (vs : Array Value) (hl : us.length = vs.size) (h : ∀ i, i < vs.size → Rep imm loc (us.getD i .undef) (vs.getD i undef)) : Rep imm loc (.tup us) (.tuple vs)
  | slice (S : Rows) (f : Bool) (a : Option Addr) (n cap : Nat) (vals : Nat → Nat → Value) (hn : n = S.len) (hf : f = true → cap = n) (hc : n ≤ cap)
      (ha : 0 < n → ∃ b o, a = some ⟨b, o, none⟩ ∧ ∀ i j, i < n → j < S.width → imm ⟨b, o + i * S.width + j, none⟩ = some (vals i j))
      (h : ∀ i j, i < n → j < S.width → Rep imm loc ((S.row i).getD j .undef) (vals i j)) : Rep imm loc (.slice S f) (.slice a n cap)
  | gsl (id b n cap : Nat) (e : TypeId) (h : loc id = some (.buf b n cap e)) : Rep imm loc (.gsl id) (.slice (some ⟨b, 0, none⟩) n cap)
  | gslF (id n : Nat) (a : Option Addr) (h : loc id = some (.full a n)) : Rep imm loc (.gsl id) (.slice a n n)
  | ptr (id off b : Nat) (h : loc id = some (.cells b)) : Rep imm loc (.ptr id off) (.pointer (some ⟨b, off, none⟩))
  | elem (S : Rows) (i off b o : Nat) (vals : Nat → Nat → Value) (hi : i < S.len)
      (ha : ∀ i j, i < S.len → j < S.width → imm ⟨b, o + i * S.width + j, none⟩ = some (vals i j))
      (h : ∀ i j, i < S.len → j < S.width → Rep imm loc ((S.row i).getD j .undef) (vals i j)) : Rep imm loc (.elem S i off) (.pointer (some ⟨b, o + i * S.width + off, none⟩))
  | gelem (id w i off b n cap : Nat) (e : TypeId) (h : loc id = some (.buf b n cap e)) : Rep imm loc (.gelem id w i off) (.pointer (some ⟨b, i * w + off, none⟩))
  | gelemF (id w i off b o n : Nat) (h : loc id = some (.full (some ⟨b, o, none⟩) n)) : Rep imm loc (.gelem id w i off) (.pointer (some ⟨b, o + i * w + off, none⟩))
  | nilp : Rep imm loc .nilp (.pointer none)
  | func (f : FuncId) (us cs : List U) (vs ws : Array Value) (hl : us.length = vs.size) (hk : cs.length = ws.size)
      (h : ∀ i, i < vs.size → Rep imm loc (us.getD i .undef) (vs.getD i Go.undef)) (h' : ∀ i, i < ws.size → Rep imm loc (cs.getD i .undef) (ws.getD i Go.undef)) : Rep imm loc (.func f us cs) (.func (.func f) vs ws)
  | iface (t : TypeId) (u : U) (v : Value) (h : Rep imm loc u v) : Rep imm loc (.iface t u) (.iface t v)
  | map (id b : Nat) (h : loc id = some (.map b)) : Rep imm loc (.map id) (.map (some b))
  | iter (id b : Nat) (h : loc id = some (.iter b)) : Rep imm loc (.iter id) (.pointer (some ⟨b, 0, none⟩))
  | dead (u : U) (v : Value) (id : Nat) (hu : u.ref? = some id) (hv : deadOK u v) (h : loc id = none) : Rep imm loc u v

/-! ### turning -/

theorem turns_length (f : Nat → To) : ∀ us : List U, (U.turns f us).length = us.length
  | [] => rfl
  | _ :: us => by simp [U.turns, turns_length f us]

theorem turns_getD (f : Nat → To) : ∀ (us : List U) (i : Nat), (U.turns f us).getD i .undef = (us.getD i .undef).turn f
  | [], i => by simp [U.turns, U.turn]
  | u :: us, 0 => by simp [U.turns]
  | u :: us, i + 1 => by simpa [U.turns] using turns_getD f us i

theorem weaks_length : ∀ us : List U, (U.weaks us).length = us.length
  | [] => rfl
  | _ :: us => by simp [U.weaks, weaks_length us]

theorem weaks_getD : ∀ (us : List U) (i : Nat), (U.weaks us).getD i .undef = (us.getD i .undef).weak
  | [], i => by simp [U.weaks, U.weak]
  | u :: us, 0 => by simp [U.weaks]
  | u :: us, i + 1 => by simpa [U.weaks] using weaks_getD us i

/-- what a turning must keep -/
def TurnOK (imm' : Imm) (loc loc' : Locs) (f : Nat → To) : Prop := ∀ id, match f id with
  | .same => loc' id = loc id ∨ loc' id = none
  | .gone => True
  | .id j => loc' j = loc id ∨ loc' j = none
  | .frozen S => match loc id with
    | some (.buf b n cap _) => Rep imm' loc' (.slice S false) (.slice (some ⟨b, 0, none⟩) n cap)
    | some (.full a n) => Rep imm' loc' (.slice S false) (.slice a n n)
    | some _ => True
    | none => False

theorem row_plain_ref (S : Rows) (i j : Nat) : ((S.row i).getD j .undef).ref? = none := by
  cases S <;> simp only [Rows.row]
  case tab sig l =>
    generalize l.getD i [] = r
    suffices h : ∀ (sig : List CK) (k j : Nat), ((tabCells r sig k).getD j U.undef).ref? = none from h sig 0 j
    intro sig
    induction sig with
    | nil => intro k j; simp [tabCells, U.ref?]
    | cons c sig ih => intro k j; cases c <;> (cases j with
      | zero => simp [tabCells, U.ref?]
      | succ j => simpa [tabCells] using ih (k + 1) j)
  all_goals (first
    | (rcases j with _ | j <;> simp [U.ref?] <;> done)
    | (rcases j with _ | _ | _ | _ | _ | _ | _ | j <;> simp [XE.cells, XN.cells, XT.cells, U.ref?] <;> done)
    | (rcases j with _ | _ | _ | _ | j <;> simp [XE.cells, XN.cells, XT.cells, U.ref?] <;> done))

/-- the cells of a row hold nothing that is turned -/
theorem row_turn (f : Nat → To) (S : Rows) (i j : Nat) : ((S.row i).getD j .undef).turn f = (S.row i).getD j .undef := by
  cases S <;> simp only [Rows.row]
  case tab sig l =>
    generalize l.getD i [] = r
    suffices h : ∀ (sig : List CK) (k j : Nat), ((tabCells r sig k).getD j U.undef).turn f = (tabCells r sig k).getD j U.undef from h sig 0 j
    intro sig
    induction sig with
    | nil => intro k j; simp [tabCells, U.turn]
    | cons c sig ih => intro k j; cases c <;> (cases j with
      | zero => simp [tabCells, U.turn]
      | succ j => simpa [tabCells] using ih (k + 1) j)
  all_goals (first
    | (rcases j with _ | j <;> simp [U.turn] <;> done)
    | (rcases j with _ | _ | _ | _ | _ | _ | _ | j <;> simp [XE.cells, XN.cells, XT.cells, U.turn] <;> done)
    | (rcases j with _ | _ | _ | _ | j <;> simp [XE.cells, XN.cells, XT.cells, U.turn] <;> done))

theorem Rep.turn {imm imm' : Imm} {loc loc' : Locs} {f : Nat → To} (hi : ∀ a v, imm a = some v → imm' a = some v) (hf : TurnOK imm' loc loc' f) {u : U} {v : Value}
    (h : Rep imm loc u v) : Rep imm' loc' (u.turn f) v := by
  induction h with
  | undef v => exact .undef v
  | int k n => exact .int k n
  | bool b => exact .bool b
  | str l s h => exact .str l s h
  | agg us vs hl _ ih => exact .agg _ _ (by rw [turns_length]; exact hl) fun i hlt => by rw [turns_getD]; exact ih i hlt
  | tup us vs hl _ ih => exact .tup _ _ (by rw [turns_length]; exact hl) fun i hlt => by rw [turns_getD]; exact ih i hlt
  | slice S b a n cap vals hn hf' hc ha _ ih =>
    refine .slice S b a n cap vals hn hf' hc (fun h0 => ?_) fun i j h1 h2 => by have := ih i j h1 h2; rwa [row_turn] at this
    obtain ⟨bb, o, e, h3⟩ := ha h0
    exact ⟨bb, o, e, fun i j h1 h2 => hi _ _ (h3 i j h1 h2)⟩
  | gsl id b n cap e h =>
    have := hf id
    simp only [U.turn]
    cases hfi : f id with
    | same => rw [hfi] at this; rcases this with h' | h'
              · exact .gsl id b n cap e (h'.trans h)
              · exact .dead _ _ id rfl ⟨_, _, _, rfl⟩ h'
    | gone => exact .undef _
    | id j => rw [hfi] at this; rcases this with h' | h'
              · exact .gsl j b n cap e (h'.trans h)
              · exact .dead _ _ j rfl ⟨_, _, _, rfl⟩ h'
    | frozen S => rw [hfi] at this; simp only [h] at this; exact this
  | gslF id n a h =>
    have := hf id
    simp only [U.turn]
    cases hfi : f id with
    | same => rw [hfi] at this; rcases this with h' | h'
              · exact .gslF id n a (h'.trans h)
              · exact .dead _ _ id rfl ⟨_, _, _, rfl⟩ h'
    | gone => exact .undef _
    | id j => rw [hfi] at this; rcases this with h' | h'
              · exact .gslF j n a (h'.trans h)
              · exact .dead _ _ j rfl ⟨_, _, _, rfl⟩ h'
    | frozen S => rw [hfi] at this; simp only [h] at this; exact this
  | ptr id off b h =>
    have := hf id
    simp only [U.turn]
    cases hfi : f id with
    | same => rw [hfi] at this; rcases this with h' | h'
              · exact .ptr id off b (h'.trans h)
              · exact .dead _ _ id rfl ⟨_, rfl⟩ h'
    | gone => exact .undef _
    | id j => rw [hfi] at this; rcases this with h' | h'
              · exact .ptr j off b (h'.trans h)
              · exact .dead _ _ j rfl ⟨_, rfl⟩ h'
    | frozen S => exact .undef _
  | elem S i off b o vals hi' ha _ ih =>
    exact .elem S i off b o vals hi' (fun i j h1 h2 => hi _ _ (ha i j h1 h2)) fun i j h1 h2 => by have := ih i j h1 h2; rwa [row_turn] at this
  | gelem id w i off b n cap e h =>
    have := hf id
    simp only [U.turn]
    cases hfi : f id with
    | same => rw [hfi] at this; rcases this with h' | h'
              · exact .gelem id w i off b n cap e (h'.trans h)
              · exact .dead _ _ id rfl ⟨b, 0, by simp⟩ h'
    | gone => exact .undef _
    | id j => rw [hfi] at this; rcases this with h' | h'
              · exact .gelem j w i off b n cap e (h'.trans h)
              · exact .dead _ _ j rfl ⟨b, 0, by simp⟩ h'
    | frozen S => exact .undef _
  | gelemF id w i off b o n h =>
    have := hf id
    simp only [U.turn]
    cases hfi : f id with
    | same => rw [hfi] at this; rcases this with h' | h'
              · exact .gelemF id w i off b o n (h'.trans h)
              · exact .dead _ _ id rfl ⟨_, _, rfl⟩ h'
    | gone => exact .undef _
    | id j => rw [hfi] at this; rcases this with h' | h'
              · exact .gelemF j w i off b o n (h'.trans h)
              · exact .dead _ _ j rfl ⟨_, _, rfl⟩ h'
    | frozen S => exact .undef _
  | nilp => exact .nilp
  | func g us cs vs ws hl hk _ _ ih ih' =>
    exact .func g _ _ vs ws (by rw [turns_length]; exact hl) (by rw [turns_length]; exact hk) (fun i hlt => by rw [turns_getD]; exact ih i hlt) (fun i hlt => by rw [turns_getD]; exact ih' i hlt)
  | iface t u v _ ih => exact .iface t _ v ih
  | map id b h =>
    have := hf id
    simp only [U.turn]
    cases hfi : f id with
    | same => rw [hfi] at this; rcases this with h' | h'
              · exact .map id b (h'.trans h)
              · exact .dead _ _ id rfl ⟨_, rfl⟩ h'
    | gone => exact .undef _
    | id j => rw [hfi] at this; rcases this with h' | h'
              · exact .map j b (h'.trans h)
              · exact .dead _ _ j rfl ⟨_, rfl⟩ h'
    | frozen S => exact .undef _
  | iter id b h =>
    have := hf id
    simp only [U.turn]
    cases hfi : f id with
    | same => rw [hfi] at this; rcases this with h' | h'
              · exact .iter id b (h'.trans h)
              · exact .dead _ _ id rfl ⟨_, rfl⟩ h'
    | gone => exact .undef _
    | id j => rw [hfi] at this; rcases this with h' | h'
              · exact .iter j b (h'.trans h)
              · exact .dead _ _ j rfl ⟨_, rfl⟩ h'
    | frozen S => exact .undef _
  | dead u v id hu hv h =>
    have := hf id
    cases u <;> simp only [U.ref?, Option.some.injEq, reduceCtorEq] at hu <;> subst hu <;> simp only [U.turn] <;> cases hfi : f _ <;> rw [hfi] at this <;>
      simp only [h] at this <;> first
      | exact this.elim
      | exact .undef _
      | (rcases this with h' | h' <;> exact .dead _ _ _ rfl (by simpa only [deadOK] using hv) h')

theorem turn_same : ∀ u : U, u.turn (fun _ => .same) = u := by
  intro u
  refine U.rec (motive_1 := fun u => u.turn (fun _ => .same) = u) (motive_2 := fun us => U.turns (fun _ => .same) us = us) ?_ ?_ ?_ ?_ ?_ ?_ ?_ ?_ ?_ ?_ ?_ ?_ ?_ ?_ ?_ ?_ ?_ ?_ u <;> intros <;> simp_all [U.turn, U.turns]

theorem Rep.mono {imm imm' : Imm} {loc loc' : Locs} (hi : ∀ a v, imm a = some v → imm' a = some v) (hl : ∀ id, loc' id = loc id ∨ loc' id = none) {u : U} {v : Value}
    (h : Rep imm loc u v) : Rep imm' loc' u v := by
  have := h.turn (f := fun _ => .same) hi (fun id => hl id)
  rwa [turn_same] at this

theorem row_weak (S : Rows) (i j : Nat) : ((S.row i).getD j .undef).weak = (S.row i).getD j .undef := by
  cases S <;> simp only [Rows.row]
  case tab sig l =>
    generalize l.getD i [] = r
    suffices h : ∀ (sig : List CK) (k j : Nat), ((tabCells r sig k).getD j U.undef).weak = (tabCells r sig k).getD j U.undef from h sig 0 j
    intro sig
    induction sig with
    | nil => intro k j; simp [tabCells, U.weak]
    | cons c sig ih => intro k j; cases c <;> (cases j with
      | zero => simp [tabCells, U.weak]
      | succ j => simpa [tabCells] using ih (k + 1) j)
  all_goals (first
    | (rcases j with _ | j <;> simp [U.weak] <;> done)
    | (rcases j with _ | _ | _ | _ | _ | _ | _ | j <;> simp [XE.cells, XN.cells, XT.cells, U.weak] <;> done)
    | (rcases j with _ | _ | _ | _ | j <;> simp [XE.cells, XN.cells, XT.cells, U.weak] <;> done))

theorem Rep.weak {imm : Imm} {loc : Locs} {u : U} {v : Value} (h : Rep imm loc u v) : Rep imm loc u.weak v := by
  induction h with
  | undef v => exact .undef v
  | int k n => exact .int k n
  | bool b => exact .bool b
  | str l s h => exact .str l s h
  | agg us vs hl _ ih => exact .agg _ _ (by rw [weaks_length]; exact hl) fun i hlt => by rw [weaks_getD]; exact ih i hlt
  | tup us vs hl _ ih => exact .tup _ _ (by rw [weaks_length]; exact hl) fun i hlt => by rw [weaks_getD]; exact ih i hlt
  | slice S b a n cap vals hn hf' hc ha h ih => exact .slice S false a n cap vals hn (by simp) hc ha h
  | gsl id b n cap e h => exact .gsl id b n cap e h
  | gslF id n a h => exact .gslF id n a h
  | ptr id off b h => exact .ptr id off b h
  | elem S i off b o vals hi' ha h ih => exact .elem S i off b o vals hi' ha h
  | gelem id w i off b n cap e h => exact .gelem id w i off b n cap e h
  | gelemF id w i off b o n h => exact .gelemF id w i off b o n h
  | nilp => exact .nilp
  | func g us cs vs ws hl hk _ _ ih ih' =>
    exact .func g _ _ vs ws (by rw [weaks_length]; exact hl) (by rw [weaks_length]; exact hk) (fun i hlt => by rw [weaks_getD]; exact ih i hlt) (fun i hlt => by rw [weaks_getD]; exact ih' i hlt)
  | iface t u v _ ih => exact .iface t _ v ih
  | map id b h => exact .map id b h
  | iter id b h => exact .iter id b h
  | dead u v id hu hv h => cases u <;> simp only [U.ref?, Option.some.injEq, reduceCtorEq] at hu <;> subst hu <;> exact .dead _ _ _ rfl (by simpa only [U.weak, deadOK] using hv) h

end Go.Abs

/- Soundness of the abstract machine, part 2: stores against worlds; what an effect does to them. -/
namespace Go.Abs
open Go

abbrev Lk := Nat → Option AObj

inductive ObjRel (imm : Imm) (loc : Locs) (w : World) : AObj → Loc → Prop where
  | cells (us : List U) (b : Nat) (c : Array Value) (e : TypeId) (hb : w.heap[b]? = some (.cells c e (0, 0))) (hs : c.size = us.length)
      (h : ∀ i, i < c.size → Rep imm loc (us.getD i .undef) (c.getD i undef)) : ObjRel imm loc w (.cells us) (.cells b)
  | buf (S : Rows) (wr : Bool) (b n cap : Nat) (e : TypeId) (c : Array Value) (hb : w.heap[b]? = some (.cells c e (0, 0))) (hn : n = S.len) (hc : n ≤ cap) (hs : c.size = cap * S.width)
      (h : ∀ i j, i < n → j < S.width → Rep imm loc ((S.row i).getD j .undef) (c.getD (i * S.width + j) undef)) : ObjRel imm loc w (.gbuf S wr) (.buf b n cap e)
  | full (S : Rows) (wr : Bool) (a : Option Addr) (n : Nat) (hr : Rep imm loc (.slice S true) (.slice a n n)) (hw : wr = true → n = 0) : ObjRel imm loc w (.gbuf S wr) (.full a n)
  | iter (s : Bytes) (pos b : Nat) (bs : ByteArray) (hb : w.heap[b]? = some (.stringIter bs pos)) (hs : bs.data.toList = s) : ObjRel imm loc w (.iter s pos) (.iter b)
  | map (sig : List CK) (es : List (Bytes × List Cell)) (b : Nat) (ms : Array MapEntry) (clock : Nat) (hb : w.heap[b]? = some (.map ms clock)) (hs : ms.size = es.length)
      (h : ∀ i, i < ms.size → ∃ k v, es[i]? = some (k, v) ∧ (∃ ks : ByteArray, (ms.getD i default).key = .string ks ∧ ks.data.toList = k) ∧
        ((ms.getD i default).val.cells.size = sig.length ∧ ∀ j, j < sig.length → Rep imm loc ((tabCells v sig 0).getD j .undef) ((ms.getD i default).val.cells.getD j undef))) : ObjRel imm loc w (.map sig es) (.map b)

structure Rel (imm : Imm) (loc : Locs) (lk : Lk) (w : World) : Prop where
  claims : ∀ a v, imm a = some v → a.spot = none ∧ w.cell? a = some v
  objs : ∀ id o, lk id = some o → ∃ l, loc id = some l ∧ ObjRel imm loc w o l
  dom : ∀ id l, loc id = some l → ∃ o, lk id = some o
  inj : ∀ i j l m b, loc i = some l → loc j = some m → l.block = some b → m.block = some b → i = j
  sep : ∀ i l b, loc i = some l → l.block = some b → ∀ a v, imm a = some v → a.block ≠ b

structure Evolve (imm : Imm) (loc : Locs) (w : World) (imm' : Imm) (loc' : Locs) (w' : World) : Prop where
  os : w'.os = w.os
  tape : w'.tape = w.tape
  output : w'.output = w.output
  size : w.heap.size ≤ w'.heap.size
  block : ∀ b, b < w.heap.size → (∀ i l, loc i = some l → l.block ≠ some b) → w'.heap[b]? = w.heap[b]?
  grow : ∀ a v, imm a = some v → imm' a = some v
  claims : ∀ a v, imm' a = some v → imm a = some v ∨ (∃ i l, loc i = some l ∧ l.block = some a.block) ∨ w.heap.size ≤ a.block
  own : ∀ i l b, loc' i = some l → l.block = some b → (∃ j m, loc j = some m ∧ m.block = some b) ∨ w.heap.size ≤ b
  par : ∀ i, notParam i = false → loc' i = loc i ∨ loc' i = none

theorem Evolve.refl (imm : Imm) (loc : Locs) (w : World) : Evolve imm loc w imm loc w :=
  ⟨rfl, rfl, rfl, Nat.le_refl _, fun _ _ _ => rfl, fun _ _ h => h, fun _ _ h => .inl h, fun i l _ h h' => .inl ⟨i, l, h, h'⟩, fun _ _ => .inl rfl⟩

theorem Evolve.trans {imm imm' imm'' : Imm} {loc loc' loc'' : Locs} {w w' w'' : World} (h : Evolve imm loc w imm' loc' w') (h' : Evolve imm' loc' w' imm'' loc'' w'') :
    Evolve imm loc w imm'' loc'' w'' where
  os := h'.os.trans h.os
  tape := h'.tape.trans h.tape
  output := h'.output.trans h.output
  size := Nat.le_trans h.size h'.size
  block b hb hn := by
    refine (h'.block b (Nat.lt_of_lt_of_le hb h.size) fun i l hl hbl => ?_).trans (h.block b hb hn)
    rcases h.own i l b hl hbl with ⟨j, m, hj, hm⟩ | hge
    · exact hn j m hj hm
    · omega
  grow a v ha := h'.grow a v (h.grow a v ha)
  claims a v ha := by
    rcases h'.claims a v ha with h1 | ⟨i, l, hl, hb⟩ | h1
    · exact h.claims a v h1
    · rcases h.own i l a.block hl hb with h2 | h2
      · exact .inr (.inl h2)
      · exact .inr (.inr h2)
    · exact .inr (.inr (Nat.le_trans h.size h1))
  own i l b hl hb := by
    rcases h'.own i l b hl hb with ⟨j, m, hj, hm⟩ | h1
    · exact h.own j m b hj hm
    · exact .inr (Nat.le_trans h.size h1)
  par i hi := by
    rcases h'.par i hi with h1 | h1
    · rcases h.par i hi with h2 | h2
      · exact .inl (h1.trans h2)
      · exact .inr (h1.trans h2)
    · exact .inr h1

theorem ObjRel.block_lt {imm : Imm} {loc : Locs} {w : World} {o : AObj} {l : Loc} (h : ObjRel imm loc w o l) {b : Nat} (hb : l.block = some b) : b < w.heap.size := by
  cases h <;> simp only [Loc.block, Option.some.injEq, reduceCtorEq] at hb <;> subst hb <;>
    exact (Array.getElem?_eq_some_iff.1 (by assumption)).1

theorem Rel.block_lt {imm : Imm} {loc : Locs} {lk : Lk} {w : World} (R : Rel imm loc lk w) {i : Nat} {l : Loc} {b : Nat} (hl : loc i = some l) (hb : l.block = some b) : b < w.heap.size := by
  obtain ⟨o, ho⟩ := R.dom i l hl
  obtain ⟨m, hm, hr⟩ := R.objs i o ho
  rw [hl] at hm
  obtain rfl := Option.some.inj hm
  exact hr.block_lt hb

theorem Rel.claim_lt {imm : Imm} {loc : Locs} {lk : Lk} {w : World} (R : Rel imm loc lk w) {a : Addr} {v : Value} (h : imm a = some v) : a.block < w.heap.size := by
  have := (R.claims a v h).2
  unfold World.cell? at this
  split at this
  · rename_i hh; exact (Array.getElem?_eq_some_iff.1 hh).1
  · cases this

theorem cell?_of_heap {w w' : World} {a : Addr} (h : w'.heap[a.block]? = w.heap[a.block]?) : w'.cell? a = w.cell? a := by simp [World.cell?, h]

/-! ### turning objects -/

def turnLk (tn : List (Nat × To)) (lk : Lk) : Lk := fun i => (lk i).map (AObj.turn (asTo tn))

theorem AObj.turn_same (o : AObj) : o.turn (fun _ => .same) = o := by
  cases o <;> simp only [AObj.turn]
  case cells us =>
    congr 1
    induction us with
    | nil => rfl
    | cons u us ih => simp [U.turns, ih, Go.Abs.turn_same]

theorem ObjRel.turn {imm imm' : Imm} {loc loc' : Locs} {w w' : World} {f : Nat → To} (hi : ∀ a v, imm a = some v → imm' a = some v) (hf : TurnOK imm' loc loc' f) {o : AObj} {l : Loc}
    (h : ObjRel imm loc w o l) (hb : ∀ b, l.block = some b → w'.heap[b]? = w.heap[b]?) : ObjRel imm' loc' w' (o.turn f) l := by
  have hrow : ∀ (S : Rows) (i j : Nat) (v : Value), Rep imm loc ((S.row i).getD j .undef) v → Rep imm' loc' ((S.row i).getD j .undef) v := fun S i j v h => by
    have := h.turn hi hf; rwa [row_turn] at this
  cases h with
  | cells us b c e h1 h2 h3 => exact .cells _ b c e ((hb b rfl).trans h1) (by rw [turns_length]; exact h2) fun i hlt => by rw [turns_getD]; exact (h3 i hlt).turn hi hf
  | buf S wr b n cap e c h1 h2 h3 h4 h5 => exact .buf S wr b n cap e c ((hb b rfl).trans h1) h2 h3 h4 fun i j hx hy => hrow S i j _ (h5 i j hx hy)
  | full S wr a n h1 h2 => exact .full S wr a n (by have := h1.turn hi hf; simpa only [U.turn] using this) h2
  | iter s pos b bs h1 h2 => exact .iter s pos b bs ((hb b rfl).trans h1) h2
  | map sig es b ms clock h1 h2 h3 =>
    refine .map sig es b ms clock ((hb b rfl).trans h1) h2 fun i hlt => ?_
    obtain ⟨k, v, hk, hkey, hsz, hv⟩ := h3 i hlt
    refine ⟨k, v, hk, hkey, hsz, fun j hj => ?_⟩
    have h6 := hrow (.tab sig [v]) 0 j ((ms.getD i default).val.cells.getD j undef)
    simpa [Rows.row] using h6 (by simpa [Rows.row] using hv j hj)

theorem ObjRel.weak {imm : Imm} {loc : Locs} {w : World} {o : AObj} {l : Loc} (h : ObjRel imm loc w o l) : ObjRel imm loc w o.weak l := by
  cases h with
  | cells us b c e h1 h2 h3 => exact .cells _ b c e h1 (by rw [weaks_length]; exact h2) fun i hlt => by rw [weaks_getD]; exact (h3 i hlt).weak
  | buf S wr b n cap e c h1 h2 h3 h4 h5 => exact .buf S wr b n cap e c h1 h2 h3 h4 h5
  | full S wr a n h1 h2 => exact .full S wr a n h1 h2
  | iter s pos b bs h1 h2 => exact .iter s pos b bs h1 h2
  | map sig es b ms clock h1 h2 h3 => exact .map sig es b ms clock h1 h2 h3

/-! ### writing -/

def setLk (lk : Lk) : List (Nat × Option AObj) → Lk
  | [] => lk
  | (i, o) :: r => setLk (fun j => if j = i then o else lk j) r

def effLk (tn : List (Nat × To)) (sets : List (Nat × Option AObj)) (lk : Lk) : Lk := setLk (turnLk tn lk) sets

theorem beq_false_of_ne {i j : Nat} (h : i ≠ j) : Nat.beq i j = false := Bool.eq_false_iff.2 fun hb => h (Nat.eq_of_beq_eq_true hb)

theorem look_drop1 {α : Type} (k j : Nat) : ∀ l : List (Nat × α), look j (drop1 k l) = if j = k then none else look j l
  | [] => by simp [drop1, look]
  | (i, a) :: r => by
    simp only [drop1, look]
    by_cases h : i = k
    · subst h
      simp only [Nat.beq_refl, cond_true, look_drop1]
      by_cases hj : j = i
      · simp [hj]
      · simp [hj, beq_false_of_ne (Ne.symm hj)]
    · rw [beq_false_of_ne h]
      simp only [cond_false, look, look_drop1]
      by_cases hj : i = j
      · subst hj; simp [h]
      · simp [beq_false_of_ne hj]

theorem look_repl {α : Type} (k j : Nat) (x : α) : ∀ l : List (Nat × α), look j (repl k x l) = if j = k then (look k l).map fun _ => x else look j l
  | [] => by simp [repl, look]
  | (i, a) :: r => by
    simp only [repl, look]
    by_cases h : i = k
    · subst h
      simp only [Nat.beq_refl, cond_true, look]
      by_cases hj : j = i
      · simp [hj]
      · simp [hj, beq_false_of_ne (Ne.symm hj)]
    · rw [beq_false_of_ne h]
      simp only [cond_false, look, look_repl]
      by_cases hj : i = j
      · subst hj; simp [h]
      · simp [beq_false_of_ne hj]

theorem look_append {α : Type} (j : Nat) : ∀ l m : List (Nat × α), look j (l ++ m) = (look j l).or (look j m)
  | [], m => by simp [look]
  | (i, a) :: r, m => by
    simp only [List.cons_append, look]
    cases Nat.beq i j <;> simp [look_append j r m]

theorem look_setOne (st : St) (i : Nat) (o : AObj) (j : Nat) : look j (setOne st i o) = if j = i then some o else look j st := by
  unfold setOne
  cases h : look i st with
  | some x => simp only [look_repl, h, Option.map_some]
  | none =>
    simp only [look_append]
    by_cases hj : j = i
    · subst hj; simp [h, look]
    · simp [hj, look, beq_false_of_ne (Ne.symm hj)]

theorem look_setSt : ∀ (sets : List (Nat × Option AObj)) (st : St), (fun j => look j (setSt st sets)) = setLk (fun j => look j st) sets
  | [], _ => rfl
  | (i, none) :: r, st => by
    simp only [setSt, setLk]
    rw [look_setSt r]
    congr 1
    funext j
    rw [look_drop1]
  | (i, some o) :: r, st => by
    simp only [setSt, setLk]
    rw [look_setSt r]
    congr 1
    funext j
    rw [look_setOne]

theorem look_turnSt (f : Nat → To) (j : Nat) : ∀ st : St, look j (turnSt f st) = (look j st).map (AObj.turn f)
  | [] => rfl
  | (i, o) :: r => by
    simp only [turnSt, look]
    cases Nat.beq i j <;> simp [look_turnSt f j r]

theorem look_turnSt' (tn : List (Nat × To)) (st : St) : (fun j => look j (turnSt' tn st)) = turnLk tn (fun j => look j st) := by
  funext j
  cases tn with
  | nil =>
    simp only [turnSt', turnLk]
    have : asTo [] = fun _ => To.same := by funext i; rfl
    rw [this]
    cases look j st with
    | none => rfl
    | some o => simp [AObj.turn_same]
  | cons t r => simp only [turnSt', turnLk, look_turnSt]

theorem look_eff (tn : List (Nat × To)) (sets : List (Nat × Option AObj)) (st : St) : (fun j => look j (setSt (turnSt' tn st) sets)) = effLk tn sets (fun j => look j st) := by
  rw [look_setSt, look_turnSt', effLk]

/-! ### frames -/

structure FrRel (imm : Imm) (loc : Locs) (fr : Fr) (a : Act) : Prop where
  get : ∀ t u, look t fr = some u → t < a.tmps.size ∧ Rep imm loc u (a.tmps.getD t undef)

theorem look_turnFr (f : Nat → To) (j : Nat) : ∀ fr : Fr, look j (turnFr f fr) = (look j fr).map (U.turn f)
  | [] => rfl
  | (i, o) :: r => by
    simp only [turnFr, look]
    cases Nat.beq i j <;> simp [look_turnFr f j r]

theorem look_turnFr' (tn : List (Nat × To)) (fr : Fr) (j : Nat) : look j (turnFr' tn fr) = (look j fr).map (U.turn (asTo tn)) := by
  cases tn with
  | nil =>
    simp only [turnFr']
    have : asTo [] = fun _ => To.same := by funext i; rfl
    rw [this]
    cases look j fr with
    | none => rfl
    | some o => simp [Go.Abs.turn_same]
  | cons t r => simp only [turnFr', look_turnFr]

theorem FrRel.turn {imm imm' : Imm} {loc loc' : Locs} {fr : Fr} {a : Act} (h : FrRel imm loc fr a) (hi : ∀ a v, imm a = some v → imm' a = some v) {tn : List (Nat × To)} (hf : TurnOK imm' loc loc' (asTo tn)) :
    FrRel imm' loc' (turnFr' tn fr) a where
  get t u hu := by
    rw [look_turnFr'] at hu
    obtain ⟨x, hx, rfl⟩ := Option.map_eq_some_iff.1 hu
    exact ⟨(h.get t x hx).1, (h.get t x hx).2.turn hi hf⟩

theorem FrRel.put {imm : Imm} {loc : Locs} {fr : Fr} {a : Act} (h : FrRel imm loc fr a) (d : Option Tmp) (u : U) (v : Value) (hd : ∀ t, d = some t → t < a.tmps.size) (hv : Rep imm loc u v) :
    FrRel imm loc (putD d u fr) (a.put d v) where
  get t x hx := by
    cases d with
    | none => exact h.get t x hx
    | some d =>
      simp only [putD, Go.Abs.put, look] at hx
      simp only [Act.put]
      by_cases hdt : d = t
      · subst hdt
        simp only [Nat.beq_refl, cond_true, Option.some.injEq] at hx
        subst hx
        have hlt := hd d rfl
        exact ⟨by simpa using hlt, by simp [hlt]; exact hv⟩
      · rw [beq_false_of_ne hdt] at hx
        simp only [cond_false, look_drop1] at hx
        rw [if_neg (Ne.symm hdt)] at hx
        obtain ⟨h1, h2⟩ := h.get t x hx
        exact ⟨by simpa using h1, by simpa [Array.getElem?_setIfInBounds_ne hdt] using h2⟩

/-! ### an effect -/

def keysS (sets : List (Nat × Option AObj)) : List Nat := sets.map (·.1)

theorem setLk_not_mem (i : Nat) : ∀ (sets : List (Nat × Option AObj)) (lk : Lk), i ∉ keysS sets → setLk lk sets i = lk i
  | [], _, _ => rfl
  | (j, o) :: r, lk, h => by
    simp only [keysS, List.map_cons, List.mem_cons, not_or] at h
    simp only [setLk]
    rw [setLk_not_mem i r _ h.2, if_neg h.1]

theorem Rel.eff {imm imm' : Imm} {loc loc' : Locs} {lk : Lk} {w w' : World} {tn : List (Nat × To)} {sets : List (Nat × Option AObj)} (R : Rel imm loc lk w)
    (hev : Evolve imm loc w imm' loc' w')
    (hnew : ∀ a v, imm' a = some v → imm a = some v ∨ (a.spot = none ∧ w'.cell? a = some v))
    (hloc : ∀ id, id ∉ keysS sets → loc' id = loc id)
    (hsame : ∀ id l b, id ∉ keysS sets → loc id = some l → l.block = some b → w'.heap[b]? = w.heap[b]?)
    (hturn : TurnOK imm' loc loc' (asTo tn))
    (hset : ∀ id, id ∈ keysS sets → match setLk (turnLk tn lk) sets id with | some o => ∃ l, loc' id = some l ∧ ObjRel imm' loc' w' o l | none => loc' id = none)
    (hinj : ∀ i j l m b, i ∈ keysS sets → loc' i = some l → loc' j = some m → l.block = some b → m.block = some b → i = j)
    (hsep : ∀ i l b, loc' i = some l → l.block = some b → ∀ a v, imm' a = some v → imm a = none → a.block ≠ b)
    (hold : ∀ i l b, i ∈ keysS sets → loc' i = some l → l.block = some b → ∀ a v, imm a = some v → a.block ≠ b) : Rel imm' loc' (effLk tn sets lk) w' where
  claims a v h := by
    rcases hnew a v h with h1 | h1
    · refine ⟨(R.claims a v h1).1, ?_⟩
      rw [cell?_of_heap (hev.block a.block (R.claim_lt h1) fun i l hl hb => R.sep i l _ hl hb a v h1 rfl)]
      exact (R.claims a v h1).2
    · exact h1
  objs id o ho := by
    by_cases hk : id ∈ keysS sets
    · have := hset id hk
      unfold effLk at ho
      rw [ho] at this
      exact this
    · unfold effLk at ho
      rw [setLk_not_mem id sets _ hk] at ho
      obtain ⟨x, hx, rfl⟩ := Option.map_eq_some_iff.1 ho
      obtain ⟨l, hl, hr⟩ := R.objs id x hx
      exact ⟨l, (hloc id hk).trans hl, hr.turn hev.grow hturn fun b hb => hsame id l b hk hl hb⟩
  dom id l hl := by
    by_cases hk : id ∈ keysS sets
    · have := hset id hk
      unfold effLk
      cases hx : setLk (turnLk tn lk) sets id with
      | some o => exact ⟨o, rfl⟩
      | none => rw [hx] at this; simp only at this; rw [this] at hl; cases hl
    · rw [hloc id hk] at hl
      obtain ⟨o, ho⟩ := R.dom id l hl
      unfold effLk
      rw [setLk_not_mem id sets _ hk, turnLk, ho]
      exact ⟨_, rfl⟩
  inj i j l m b hi hj hl hm := by
    by_cases hki : i ∈ keysS sets
    · exact hinj i j l m b hki hi hj hl hm
    · by_cases hkj : j ∈ keysS sets
      · exact (hinj j i m l b hkj hj hi hm hl).symm
      · rw [hloc i hki] at hi; rw [hloc j hkj] at hj
        exact R.inj i j l m b hi hj hl hm
  sep i l b hi hb a v ha := by
    cases h0 : imm a with
    | none => exact hsep i l b hi hb a v ha h0
    | some x =>
      have hx := hev.grow a x h0
      by_cases hki : i ∈ keysS sets
      · exact hold i l b hki hi hb a x h0
      · rw [hloc i hki] at hi
        exact R.sep i l b hi hb a x h0

end Go.Abs

/- Soundness of the abstract machine, part 3: what the machine knows of the program; operands; operations that leave the store alone. -/
namespace Go.Abs
open Go

def descAgg : TypeDesc → Bool
  | .struct _ => true
  | .array _ _ => true
  | _ => false

def RepC (u : U) (v : Value) : Prop := ∀ imm loc, Rep imm loc u v

def KindOK (P : Program) (t : TypeId) : Nat → Prop
  | 0 => P.underlying t = some .bool
  | 1 => P.underlying t = some .string
  | 3 => ∃ e, P.underlying t = some (.pointer e)
  | _ => True

def CKOK (P : Program) (t : TypeId) : CK → Prop
  | .int _ => ∃ k, P.underlying t = some (.int k)
  | .bool => P.underlying t = some .bool
  | .str => P.underlying t = some .string

/-- a struct's fields, one cell each, in order -/
def FieldsOK (P : Program) : List CK → List Field → Nat → Prop
  | [], [], _ => True
  | c :: sig, f :: fs, n => f.name ≠ "_" ∧ f.offset = n ∧ CKOK P f.type c ∧ FieldsOK P sig fs (n + 1)
  | _, _, _ => False

structure EnvOK (P : Program) (e : Env) : Prop where
  mixed : P.follows .mixedOrders = true
  tys : ∀ t ti, look t e.tys = some ti → ∃ i d, P.info? t = some i ∧ i.size = ti.size ∧ P.underlying t = some d ∧ descAgg d = ti.agg ∧ (ti.agg = false → ti.size = 1)
  fields : ∀ t fs, look t e.fields = some fs → ∃ Fs, P.underlying t = some (.struct Fs) ∧ (fs = Fs.toList.map fun f => (f.offset, f.type)) ∧ ∀ f ∈ Fs.toList, ∃ i, P.info? f.type = some i
  arrs : ∀ t n et, look t e.arrs = some (n, et) → P.underlying t = some (.array n et)
  zeros : ∀ t us, look t e.zeros = some us → ∃ i z, P.info? t = some i ∧ i.zero = some z ∧ z.cells.size = us.length ∧ ∀ j, j < us.length → RepC (us.getD j .undef) (z.cells.getD j undef)
  elems : ∀ t et k, look t e.elems = some (et, k) → P.underlying t = some (.slice et) ∧ ∃ i z, P.info? et = some i ∧ i.zero = some z ∧ z.cells.size = k.width ∧ i.size = k.width ∧ 0 < k.width ∧ i.bytes ≤ 128 ∧
    (k = .bytes → P.underlying et = some (.int .u8))
  eqs : ∀ t sig, look t e.eqs = some sig → ∃ Fs, P.underlying t = some (.struct Fs) ∧ FieldsOK P sig Fs.toList 0 ∧ P.stoodInHeld t = false ∧ P.eqGuardType P.depth t = false
  kinds : ∀ t k, look t e.kinds = some k → KindOK P t k
  ints : ∀ t k, look t e.ints = some k → P.underlying t = some (.int k)
  maps : ∀ t et sig, look t e.maps = some (et, sig) → (∃ kt, P.underlying t = some (.map kt et) ∧ P.underlying kt = some .string) ∧ ∃ i z, P.info? et = some i ∧ i.zero = some z ∧ z.cells.size = sig.length ∧
    ∀ j, j < sig.length → RepC ((tabCells [] sig 0).getD j .undef) (z.cells.getD j undef)

/-- the tables that are variables; variables that hold some number -/
structure GlobOK (imm : Imm) (e : Env) : Prop where
  tab : ∀ g S, look g e.globs = some S → ∀ loc, Rep imm loc (.elem S 0 0) (.pointer (some ⟨g, 0, none⟩))
  var : ∀ g, g ∈ e.vars → ∃ m : Int, imm ⟨g, 0, none⟩ = some (.int .i64 m)

theorem GlobOK.mono {imm imm' : Imm} {e : Env} (h : GlobOK imm e) (hi : ∀ a v, imm a = some v → imm' a = some v) : GlobOK imm' e :=
  ⟨fun g S hg loc => (h.tab g S hg loc).mono hi fun _ => .inl rfl, fun g hg => by obtain ⟨m, hm⟩ := h.var g hg; exact ⟨m, hi _ _ hm⟩⟩

theorem repEmpty (imm : Imm) (loc : Locs) (k : RowKind) : Rep imm loc (.slice (Rows.empty k) true) (.slice none 0 0) :=
  .slice _ _ none 0 0 (fun _ _ => undef) (by cases k <;> rfl) (fun _ => rfl) (Nat.le_refl _) (fun h => absurd h (Nat.lt_irrefl _)) fun _ _ h => absurd h (Nat.not_lt_zero _)

theorem constCell_rep (v : Value) (u : U) : RepC (constCell v u) v := by
  intro imm loc
  unfold constCell
  split
  · exact .bool _
  · exact .int _ _
  · exact .str _ _ rfl
  · exact .nilp
  · rename_i S
    cases h : S.len with
    | zero => exact .slice _ _ none 0 0 (fun _ _ => undef) h.symm (fun _ => rfl) (Nat.le_refl _) (fun h => absurd h (Nat.lt_irrefl _)) fun _ _ h => absurd h (Nat.not_lt_zero _)
    | succ n => exact .undef _
  · exact .undef _

theorem constCells_length : ∀ (vs : List Value) (us : List U), vs.length = us.length → (constCells vs us).length = vs.length
  | [], us, _ => by cases us <;> rfl
  | v :: vs, [], h => by simp at h
  | v :: vs, u :: us, h => by simp only [constCells, List.length_cons]; rw [constCells_length vs us (by simpa using h)]

theorem constCells_getD : ∀ (vs : List Value) (us : List U), vs.length = us.length → ∀ i, i < vs.length → (constCells vs us).getD i .undef = constCell (vs.getD i undef) (us.getD i .undef)
  | [], us, _, i, h => absurd h (Nat.not_lt_zero _)
  | v :: vs, [], h, _, _ => by simp at h
  | v :: vs, u :: us, h, 0, _ => by simp [constCells]
  | v :: vs, u :: us, h, i + 1, hi => by
    simp only [constCells, List.getD_cons_succ]
    exact constCells_getD vs us (by simpa using h) i (by simpa using hi)

section
variable {P : Program} {e : Env} (E : EnvOK P e)
include E

omit E in
theorem nilSlice_rep (t : TypeId) : RepC (nilSlice e t) (.slice none 0 0) := by
  intro imm loc
  unfold nilSlice
  split
  · exact repEmpty imm loc _
  · exact .undef _

theorem ofConst_rep (t : TypeId) (v : Value) : RepC (ofConst e t v) v := by
  have _ := E
  intro imm loc
  unfold ofConst
  split
  · rename_i cs
    split
    · rename_i us hz
      cases hb : Nat.beq cs.size us.length with
      | false => exact .undef _
      | true =>
        have hl : cs.toList.length = us.length := by simpa using Nat.eq_of_beq_eq_true hb
        refine .agg _ _ ?_ fun i hi => ?_
        · rw [constCells_length _ _ hl]; simp
        · rw [constCells_getD _ _ hl i (by simpa using hi)]
          have : cs.toList.getD i undef = cs.getD i undef := by simp
          rw [this]
          exact constCell_rep _ _ imm loc
    · exact .undef _
  · exact .bool _
  · exact .int _ _
  · exact .str _ _ rfl
  · exact .nilp
  · exact nilSlice_rep t imm loc
  · exact .undef _

theorem evalO_rep {imm : Imm} {loc : Locs} {fr : Fr} {a : Act} (hg : GlobOK imm e) (hf : FrRel imm loc fr a) (t : TypeId) (x : Operand) : Rep imm loc (evalO e t fr x) (a.eval x) := by
  cases x with
  | tmp i =>
    simp only [evalO, Act.eval]
    cases h : look i fr with
    | none => exact .undef _
    | some u => exact (hf.get i u h).2
  | const v => exact ofConst_rep E t v imm loc
  | global g =>
    simp only [evalO, Act.eval]
    split
    · rename_i S h; exact hg.tab g S h loc
    · exact .undef _
  | func f => exact .func f [] [] #[] #[] rfl rfl (fun i h => absurd h (Nat.not_lt_zero _)) (fun i h => absurd h (Nat.not_lt_zero _))
end

/-! ### values by what stands for them -/

section
variable {imm : Imm} {loc : Locs}
theorem Rep.int_inv {k : IntKind} {n : Int} {v : Value} (h : Rep imm loc (.int k n) v) : v = .int k n := by
  cases h with
  | int => rfl
  | dead _ _ _ hu => simp [U.ref?] at hu
theorem Rep.bool_inv {b : Bool} {v : Value} (h : Rep imm loc (.bool b) v) : v = .bool b := by
  cases h with
  | bool => rfl
  | dead _ _ _ hu => simp [U.ref?] at hu
theorem Rep.str_inv {l : Bytes} {v : Value} (h : Rep imm loc (.str l) v) : ∃ s : ByteArray, v = .string s ∧ s.data.toList = l := by
  cases h with
  | str _ s h => exact ⟨s, rfl, h⟩
  | dead _ _ _ hu => simp [U.ref?] at hu
theorem Rep.agg_inv {us : List U} {v : Value} (h : Rep imm loc (.agg us) v) : ∃ vs : Array Value, v = .agg vs ∧ us.length = vs.size ∧ ∀ i, i < vs.size → Rep imm loc (us.getD i .undef) (vs.getD i Go.undef) := by
  cases h with
  | agg _ vs hl h => exact ⟨vs, rfl, hl, h⟩
  | dead _ _ _ hu => simp [U.ref?] at hu
theorem Rep.tup_inv {us : List U} {v : Value} (h : Rep imm loc (.tup us) v) : ∃ vs : Array Value, v = .tuple vs ∧ us.length = vs.size ∧ ∀ i, i < vs.size → Rep imm loc (us.getD i .undef) (vs.getD i Go.undef) := by
  cases h with
  | tup _ vs hl h => exact ⟨vs, rfl, hl, h⟩
  | dead _ _ _ hu => simp [U.ref?] at hu
theorem Rep.nilp_inv {v : Value} (h : Rep imm loc .nilp v) : v = .pointer none := by
  cases h with
  | nilp => rfl
  | dead _ _ _ hu => simp [U.ref?] at hu
theorem Rep.slice_inv {S : Rows} {f : Bool} {v : Value} (h : Rep imm loc (.slice S f) v) : ∃ (a : Option Addr) (n cap : Nat) (vals : Nat → Nat → Value), v = .slice a n cap ∧ n = S.len ∧ (f = true → cap = n) ∧ n ≤ cap ∧
    (0 < n → ∃ b o, a = some ⟨b, o, none⟩ ∧ ∀ i j, i < n → j < S.width → imm ⟨b, o + i * S.width + j, none⟩ = some (vals i j)) ∧ (∀ i j, i < n → j < S.width → Rep imm loc ((S.row i).getD j .undef) (vals i j)) := by
  cases h with
  | slice _ _ a n cap vals h1 h2 h3 h4 h5 => exact ⟨a, n, cap, vals, rfl, h1, h2, h3, h4, h5⟩
  | dead _ _ _ hu => simp [U.ref?] at hu
theorem Rep.func_inv {f : FuncId} {us cs : List U} {v : Value} (h : Rep imm loc (.func f us cs) v) : ∃ vs ws : Array Value, v = .func (.func f) vs ws ∧ us.length = vs.size ∧ cs.length = ws.size ∧
    (∀ i, i < vs.size → Rep imm loc (us.getD i .undef) (vs.getD i Go.undef)) ∧ (∀ i, i < ws.size → Rep imm loc (cs.getD i .undef) (ws.getD i Go.undef)) := by
  cases h with
  | func _ _ _ vs ws h1 h2 h3 h4 => exact ⟨vs, ws, rfl, h1, h2, h3, h4⟩
  | dead _ _ _ hu => simp [U.ref?] at hu

/-- of what is known to be one cell -/
theorem Rep.one {u : U} {v : Value} (h : Rep imm loc u v) (hu : solid1 u = true) : v.oneCell' = true := by
  cases h with
  | dead _ _ id h1 h2 h3 =>
    cases u <;> simp only [deadOK] at h2
    case gsl => obtain ⟨_, _, _, rfl⟩ := h2; rfl
    case ptr => obtain ⟨_, rfl⟩ := h2; rfl
    case gelem => obtain ⟨_, _, rfl⟩ := h2; rfl
    case map => obtain ⟨_, rfl⟩ := h2; rfl
    case iter => obtain ⟨_, rfl⟩ := h2; rfl
  | undef => simp [solid1] at hu
  | agg => simp [solid1] at hu
  | tup => simp [solid1] at hu
  | _ => rfl

theorem cells_one {v : Value} (h : v.oneCell' = true) : v.cells = #[v] := by cases v <;> first | rfl | (simp [Value.oneCell'] at h)

theorem Rep.cells {u : U} {v : Value} (h : Rep imm loc u v) (hu : solid u = true) : v.cells.size = u.cells.length ∧ ∀ i, i < v.cells.size → Rep imm loc (u.cells.getD i .undef) (v.cells.getD i Go.undef) := by
  by_cases ha : ∃ us, u = .agg us
  · obtain ⟨us, rfl⟩ := ha
    obtain ⟨vs, rfl, hl, h⟩ := h.agg_inv
    exact ⟨hl.symm, h⟩
  · have h1 : solid1 u = true := by cases u <;> first | rfl | (simp [solid] at hu; done) | (exact absurd ⟨_, rfl⟩ ha)
    have h2 : u.cells = [u] := by cases u <;> first | rfl | (exact absurd ⟨_, rfl⟩ ha)
    rw [cells_one (h.one h1), h2]
    refine ⟨rfl, fun i hi => ?_⟩
    have : i = 0 := by simpa using hi
    subst this
    simpa using h
end

end Go.Abs

/- Soundness of the abstract machine, part 4: arithmetic, comparisons, parts. -/
namespace Go.Abs
open Go

theorem bytesEq (a b : ByteArray) : (a.toList == b.toList) = decide (a.data.toList = b.data.toList) := by
  rw [Bool.eq_iff_iff]
  simp only [beq_iff_eq, decide_eq_true_eq]
  constructor
  · intro h
    have := ByteArray.toList_eq a
    have h2 := ByteArray.toList_eq b
    simp_all
  · intro h
    have : a = b := by cases a; cases b; simp_all [Array.toList_inj]
    rw [this]

theorem bytesBeq (a b : ByteArray) : (a == b) = decide (a.data.toList = b.data.toList) := by
  have h : (a == b) = (a.data == b.data) := rfl
  rw [h, Bool.eq_iff_iff]
  simp [Array.toList_inj]

/-- an effect that is a value and no more -/
def Plain (P : Program) (imm : Imm) (loc : Locs) (w : World) (s : Sem Value) (e : Eff) : Prop :=
  e.tn = [] ∧ e.sets = [] ∧ ∃ v, s.run P w = .ok v w ∧ Rep imm loc e.v v

theorem plain_val {P : Program} {imm : Imm} {loc : Locs} {w : World} {s : Sem Value} {u : U} {e : Eff} (h : val u = some e) (hr : ∃ v, s.run P w = .ok v w ∧ Rep imm loc u v) : Plain P imm loc w s e := by
  cases h; exact ⟨rfl, rfl, hr⟩

theorem plain_valIf {P : Program} {imm : Imm} {loc : Locs} {w : World} {s : Sem Value} {u : U} {b : Bool} {e : Eff} (h : valIf b u = some e) (hok : e.ok = true) (hr : b = true → ∃ v, s.run P w = .ok v w ∧ Rep imm loc u v) : Plain P imm loc w s e := by
  cases h; exact ⟨rfl, rfl, hr hok⟩

theorem lim_lt : (lim : Int) ≤ 9223372036854775807 := by decide

section
variable {P : Program} {env : Env} (E : EnvOK P env) {imm : Imm} {loc : Locs} {w : World}

theorem intBin_plain {op : BinOp} {k : IntKind} {a b : Int} {e : Eff} (h : intBin op k a b = some e) (hok : e.ok = true) (t : TypeId) : Plain P imm loc w (binOp op t (.int k a) (.int k b)) e := by
  cases op <;> simp only [intBin, reduceCtorEq] at h
  case add => exact plain_val h ⟨_, by simp [binOp, Op.intArith], .int _ _⟩
  case sub => exact plain_val h ⟨_, by simp [binOp, Op.intArith], .int _ _⟩
  case mul => exact plain_val h ⟨_, by simp [binOp, Op.intArith], .int _ _⟩
  case quo =>
    refine plain_valIf h hok fun hb => ⟨_, ?_, .int _ _⟩
    have : b ≠ 0 := by simpa using hb
    simp [binOp, Op.intDiv, this]
  case rem =>
    refine plain_valIf h hok fun hb => ⟨_, ?_, .int _ _⟩
    have : b ≠ 0 := by simpa using hb
    simp [binOp, Op.intDiv, this]
  case eql => exact plain_val h ⟨.bool (decide (a = b)), by simp [binOp, Op.intCmp]; rfl, .bool _⟩
  case neq => exact plain_val h ⟨.bool (!decide (a = b)), by simp [binOp, Op.intCmp]; rfl, .bool _⟩
  case lss => exact plain_val h ⟨.bool (decide (a < b)), by simp [binOp, Op.intCmp], .bool _⟩
  case leq => exact plain_val h ⟨.bool (decide (a ≤ b)), by simp [binOp, Op.intCmp], .bool _⟩
  case gtr => exact plain_val h ⟨.bool (decide (b < a)), by simp [binOp, Op.intCmp], .bool _⟩
  case geq => exact plain_val h ⟨.bool (decide (b ≤ a)), by simp [binOp, Op.intCmp], .bool _⟩

theorem strBin_plain {op : BinOp} {a b : ByteArray} {e : Eff} (h : strBin op a.data.toList b.data.toList = some e) (hok : e.ok = true) (t : TypeId) : Plain P imm loc w (binOp op t (.string a) (.string b)) e := by
  cases op <;> simp only [strBin, reduceCtorEq] at h
  case add =>
    refine plain_valIf h hok fun hb => ⟨.string (a ++ b), ?_, .str _ _ (by simp)⟩
    have h1 : a.size + b.size ≤ lim := by simpa using hb
    have h2 := lim_lt
    have h3 : ¬ (9223372036854775807 < ((a.size : Int) + (b.size : Int))) := by omega
    simp [binOp, Op.stringOp, IntKind.max, IntKind.bits, IntKind.signed, h3]
  case eql => exact plain_val h ⟨_, by simp only [binOp, Op.stringOp]; rw [Sem.run_pure, bytesEq], .bool _⟩
  case neq => exact plain_val h ⟨_, by simp only [binOp, Op.stringOp]; rw [Sem.run_pure, bytesEq], .bool _⟩

theorem eqBool_plain {op : BinOp} {b : Bool} {e : Eff} (h : eqBool op b = some e) {s : Sem Value} (hr : s.run P w = .ok (.bool (match op with | .neq => !b | _ => b)) w) : Plain P imm loc w s e := by
  cases op <;> simp only [eqBool, reduceCtorEq] at h
  case eql => exact plain_val h ⟨_, hr, .bool _⟩
  case neq => exact plain_val h ⟨_, hr, .bool _⟩

theorem eqBool_op {op : BinOp} {b : Bool} {e : Eff} (h : eqBool op b = some e) : op = .eql ∨ op = .neq := by
  cases op <;> simp_all [eqBool]

theorem part_run {t : TypeId} {d : TypeDesc} (ht : P.underlying t = some d) (hd : descAgg d = false) {cs : Array Value} {off : Nat} (hlt : off < cs.size) : (part t cs off).run P w = .ok (cs.getD off undef) w := by
  have hv : cs[off]? = some (cs.getD off undef) := by simp [hlt]
  have hagg : (isAgg t).run P w = .ok false w := by
    unfold isAgg
    rw [Sem.run_bind, run_underlying ht, Result.andThen_ok]
    cases d <;> first | rfl | (simp [descAgg] at hd)
  unfold part
  rw [Sem.run_bind, hagg, Result.andThen_ok]
  simp only [Bool.false_eq_true, if_false, hv, Sem.run_pure]

theorem sigOK_int {k : IntKind} {sig : List CK} {u : U} {us : List U} (h : sigOK (.int k :: sig) (u :: us) = true) : ∃ n, u = .int k n ∧ sigOK sig us = true := by
  cases u <;> simp only [sigOK, Bool.false_eq_true, Bool.and_eq_true, decide_eq_true_eq] at h
  obtain ⟨rfl, h⟩ := h
  exact ⟨_, rfl, h⟩
theorem sigOK_bool {sig : List CK} {u : U} {us : List U} (h : sigOK (.bool :: sig) (u :: us) = true) : ∃ n, u = .bool n ∧ sigOK sig us = true := by
  cases u <;> simp only [sigOK, Bool.false_eq_true] at h
  exact ⟨_, rfl, h⟩
theorem sigOK_str {sig : List CK} {u : U} {us : List U} (h : sigOK (.str :: sig) (u :: us) = true) : ∃ n, u = .str n ∧ sigOK sig us = true := by
  cases u <;> simp only [sigOK, Bool.false_eq_true] at h
  exact ⟨_, rfl, h⟩

theorem eqFields_run (d : Nat) (xs ys : Array Value) : ∀ (sig : List CK) (Fs : List Field) (us vs : List U) (n : Nat), FieldsOK P sig Fs n → sigOK sig us = true → sigOK sig vs = true →
    n + us.length = xs.size → n + vs.length = ys.size → (∀ i, i < us.length → Rep imm loc (us.getD i .undef) (xs.getD (n + i) undef)) → (∀ i, i < vs.length → Rep imm loc (vs.getD i .undef) (ys.getD (n + i) undef)) →
    (Op.eqFields (d + 1) xs ys Fs).run P w = .ok (eqCells sig us vs) w
  | [], [], us, vs, n, _, hu, hv, _, _, _, _ => by
    simp [Op.eqFields, eqCells]
  | [], _ :: _, _, _, _, h, _, _, _, _, _, _ => h.elim
  | c :: sig, [], _, _, _, h, _, _, _, _, _, _ => by cases c <;> exact h.elim
  | c :: sig, f :: Fs, us, vs, n, h, hu, hv, hx, hy, hrx, hry => by
    obtain ⟨h1, h2, h3, h4⟩ := h
    cases us with
    | nil => cases c <;> simp [sigOK] at hu
    | cons u us =>
    cases vs with
    | nil => cases c <;> simp [sigOK] at hv
    | cons v vs =>
    have hu0 := hrx 0 (by simp)
    have hv0 := hry 0 (by simp)
    simp only [Nat.add_zero, List.getD_cons_zero] at hu0 hv0
    have ltx : n < xs.size := by simp only [List.length_cons] at hx; omega
    have lty : n < ys.size := by simp only [List.length_cons] at hy; omega
    have hu' : sigOK sig us = true := by cases c <;> cases u <;> simp_all [sigOK]
    have hv' : sigOK sig vs = true := by cases c <;> cases v <;> simp_all [sigOK]
    have ih := eqFields_run d xs ys sig Fs us vs (n + 1) h4 hu' hv' (by simp only [List.length_cons] at hx; omega) (by simp only [List.length_cons] at hy; omega)
      (fun i hi => by have := hrx (i + 1) (by simp; omega); rw [List.getD_cons_succ] at this; rwa [show n + (i + 1) = n + 1 + i by omega] at this)
      (fun i hi => by have := hry (i + 1) (by simp; omega); rw [List.getD_cons_succ] at this; rwa [show n + (i + 1) = n + 1 + i by omega] at this)
    simp only [Op.eqFields, h1, ne_eq, not_false_eq_true, if_true, h2]
    cases c with
    | int k =>
      obtain ⟨a, rfl, _⟩ := sigOK_int hu
      obtain ⟨b, rfl, _⟩ := sigOK_int hv
      obtain ⟨k', hk⟩ := h3
      rw [Sem.run_bind, part_run hk rfl ltx, Result.andThen_ok, Sem.run_bind, part_run hk rfl lty, Result.andThen_ok, hu0.int_inv, hv0.int_inv]
      rw [Sem.run_bind, run_equalIn_int w d f.type k k' a b hk, Result.andThen_ok]
      by_cases hab : a = b
      · simp [hab, eqCells, ih]
      · simp [hab, eqCells]
    | bool =>
      obtain ⟨a, rfl, _⟩ := sigOK_bool hu
      obtain ⟨b, rfl, _⟩ := sigOK_bool hv
      rw [Sem.run_bind, part_run h3 rfl ltx, Result.andThen_ok, Sem.run_bind, part_run h3 rfl lty, Result.andThen_ok, hu0.bool_inv, hv0.bool_inv]
      rw [Sem.run_bind, run_equalIn_bool' w d f.type _ _ h3, Result.andThen_ok]
      by_cases hab : a = b
      · simp [hab, eqCells, ih]
      · simp [hab, eqCells]
    | str =>
      obtain ⟨a, rfl, _⟩ := sigOK_str hu
      obtain ⟨b, rfl, _⟩ := sigOK_str hv
      obtain ⟨s1, e1, r1⟩ := hu0.str_inv
      obtain ⟨s2, e2, r2⟩ := hv0.str_inv
      rw [Sem.run_bind, part_run h3 rfl ltx, Result.andThen_ok, Sem.run_bind, part_run h3 rfl lty, Result.andThen_ok, e1, e2]
      rw [Sem.run_bind, run_equalIn_string w d f.type _ _ h3, Result.andThen_ok, bytesEq, r1, r2]
      by_cases hab : a = b
      · simp [hab, eqCells, ih]
      · simp [hab, eqCells]

theorem equal_ptr {t el : TypeId} (ht : P.underlying t = some (.pointer el)) (p q : Option Addr) (h : p = none ∨ q = none) : (Op.equal t (.pointer p) (.pointer q)).run P w = .ok (p.isNone && q.isNone) w := by
  show (Op.equalIn (9999 + 1) t (.pointer p) (.pointer q)).run P w = _
  unfold Op.equalIn
  rw [Sem.run_bind, run_underlying ht, Result.andThen_ok]
  rcases h with rfl | rfl
  · cases q <;> rfl
  · cases p <;> rfl
theorem eql_ptr {t el : TypeId} (ht : P.underlying t = some (.pointer el)) (p q : Option Addr) (h : p = none ∨ q = none) : (binOp .eql t (.pointer p) (.pointer q)).run P w = .ok (.bool (p.isNone && q.isNone)) w := by
  show (Op.equal t (.pointer p) (.pointer q) >>= fun b => pure (Value.bool b) : Sem Value).run P w = _
  rw [Sem.run_bind, equal_ptr ht p q h]; rfl
theorem neq_ptr {t el : TypeId} (ht : P.underlying t = some (.pointer el)) (p q : Option Addr) (h : p = none ∨ q = none) : (binOp .neq t (.pointer p) (.pointer q)).run P w = .ok (.bool (!(p.isNone && q.isNone))) w := by
  show (Op.equal t (.pointer p) (.pointer q) >>= fun b => pure (Value.bool (!b)) : Sem Value).run P w = _
  rw [Sem.run_bind, equal_ptr ht p q h]; rfl
theorem _root_.Go.Abs.Rep.ptr_inv {imm : Imm} {loc : Locs} {id off : Nat} {v : Value} (hv : Rep imm loc (.ptr id off) v) : ∃ b, v = .pointer (some ⟨b, off, none⟩) := by
  cases hv with
  | ptr _ _ b => exact ⟨b, rfl⟩
  | dead _ _ _ _ hd => exact hd
include E in
theorem isKind_ptr {t : TypeId} (hk : isKind env t 3 = true) : ∃ el, P.underlying t = some (.pointer el) := by
  unfold isKind at hk
  split at hk
  · rename_i m hm; have := E.kinds t m hm; rw [Nat.eq_of_beq_eq_true hk] at this; exact this
  · cases hk
include E in
theorem isKind_bool {t : TypeId} (hk : isKind env t 0 = true) : P.underlying t = some .bool := by
  unfold isKind at hk
  split at hk
  · rename_i m hm; have := E.kinds t m hm; rw [Nat.eq_of_beq_eq_true hk] at this; exact this
  · cases hk
include E in
theorem isKind_str {t : TypeId} (hk : isKind env t 1 = true) : P.underlying t = some .string := by
  unfold isKind at hk
  split at hk
  · rename_i m hm; have := E.kinds t m hm; rw [Nat.eq_of_beq_eq_true hk] at this; exact this
  · cases hk

include E in
theorem binEff_plain {op : BinOp} {t : TypeId} {x y : U} {vx vy : Value} {e : Eff} (ex ey : Operand) (hx : Rep imm loc x vx) (hy : Rep imm loc y vy) (h : binEff env op t x y = some e) (hok : e.ok = true) :
    Plain P imm loc w (do eqGuard op t ex ey vx vy; binOp op t vx vy) e := by
  have guard : ∀ (s : Sem Value), (eqGuard op t ex ey vx vy).run P w = .ok () w → Plain P imm loc w s e → Plain P imm loc w (do eqGuard op t ex ey vx vy; s) e := by
    intro s hg hs
    obtain ⟨h1, h2, v, h3, h4⟩ := hs
    exact ⟨h1, h2, v, by rw [Sem.run_bind, hg, Result.andThen_ok, h3], h4⟩
  unfold binEff at h
  split at h
  · rename_i k a j b
    obtain rfl := hx.int_inv; obtain rfl := hy.int_inv
    refine guard _ (by cases op <;> rfl) ?_
    by_cases hkj : k = j
    · subst hkj; simp only [decide_true, cond_true] at h; exact intBin_plain h hok t
    · simp [hkj] at h
  · obtain ⟨a, rfl, rfl⟩ := hx.str_inv
    obtain ⟨b, rfl, rfl⟩ := hy.str_inv
    exact guard _ (by cases op <;> rfl) (strBin_plain h hok t)
  · rename_i a b
    obtain rfl := hx.bool_inv; obtain rfl := hy.bool_inv
    refine guard _ (by cases op <;> rfl) ?_
    cases hk : isKind env t 0 with
    | false => rw [hk] at h; cases h
    | true =>
      rw [hk] at h
      have ht := isKind_bool E hk
      refine eqBool_plain h ?_
      rcases eqBool_op h with rfl | rfl <;> simp [binOp, run_equal_bool w t a b ht]
  · obtain rfl := hx.nilp_inv; obtain rfl := hy.nilp_inv
    cases hk : isKind env t 3 with
    | false => rw [hk] at h; cases h
    | true =>
      rw [hk] at h
      obtain ⟨el, ht⟩ := isKind_ptr E hk
      refine guard _ (by cases op <;> rfl) (eqBool_plain h ?_)
      rcases eqBool_op h with rfl | rfl
      · rw [eql_ptr ht _ _ (.inl rfl)]; rfl
      · rw [neq_ptr ht _ _ (.inl rfl)]; rfl
  · obtain rfl := hx.nilp_inv
    obtain ⟨b, rfl⟩ := hy.ptr_inv
    cases hk : isKind env t 3 with
    | false => rw [hk] at h; cases h
    | true =>
      rw [hk] at h
      obtain ⟨el, ht⟩ := isKind_ptr E hk
      refine guard _ (by cases op <;> rfl) (eqBool_plain h ?_)
      rcases eqBool_op h with rfl | rfl
      · rw [eql_ptr ht _ _ (.inl rfl)]; rfl
      · rw [neq_ptr ht _ _ (.inl rfl)]; rfl
  · obtain rfl := hy.nilp_inv
    obtain ⟨b, rfl⟩ := hx.ptr_inv
    cases hk : isKind env t 3 with
    | false => rw [hk] at h; cases h
    | true =>
      rw [hk] at h
      obtain ⟨el, ht⟩ := isKind_ptr E hk
      refine guard _ (by cases op <;> rfl) (eqBool_plain h ?_)
      rcases eqBool_op h with rfl | rfl
      · rw [eql_ptr ht _ _ (.inr rfl)]; rfl
      · rw [neq_ptr ht _ _ (.inr rfl)]; rfl
  · obtain ⟨xs, rfl, hlx, hrx⟩ := hx.agg_inv
    obtain ⟨ys, rfl, hly, hry⟩ := hy.agg_inv
    split at h
    · rename_i us vs _ sig hs
      cases hk : (sigOK sig us && sigOK sig vs) with
      | false => rw [hk] at h; cases h
      | true =>
        rw [hk] at h
        rw [Bool.and_eq_true] at hk
        obtain ⟨Fs, ht, hF, hst, hg⟩ := E.eqs t sig hs
        refine guard _ (run_eqGuard_agg w op t ex ey xs ys hg) (eqBool_plain h ?_)
        have hfo : P.fieldsOf t = Fs := by simp [Program.fieldsOf, ht]
        have hrun := run_equalIn_struct (P := P) w 9999 t xs ys (by rw [hfo]; exact ht) hst
        rw [hfo, eqFields_run 9998 xs ys sig Fs.toList us vs 0 hF hk.1 hk.2 (by omega) (by omega) (fun i hi => by rw [Nat.zero_add]; exact hrx i (by omega)) (fun i hi => by rw [Nat.zero_add]; exact hry i (by omega))] at hrun
        rcases eqBool_op h with rfl | rfl
        · rw [run_eql_struct, hrun, Result.andThen_ok]
        · rw [run_neq_struct, hrun, Result.andThen_ok]
    · cases h
  · cases h

end

end Go.Abs

/- Soundness of the abstract machine, part 5: parts, loads, addresses, indexes. -/
namespace Go.Abs
open Go

section
variable {P : Program} {env : Env} (E : EnvOK P env) {imm : Imm} {loc : Locs} {w : World}

theorem isAgg_run {t : TypeId} {d : TypeDesc} (ht : P.underlying t = some d) : (isAgg t).run P w = .ok (descAgg d) w := by
  unfold isAgg
  rw [Sem.run_bind, run_underlying ht, Result.andThen_ok]
  cases d <;> rfl

theorem sizeOf_run {t : TypeId} {i : TypeInfo} (hi : P.info? t = some i) : (sizeOf t).run P w = .ok i.size w := by
  simp [Go.sizeOf, typeInfo, hi]

theorem getD_drop_take (us : List U) (off n i : Nat) (h : i < n) : ((us.drop off).take n).getD i .undef = us.getD (off + i) .undef := by
  simp [List.getD_eq_getElem?_getD, h]

include E in
theorem part_plain {t : TypeId} {ti : TyInfo} (ht : look t env.tys = some ti) {us : List U} {cs : Array Value} {off : Nat} (hlt : off + ti.size ≤ cs.size) (hl : us.length = cs.size)
    (hr : ∀ i, i < cs.size → Rep imm loc (us.getD i .undef) (cs.getD i undef)) : ∃ v, (part t cs off).run P w = .ok v w ∧ Rep imm loc (partU ti us off) v := by
  obtain ⟨i, d, hi, hsz, hd, hag, h1⟩ := E.tys t ti ht
  cases ha : ti.agg with
  | false =>
    rw [ha] at hag
    have := h1 ha
    refine ⟨_, part_run hd hag (by omega), ?_⟩
    simp only [partU, ha, cond_false]
    exact hr off (by omega)
  | true =>
    rw [ha] at hag
    refine ⟨.agg (cs.extract off (off + ti.size)), ?_, ?_⟩
    · unfold part
      rw [Sem.run_bind, isAgg_run hd, Result.andThen_ok, hag]
      simp only [if_true]
      rw [Sem.run_bind, sizeOf_run hi, Result.andThen_ok, hsz]
      rfl
    · simp only [partU, ha, cond_true]
      refine .agg _ _ ?_ fun j hj => ?_
      · simp only [List.length_take, List.length_drop, Array.size_extract]; omega
      · simp only [Array.size_extract] at hj
        rw [getD_drop_take _ _ _ _ (by omega)]
        have : (cs.extract off (off + ti.size)).getD j undef = cs.getD (off + j) undef := by
          rw [Array.getD_eq_getD_getElem?, Array.getD_eq_getD_getElem?, Array.getElem?_extract]
          simp only [Nat.min_eq_left hlt]
          rw [if_pos (by omega)]
        rw [this]
        exact hr _ (by omega)

include E in
theorem loadVar_plain {t : TypeId} {ti : TyInfo} (ht : look t env.tys = some ti) {us : List U} {b o off : Nat} (g : Nat → Value) (hlt : off + ti.size ≤ us.length)
    (hc : ∀ j, j < ti.size → w.cell? ⟨b, o + j, none⟩ = some (g j)) (hr : ∀ j, j < ti.size → Rep imm loc (us.getD (off + j) .undef) (g j)) :
    ∃ v, (Instr.loadAt t (.pointer (some ⟨b, o, none⟩))).run P w = .ok v w ∧ Rep imm loc (partU ti us off) v := by
  obtain ⟨i, d, hi, hsz, hd, hag, h1⟩ := E.tys t ti ht
  have hadd : ∀ j, (⟨b, o, none⟩ : Addr).add j = ⟨b, o + j, none⟩ := fun j => Addr.add_lit b o j
  have hpre : ∀ s : Sem Value, s = loadVar t ⟨b, o, none⟩ → (Instr.loadAt t (.pointer (some ⟨b, o, none⟩))).run P w = s.run P w := by
    intro s hs
    subst hs
    show (Instr.sureAddr (.pointer (some ⟨b, o, none⟩)) >>= loadVar t).run P w = _
    rw [Sem.run_bind]; rfl
  rw [hpre _ rfl]
  unfold loadVar
  rw [Sem.run_bind, isAgg_run hd, Result.andThen_ok, hag]
  cases ha : ti.agg with
  | false =>
    have h2 := h1 ha
    have h3 := hc 0 (by omega)
    refine ⟨g 0, ?_, ?_⟩
    · simp only [Bool.false_eq_true, if_false]
      rw [Nat.add_zero] at h3
      rw [run_load, h3]
    · simp only [partU, ha, cond_false]
      exact hr 0 (by omega)
  | true =>
    refine ⟨.agg ((List.range ti.size).map g).toArray, ?_, ?_⟩
    · simp only [if_true]
      rw [Sem.run_bind, sizeOf_run hi, Result.andThen_ok, hsz, Sem.run_bind, run_loadCells w _ _ g (fun j hj => by rw [hadd]; exact hc j hj), Result.andThen_ok]
      rfl
    · simp only [partU, ha, cond_true]
      refine .agg _ _ ?_ fun j hj => ?_
      · simp only [List.length_take, List.length_drop, List.size_toArray, List.length_map, List.length_range]; omega
      · simp only [List.size_toArray, List.length_map, List.length_range] at hj
        rw [getD_drop_take _ _ _ _ (by omega)]
        have : ((List.range ti.size).map g).toArray.getD j undef = g j := by simp [hj]
        rw [this]
        exact hr j hj

/-- a reference to own cells -/
theorem own_cells {lk : Lk} (R : Rel imm loc lk w) {id off : Nat} {us : List U} (h : lk id = some (.cells us)) {v : Value} (hv : Rep imm loc (.ptr id off) v) :
    ∃ b c e, v = .pointer (some ⟨b, off, none⟩) ∧ loc id = some (.cells b) ∧ w.heap[b]? = some (.cells c e (0, 0)) ∧ c.size = us.length ∧ ∀ i, i < c.size → Rep imm loc (us.getD i .undef) (c.getD i Go.undef) := by
  obtain ⟨l, hl, hr⟩ := R.objs id _ h
  cases hr with
  | cells _ b c e h1 h2 h3 =>
    cases hv with
    | ptr _ _ b' h4 => rw [hl] at h4; cases h4; exact ⟨b, c, e, rfl, hl, h1, h2, h3⟩
    | dead _ _ i h4 _ h5 => simp only [U.ref?, Option.some.injEq] at h4; subst h4; rw [hl] at h5; cases h5

theorem cell_own {b : Nat} {c : Array Value} {e : TypeId} {z : Nat × Nat} (h : w.heap[b]? = some (.cells c e z)) {j : Nat} (hj : j < c.size) : w.cell? ⟨b, j, none⟩ = some (c.getD j undef) := by
  simp [World.cell?, h, hj]

/-- rows of a buffer: where they are -/
theorem buf_rows {lk : Lk} (R : Rel imm loc lk w) {id : Nat} {S : Rows} {wr : Bool} (h : lk id = some (.gbuf S wr)) :
    (∃ b cap e c, loc id = some (.buf b S.len cap e) ∧ w.heap[b]? = some (.cells c e (0, 0)) ∧ S.len ≤ cap ∧ c.size = cap * S.width ∧ ∀ i j, i < S.len → j < S.width → Rep imm loc ((S.row i).getD j .undef) (c.getD (i * S.width + j) Go.undef)) ∨
    (∃ a, loc id = some (.full a S.len) ∧ Rep imm loc (.slice S true) (.slice a S.len S.len) ∧ (wr = true → S.len = 0)) := by
  obtain ⟨l, hl, hr⟩ := R.objs id _ h
  cases hr with
  | buf _ _ b n cap e c h1 h2 h3 h4 h5 => subst h2; exact .inl ⟨b, cap, e, c, hl, h1, h3, h4, h5⟩
  | full _ _ a n h1 h2 =>
    have hn : n = S.len := by
      cases h1 with
      | slice _ _ _ _ _ _ h => exact h
      | dead _ _ _ hu => simp [U.ref?] at hu
    subst hn
    exact .inr ⟨a, hl, h1, h2⟩

theorem row_index {i n w : Nat} {j : Nat} (hi : i < n) (hj : j < w) : i * w + j < n * w := by
  calc i * w + j < i * w + w := by omega
    _ = (i + 1) * w := by rw [Nat.add_mul, Nat.one_mul]
    _ ≤ n * w := Nat.mul_le_mul_right _ hi

theorem Rep.gsl_inv {id : Nat} {v : Value} (hv : Rep imm loc (.gsl id) v) {l : Loc} (hl : loc id = some l) : (∃ b n cap e, l = .buf b n cap e ∧ v = .slice (some ⟨b, 0, none⟩) n cap) ∨ (∃ a n, l = .full a n ∧ v = .slice a n n) := by
  cases hv with
  | gsl _ b n cap e h => rw [hl] at h; cases h; exact .inl ⟨b, n, cap, e, rfl, rfl⟩
  | gslF _ n a h => rw [hl] at h; cases h; exact .inr ⟨a, n, rfl, rfl⟩
  | dead _ _ _ h1 _ h2 => simp only [U.ref?, Option.some.injEq] at h1; subst h1; rw [hl] at h2; cases h2

/-- an element's address in a buffer: its cells -/
theorem gelem_cells {lk : Lk} (R : Rel imm loc lk w) {id W i off : Nat} {S : Rows} {wr : Bool} (h : lk id = some (.gbuf S wr)) (hi : i < S.len) (hW : W = S.width) {v : Value} (hv : Rep imm loc (.gelem id W i off) v) :
    ∃ (b o : Nat) (g : Nat → Value), v = .pointer (some ⟨b, o + off, none⟩) ∧ (∀ j, j < S.width → w.cell? ⟨b, o + j, none⟩ = some (g j)) ∧ ∀ j, j < S.width → Rep imm loc ((S.row i).getD j .undef) (g j) := by
  subst hW
  rcases buf_rows R h with ⟨b, cap, e, c, hl, hb, hc, hs, hr⟩ | ⟨a, hl, hr, _⟩
  · have hv' : v = .pointer (some ⟨b, i * S.width + off, none⟩) := by
      cases hv with
      | gelem _ _ _ _ b' n' c' e' h' => rw [hl] at h'; cases h'; rfl
      | gelemF _ _ _ _ b' o' n' h' => rw [hl] at h'; cases h'
      | dead _ _ _ h1 _ h2 => simp only [U.ref?, Option.some.injEq] at h1; subst h1; rw [hl] at h2; cases h2
    refine ⟨b, i * S.width, fun j => c.getD (i * S.width + j) undef, hv', fun j hj => cell_own hb ?_, fun j hj => hr i j hi hj⟩
    rw [hs]
    exact Nat.lt_of_lt_of_le (row_index hi hj) (Nat.mul_le_mul_right _ hc)
  · obtain ⟨a', n, cap, vals, he, hn, _, _, ha, hrr⟩ := hr.slice_inv
    cases he
    obtain ⟨b, o, rfl, him⟩ := ha (by omega)
    have hv' : v = .pointer (some ⟨b, o + i * S.width + off, none⟩) := by
      cases hv with
      | gelem _ _ _ _ b' n' c' e' h' => rw [hl] at h'; cases h'
      | gelemF _ _ _ _ b' o' n' h' => rw [hl] at h'; cases h'; rfl
      | dead _ _ _ h1 _ h2 => simp only [U.ref?, Option.some.injEq] at h1; subst h1; rw [hl] at h2; cases h2
    exact ⟨b, o + i * S.width, vals i, hv', fun j hj => (R.claims _ _ (him i j hi hj)).2, fun j hj => hrr i j hi hj⟩

theorem row_length : ∀ (S : Rows) (i : Nat), (S.row i).length = S.width := by
  intro S i
  cases S <;> simp only [Rows.row, Rows.width, List.length_cons, List.length_nil, XE.cells, XN.cells, XT.cells]
  case tab sig l =>
    generalize l.getD i [] = r
    suffices h : ∀ (sig : List CK) (k : Nat), (tabCells r sig k).length = sig.length from h sig 0
    intro sig
    induction sig with
    | nil => intro k; rfl
    | cons c sig ih => intro k; cases c <;> simp [tabCells, ih]

omit E in
theorem cellsTo_length (S : Rows) : ∀ n, (S.cellsTo n).length = n * S.width
  | 0 => by simp [Rows.cellsTo]
  | n + 1 => by
    simp only [Rows.cellsTo, List.length_append, cellsTo_length S n, row_length]
    rw [Nat.add_mul, Nat.one_mul]

omit E in
theorem cellsTo_getD (S : Rows) : ∀ n i j, i < n → j < S.width → (S.cellsTo n).getD (i * S.width + j) .undef = (S.row i).getD j .undef
  | 0, i, j, h, _ => by omega
  | n + 1, i, j, h, hj => by
    simp only [Rows.cellsTo]
    by_cases hi : i < n
    · have hlt : i * S.width + j < (S.cellsTo n).length := by rw [cellsTo_length]; exact row_index hi hj
      rw [List.getD_eq_getElem?_getD, List.getElem?_append_left hlt, ← List.getD_eq_getElem?_getD]
      exact cellsTo_getD S n i j hi hj
    · have : i = n := by omega
      subst this
      rw [List.getD_eq_getElem?_getD, List.getElem?_append_right (by rw [cellsTo_length]; omega), cellsTo_length, Nat.add_sub_cancel_left, ← List.getD_eq_getElem?_getD]

include E in
theorem loadEff_plain {lk lk' : Lk} (R : Rel imm loc lk w) (hlk : ∀ i o, lk' i = some o → lk i = some o) {t : TypeId} {x : U} {vx : Value} {e : Eff} (hx : Rep imm loc x vx) (h : loadEff env lk' t x = some e) (hok : e.ok = true) :
    Plain P imm loc w (Instr.loadAt t vx) e := by
  unfold loadEff at h
  split at h
  · cases h
  rename_i ti ht
  split at h
  · rename_i id off
    split at h
    · rename_i us hu
      obtain ⟨b, c, et, rfl, hl, hb, hs, hr⟩ := own_cells R (hlk _ _ hu) hx
      cases hble : Nat.ble (off + ti.size) us.length with
      | false => rw [hble] at h; cases h
      | true =>
        rw [hble] at h
        have hle := Nat.le_of_ble_eq_true hble
        exact plain_val h (loadVar_plain E ht (fun j => c.getD (off + j) undef) hle (fun j hj => cell_own hb (by omega)) fun j hj => hr _ (by omega))
    · cases h
  · rename_i S i off
    cases hble : Nat.ble (off + ti.size) S.width with
    | false =>
      rw [hble] at h
      simp only [cond_false] at h
      cases hall : (Nat.beq i 0 && (Nat.beq off 0 && Nat.beq ti.size (S.len * S.width))) with
      | false => rw [hall] at h; cases h
      | true =>
        rw [hall] at h
        simp only [Bool.and_eq_true] at hall
        have h1 := Nat.eq_of_beq_eq_true hall.1
        have h2 := Nat.eq_of_beq_eq_true hall.2.1
        have h3 := Nat.eq_of_beq_eq_true hall.2.2
        subst h1 h2
        refine plain_val h ?_
        cases hx with
        | elem _ _ _ b o vals hi ha hr =>
          have hsplit : ∀ j, j < ti.size → j / S.width < S.len ∧ j % S.width < S.width ∧ j / S.width * S.width + j % S.width = j := fun j hj => by
            rw [h3] at hj
            have hw : 0 < S.width := by
              rcases Nat.eq_zero_or_pos S.width with h0 | h0
              · rw [h0] at hj; simp at hj
              · exact h0
            refine ⟨Nat.div_lt_of_lt_mul (by rw [Nat.mul_comm]; exact hj), Nat.mod_lt _ hw, ?_⟩
            rw [Nat.mul_comm]; exact Nat.div_add_mod j S.width
          have hb : (⟨b, o + 0 * S.width + 0, none⟩ : Addr) = ⟨b, o, none⟩ := by simp
          rw [hb]
          refine loadVar_plain E ht (fun j => vals (j / S.width) (j % S.width)) (by rw [cellsTo_length]; omega) (fun j hj => ?_) fun j hj => ?_
          · obtain ⟨a1, a2, a3⟩ := hsplit j hj
            have := (R.claims _ _ (ha _ _ a1 a2)).2
            rwa [show o + j / S.width * S.width + j % S.width = o + j by omega] at this
          · obtain ⟨a1, a2, a3⟩ := hsplit j hj
            rw [Nat.zero_add, ← a3, cellsTo_getD S S.len _ _ a1 a2]
            have e1 : (j / S.width * S.width + j % S.width) / S.width = j / S.width := by rw [a3]
            have e2 : (j / S.width * S.width + j % S.width) % S.width = j % S.width := by rw [a3]
            rw [e1, e2]
            exact hr _ _ a1 a2
        | dead _ _ _ h1 => simp [U.ref?] at h1
    | true =>
      rw [hble] at h
      have hle := Nat.le_of_ble_eq_true hble
      refine plain_val h ?_
      cases hx with
      | elem _ _ _ b o vals hi ha hr =>
        exact loadVar_plain E ht (fun j => vals i (off + j)) (by rw [row_length]; exact hle) (fun j hj => by
          have := (R.claims _ _ (ha i (off + j) hi (by omega))).2
          rwa [show o + i * S.width + (off + j) = o + i * S.width + off + j by omega] at this) fun j hj => hr i (off + j) hi (by omega)
      | dead _ _ _ h1 => simp [U.ref?] at h1
  · rename_i id W i off
    split at h
    · rename_i S wr hu
      cases hble : (Nat.beq W S.width && Nat.ble (off + ti.size) W) with
      | false => rw [hble] at h; cases h
      | true =>
        rw [hble] at h
        rw [Bool.and_eq_true] at hble
        have hW := Nat.eq_of_beq_eq_true hble.1
        have hle := Nat.le_of_ble_eq_true hble.2
        refine plain_valIf h hok fun hb => ?_
        have hi : i < S.len := by simpa using hb
        obtain ⟨b, o, g, rfl, hc, hr⟩ := gelem_cells R (hlk _ _ hu) hi hW hx
        exact loadVar_plain E ht (fun j => g (off + j)) (by rw [row_length]; omega) (fun j hj => by
          have := hc (off + j) (by omega)
          rwa [show o + (off + j) = o + off + j by omega] at this) fun j hj => hr (off + j) (by omega)
    · cases h
  · cases h

end

end Go.Abs

/- Soundness of the abstract machine, part 6: addresses, indexes, slices, lengths, conversions. -/
namespace Go.Abs
open Go

section
variable {P : Program} {env : Env} (E : EnvOK P env) {imm : Imm} {loc : Locs} {w : World}

include E in
theorem isElem_inv {t : TypeId} {k : RowKind} (h : isElem env t k = true) : ∃ et, look t env.elems = some (et, k) := by
  have _ := E
  unfold isElem at h
  split at h
  · rename_i et j hj
    simp only [decide_eq_true_eq] at h
    subst h
    exact ⟨et, hj⟩
  · cases h

theorem kind_width (S : Rows) : S.kind.width = S.width := by cases S <;> rfl

include E in
theorem structAt_inv {t : TypeId} {i off : Nat} {ti : TyInfo} (h : structAt env t i = some (off, ti)) :
    ∃ Fs f, P.underlying t = some (.struct Fs) ∧ Fs[i]? = some f ∧ f.offset = off ∧ look f.type env.tys = some ti := by
  unfold structAt at h
  split at h
  · rename_i fs hfs
    obtain ⟨Fs, hu, hm, _⟩ := E.fields t fs hfs
    split at h
    · rename_i o ft hft
      split at h
      · rename_i ti' ht
        cases h
        subst hm
        rw [List.getElem?_map, Option.map_eq_some_iff] at hft
        obtain ⟨f, hf, he⟩ := hft
        cases he
        exact ⟨Fs, f, hu, by simpa using hf, rfl, ht⟩
      · cases h
    · cases h
  · cases h

include E in
theorem arrAt_inv {t : TypeId} {i off : Nat} {ti : TyInfo} (h : arrAt env t i = some (off, ti)) : ∃ n et, P.underlying t = some (.array n et) ∧ i < n ∧ look et env.tys = some ti ∧ off = i * ti.size := by
  unfold arrAt at h
  split at h
  · rename_i n et ha
    cases hb : Nat.blt i n with
    | false => rw [hb] at h; cases h
    | true =>
      rw [hb] at h
      simp only [cond_true] at h
      split at h
      · rename_i ti' ht
        cases h
        exact ⟨n, et, E.arrs t n et ha, by simpa [Nat.blt_eq] using hb, ht, rfl⟩
      · cases h
  · cases h

theorem fieldPlace_run {f : Field} {i : TypeInfo} (hi : P.info? f.type = some i) (h0 : i.size ≠ 0) (b o : Nat) : (fieldPlace ⟨b, o, none⟩ f).run P w = .ok ⟨b, o + f.offset, none⟩ w := by
  unfold fieldPlace
  rw [Sem.run_bind, sizeOf_run hi, Result.andThen_ok, if_neg h0, Addr.add_lit]
  rfl

include E in
theorem fieldAddr_run {t : TypeId} {i off : Nat} {ti : TyInfo} (h : structAt env t i = some (off, ti)) (h0 : Nat.beq ti.size 0 = false) (b o : Nat) :
    (Instr.fieldAt t (.pointer (some ⟨b, o, none⟩)) i).run P w = .ok (.pointer (some ⟨b, o + off, none⟩)) w := by
  obtain ⟨Fs, f, hu, hf, rfl, ht⟩ := structAt_inv E h
  obtain ⟨inf, d, hi, hsz, _⟩ := E.tys _ _ ht
  unfold Instr.fieldAt
  rw [Sem.run_bind, run_underlying hu, Result.andThen_ok]
  simp only [hf]
  show (Instr.sureAddr (.pointer (some ⟨b, o, none⟩)) >>= fun a => (fieldPlace a f >>= fun x => pure (Value.pointer (some x)) : Sem Value)).run P w = _
  rw [Sem.run_bind]
  show (fieldPlace ⟨b, o, none⟩ f >>= fun x => pure (Value.pointer (some x)) : Sem Value).run P w = _
  rw [Sem.run_bind, fieldPlace_run hi (by rw [hsz]; intro hz; rw [hz] at h0; cases h0)]
  rfl

theorem Rep.ptr_add {id off b : Nat} (k : Nat) (h : Rep imm loc (.ptr id off) (.pointer (some ⟨b, off, none⟩))) : Rep imm loc (.ptr id (off + k)) (.pointer (some ⟨b, off + k, none⟩)) := by
  cases h with
  | ptr _ _ _ h => exact .ptr _ _ _ h
  | dead _ _ i h1 _ h2 => exact .dead _ _ i h1 ⟨_, rfl⟩ h2

theorem Rep.elem_inv {S : Rows} {i off : Nat} {v : Value} (h : Rep imm loc (.elem S i off) v) : ∃ (b o : Nat) (vals : Nat → Nat → Value), v = .pointer (some ⟨b, o + i * S.width + off, none⟩) ∧ i < S.len ∧
    (∀ i j, i < S.len → j < S.width → imm ⟨b, o + i * S.width + j, none⟩ = some (vals i j)) ∧ (∀ i j, i < S.len → j < S.width → Rep imm loc ((S.row i).getD j .undef) (vals i j)) := by
  cases h with
  | elem _ _ _ b o vals h1 h2 h3 => exact ⟨b, o, vals, rfl, h1, h2, h3⟩
  | dead _ _ _ hu => simp [U.ref?] at hu

theorem Rep.gelem_add {id W i off : Nat} {v : Value} (k : Nat) (h : Rep imm loc (.gelem id W i off) v) : ∃ b o, v = .pointer (some ⟨b, o, none⟩) ∧ Rep imm loc (.gelem id W i (off + k)) (.pointer (some ⟨b, o + k, none⟩)) := by
  cases h with
  | gelem _ _ _ _ b n cap e h => exact ⟨b, _, rfl, by rw [Nat.add_assoc]; exact .gelem _ _ _ _ _ _ _ _ h⟩
  | gelemF _ _ _ _ b o n h => exact ⟨b, _, rfl, by rw [Nat.add_assoc]; exact .gelemF _ _ _ _ _ _ _ h⟩
  | dead _ _ j h1 h2 h3 =>
    obtain ⟨b, o, rfl⟩ := h2
    exact ⟨b, _, rfl, .dead _ _ j h1 ⟨b, o, by simp [Nat.add_assoc]⟩ h3⟩

include E in
theorem fieldAddrEff_plain {t : TypeId} {x : U} {vx : Value} {i : Nat} {e : Eff} (hx : Rep imm loc x vx) (h : fieldAddrEff env t x i = some e) : Plain P imm loc w (Instr.fieldAt t vx i) e := by
  unfold fieldAddrEff at h
  split at h
  · cases h
  rename_i off ti hf
  cases h0 : Nat.beq ti.size 0 with
  | true => rw [h0] at h; cases h
  | false =>
    rw [h0] at h
    simp only [cond_false] at h
    split at h
    · rename_i id o
      obtain ⟨b, rfl⟩ := hx.ptr_inv
      exact plain_val h ⟨_, fieldAddr_run E hf h0 b o, hx.ptr_add off⟩
    · rename_i S j o
      obtain ⟨b, o', vals, rfl, h1, h2, h3⟩ := hx.elem_inv
      refine plain_val h ⟨_, fieldAddr_run E hf h0 b _, ?_⟩
      rw [Nat.add_assoc]
      exact .elem S j _ b o' vals h1 h2 h3
    · rename_i id W j o
      obtain ⟨b, o', rfl, h1⟩ := hx.gelem_add off
      exact plain_val h ⟨_, fieldAddr_run E hf h0 b _, h1⟩
    · cases h

theorem extract_plain {x : U} {vx : Value} {i : Nat} {us : List U} {u : U} (hx : Rep imm loc x vx) (hu : x = .tup us) (hi : us[i]? = some u) : ∃ v, (Instr.extract vx i).run P w = .ok v w ∧ Rep imm loc u v := by
  subst hu
  obtain ⟨vs, rfl, hl, hr⟩ := hx.tup_inv
  have hlt : i < us.length := (List.getElem?_eq_some_iff.1 hi).1
  have hv : vs[i]? = some (vs.getD i undef) := by simp [show i < vs.size by omega]
  refine ⟨vs.getD i undef, ?_, ?_⟩
  · unfold Instr.extract
    simp only [hv]
    rfl
  · have := hr i (by omega)
    rwa [List.getD_eq_getElem?_getD, hi] at this

theorem unEff_plain {op : UnOp} {x : U} {vx : Value} {e : Eff} (hx : Rep imm loc x vx) (h : unEff op x = some e) : Plain P imm loc w (Op.unary op vx) e := by
  unfold unEff at h
  split at h
  · obtain rfl := hx.bool_inv
    exact plain_val h ⟨_, rfl, .bool _⟩
  · obtain rfl := hx.int_inv
    exact plain_val h ⟨_, rfl, .int _ _⟩
  · cases h

theorem bounds_ok {n : Int} {m : Nat} (h : (decide (0 ≤ n) && decide (n < (m : Int))) = true) : 0 ≤ n ∧ n < (m : Int) := by simpa using h

theorem asIntOf_run (k : IntKind) (n : Int) : (asIntOf (.int k n)).run P w = .ok (k, n) w := rfl

/-- an index into rows that are held -/
theorem indexAt_slice_run {t et : TypeId} {i : TypeInfo} (ht : P.underlying t = some (.slice et)) (hi : P.info? et = some i) (k : IntKind) (n : Int) (b o len cap : Nat) (h0 : 0 ≤ n) (h1 : n < (len : Int)) :
    (Instr.indexAt t (.slice (some ⟨b, o, none⟩) len cap) (.int k n)).run P w = .ok (.pointer (some ⟨b, o + n.toNat * i.size, none⟩)) w := by
  unfold Instr.indexAt
  rw [Sem.run_bind, asIntOf_run, Result.andThen_ok]
  simp only [Sem.run_bind, run_underlying ht, Result.andThen_ok, Sem.run_pure, h0, h1, and_self, if_true, sizeOf_run hi, Addr.add_lit]

theorem indexAt_array_run {t et : TypeId} {i : TypeInfo} {len : Nat} (ht : P.underlying t = some (.array len et)) (hi : P.info? et = some i) (k : IntKind) (n : Int) (b o : Nat) (h0 : 0 ≤ n) (h1 : n < (len : Int)) :
    (Instr.indexAt t (.pointer (some ⟨b, o, none⟩)) (.int k n)).run P w = .ok (.pointer (some ⟨b, o + n.toNat * i.size, none⟩)) w := by
  unfold Instr.indexAt
  rw [Sem.run_bind, asIntOf_run, Result.andThen_ok]
  simp only [Sem.run_bind, run_underlying ht, Result.andThen_ok, Sem.run_pure, Instr.sureAddr, h0, h1, and_self, if_true, sizeOf_run hi, Addr.add_lit]

include E in
theorem indexAddrEff_plain {lk lk' : Lk} (R : Rel imm loc lk w) (hlk : ∀ i o, lk' i = some o → lk i = some o) {t : TypeId} {x : U} {vx : Value} {k : IntKind} {n : Int} {e : Eff} (hx : Rep imm loc x vx)
    (h : indexAddrEff env lk' t x n = some e) (hok : e.ok = true) : Plain P imm loc w (Instr.indexAt t vx (.int k n)) e := by
  unfold indexAddrEff at h
  split at h
  · rename_i S f
    cases he : isElem env t S.kind with
    | false => rw [he] at h; cases h
    | true =>
      rw [he] at h
      obtain ⟨et, hel⟩ := isElem_inv E he
      obtain ⟨ht, i, z, hi, _, _, hsz, _⟩ := E.elems _ _ _ hel
      refine plain_valIf h hok fun hb => ?_
      obtain ⟨h0, h1⟩ := bounds_ok hb
      obtain ⟨a, m, cap, vals, rfl, rfl, _, _, ha, hr⟩ := hx.slice_inv
      obtain ⟨b, o, rfl, him⟩ := ha (by omega)
      refine ⟨_, indexAt_slice_run ht hi k n b o _ _ h0 h1, ?_⟩
      rw [hsz, kind_width]
      exact .elem S n.toNat 0 b o vals (by omega) him hr
  · rename_i id
    split at h
    · rename_i S wr hu
      cases he : isElem env t S.kind with
      | false => rw [he] at h; cases h
      | true =>
        rw [he] at h
        obtain ⟨et, hel⟩ := isElem_inv E he
        obtain ⟨ht, i, z, hi, _, _, hsz, _⟩ := E.elems _ _ _ hel
        refine plain_valIf h hok fun hb => ?_
        obtain ⟨h0, h1⟩ := bounds_ok hb
        rcases buf_rows R (hlk _ _ hu) with ⟨b, cap, e', c, hl, _⟩ | ⟨a, hl, hr, _⟩
        · rcases hx.gsl_inv hl with ⟨b', n', cap', e'', h2, rfl⟩ | ⟨_, _, h2, _⟩
          · cases h2
            refine ⟨_, indexAt_slice_run ht hi k n b 0 _ _ h0 h1, ?_⟩
            rw [hsz, kind_width, Nat.zero_add]
            exact .gelem id S.width n.toNat 0 b _ _ _ hl
          · cases h2
        · rcases hx.gsl_inv hl with ⟨_, _, _, _, h2, _⟩ | ⟨a', n', h2, rfl⟩
          · cases h2
          · cases h2
            obtain ⟨a', m, cap, vals, hv, _, _, _, ha, _⟩ := hr.slice_inv
            cases hv
            obtain ⟨b, o, rfl, _⟩ := ha (by omega)
            refine ⟨_, indexAt_slice_run ht hi k n b o _ _ h0 h1, ?_⟩
            rw [hsz, kind_width]
            exact .gelemF id S.width n.toNat 0 b o _ hl
    · cases h
  · rename_i S
    split at h
    · rename_i m et harr
      split at h
      · rename_i ti hti
        cases hb : (Nat.beq S.len m && Nat.beq ti.size S.width) with
        | false => rw [hb] at h; cases h
        | true =>
          rw [hb] at h
          rw [Bool.and_eq_true] at hb
          have hm := Nat.eq_of_beq_eq_true hb.1
          have hw := Nat.eq_of_beq_eq_true hb.2
          obtain ⟨i, d, hi, hsz, _⟩ := E.tys _ _ hti
          refine plain_valIf h hok fun hb => ?_
          obtain ⟨h0, h1⟩ := bounds_ok hb
          obtain ⟨b, o, vals, rfl, h2, h3, h4⟩ := hx.elem_inv
          refine ⟨_, indexAt_array_run (E.arrs _ _ _ harr) hi k n b _ h0 h1, ?_⟩
          rw [hsz, hw]
          have := Rep.elem (imm := imm) (loc := loc) S n.toNat 0 b o vals (by omega) h3 h4
          simpa using this
      · cases h
    · cases h
  · rename_i id off
    split at h
    · rename_i m et harr
      split at h
      · rename_i ti hti
        obtain ⟨i, d, hi, hsz, _⟩ := E.tys _ _ hti
        refine plain_valIf h hok fun hb => ?_
        obtain ⟨h0, h1⟩ := bounds_ok hb
        obtain ⟨b, rfl⟩ := Rep.ptr_inv hx
        refine ⟨_, indexAt_array_run (E.arrs _ _ _ harr) hi k n b _ h0 h1, ?_⟩
        rw [hsz]
        exact hx.ptr_add (n.toNat * ti.size)
      · cases h
    · cases h
  · cases h

end

end Go.Abs

/- Soundness of the abstract machine, part 7: parts of values, slices, lengths, conversions, literals of structs. -/
namespace Go.Abs
open Go

section
variable {P : Program} {env : Env} (E : EnvOK P env) {imm : Imm} {loc : Locs} {w : World}

include E in
theorem field_plain {t : TypeId} {x : U} {vx : Value} {i off : Nat} {ti : TyInfo} {cs : List U} {e : Eff} (hx : Rep imm loc x vx) (hc : x = .agg cs) (hf : structAt env t i = some (off, ti))
    (hle : off + ti.size ≤ cs.length) (h : val (partU ti cs off) = some e) : Plain P imm loc w (Instr.field t vx i) e := by
  subst hc
  obtain ⟨vs, rfl, hl, hr⟩ := hx.agg_inv
  obtain ⟨Fs, f, hu, hff, rfl, ht⟩ := structAt_inv E hf
  obtain ⟨v, hv, hrep⟩ := part_plain (P := P) (w := w) E ht (us := cs) (cs := vs) (off := f.offset) (by omega) hl hr
  refine plain_val h ⟨v, ?_, hrep⟩
  unfold Instr.field
  rw [Sem.run_bind, run_underlying hu, Result.andThen_ok]
  simp only [hff]
  rw [Sem.run_bind]
  exact hv

theorem getElem?_data (s : ByteArray) (n : Nat) (h : n < s.size) : s[n]? = some (s.data.toList.getD n 0) := by
  have h1 : s[n]? = some (s[n]'h) := by simp [h]
  rw [h1]
  congr 1
  have h2 : n < s.data.size := h
  have h3 : s[n]'h = s.data[n]'h2 := rfl
  rw [h3, List.getD_eq_getElem?_getD, Array.getElem?_toList, Array.getElem?_eq_getElem h2]
  rfl

include E in
theorem indexEff_plain {t : TypeId} {x : U} {vx : Value} {k : IntKind} {n : Int} {e : Eff} (hx : Rep imm loc x vx) (h : indexEff env t x n = some e) (hok : e.ok = true) : Plain P imm loc w (Instr.index t vx (.int k n)) e := by
  unfold indexEff at h
  split at h
  · obtain ⟨s, rfl, rfl⟩ := hx.str_inv
    cases hk : isKind env t 1 with
    | false => rw [hk] at h; cases h
    | true =>
      rw [hk] at h
      have ht := isKind_str E hk
      refine plain_valIf h hok fun hb => ?_
      obtain ⟨h0, h1⟩ := bounds_ok hb
      have hlt : n.toNat < s.size := by have : (s.data.toList.length : Int) = s.size := by simp
                                        omega
      refine ⟨_, ?_, .int .u8 _⟩
      unfold Instr.index
      rw [Sem.run_bind, asIntOf_run, Result.andThen_ok]
      simp only [Sem.run_bind, run_underlying ht, Result.andThen_ok, h0, if_true, getElem?_data s _ hlt]
      rfl
  · rename_i cs
    obtain ⟨vs, rfl, hl, hr⟩ := hx.agg_inv
    split at h
    · rename_i m et ha
      split at h
      · rename_i ti hti
        cases hb : Nat.ble (m * ti.size) cs.length with
        | false => rw [hb] at h; cases h
        | true =>
          rw [hb] at h
          have hle := Nat.le_of_ble_eq_true hb
          have ht := E.arrs _ _ _ ha
          obtain ⟨i, d, hi, hsz, _⟩ := E.tys _ _ hti
          refine plain_valIf h hok fun hb => ?_
          obtain ⟨h0, h1⟩ := bounds_ok hb
          have hlt : n.toNat < m := by omega
          have hfit : n.toNat * ti.size + ti.size ≤ vs.size := by
            have : (n.toNat + 1) * ti.size ≤ m * ti.size := Nat.mul_le_mul_right _ hlt
            rw [Nat.add_mul, Nat.one_mul] at this
            omega
          obtain ⟨v, hv, hrep⟩ := part_plain (P := P) (w := w) E hti (us := cs) (cs := vs) (off := n.toNat * ti.size) hfit hl hr
          refine ⟨v, ?_, hrep⟩
          unfold Instr.index
          rw [Sem.run_bind, asIntOf_run, Result.andThen_ok]
          simp only [Sem.run_bind, run_underlying ht, Result.andThen_ok, h0, h1, and_self, if_true, sizeOf_run hi, hsz]
          exact hv
      · cases h
    · cases h
  · cases h

theorem nilCheck_run {x : U} {vx : Value} (o : Oper) (f : Operand → Value) (y : Operand) (ho : o.op = .nilCheck y) (hy : f y = vx) (hx : Rep imm loc x vx) {e : Eff} (h : nilCheckEff x = some e) :
    e.tn = [] ∧ e.sets = [] ∧ ∃ v, (Go.execOp f o).run P w = .ok (.value v) w ∧ Rep imm loc e.v v := by
  have key : ∀ ad, vx = .pointer (some ad) → (Go.execOp f o).run P w = .ok (.value vx) w := by
    rintro ad rfl
    unfold Go.execOp
    simp only [ho, hy]
    rfl
  unfold nilCheckEff at h
  split at h
  · cases h
    obtain ⟨b, hb⟩ := hx.ptr_inv
    exact ⟨rfl, rfl, vx, key _ hb, hx⟩
  · cases h
    obtain ⟨b, o', vals, hb, _⟩ := hx.elem_inv
    exact ⟨rfl, rfl, vx, key _ hb, hx⟩
  · cases h
    obtain ⟨b, o', hb, _⟩ := hx.gelem_add 0
    exact ⟨rfl, rfl, vx, key _ hb, hx⟩
  · cases h
    obtain ⟨vs, ws, hb, _⟩ := hx.func_inv
    refine ⟨rfl, rfl, vx, ?_, hx⟩
    subst hb
    unfold Go.execOp
    simp only [ho, hy]
    rfl
  · cases h

/-! ### lengths -/

include E in
theorem len_plain {lk lk' : Lk} (R : Rel imm loc lk w) (hlk : ∀ i o, lk' i = some o → lk i = some o) {t ty : TypeId} {x : U} {vx : Value} {e : Eff} (hx : Rep imm loc x vx) (hl : lenOK env lk' t x = true)
    (h : orNone (lenU lk' x) = some e) : Plain P imm loc w (Builtin.len_ #[t] ty #[vx]) e := by
  have slice : ∀ et, P.underlying t = some (.slice et) → ∀ a n cap, (Builtin.len_ #[t] ty #[.slice a n cap]).run P w = .ok (.int .i64 (n : Int)) w := by
    intro et ht a n cap
    unfold Builtin.len_
    simp only [List.getElem?_toArray, List.getElem?_cons_zero]
    rw [Sem.run_bind, run_underlying ht, Result.andThen_ok]
    rfl
  unfold lenOK at hl
  split at hl
  · rename_i S f
    obtain ⟨et, hel⟩ := isElem_inv E hl
    obtain ⟨a, n, cap, vals, rfl, rfl, _⟩ := hx.slice_inv
    exact plain_val h ⟨_, slice et (E.elems _ _ _ hel).1 _ _ _, .int _ _⟩
  · rename_i id
    split at hl
    · rename_i S wr hu
      obtain ⟨et, hel⟩ := isElem_inv E hl
      have ht := (E.elems _ _ _ hel).1
      simp only [lenU, hu, orNone] at h
      rcases buf_rows R (hlk _ _ hu) with ⟨b, cap, e', c, h1, _⟩ | ⟨a, h1, _⟩
      · rcases hx.gsl_inv h1 with ⟨b', n', cap', e'', h2, rfl⟩ | ⟨_, _, h2, _⟩
        · cases h2; exact plain_val h ⟨_, slice et ht _ _ _, .int _ _⟩
        · cases h2
      · rcases hx.gsl_inv h1 with ⟨_, _, _, _, h2, _⟩ | ⟨a', n', h2, rfl⟩
        · cases h2
        · cases h2; exact plain_val h ⟨_, slice et ht _ _ _, .int _ _⟩
    · cases hl
  · obtain ⟨s, rfl, rfl⟩ := hx.str_inv
    have ht := isKind_str E hl
    refine plain_val h ⟨.int .i64 (s.size : Int), ?_, ?_⟩
    · unfold Builtin.len_
      simp only [List.getElem?_toArray, List.getElem?_cons_zero]
      rw [Sem.run_bind, run_underlying ht, Result.andThen_ok]
      rfl
    · have : (s.data.toList.length : Int) = s.size := by simp
      rw [this]; exact .int _ _
  · cases hl

theorem max_plain {k : IntKind} {a b : Int} {e : Eff} (ts : Array TypeId) (ty : TypeId) (h : val (.int k (if b > a then b else a)) = some e) : Plain P imm loc w (Builtin.max_ ts ty #[.int k a, .int k b]) e :=
  plain_val h ⟨_, rfl, .int _ _⟩
theorem min_plain {k : IntKind} {a b : Int} {e : Eff} (ts : Array TypeId) (ty : TypeId) (h : val (.int k (if b < a then b else a)) = some e) : Plain P imm loc w (Builtin.min_ ts ty #[.int k a, .int k b]) e :=
  plain_val h ⟨_, rfl, .int _ _⟩

end

end Go.Abs

/- Soundness of the abstract machine, part 8: slices of slices, conversions, literals. -/
namespace Go.Abs
open Go

inductive OptRep (imm : Imm) (loc : Locs) : Option U → Option Value → Prop where
  | none : OptRep imm loc none none
  | some {u : U} {v : Value} (h : Rep imm loc u v) : OptRep imm loc (some u) (some v)

section
variable {P : Program} {env : Env} (E : EnvOK P env) {imm : Imm} {loc : Locs} {w : World}

def boundSem (v : Option Value) (y : Nat) (code : BoundsCode) (d : Nat) : Sem Nat := match v with | some v => Instr.sliceBound v y code | none => pure d

theorem sliceBounds_run {lo hi : Option U} {vlo vhi : Option Value} (hlo : OptRep imm loc lo vlo) (hhi : OptRep imm loc hi vhi) (isS : Bool) (len cap : Nat) {l h : Int} (h1 : bound 0 lo = some l) (h2 : bound (len : Int) hi = some h)
    (h3 : 0 ≤ l) (h4 : l ≤ h) (h5 : h ≤ (cap : Int)) : (Instr.sliceBounds isS len cap vlo vhi none).run P w = .ok (l.toNat, h.toNat, cap) w := by
  have hh : 0 ≤ h := by omega
  have hmax : ((h.toNat : Nat) : Int) = h := Int.toNat_of_nonneg hh
  have shape : Instr.sliceBounds isS len cap vlo vhi none = (boundSem vhi cap (if isS then .sliceAcap else .sliceAlen) len >>= fun h =>
      boundSem vlo h .sliceB 0 >>= fun l => pure (l, h, cap)) := by
    cases vlo <;> cases vhi <;> rfl
  rw [shape, Sem.run_bind]
  have hi1 : (boundSem vhi cap (if isS then .sliceAcap else .sliceAlen) len).run P w = .ok h.toNat w := by
    cases hhi with
    | none =>
      simp only [bound, Option.some.injEq] at h2
      subst h2
      rfl
    | some hu =>
      rename_i u v
      cases u <;> simp only [bound, Option.some.injEq, reduceCtorEq] at h2
      subst h2
      obtain rfl := hu.int_inv
      exact run_sliceBound (P := P) w _ _ _ _ hh h5
  rw [hi1, Result.andThen_ok, Sem.run_bind]
  have lo1 : (boundSem vlo h.toNat .sliceB 0).run P w = .ok l.toNat w := by
    cases hlo with
    | none =>
      simp only [bound, Option.some.injEq] at h1
      subst h1
      rfl
    | some hu =>
      rename_i u v
      cases u <;> simp only [bound, Option.some.injEq, reduceCtorEq] at h1
      subst h1
      obtain rfl := hu.int_inv
      exact run_sliceBound (P := P) w _ _ _ _ h3 (by rw [hmax]; exact h4)
  rw [lo1, Result.andThen_ok]
  rfl

theorem sliceAt_slice_run {t et : TypeId} {i : TypeInfo} (ht : P.underlying t = some (.slice et)) (hii : P.info? et = some i) {lo hi : Option U} {vlo vhi : Option Value} (hlo : OptRep imm loc lo vlo) (hhi : OptRep imm loc hi vhi)
    (a : Option Addr) (len cap : Nat) {l h : Int} (h1 : bound 0 lo = some l) (h2 : bound (len : Int) hi = some h) (h3 : 0 ≤ l) (h4 : l ≤ h) (h5 : h ≤ (cap : Int)) :
    (Instr.sliceAt t (.slice a len cap) vlo vhi none).run P w = .ok (.slice (if cap = l.toNat then a else a.map (·.add (l.toNat * i.size))) (h.toNat - l.toNat) (cap - l.toNat)) w := by
  unfold Instr.sliceAt
  rw [Sem.run_bind, run_underlying ht, Result.andThen_ok]
  unfold Instr.slice
  simp only [Sem.run_bind, run_underlying ht, Result.andThen_ok, sliceBounds_run hlo hhi true len cap h1 h2 h3 h4 h5, sizeOf_run hii]
  rfl

theorem sliceAt_array_run {t et : TypeId} {n : Nat} {i : TypeInfo} (ht : P.underlying t = some (.array n et)) (hi : P.info? et = some i) (b o : Nat) :
    (Instr.sliceAt t (.pointer (some ⟨b, o, none⟩)) none none none).run P w = .ok (.slice (some ⟨b, o, none⟩) n n) w := by
  unfold Instr.sliceAt
  rw [Sem.run_bind, run_underlying ht, Result.andThen_ok]
  simp only [Sem.run_bind, Instr.sureAddr, Sem.run_pure, Result.andThen_ok, sizeOf_run hi, Instr.sliceBounds]
  simp only [Nat.zero_mul, Addr.add_zero', Nat.sub_zero, ite_self]

theorem row_drop (S : Rows) (l i : Nat) : (S.drop l).row i = S.row (l + i) := by
  cases S <;> simp only [Rows.drop, Rows.row, List.getD_eq_getElem?_getD, List.getElem?_drop]
theorem row_take (S : Rows) (l i : Nat) (h : i < l) : (S.take l).row i = S.row i := by
  cases S <;> simp [Rows.take, Rows.row, List.getD_eq_getElem?_getD, h]
theorem take_len (S : Rows) : S.take S.len = S := by cases S <;> simp [Rows.take, Rows.len]
theorem width_drop (S : Rows) (l : Nat) : (S.drop l).width = S.width := by cases S <;> rfl
theorem width_take (S : Rows) (l : Nat) : (S.take l).width = S.width := by cases S <;> rfl
theorem len_drop (S : Rows) (l : Nat) : (S.drop l).len = S.len - l := by cases S <;> simp [Rows.drop, Rows.len]
theorem len_take (S : Rows) (l : Nat) : (S.take l).len = min l S.len := by cases S <;> simp [Rows.take, Rows.len]

/-- a slice of rows that are held -/
theorem Rep.sliced {S : Rows} {f f' : Bool} {a : Option Addr} {n cap l h : Nat} (hv : Rep imm loc (.slice S f) (.slice a n cap)) (h1 : l ≤ h) (h2 : h ≤ n) (hf : f' = true → f = true ∧ h = n) :
    Rep imm loc (.slice ((S.take h).drop l) f') (.slice (if cap = l then a else a.map (·.add (l * S.width))) (h - l) (cap - l)) := by
  obtain ⟨a', n', cap', vals, he, hn, hfull, hc, ha, hr⟩ := hv.slice_inv
  cases he
  have hlen : ((S.take h).drop l).len = h - l := by rw [len_drop, len_take, Nat.min_eq_left (by omega)]
  have hw : ((S.take h).drop l).width = S.width := by rw [width_drop, width_take]
  refine .slice _ _ _ _ _ (fun i j => vals (l + i) j) hlen.symm (fun h' => ?_) (by omega) (fun h0 => ?_) fun i j hi hj => ?_
  · obtain ⟨h3, h4⟩ := hf h'
    rw [h4, hfull h3]
  · obtain ⟨b, o, rfl, him⟩ := ha (by omega)
    rw [if_neg (by omega)]
    refine ⟨b, o + l * S.width, by simp [Addr.add_lit], fun i j hi hj => ?_⟩
    rw [hw] at hj ⊢
    have := him (l + i) j (by omega) hj
    rwa [show o + (l + i) * S.width + j = o + l * S.width + i * S.width + j by rw [Nat.add_mul]; omega] at this
  · rw [row_drop, row_take _ _ _ (by omega)]
    exact hr _ _ (by omega) (by rwa [hw] at hj)

include E in
/-- all slices but those of buffers -/
theorem sliceEff_plain {lk : Lk} {d : Option Tmp} {t : TypeId} {x : U} {vx : Value} {lo hi : Option U} {vlo vhi : Option Value} {e : Eff} (hx : Rep imm loc x vx) (hlo : OptRep imm loc lo vlo) (hhi : OptRep imm loc hi vhi)
    (hne : ∀ id, x ≠ .gsl id) (h : sliceEff env lk d t x lo hi = some e) (hok : e.ok = true) : Plain P imm loc w (Instr.sliceAt t vx vlo vhi none) e := by
  unfold sliceEff at h
  split at h
  · obtain ⟨s, rfl, rfl⟩ := hx.str_inv
    split at h
    · rename_i l hh hl hhh
      cases hk : isKind env t 1 with
      | false => rw [hk] at h; cases h
      | true =>
        rw [hk] at h
        have ht := isKind_str E hk
        refine plain_valIf h hok fun hb => ?_
        have hb' : (0 ≤ l ∧ l ≤ hh) ∧ hh ≤ (s.data.toList.length : Int) := by simpa using hb
        have hsz : s.data.toList.length = s.size := by simp
        rw [hsz] at hhh hb'
        refine ⟨.string (s.extract l.toNat hh.toNat), ?_, .str _ _ ?_⟩
        · unfold Instr.sliceAt
          rw [Sem.run_bind, run_underlying ht, Result.andThen_ok]
          unfold Instr.slice
          simp only [Sem.run_bind, run_underlying ht, Result.andThen_ok, Option.isSome_none, Bool.false_eq_true, if_false, sliceBounds_run hlo hhi false s.size s.size hl hhh hb'.1.1 hb'.1.2 hb'.2, Sem.run_pure]
        · simp [ByteArray.data_extract, List.extract_eq_take_drop, List.take_drop]
          congr 2
          omega
    · cases h
  · rename_i S f
    cases he : isElem env t S.kind with
    | false => rw [he] at h; cases h
    | true =>
      rw [he] at h
      simp only [Bool.not_true, cond_false] at h
      obtain ⟨et, hel⟩ := isElem_inv E he
      obtain ⟨ht, i, z, hi', _, _, hsz, _⟩ := E.elems _ _ _ hel
      obtain ⟨a, n, cap, vals, rfl, hn, hfull, hc, _⟩ := hx.slice_inv
      rw [kind_width] at hsz
      split at h
      · split at h
        · rename_i l hl
          refine plain_valIf h hok fun hb => ?_
          have hb' : 0 ≤ l ∧ l ≤ (S.len : Int) := by simpa using hb
          cases hhi
          refine ⟨_, sliceAt_slice_run ht hi' hlo .none a n cap hl (h := (n : Int)) rfl hb'.1 (by omega) (by omega), ?_⟩
          have := hx.sliced (l := l.toNat) (h := n) (f' := f) (by omega) (Nat.le_refl _) (fun h => ⟨h, rfl⟩)
          rw [hsz, Int.toNat_natCast]
          have htk : S.take n = S := by rw [hn, take_len]
          rwa [htk] at this
        · cases h
      · rename_i hu
        split at h
        · rename_i l hh hl hhh
          refine plain_valIf h hok fun hb => ?_
          have hb' : (0 ≤ l ∧ l ≤ hh) ∧ hh ≤ (S.len : Int) := by simpa using hb
          have hbd : bound (n : Int) (some hu) = some hh := by
            cases hu <;> simp only [intOf?, reduceCtorEq] at hhh
            exact hhh
          refine ⟨_, sliceAt_slice_run ht hi' hlo hhi a n cap hl hbd hb'.1.1 hb'.1.2 (by omega), ?_⟩
          rw [hsz]
          exact hx.sliced (by omega) (by omega) (fun h => by cases h)
        · cases h
  · exact absurd rfl (hne _)
  · rename_i S
    split at h
    · rename_i n et harr
      split at h
      · rename_i ti hti
        cases hb : (Nat.beq S.len n && Nat.beq ti.size S.width) with
        | false => rw [hb] at h; cases h
        | true =>
          rw [hb] at h
          rw [Bool.and_eq_true] at hb
          have hn := Nat.eq_of_beq_eq_true hb.1
          obtain ⟨i, d, hi', hsz, _⟩ := E.tys _ _ hti
          obtain ⟨b, o, vals, rfl, h2, h3, h4⟩ := hx.elem_inv
          cases hlo
          cases hhi
          refine plain_val h ⟨_, sliceAt_array_run (E.arrs _ _ _ harr) hi' b _, ?_⟩
          refine .slice S true _ _ _ vals hn.symm (fun _ => rfl) (Nat.le_refl _) (fun _ => ⟨b, o, by simp, fun i j hi hj => h3 i j (by omega) hj⟩) fun i j hi hj => h4 i j (by omega) hj
      · cases h
    · cases h
  · cases h

end

end Go.Abs

/- Soundness of the abstract machine, part 9: conversions, literals of structs, maps' reads. -/
namespace Go.Abs
open Go

/-! ### rows of cells -/

def CellsRel (imm : Imm) (loc : Locs) (us : List U) (cs : Array Value) : Prop := us.length = cs.size ∧ ∀ i, i < cs.size → Rep imm loc (us.getD i .undef) (cs.getD i undef)

theorem writeAt_length : ∀ (us : List U) (n : Nat) (vs : List U), (writeAt us n vs).length = us.length
  | us, n, [] => by cases us <;> cases n <;> rfl
  | [], n, _ :: _ => by cases n <;> rfl
  | _ :: us, 0, v :: vs => by simp [writeAt, writeAt_length us 0 vs]
  | u :: us, n + 1, v :: vs => by simp [writeAt, writeAt_length us n (v :: vs)]

theorem writeAt_getD : ∀ (us : List U) (n : Nat) (vs : List U) (i : Nat), n + vs.length ≤ us.length → (writeAt us n vs).getD i .undef = if n ≤ i ∧ i < n + vs.length then vs.getD (i - n) .undef else us.getD i .undef
  | us, n, [], i, _ => by
    have : writeAt us n [] = us := by cases us <;> cases n <;> rfl
    rw [this, if_neg (by simp only [List.length_nil]; omega)]
  | [], n, _ :: _, i, h => by simp at h
  | u :: us, 0, v :: vs, i, h => by
    cases i with
    | zero => simp [writeAt]
    | succ i =>
      have ih := writeAt_getD us 0 vs i (by simp at h ⊢; omega)
      simp only [writeAt, List.getD_cons_succ, ih, List.length_cons, Nat.zero_le, true_and, Nat.zero_add, Nat.sub_zero, Nat.add_lt_add_iff_right]
  | u :: us, n + 1, v :: vs, i, h => by
    cases i with
    | zero => simp [writeAt]
    | succ i =>
      have ih := writeAt_getD us n (v :: vs) i (by simp at h ⊢; omega)
      simp only [writeAt, List.getD_cons_succ, ih, List.length_cons]
      by_cases hc : n ≤ i ∧ i < n + (vs.length + 1)
      · rw [if_pos hc, if_pos (by omega)]; congr 1; omega
      · rw [if_neg hc, if_neg (by omega)]

theorem getD_set (cs : Array Value) (i j : Nat) (v : Value) : (cs.setIfInBounds i v).getD j undef = if i = j ∧ i < cs.size then v else cs.getD j undef := by
  simp only [Array.getD_eq_getD_getElem?, Array.getElem?_setIfInBounds]
  by_cases h : i = j
  · subst h
    by_cases h2 : i < cs.size
    · simp [h2]
    · simp [h2]
  · simp [h]

theorem foldSet_aux : ∀ (l : List Value) (k off : Nat) (cs : Array Value), off + k + l.length ≤ cs.size →
    ((l.zipIdx k).foldl (fun cs (p : Value × Nat) => cs.setIfInBounds (off + p.2) p.1) cs).size = cs.size ∧
    ∀ i, ((l.zipIdx k).foldl (fun cs (p : Value × Nat) => cs.setIfInBounds (off + p.2) p.1) cs).getD i undef = if off + k ≤ i ∧ i < off + k + l.length then l.getD (i - (off + k)) undef else cs.getD i undef
  | [], k, off, cs, _ => by
    refine ⟨rfl, fun i => ?_⟩
    rw [if_neg (by simp only [List.length_nil]; omega)]
    rfl
  | v :: l, k, off, cs, h => by
    have ih := foldSet_aux l (k + 1) off (cs.setIfInBounds (off + k) v) (by simp at h ⊢; omega)
    simp only [List.zipIdx_cons, List.foldl_cons]
    refine ⟨ih.1.trans (by simp), fun i => ?_⟩
    rw [ih.2 i, getD_set]
    simp only [List.length_cons] at h ⊢
    by_cases h1 : off + (k + 1) ≤ i ∧ i < off + (k + 1) + l.length
    · rw [if_pos h1, if_pos (by omega), show i - (off + k) = i - (off + (k + 1)) + 1 by omega, List.getD_cons_succ]
    · rw [if_neg h1]
      by_cases h2 : off + k = i
      · subst h2
        rw [if_pos (by omega), if_pos (by omega), Nat.sub_self, List.getD_cons_zero]
      · rw [if_neg (by omega), if_neg (by omega)]

theorem foldSet (vs : Array Value) (off : Nat) (cs : Array Value) (h : off + vs.size ≤ cs.size) :
    (vs.zipIdx.foldl (fun cs (c, j) => cs.setIfInBounds (off + j) c) cs).size = cs.size ∧
    ∀ i, (vs.zipIdx.foldl (fun cs (c, j) => cs.setIfInBounds (off + j) c) cs).getD i undef = if off ≤ i ∧ i < off + vs.size then vs.getD (i - off) undef else cs.getD i undef := by
  have := foldSet_aux vs.toList 0 off cs (by simpa using h)
  rw [← Array.foldl_toList, Array.toList_zipIdx]
  simpa using this

theorem CellsRel.write {imm : Imm} {loc : Locs} {us : List U} {cs : Array Value} (h : CellsRel imm loc us cs) {u : U} {v : Value} (hv : Rep imm loc u v) (hu : solid u = true) {off : Nat} (hle : off + u.cells.length ≤ us.length) :
    CellsRel imm loc (writeAt us off u.cells) (v.cells.zipIdx.foldl (fun cs (c, j) => cs.setIfInBounds (off + j) c) cs) := by
  obtain ⟨h1, h2⟩ := hv.cells hu
  obtain ⟨h3, h4⟩ := foldSet v.cells off cs (by rw [h1, ← h.1]; exact hle)
  refine ⟨by rw [writeAt_length, h3, h.1], fun i hi => ?_⟩
  rw [writeAt_getD _ _ _ _ hle, h4]
  by_cases hc : off ≤ i ∧ i < off + u.cells.length
  · rw [if_pos hc, if_pos (by omega)]
    exact h2 _ (by omega)
  · rw [if_neg hc, if_neg (by omega)]
    exact h.2 i (by omega)

section
variable {P : Program} {env : Env} (E : EnvOK P env) {imm : Imm} {loc : Locs} {w : World}

theorem fill_rel (pl : Nat → Option (Nat × TyInfo)) (place : Nat → Option (Nat × Nat)) (hp : ∀ i off ti, pl i = some (off, ti) → place i = some (off, ti.size)) (f : Operand → Value) (ev : Operand → U) (hr : ∀ x, Rep imm loc (ev x) (f x)) :
    ∀ (ps : List (Nat × Operand)) (us us' : List U) (cs : Array Value), CellsRel imm loc us cs → placeAll pl (evPairs ev ps) us = some us' →
      ∃ cs', Instr.fill place cs (ps.map fun p => (p.1, f p.2)) = some cs' ∧ CellsRel imm loc us' cs'
  | [], us, us', cs, h, hpl => by
    simp only [evPairs, placeAll, Option.some.injEq] at hpl
    subst hpl
    exact ⟨cs, rfl, h⟩
  | (i, x) :: ps, us, us', cs, h, hpl => by
    simp only [evPairs, placeAll] at hpl
    split at hpl
    · rename_i off ti hf
      cases hb : (solid (ev x) && Nat.beq (ev x).cells.length ti.size && Nat.ble (off + ti.size) us.length) with
      | false => rw [hb] at hpl; cases hpl
      | true =>
        rw [hb] at hpl
        simp only [Bool.and_eq_true] at hb
        obtain ⟨⟨h1, h2⟩, h3⟩ := hb
        have h2 := Nat.eq_of_beq_eq_true h2
        have h3 := Nat.le_of_ble_eq_true h3
        have hc := (hr x).cells h1
        obtain ⟨cs', h4, h5⟩ := fill_rel pl place hp f ev hr ps _ us' _ (h.write (hr x) h1 (off := off) (by omega)) hpl
        refine ⟨cs', ?_, h5⟩
        simp only [List.map_cons, Instr.fill, hp i off ti hf]
        rw [if_neg]
        · exact h4
        · have := h.1
          simp only [ne_eq, Bool.or_eq_true, decide_eq_true_eq]
          omega
    · cases hpl

theorem mapM_places : ∀ Fs : List Field, (∀ f ∈ Fs, ∃ i, P.info? f.type = some i) → ∃ pl : List (Nat × Nat), Fs.mapM (fun (f : Field) => (P.info? f.type).map fun i => (f.offset, i.size)) = some pl ∧
    ∀ (i : Nat) (f : Field), Fs[i]? = some f → ∃ inf, P.info? f.type = some inf ∧ pl[i]? = some (f.offset, inf.size)
  | [], _ => ⟨[], rfl, fun i f h => by simp at h⟩
  | f :: Fs, h => by
    obtain ⟨inf, hi⟩ := h f (by simp)
    obtain ⟨pl, h1, h2⟩ := mapM_places Fs fun g hg => h g (by simp [hg])
    refine ⟨(f.offset, inf.size) :: pl, by simp [hi, h1], fun i g hg => ?_⟩
    cases i with
    | zero => simp at hg; subst hg; exact ⟨inf, hi, rfl⟩
    | succ i => simpa using h2 i g (by simpa using hg)

include E in
theorem build_plain {t : TypeId} {ps : Array (Nat × Operand)} {us us' : List U} {fs : List (Nat × TypeId)} (f : Operand → Value) (ev : Operand → U) (hr : ∀ x, Rep imm loc (ev x) (f x)) (hz : look t env.zeros = some us)
    (hf : look t env.fields = some fs) (hpl : placeAll (structAt env t) (evPairs ev ps.toList) us = some us') {e : Eff} (h : val (.agg us') = some e) :
    Plain P imm loc w (Instr.build t (ps.map fun (i, x) => (i, f x))) e := by
  obtain ⟨it, z, hi, hiz, hzs, hzr⟩ := E.zeros t us hz
  have h0 : CellsRel imm loc us z.cells := ⟨hzs.symm, fun i hlt => hzr i (by omega) imm loc⟩
  have hl : (ps.map fun (i, x) => (i, f x)).toList = ps.toList.map fun p => (p.1, f p.2) := by simp
  obtain ⟨Fs, hu, hfs, hin⟩ := E.fields t fs hf
  obtain ⟨pl, h1, h2⟩ := mapM_places Fs.toList hin
  obtain ⟨cs', h3, h4⟩ := fill_rel (structAt env t) (fun i => pl[i]?) (fun i off ti hfa => by
    obtain ⟨Gs, g, hu', hg, rfl, ht⟩ := structAt_inv E hfa
    rw [hu] at hu'
    cases hu'
    obtain ⟨inf, h5, h6⟩ := h2 i g (by simpa using hg)
    obtain ⟨inf', d, h7, h8, _⟩ := E.tys _ _ ht
    rw [h5] at h7
    cases h7
    rw [h6, h8]) f ev hr ps.toList us us' z.cells h0 hpl
  refine plain_val h ⟨_, run_build w t _ cs' ?_, .agg _ _ h4.1 h4.2⟩
  unfold Program.built
  simp only [hi, hu, hiz, h1, hl, List.getElem?_toArray]
  exact h3

include E in
theorem buildArr_plain {t : TypeId} {ps : Array (Nat × Operand)} {us us' : List U} (f : Operand → Value) (ev : Operand → U) (hr : ∀ x, Rep imm loc (ev x) (f x)) (hz : look t env.zeros = some us)
    (hpl : placeAll (arrAt env t) (evPairs ev ps.toList) us = some us') {n : Nat} {et : TypeId} (ha : look t env.arrs = some (n, et)) {ti : TyInfo} (hti : look et env.tys = some ti) {e : Eff} (h : val (.agg us') = some e) :
    Plain P imm loc w (Instr.build t (ps.map fun (i, x) => (i, f x))) e := by
  obtain ⟨it, z, hi, hiz, hzs, hzr⟩ := E.zeros t us hz
  have h0 : CellsRel imm loc us z.cells := ⟨hzs.symm, fun i hlt => hzr i (by omega) imm loc⟩
  have hl : (ps.map fun (i, x) => (i, f x)).toList = ps.toList.map fun p => (p.1, f p.2) := by simp
  have hu := E.arrs t n et ha
  obtain ⟨ie, d, hie, hsz, _⟩ := E.tys _ _ hti
  obtain ⟨cs', h3, h4⟩ := fill_rel (arrAt env t) (fun i => some (i * ie.size, ie.size)) (fun i off ti' hfa => by
    obtain ⟨n', et', hu', _, ht, rfl⟩ := arrAt_inv E hfa
    rw [hu] at hu'; cases hu'
    rw [hti] at ht; cases ht
    rw [hsz]) f ev hr ps.toList us us' z.cells h0 hpl
  refine plain_val h ⟨_, run_build w t _ cs' ?_, .agg _ _ h4.1 h4.2⟩
  unfold Program.built
  simp only [hi, hu, hiz, hie, hl]
  exact h3

/-! ### conversions -/

theorem foldPush : ∀ (l : List UInt8) (r : ByteArray), (((l.map fun b => ((b.toNat : Nat) : Int)).foldl (fun (r : ByteArray) n => r.push (UInt8.ofNat n.toNat)) r)).data.toList = r.data.toList ++ l
  | [], r => by simp
  | b :: l, r => by
    simp only [List.map_cons, List.foldl_cons]
    rw [foldPush l]
    simp

include E in
theorem convEff_plain {lk lk' : Lk} (R : Rel imm loc lk w) (hlk : ∀ i o, lk' i = some o → lk i = some o) {s d : TypeId} {x : U} {vx : Value} {e : Eff} (hx : Rep imm loc x vx) (h : convEff env lk' s d x = some e) : Plain P imm loc w (convert s d vx) e := by
  have bytes : ∀ (l : Bytes) (et : TypeId), isKind env d 1 = true → look s env.elems = some (et, .bytes) → ∀ (a : Option Addr) (n cap : Nat) (vals : Nat → Value), n = l.length → (n = 0 ∨ ∃ b o, a = some ⟨b, o, none⟩ ∧ ∀ i, i < n → w.cell? ⟨b, o + i, none⟩ = some (vals i)) →
      (∀ i, i < n → vals i = .int .u8 ((l.getD i 0).toNat : Int)) → ∃ v, (convert s d (.slice a n cap)).run P w = .ok v w ∧ Rep imm loc (.str l) v := by
    intro l et hd hs a n cap vals hn ha hv
    obtain ⟨hse, _, _, _, _, _, _, _, _, hu8⟩ := E.elems _ _ _ hs
    rw [run_convert_bytes_string w s d et a n cap hse (hu8 rfl) (isKind_str E hd)]
    cases a with
    | none =>
      have h0 : n = 0 := by
        rcases ha with h | ⟨_, _, h, _⟩
        · exact h
        · cases h
      have hl : l = [] := List.eq_nil_of_length_eq_zero (by omega)
      subst hl
      exact ⟨.string .empty, rfl, .str _ _ rfl⟩
    | some a =>
      refine ⟨_, run_bytesToString w a n cap (l.map fun b => ((b.toNat : Nat) : Int)) ?_, .str _ _ ?_⟩
      · rw [run_loadCells w a n vals fun j hj => ?_]
        · congr 1
          apply congrArg List.toArray
          apply List.ext_getElem?
          intro j
          by_cases hj : j < n
          · have hj' : j < l.length := by omega
            simp [hj, hv j hj, hj']
          · simp [hj, show l.length ≤ j by omega]
        · rcases ha with h | ⟨b, o, h, hc⟩
          · omega
          · cases h; rw [Addr.add_lit]; exact hc j hj
      · rw [foldPush]; rfl
  unfold convEff at h
  split at h
  · obtain rfl := hx.int_inv
    split at h
    · cases h
    · rename_i ks hks
      have hs := E.ints s ks hks
      split at h
      · rename_i k hk
        refine plain_val h ⟨_, ?_, .int _ _⟩
        unfold convert
        rw [Sem.run_bind, run_underlying hs, Result.andThen_ok, Sem.run_bind, run_underlying (E.ints d k hk), Result.andThen_ok]
        rfl
      · cases hk : isKind env d 1 with
        | false => rw [hk] at h; cases h
        | true =>
          rw [hk] at h
          refine plain_val h ⟨_, ?_, .str _ _ rfl⟩
          unfold convert
          rw [Sem.run_bind, run_underlying hs, Result.andThen_ok, Sem.run_bind, run_underlying (isKind_str E hk), Result.andThen_ok]
          rfl
  · obtain ⟨b, rfl, rfl⟩ := hx.str_inv
    cases hk : (isKind env s 1 && isKind env d 1) with
    | false => rw [hk] at h; cases h
    | true =>
      rw [hk] at h
      rw [Bool.and_eq_true] at hk
      refine plain_val h ⟨.string b, ?_, .str _ _ rfl⟩
      unfold convert
      rw [Sem.run_bind, run_underlying (isKind_str E hk.1), Result.andThen_ok, Sem.run_bind, run_underlying (isKind_str E hk.2), Result.andThen_ok]
      rfl
  · rename_i l f
    cases hk : isKind env d 1 with
    | false => rw [hk] at h; cases h
    | true =>
      rw [hk] at h
      simp only [cond_true] at h
      split at h
      · rename_i et hs
        obtain ⟨a, n, cap, vals, rfl, hn, _, _, ha, hr⟩ := hx.slice_inv
        refine plain_val h (bytes l et hk hs a n cap (fun i => vals i 0) hn ?_ fun i hi => (hr i 0 hi (by simp [Rows.width])).int_inv)
        by_cases h0 : n = 0
        · exact .inl h0
        · obtain ⟨b, o, rfl, him⟩ := ha (by omega)
          exact .inr ⟨b, o, rfl, fun i hi => by
            have := (R.claims _ _ (him i 0 hi (by simp [Rows.width]))).2
            simpa [Rows.width] using this⟩
      · cases h
  · rename_i id
    split at h
    · rename_i l wr hu
      cases hk : isKind env d 1 with
      | false => rw [hk] at h; cases h
      | true =>
        rw [hk] at h
        simp only [cond_true] at h
        split at h
        · rename_i et hs
          rcases buf_rows R (hlk _ _ hu) with ⟨b, cap, e', c, hl, hb, hc, hsz, hr⟩ | ⟨a, hl, hr, _⟩
          · rcases hx.gsl_inv hl with ⟨b', n', cap', e'', h2, rfl⟩ | ⟨_, _, h2, _⟩
            · cases h2
              refine plain_val h (bytes l et hk hs _ _ _ (fun i => c.getD i undef) rfl (.inr ⟨b, 0, rfl, fun i hi => ?_⟩) fun i hi => ?_)
              · rw [Nat.zero_add]
                exact cell_own hb (by rw [hsz]; simp only [Rows.width, Nat.mul_one]; simp only [Rows.len] at hi hc; omega)
              · have := (hr i 0 hi (by simp [Rows.width])).int_inv
                simpa [Rows.width] using this
            · cases h2
          · rcases hx.gsl_inv hl with ⟨_, _, _, _, h2, _⟩ | ⟨a', n', h2, rfl⟩
            · cases h2
            · cases h2
              obtain ⟨a', n, cap, vals, hv, hn, _, _, ha, hr⟩ := hr.slice_inv
              cases hv
              refine plain_val h (bytes l et hk hs _ _ _ (fun i => vals i 0) rfl ?_ fun i hi => (hr i 0 hi (by simp [Rows.width])).int_inv)
              by_cases h0 : (Rows.bytes l).len = 0
              · exact .inl h0
              · obtain ⟨b, o, rfl, him⟩ := ha (by omega)
                exact .inr ⟨b, o, rfl, fun i hi => by
                  have := (R.claims _ _ (him i 0 hi (by simp [Rows.width]))).2
                  simpa [Rows.width] using this⟩
        · cases h
    · cases h
  · cases h

end

end Go.Abs

