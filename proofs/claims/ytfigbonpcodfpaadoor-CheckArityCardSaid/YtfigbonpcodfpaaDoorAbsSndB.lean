/- Soundness of the abstract machine, second part: loads, stores, building, appending, maps. -/
import Derived.Test.YtfigbonpcodfpaaDoorAbsSndA
import Derived.MapKept
set_option linter.unusedSimpArgs false
set_option linter.unusedVariables false
set_option linter.unusedSectionVars false
/- Soundness of the abstract machine, part 10: what writes, makes and freezes. -/
namespace Go.Abs
open Go

/-- a run of an operation does what an effect says -/
def Does (imm : Imm) (loc : Locs) (lk : Lk) (w : World) (r : Result Next) (e : Eff) : Prop :=
  ∃ n v w' imm' loc', r = .ok n w' ∧ (n = .value v ∨ (n = .skip ∧ v = undef)) ∧ Evolve imm loc w imm' loc' w' ∧ Rel imm' loc' (effLk e.tn e.sets lk) w' ∧ TurnOK imm' loc loc' (asTo e.tn) ∧ Rep imm' loc' e.v v

theorem TurnOK.same (imm : Imm) (loc : Locs) : TurnOK imm loc loc (asTo []) := fun _ => .inl rfl

theorem turnLk_nil (lk : Lk) : turnLk [] lk = lk := by
  funext i
  have : asTo [] = fun _ => To.same := by funext i; rfl
  simp only [turnLk, this]
  cases lk i with
  | none => rfl
  | some o => simp [AObj.turn_same]

theorem effLk_nil (lk : Lk) : effLk [] [] lk = lk := turnLk_nil lk

theorem does_plain {P : Program} {imm : Imm} {loc : Locs} {lk : Lk} {w : World} {s : Sem Value} {e : Eff} (R : Rel imm loc lk w) (h : Plain P imm loc w s e) : Does imm loc lk w ((do pure (.value (← s)) : Sem Next).run P w) e := by
  obtain ⟨h1, h2, v, h3, h4⟩ := h
  refine ⟨.value v, v, w, imm, loc, ?_, .inl rfl, Evolve.refl _ _ _, ?_, ?_, h4⟩
  · rw [Sem.run_bind, h3]; rfl
  · rw [h1, h2, effLk_nil]; exact R
  · rw [h1]; exact TurnOK.same _ _

/-! ### an object takes the place of others -/

def swapLoc (loc : Locs) (d : Nat) (l : Loc) (k : Option Nat) : Locs := fun i => if i = d then some l else if some i = k then none else loc i

def swapTn (d : Nat) (k : Option Nat) : List (Nat × To) := match k with | none => [(d, .gone)] | some k => [(k, .gone), (d, .gone)]
def swapSets (d : Nat) (o : AObj) (k : Option Nat) : List (Nat × Option AObj) := match k with | none => [(d, some o)] | some k => [(k, none), (d, some o)]

theorem asTo_swap (d : Nat) (k : Option Nat) (i : Nat) : asTo (swapTn d k) i = if i = d ∨ some i = k then .gone else .same := by
  have hb : ∀ j, Nat.beq j i = decide (i = j) := fun j => by
    by_cases h : i = j
    · subst h; simp
    · simp [h, beq_false_of_ne (Ne.symm h)]
  cases k with
  | none =>
    simp only [swapTn, asTo, hb]
    by_cases h : i = d <;> simp [h]
  | some k =>
    simp only [swapTn, asTo, hb]
    by_cases h : i = k
    · simp [h]
    · by_cases h2 : i = d <;> simp [h, h2]

theorem TurnOK.swap (imm : Imm) (loc : Locs) (d : Nat) (l : Loc) (k : Option Nat) : TurnOK imm loc (swapLoc loc d l k) (asTo (swapTn d k)) := by
  intro id
  rw [asTo_swap]
  by_cases h : id = d ∨ some id = k
  · simp [h]
  · rw [if_neg h]
    simp only [not_or] at h
    exact .inl (by simp [swapLoc, h.1, h.2])

theorem keysS_swap (d : Nat) (o : AObj) (k : Option Nat) (i : Nat) : i ∈ keysS (swapSets d o k) ↔ i = d ∨ some i = k := by
  cases k with
  | none => simp [swapSets, keysS]
  | some k => simp [swapSets, keysS, or_comm]

theorem setLk_swap (d : Nat) (o : AObj) (k : Option Nat) (hk : k ≠ some d) (lk : Lk) (i : Nat) (hi : i = d ∨ some i = k) : setLk lk (swapSets d o k) i = if i = d then some o else none := by
  cases k with
  | none =>
    simp only [swapSets, setLk]
    rcases hi with rfl | h
    · simp
    · cases h
  | some k =>
    have hkd : k ≠ d := fun h => hk (by rw [h])
    simp only [swapSets, setLk]
    by_cases h : i = d
    · simp [h]
    · rcases hi with h2 | h2
      · exact absurd h2 h
      · cases h2; simp [h]

section
variable {imm : Imm} {loc : Locs} {lk : Lk} {w w' : World}

theorem Rel.swap (R : Rel imm loc lk w) {d : Nat} {l : Loc} {k : Option Nat} {o : AObj} (hk : k ≠ some d) (hpar : notParam d = true)
    (hos : w'.os = w.os) (htape : w'.tape = w.tape) (hout : w'.output = w.output) (hsize : w.heap.size ≤ w'.heap.size)
    (hl : ∀ b, l.block = some b → w.heap.size ≤ b ∨ ∃ j m, (j = d ∨ some j = k) ∧ loc j = some m ∧ m.block = some b)
    (hheap : ∀ b, b < w.heap.size → l.block ≠ some b → w'.heap[b]? = w.heap[b]?)
    (hobj : ObjRel imm (swapLoc loc d l k) w' o l) :
    Evolve imm loc w imm (swapLoc loc d l k) w' ∧ Rel imm (swapLoc loc d l k) (effLk (swapTn d k) (swapSets d o k) lk) w' := by
  have hev : Evolve imm loc w imm (swapLoc loc d l k) w' := by
    refine ⟨hos, htape, hout, hsize, fun b hb hn => hheap b hb fun hlb => ?_, fun _ _ h => h, fun _ _ h => .inl h, fun i m b hi hb => ?_, fun i hi => ?_⟩
    · rcases hl b hlb with h | ⟨j, m, _, hj, hm⟩
      · omega
      · exact hn j m hj hm
    · unfold swapLoc at hi
      split at hi
      · cases hi
        rcases hl b hb with h | ⟨j, m, _, hj, hm⟩
        · exact .inr h
        · exact .inl ⟨j, m, hj, hm⟩
      · split at hi
        · cases hi
        · exact .inl ⟨i, m, hi, hb⟩
    · have hid : i ≠ d := fun h => by rw [h, hpar] at hi; cases hi
      simp only [swapLoc, if_neg hid]
      split
      · exact .inr rfl
      · exact .inl rfl
  refine ⟨hev, R.eff hev (fun _ _ h => .inl h) ?_ ?_ (TurnOK.swap imm loc d l k) ?_ ?_ ?_ ?_⟩
  · intro id hid
    rw [keysS_swap, not_or] at hid
    simp [swapLoc, hid.1, hid.2]
  · intro id m b hid hm hb
    rw [keysS_swap] at hid
    refine hheap b (R.block_lt hm hb) fun hlb => ?_
    rcases hl b hlb with h | ⟨j, m', hjk, hj, hm'⟩
    · have := R.block_lt hm hb; omega
    · have := R.inj id j m m' b hm hj hb hm'
      subst this
      exact hid hjk
  · intro id hid
    rw [keysS_swap] at hid
    rw [setLk_swap d o k hk _ id hid]
    by_cases h : id = d
    · rw [if_pos h]
      exact ⟨l, by simp [swapLoc, h], hobj⟩
    · rw [if_neg h]
      rcases hid with h2 | h2
      · exact absurd h2 h
      · simp only [swapLoc, if_neg h, h2, if_true]
  · intro i j m m' b hi h1 h2 h3 h4
    rw [keysS_swap] at hi
    have hid : i = d := by
      rcases hi with h | h
      · exact h
      · by_cases hd : i = d
        · exact hd
        · simp only [swapLoc, if_neg hd, h, if_true] at h1; cases h1
    subst hid
    simp only [swapLoc, if_true, Option.some.injEq] at h1
    subst h1
    by_cases hj : j = i
    · exact hj.symm
    · unfold swapLoc at h2
      rw [if_neg hj] at h2
      split at h2
      · cases h2
      · rename_i hjk
        rcases hl b h3 with h | ⟨j', m'', hjk', hj', hm'⟩
        · have := R.block_lt h2 h4; omega
        · have := R.inj j j' m' m'' b h2 hj' h4 hm'
          subst this
          rcases hjk' with h | h
          · exact h.symm
          · exact absurd h hjk
  · intro i m b hi hb a v ha h0
    rw [ha] at h0; cases h0
  · intro i m b hi h1 h2 a v ha hab
    rw [keysS_swap] at hi
    have hid : i = d := by
      rcases hi with h | h
      · exact h
      · by_cases hd : i = d
        · exact hd
        · simp only [swapLoc, if_neg hd, h, if_true] at h1; cases h1
    subst hid
    simp only [swapLoc, if_true, Option.some.injEq] at h1
    subst h1
    rcases hl b h2 with h | ⟨j', m'', _, hj', hm'⟩
    · have := R.claim_lt ha; omega
    · exact R.sep j' m'' b hj' hm' a v ha hab

/-- an object is written anew -/
theorem Rel.update (R : Rel imm loc lk w) {id : Nat} {l : Loc} {b : Nat} {o : AObj} (hid : loc id = some l) (hlb : l.block = some b)
    (hos : w'.os = w.os) (htape : w'.tape = w.tape) (hout : w'.output = w.output) (hsize : w.heap.size ≤ w'.heap.size)
    (hheap : ∀ c, c < w.heap.size → c ≠ b → w'.heap[c]? = w.heap[c]?) (hobj : ObjRel imm loc w' o l) :
    Evolve imm loc w imm loc w' ∧ Rel imm loc (effLk [] [(id, some o)] lk) w' := by
  have hev : Evolve imm loc w imm loc w' := by
    refine ⟨hos, htape, hout, hsize, fun c hc hn => hheap c hc fun hcb => ?_, fun _ _ h => h, fun _ _ h => .inl h, fun i m c hi hc => .inl ⟨i, m, hi, hc⟩, fun _ _ => .inl rfl⟩
    subst hcb
    exact hn id l hid hlb
  refine ⟨hev, R.eff hev (fun _ _ h => .inl h) (fun _ _ => rfl) ?_ (TurnOK.same _ _) ?_ ?_ ?_ ?_⟩
  · intro j m c hj hm hc
    refine hheap c (R.block_lt hm hc) fun hcb => ?_
    subst hcb
    have := R.inj j id m l c hm hid hc hlb
    subst this
    simp [keysS] at hj
  · intro j hj
    simp only [keysS, List.map_cons, List.map_nil, List.mem_singleton] at hj
    subst hj
    simp only [setLk, if_true]
    exact ⟨l, hid, hobj⟩
  · intro i j m m' c _ h1 h2 h3 h4
    exact R.inj i j m m' c h1 h2 h3 h4
  · intro i m c _ _ a v ha h0
    rw [ha] at h0; cases h0
  · intro i m c _ h1 h2 a v ha
    exact R.sep i m c h1 h2 a v ha

end

end Go.Abs

/- Soundness of the abstract machine, part 11: new objects, stores. -/
namespace Go.Abs
open Go

theorem turn_fresh (f : Nat → To) : ∀ u : U, (∀ id, id ∈ u.ids → f id = .same) → u.turn f = u := by
  intro u
  refine U.rec (motive_1 := fun u => (∀ id, id ∈ u.ids → f id = .same) → u.turn f = u) (motive_2 := fun us => (∀ id, id ∈ U.idsL us → f id = .same) → U.turns f us = us) ?_ ?_ ?_ ?_ ?_ ?_ ?_ ?_ ?_ ?_ ?_ ?_ ?_ ?_ ?_ ?_ ?_ ?_ u <;> intros <;> simp_all [U.turn, U.turns, U.ids, U.idsL]

theorem turns_fresh (f : Nat → To) : ∀ us : List U, (∀ id, id ∈ U.idsL us → f id = .same) → U.turns f us = us
  | [], _ => rfl
  | u :: us, h => by
    simp only [U.turns]
    rw [turn_fresh f u fun id hid => h id (by simp [U.idsL, hid]), turns_fresh f us fun id hid => h id (by simp [U.idsL, hid])]

theorem elemN_mem (i : Nat) : ∀ l : List Nat, elemN i l = true ↔ i ∈ l
  | [] => by simp [elemN]
  | j :: r => by
    simp only [elemN, Bool.or_eq_true, elemN_mem i r, List.mem_cons]
    constructor
    · rintro (h | h)
      · exact .inl (Nat.eq_of_beq_eq_true h).symm
      · exact .inr h
    · rintro (h | h)
      · subst h; exact .inl (Nat.beq_refl _)
      · exact .inr h

theorem idsL_getD (us : List U) (i : Nat) {id : Nat} (h : id ∈ (us.getD i .undef).ids) : id ∈ U.idsL us := by
  induction us generalizing i with
  | nil => simp [U.ids] at h
  | cons u us ih =>
    cases i with
    | zero => simp only [List.getD_cons_zero] at h; simp [U.idsL, h]
    | succ i => simp only [List.getD_cons_succ] at h; simp [U.idsL, ih i h]

section
variable {imm : Imm} {loc : Locs} {lk : Lk} {w w' : World}

/-- what does not name it goes on -/
theorem Rep.avoid {d : Nat} {l : Loc} {k : Option Nat} {u : U} {v : Value} (h : Rep imm loc u v) (hd : d ∉ u.ids) (hk : ∀ j, k = some j → j ∉ u.ids) : Rep imm (swapLoc loc d l k) u v := by
  have h1 := h.turn (f := asTo (swapTn d k)) (fun _ _ h => h) (TurnOK.swap imm loc d l k)
  rwa [turn_fresh _ u fun id hid => by
    rw [asTo_swap, if_neg]
    rintro (h | h)
    · subst h; exact hd hid
    · exact hk id h.symm hid] at h1

theorem row_noids (S : Rows) (i j : Nat) : ((S.row i).getD j .undef).ids = [] := by
  have h : ∀ (r : List Cell) (sig : List CK) (k j : Nat), ((tabCells r sig k).getD j U.undef).ids = [] := by
    intro r sig
    induction sig with
    | nil => intro k j; simp [tabCells, U.ids]
    | cons c sig ih => intro k j; cases c <;> (cases j with
      | zero => simp [tabCells, U.ids]
      | succ j => simpa [tabCells] using ih (k + 1) j)
  cases S <;> simp only [Rows.row]
  case tab sig l => exact h _ sig 0 j
  all_goals (first
    | (rcases j with _ | j <;> simp [U.ids] <;> done)
    | (rcases j with _ | _ | _ | _ | _ | _ | _ | j <;> simp [XE.cells, XN.cells, XT.cells, U.ids] <;> done)
    | (rcases j with _ | _ | _ | _ | j <;> simp [XE.cells, XN.cells, XT.cells, U.ids] <;> done))

theorem Rep.row {loc' : Locs} {S : Rows} {i j : Nat} {v : Value} (h : Rep imm loc ((S.row i).getD j .undef) v) : Rep imm loc' ((S.row i).getD j .undef) v := by
  have h1 := h.turn (imm' := imm) (loc' := loc') (f := fun _ => .gone) (fun _ _ h => h) (fun _ => trivial)
  rwa [row_turn] at h1

theorem new_does (R : Rel imm loc lk w) {d : Option Tmp} {mk : Nat → U} {o : AObj} {e : Eff} (h : newObj d mk o = some e) {obj : Obj} {v : Value} {r : Result Next} (hr : r = .ok (.value v) (w.alloc obj)) (l : Loc) (hl : l.block = some w.heap.size)
    (hobj : ∀ d, d ∉ o.ids → ObjRel imm (swapLoc loc d l none) (w.alloc obj) o l) (hv : ∀ d, Rep imm (swapLoc loc d l none) (mk d) v) : Does imm loc lk w r e := by
  unfold newObj at h
  cases d with
  | none => cases h
  | some d =>
    cases he : (elemN d o.ids || !notParam d) with
    | true => simp only [he] at h; cases h
    | false =>
      simp only [he, cond_false, Option.some.injEq] at h
      subst h
      simp only [Bool.or_eq_false_iff, Bool.not_eq_false'] at he
      have hd : d ∉ o.ids := fun hm => by rw [(elemN_mem d o.ids).2 hm] at he; cases he.1
      obtain ⟨h1, h2⟩ := R.swap (w' := w.alloc obj) (d := d) (l := l) (k := none) (o := o) (by simp) he.2 rfl rfl rfl (by simp)
        (fun b hb => .inl (by rw [hl] at hb; cases hb; exact Nat.le_refl _)) (fun b hb _ => heap_alloc_old w obj hb) (hobj d hd)
      exact ⟨_, v, _, imm, _, hr, .inl rfl, h1, h2, TurnOK.swap imm loc d l none, hv d⟩

theorem newCells_does {P : Program} (R : Rel imm loc lk w) {d : Option Tmp} {us : List U} {cs : Array Value} {t : TypeId} (hrel : CellsRel imm loc us cs) {e : Eff} (h : newObj d (.ptr · 0) (.cells us) = some e) {s : Sem Value}
    (hs : s.run P w = .ok (.pointer (some ⟨w.heap.size, 0, none⟩)) (w.alloc (.cells cs t))) : Does imm loc lk w ((do pure (.value (← s)) : Sem Next).run P w) e := by
  refine new_does R h (v := .pointer (some ⟨w.heap.size, 0, none⟩)) (obj := .cells cs t) (by rw [Sem.run_bind, hs]; rfl) (.cells w.heap.size) rfl (fun d hd => ?_) fun d => .ptr _ _ _ (by simp [swapLoc])
  refine .cells us _ cs t (heap_alloc_new w _) hrel.1.symm fun i hi => (hrel.2 i hi).avoid (fun hm => hd ?_) (fun j h => by cases h)
  exact idsL_getD us i hm

theorem alloc_does {P : Program} {env : Env} (E : EnvOK P env) (R : Rel imm loc lk w) {d : Option Tmp} {t : TypeId} {us : List U} (hz : look t env.zeros = some us) {e : Eff} (h : newObj d (.ptr · 0) (.cells us) = some e) :
    Does imm loc lk w ((do pure (.value (← Instr.alloc t true (.tuple #[]))) : Sem Next).run P w) e := by
  obtain ⟨it, z, hi, hiz, hzs, hzr⟩ := E.zeros t us hz
  refine newCells_does (cs := z.cells) (t := t) R ⟨hzs.symm, fun i hlt => hzr i (by omega) imm loc⟩ h ?_
  simp [Instr.alloc, zeroValue, typeInfo, hi, hiz, newVar, newRow]

theorem box_does {P : Program} (R : Rel imm loc lk w) {d : Option Tmp} {t : TypeId} {x : U} {vx : Value} (hx : Rep imm loc x vx) (hs : solid x = true) {e : Eff} (h : newObj d (.ptr · 0) (.cells x.cells) = some e) :
    Does imm loc lk w ((do pure (.value (← Instr.box t vx)) : Sem Next).run P w) e := by
  obtain ⟨h1, h2⟩ := hx.cells hs
  refine newCells_does (cs := vx.cells) (t := t) R ⟨h1.symm, h2⟩ h ?_
  simp [Instr.box, newVar, newRow]

theorem range_does {P : Program} {env : Env} (E : EnvOK P env) (R : Rel imm loc lk w) {d : Option Tmp} {t : TypeId} {s : Bytes} {vx : Value} (hx : Rep imm loc (.str s) vx) (ht : isKind env t 1 = true) {e : Eff} (h : newObj d .iter (.iter s 0) = some e) :
    Does imm loc lk w ((do pure (.value (← Instr.range t vx)) : Sem Next).run P w) e := by
  obtain ⟨b, rfl, rfl⟩ := hx.str_inv
  refine new_does R h (v := .pointer (some ⟨w.heap.size, 0, none⟩)) (obj := .stringIter b 0) ?_ (.iter w.heap.size) rfl (fun d hd => .iter _ _ _ b (heap_alloc_new w _) rfl) fun d => .iter _ _ (by simp [swapLoc])
  simp [Instr.range, run_underlying (isKind_str E ht)]

/-! ### stores -/

theorem solids_getD : ∀ (us : List U) (i : Nat), solids us = true → i < us.length → solid1 (us.getD i .undef) = true
  | [], i, _, h => by simp at h
  | u :: us, 0, h, _ => by simp only [solids, Bool.and_eq_true] at h; simpa using h.1
  | u :: us, i + 1, h, hi => by simp only [solids, Bool.and_eq_true] at h; simpa using solids_getD us i h.2 (by simpa using hi)

theorem solid_of_solids {u : U} (h : solids u.cells = true) : solid u = true := by
  cases u <;> simp_all [U.cells, solids, solid1, solid]

/-- the cells of a block, written in part -/
theorem store_run {P : Program} {t : TypeId} {i : TypeInfo} (hi : P.info? t = some i) {b off : Nat} {c : Array Value} {et : TypeId} (hb : w.heap[b]? = some (.cells c et (0, 0))) {v : Value} (hsz : v.cells.size = i.size) (hle : off + i.size ≤ c.size)
    (h1 : ∀ x ∈ v.cells.toList, x.oneCell' = true) :
    ∃ c' : Array Value, (Instr.storeAt t (.pointer (some ⟨b, off, none⟩)) v).run P w = .ok () (w.setRow b c') ∧ c'.size = c.size ∧ ∀ j, c'.getD j undef = if off ≤ j ∧ j < off + v.cells.size then v.cells.getD (j - off) undef else c.getD j undef := by
  have hst := run_storeCells_at P b off et v.cells.toList 0 c w hb (by simp; omega) h1
  simp only [Nat.add_zero] at hst
  refine ⟨(c.toList.take off ++ v.cells.toList ++ c.toList.drop (off + v.cells.toList.length)).toArray, ?_, ?_, fun j => ?_⟩
  rotate_left
  · simp only [List.size_toArray, List.length_append, List.length_take, List.length_drop, Array.length_toList]
    omega
  · simp only [Array.getD_eq_getD_getElem?, List.getElem?_toArray, List.getElem?_append, List.length_append, List.length_take, Array.length_toList, List.getElem?_take, List.getElem?_drop, Array.getElem?_toList]
    rw [Nat.min_eq_left (by omega)]
    by_cases h2 : j < off
    · rw [if_pos (by omega), if_pos h2, if_pos h2, if_neg (by omega)]
    · by_cases h3 : j < off + v.cells.size
      · rw [if_pos h3, if_neg h2, if_pos (by omega)]
      · rw [if_neg h3, if_neg (by omega)]
        congr 2
        omega
  · unfold Instr.storeAt storeVar
    show (Instr.sureAddr (.pointer (some ⟨b, off, none⟩)) >>= fun a => _).run P w = _
    rw [Sem.run_bind]
    show (Result.ok (⟨b, off, none⟩ : Addr) w).andThen _ = _
    rw [Result.andThen_ok, Sem.run_bind, sizeOf_run hi, Result.andThen_ok]
    simp only [hsz, ne_eq, not_true_eq_false, if_false]
    exact hst

end

end Go.Abs

/- Soundness of the abstract machine, part 12: rows made and written; stores. -/
namespace Go.Abs
open Go

theorem tabOf_cells : ∀ (sig : List CK) (c : List U) (r pre : List Cell), tabOf sig c = some r → tabCells (pre ++ r) sig pre.length = c
  | [], [], r, pre, h => by simp [tabCells]
  | [], _ :: _, r, pre, h => by simp [tabOf] at h
  | .int k :: sig, [], r, pre, h => by simp [tabOf] at h
  | .bool :: sig, [], r, pre, h => by simp [tabOf] at h
  | .str :: sig, [], r, pre, h => by simp [tabOf] at h
  | k :: sig, u :: us, r, pre, h => by
    have step : ∀ (x : Cell) (q : List Cell), tabOf sig us = some q → tabCells (pre ++ x :: q) sig (pre.length + 1) = us := fun x q hq => by
      have := tabOf_cells sig us q (pre ++ [x]) hq
      simpa using this
    cases k with
    | int k =>
      cases u <;> simp only [tabOf, reduceCtorEq] at h
      rename_i j n
      by_cases hk : k = j
      · subst hk
        simp only [if_true, Option.map_eq_some_iff] at h
        obtain ⟨q, hq, rfl⟩ := h
        simp only [tabCells, step _ q hq]
        simp [Cell.i]
      · simp [hk] at h
    | bool =>
      cases u <;> simp only [tabOf, reduceCtorEq] at h
      simp only [Option.map_eq_some_iff] at h
      obtain ⟨q, hq, rfl⟩ := h
      simp only [tabCells, step _ q hq]
      simp [Cell.b]
    | str =>
      cases u <;> simp only [tabOf, reduceCtorEq] at h
      simp only [Option.map_eq_some_iff] at h
      obtain ⟨q, hq, rfl⟩ := h
      simp only [tabCells, step _ q hq]
      simp [Cell.s]

theorem tabOf_row {sig : List CK} {c : List U} {r : List Cell} (h : tabOf sig c = some r) : tabCells r sig 0 = c := by
  have := tabOf_cells sig c r [] h
  simpa using this

section
variable {imm : Imm} {loc : Locs}

theorem xeOf_rep {c : List U} {e : XE} (h : XE.of c = some e) (j : Nat) {v : Value} (hv : Rep imm loc (c.getD j .undef) v) : Rep imm loc (e.cells.getD j .undef) v := by
  unfold XE.of at h
  split at h
  · cases h
    rcases j with _ | _ | _ | _ | _ | _ | _ | j <;> simp only [XE.cells, XE.kind, XE.pos, XE.axis, XE.test, XE.num, XE.text, XE.kids, List.getD_cons_zero, List.getD_cons_succ] at hv ⊢
    all_goals first
      | exact hv
      | exact hv.weak
  · cases h

theorem xnOf_rep {c : List U} {e : XN} (h : XN.of c = some e) (j : Nat) {v : Value} (hv : Rep imm loc (c.getD j .undef) v) : Rep imm loc (e.cells.getD j .undef) v := by
  unfold XN.of at h
  split at h
  · cases h; exact hv
  · cases h

theorem xtOf_rep {c : List U} {e : XT} (h : XT.of c = some e) (j : Nat) {v : Value} (hv : Rep imm loc (c.getD j .undef) v) : Rep imm loc (e.cells.getD j .undef) v := by
  unfold XT.of at h
  split at h
  · cases h; exact hv
  · cases h

theorem byte_rep {n : Int} (h : byteIn .bytes [.int .u8 n] = true) : ((UInt8.ofNat n.toNat).toNat : Int) = n := by
  simp only [byteIn, Bool.and_eq_true, decide_eq_true_eq] at h
  rw [UInt8.toNat_ofNat']
  omega

/-- a row's cells, as its rows keep them -/
def RowOK (_ : RowKind) (c : List U) (row : List U) : Prop := ∀ (imm : Imm) (loc : Locs) (j : Nat) (v : Value), Rep imm loc (c.getD j .undef) v → Rep imm loc (row.getD j .undef) v

theorem set_spec {S Z : Rows} {i : Nat} {c : List U} (h : S.set i c = some Z) (hb : byteIn S.kind c = true) :
    Z.len = S.len ∧ Z.width = S.width ∧ Z.kind = S.kind ∧ (∀ k, k ≠ i → Z.row k = S.row k) ∧ (i < S.len → RowOK S.kind c (Z.row i)) := by
  unfold Rows.set at h
  split at h
  · cases h
    refine ⟨by simp [Rows.len], rfl, rfl, fun k hk => by simp [Rows.row, List.getD_eq_getElem?_getD, List.getElem?_set, Ne.symm hk], fun hi => ?_⟩
    rename_i l n
    have hi' : i < l.length := hi
    intro imm loc j v hv
    have : (Rows.bytes (l.set i (UInt8.ofNat n.toNat))).row i = [.int .u8 n] := by
      simp only [Rows.row, List.getD_eq_getElem?_getD, List.getElem?_set, hi', if_true, Option.getD_some]
      rw [byte_rep hb]
    rw [this]; exact hv
  · rename_i k l j n
    by_cases hk : k = j
    · subst hk
      simp only [if_true, Option.some.injEq] at h
      subst h
      refine ⟨by simp [Rows.len], rfl, rfl, fun k hk => by simp [Rows.row, List.getD_eq_getElem?_getD, List.getElem?_set, Ne.symm hk], fun hi => ?_⟩
      have hi' : i < l.length := hi
      intro imm loc j v hv
      simpa [Rows.row, List.getD_eq_getElem?_getD, List.getElem?_set, hi'] using hv
    · simp [hk] at h
  · cases h
    refine ⟨by simp [Rows.len], rfl, rfl, fun k hk => by simp [Rows.row, List.getD_eq_getElem?_getD, List.getElem?_set, Ne.symm hk], fun hi => ?_⟩
    rename_i l s
    have hi' : i < l.length := hi
    intro imm loc j v hv
    simpa [Rows.row, List.getD_eq_getElem?_getD, List.getElem?_set, hi'] using hv
  · obtain ⟨e, he, rfl⟩ := Option.map_eq_some_iff.1 h
    refine ⟨by simp [Rows.len], rfl, rfl, fun k hk => by simp [Rows.row, List.getD_eq_getElem?_getD, List.getElem?_set, Ne.symm hk], fun hi => ?_⟩
    rename_i l
    have hi' : i < l.length := hi
    intro imm loc j v hv
    have : (Rows.exprs (l.set i e)).row i = e.cells := by simp [Rows.row, List.getD_eq_getElem?_getD, List.getElem?_set, hi']
    rw [this]; exact xeOf_rep he j hv
  · obtain ⟨e, he, rfl⟩ := Option.map_eq_some_iff.1 h
    refine ⟨by simp [Rows.len], rfl, rfl, fun k hk => by simp [Rows.row, List.getD_eq_getElem?_getD, List.getElem?_set, Ne.symm hk], fun hi => ?_⟩
    rename_i l
    have hi' : i < l.length := hi
    intro imm loc j v hv
    have : (Rows.nodes (l.set i e)).row i = e.cells := by simp [Rows.row, List.getD_eq_getElem?_getD, List.getElem?_set, hi']
    rw [this]; exact xnOf_rep he j hv
  · obtain ⟨e, he, rfl⟩ := Option.map_eq_some_iff.1 h
    refine ⟨by simp [Rows.len], rfl, rfl, fun k hk => by simp [Rows.row, List.getD_eq_getElem?_getD, List.getElem?_set, Ne.symm hk], fun hi => ?_⟩
    rename_i l
    have hi' : i < l.length := hi
    intro imm loc j v hv
    have : (Rows.toks (l.set i e)).row i = e.cells := by simp [Rows.row, List.getD_eq_getElem?_getD, List.getElem?_set, hi']
    rw [this]; exact xtOf_rep he j hv
  · obtain ⟨e, he, rfl⟩ := Option.map_eq_some_iff.1 h
    refine ⟨by simp [Rows.len], rfl, rfl, fun k hk => by simp [Rows.row, List.getD_eq_getElem?_getD, List.getElem?_set, Ne.symm hk], fun hi => ?_⟩
    rename_i sig l
    have hi' : i < l.length := hi
    intro imm loc j v hv
    have : (Rows.tab sig (l.set i e)).row i = c := by
      have h1 : (Rows.tab sig (l.set i e)).row i = tabCells e sig 0 := by simp [Rows.row, List.getD_eq_getElem?_getD, List.getElem?_set, hi']
      rw [h1, tabOf_row he]
    rw [this]; exact hv
  · cases h

end

end Go.Abs

/- Soundness of the abstract machine, part 13: stores; slices of buffers; append. -/
set_option linter.unusedSimpArgs false
namespace Go.Abs
open Go

section
variable {P : Program} {env : Env} (E : EnvOK P env) {imm : Imm} {loc : Locs} {w : World} {lk lk' : Lk}

theorem one_of_solids {u : U} {v : Value} (hv : Rep imm loc u v) (hs : solids u.cells = true) : ∀ x ∈ v.cells.toList, x.oneCell' = true := by
  intro x hx
  obtain ⟨h1, h2⟩ := hv.cells (solid_of_solids hs)
  obtain ⟨i, hi, rfl⟩ := List.getElem_of_mem hx
  have hi' : i < v.cells.size := by simpa using hi
  have := h2 i hi'
  have h3 := this.one (solids_getD _ i hs (by omega))
  simpa [Array.getD_eq_getD_getElem?, hi'] using h3

theorem setRow_rel_heap (b : Nat) (c' : Array Value) {c : Array Value} {e : TypeId} (hb : w.heap[b]? = some (.cells c e (0, 0))) : (w.setRow b c').heap[b]? = some (.cells c' e (0, 0)) := setRow_heap w b c c' e (0, 0) hb

include E in
theorem storeEff_does (R : Rel imm loc lk w) (hlk : ∀ i o, lk' i = some o → lk i = some o) {t : TypeId} {x y : U} {vx vy : Value} {e : Eff} (hx : Rep imm loc x vx) (hy : Rep imm loc y vy) (h : storeEff env lk' t x y = some e) (hok : e.ok = true) :
    Does imm loc lk w ((do Instr.storeAt t vx vy; pure .skip : Sem Next).run P w) e := by
  unfold storeEff at h
  split at h
  · cases h
  rename_i ti ht
  obtain ⟨i, d, hi, hsz, _⟩ := E.tys t ti ht
  cases hb : (solids y.cells && Nat.beq y.cells.length ti.size) with
  | false => rw [hb] at h; cases h
  | true =>
    rw [hb] at h
    simp only [cond_true] at h
    rw [Bool.and_eq_true] at hb
    have hlen := Nat.eq_of_beq_eq_true hb.2
    obtain ⟨hc1, hc2⟩ := hy.cells (solid_of_solids hb.1)
    have hone := one_of_solids hy hb.1
    split at h
    · rename_i id off
      split at h
      · rename_i us hu
        obtain ⟨b, c, et, rfl, hl, hbk, hs, hr⟩ := own_cells R (hlk _ _ hu) hx
        cases hble : Nat.ble (off + ti.size) us.length with
        | false => rw [hble] at h; cases h
        | true =>
          rw [hble] at h
          cases h
          have hle := Nat.le_of_ble_eq_true hble
          obtain ⟨c', hrun, hcs, hcg⟩ := store_run (P := P) hi hbk (off := off) (v := vy) (by omega) (by omega) hone
          obtain ⟨h1, h2⟩ := R.update (w' := w.setRow b c') (o := .cells (writeAt us off y.cells)) hl rfl rfl rfl rfl (by simp) (fun k _ hk => setRow_other w b k c' hk)
            (.cells _ b c' et (setRow_rel_heap b c' hbk) (by rw [writeAt_length, hcs, hs]) fun j hj => by
              rw [writeAt_getD _ _ _ _ (by omega), hcg]
              by_cases hc : off ≤ j ∧ j < off + y.cells.length
              · rw [if_pos hc, if_pos (by omega)]; exact hc2 _ (by omega)
              · rw [if_neg hc, if_neg (by omega)]; exact hr j (by omega))
          refine ⟨.skip, undef, _, imm, loc, ?_, .inr ⟨rfl, rfl⟩, h1, h2, TurnOK.same _ _, ?_⟩
          · rw [Sem.run_bind, hrun]; rfl
          · exact .tup [] #[] rfl fun i hi => absurd hi (Nat.not_lt_zero _)
      · cases h
    · rename_i id W k off
      split at h
      · rename_i S hu
        cases hble : (Nat.beq W S.width && Nat.ble (off + ti.size) W) with
        | false => rw [hble] at h; cases h
        | true =>
          rw [hble] at h
          simp only [cond_true] at h
          rw [Bool.and_eq_true] at hble
          have hW := Nat.eq_of_beq_eq_true hble.1
          have hle := Nat.le_of_ble_eq_true hble.2
          split at h
          · rename_i Z hheld hset
            cases h
            simp only [Bool.and_eq_true, decide_eq_true_eq] at hok
            obtain ⟨hbyte, hk⟩ := hok
            obtain ⟨hZl, hZw, _, hZo, hZi⟩ := set_spec hset hbyte
            have hgb := hlk _ _ hu
            rcases buf_rows R hgb with ⟨b, cap, e', c, hl, hbk, hc, hs, hr⟩ | ⟨a, hl, hr, hfull⟩
            · have hv' : vx = .pointer (some ⟨b, k * S.width + off, none⟩) := by
                subst hW
                cases hx with
                | gelem _ _ _ _ b' n' c' e' h' => rw [hl] at h'; cases h'; rfl
                | gelemF _ _ _ _ b' o' n' h' => rw [hl] at h'; cases h'
                | dead _ _ _ h1 _ h2 => simp only [U.ref?, Option.some.injEq] at h1; subst h1; rw [hl] at h2; cases h2
              subst hv'
              have hfit : k * S.width + S.width ≤ c.size := by
                rw [hs]
                have : (k + 1) * S.width ≤ cap * S.width := Nat.mul_le_mul_right _ (by omega)
                rwa [Nat.add_mul, Nat.one_mul] at this
              obtain ⟨c', hrun, hcs, hcg⟩ := store_run (P := P) hi hbk (off := k * S.width + off) (v := vy) (by omega) (by omega) hone
              obtain ⟨h1, h2⟩ := R.update (w' := w.setRow b c') (o := .gbuf Z true) hl rfl rfl rfl rfl (by simp) (fun k _ hk => setRow_other w b k c' hk)
                (.buf Z true b S.len cap e' c' (setRow_rel_heap b c' hbk) hZl.symm hc (by rw [hcs, hs, hZw]) fun i j hi hj => by
                  rw [hZw] at hj ⊢
                  rw [hcg]
                  by_cases hik : i = k
                  · subst hik
                    refine hZi hk imm loc j _ ?_
                    rw [writeAt_getD _ _ _ _ (by rw [row_length]; omega)]
                    by_cases hc : off ≤ j ∧ j < off + y.cells.length
                    · rw [if_pos hc, if_pos (by omega), show i * S.width + j - (i * S.width + off) = j - off by omega]
                      exact hc2 _ (by omega)
                    · rw [if_neg hc, if_neg (by omega)]
                      exact hr i j hi hj
                  · rw [hZo i hik, if_neg]
                    · exact hr i j hi hj
                    · rintro ⟨h3, h4⟩
                      rcases Nat.lt_or_gt_of_ne hik with h5 | h5
                      · have := row_index (n := k) (w := S.width) h5 hj
                        omega
                      · have : (k + 1) * S.width ≤ i * S.width := Nat.mul_le_mul_right _ h5
                        rw [Nat.add_mul, Nat.one_mul] at this
                        omega)
              refine ⟨.skip, undef, _, imm, loc, ?_, .inr ⟨rfl, rfl⟩, h1, h2, TurnOK.same _ _, ?_⟩
              · rw [Sem.run_bind, hrun]; rfl
              · exact .tup [] #[] rfl fun i hi => absurd hi (Nat.not_lt_zero _)
            · have := hfull rfl
              omega
          · cases h
      · cases h
    · cases h

end

end Go.Abs

/- Soundness of the abstract machine, part 14: slices of buffers; append. -/
set_option linter.unusedSimpArgs false
namespace Go.Abs
open Go

section
variable {P : Program} {env : Env} (E : EnvOK P env) {imm : Imm} {loc : Locs} {w : World} {lk lk' : Lk}

include E in
theorem sliceBuf_does (R : Rel imm loc lk w) (hlk : ∀ i o, lk' i = some o → lk i = some o) {d : Option Tmp} {t : TypeId} {id : Nat} {vx : Value} {lo hi : Option U} {vlo vhi : Option Value} {e : Eff} (hx : Rep imm loc (.gsl id) vx)
    (hlo : OptRep imm loc lo vlo) (hhi : OptRep imm loc hi vhi) (h : sliceEff env lk' d t (.gsl id) lo hi = some e) (hok : e.ok = true) :
    Does imm loc lk w ((do pure (.value (← Instr.sliceAt t vx vlo vhi none)) : Sem Next).run P w) e := by
  unfold sliceEff at h
  simp only at h
  split at h
  · rename_i k hh S d hu
    cases hb : (Nat.beq id d || !isElem env t S.kind || !notParam d) with
    | true => rw [hb] at h; cases h
    | false =>
      rw [hb] at h
      simp only [cond_false, Option.some.injEq] at h
      subst h
      simp only [Bool.or_eq_false_iff, Bool.not_eq_false'] at hb
      obtain ⟨hb, hpar⟩ := hb
      have hne : (some id : Option Nat) ≠ some d := fun h => by cases h; rw [Nat.beq_refl] at hb; cases hb.1
      simp only [Bool.and_eq_true, decide_eq_true_eq] at hok
      obtain ⟨et, hel⟩ := isElem_inv E hb.2
      obtain ⟨ht, inf, z, hi', _, _, hsz, _⟩ := E.elems _ _ _ hel
      have hT := hlk _ _ hu
      rcases buf_rows R hT with ⟨b, cap, e', c, hl, hbk, hc, hs, hr⟩ | ⟨a, hl, hr, hfull⟩
      · rcases hx.gsl_inv hl with ⟨b', n', cap', e'', h2, rfl⟩ | ⟨_, _, h2, _⟩
        · cases h2
          have hrun := sliceAt_slice_run (P := P) (w := w) ht hi' hlo hhi (some ⟨b, 0, none⟩) S.len cap (l := 0) (h := hh) rfl rfl (Int.le_refl 0) (by omega) (by omega)
          have hv : (Value.slice (if cap = (0 : Int).toNat then some ⟨b, 0, none⟩ else (some (⟨b, 0, none⟩ : Addr)).map (·.add ((0 : Int).toNat * inf.size))) (hh.toNat - (0 : Int).toNat) (cap - (0 : Int).toNat)) = .slice (some ⟨b, 0, none⟩) hh.toNat cap := by
            simp [Addr.add_zero']
          rw [hv] at hrun
          obtain ⟨h1, h3⟩ := R.swap (w' := w) (d := d) (l := .buf b hh.toNat cap e') (k := some id) (o := .gbuf (S.take hh.toNat) true) hne hpar rfl rfl rfl (Nat.le_refl _)
            (fun b' hb' => .inr ⟨id, _, .inr rfl, hl, by simpa [Loc.block] using hb'⟩) (fun _ _ _ => rfl)
            (.buf _ true b _ cap e' c hbk (by rw [len_take]; omega) (by omega) (by rw [hs, width_take]) fun i j hi hj => by
              rw [row_take _ _ _ hi]; rw [width_take] at hj ⊢; exact (hr i j (by omega) hj).row)
          refine ⟨_, _, _, imm, _, by rw [Sem.run_bind, hrun]; rfl, .inl rfl, h1, h3, TurnOK.swap imm loc d _ (some id), .gsl _ _ _ _ e' (by simp [swapLoc])⟩
        · cases h2
      · rcases hx.gsl_inv hl with ⟨_, _, _, _, h2, _⟩ | ⟨a', n', h2, rfl⟩
        · cases h2
        · cases h2
          have h0 := hfull rfl
          have hh0 : hh = 0 := by omega
          subst hh0
          have hrun := sliceAt_slice_run (P := P) (w := w) ht hi' hlo hhi a S.len S.len (l := 0) (h := 0) rfl rfl (Int.le_refl 0) (by omega) (by omega)
          rw [h0] at hrun
          have hv : (Value.slice (if 0 = (0 : Int).toNat then a else a.map (·.add ((0 : Int).toNat * inf.size))) ((0 : Int).toNat - (0 : Int).toNat) (0 - (0 : Int).toNat)) = .slice a 0 0 := by simp
          rw [hv] at hrun
          obtain ⟨h1, h3⟩ := R.swap (w' := w) (d := d) (l := .full a 0) (k := some id) (o := .gbuf (S.take (0 : Int).toNat) true) hne hpar rfl rfl rfl (Nat.le_refl _)
            (fun b' hb' => by simp [Loc.block] at hb') (fun _ _ _ => rfl)
            (.full _ true a 0 (.slice _ true a 0 0 (fun _ _ => undef) (by rw [len_take]; simp) (fun _ => rfl) (Nat.le_refl _) (fun h => absurd h (Nat.lt_irrefl _)) fun i j hi => absurd hi (Nat.not_lt_zero _)) fun _ => rfl)
          refine ⟨_, _, _, imm, _, by rw [h0, Sem.run_bind, hrun]; rfl, .inl rfl, h1, h3, TurnOK.swap imm loc d _ (some id), .gslF _ _ _ (by simp [swapLoc])⟩
  · cases h

/-! ### append: the runs -/

theorem append_same_run {t u ty et : TypeId} {inf : TypeInfo} (ht : P.underlying t = some (.slice et)) (hu : (∃ e2, P.underlying u = some (.slice e2)) ∨ P.underlying u = some .string) (hi : P.info? et = some inf)
    (a : Option Addr) (n cap : Nat) (vy : Value) (hlen : (Builtin.lenOf vy).run P w = .ok 0 w) (hfc : (Builtin.firstCells inf.size 0 vy).run P w = .ok #[] w) (hc : n ≤ cap) :
    (Builtin.append_ #[t, u] ty #[.slice a n cap, vy]).run P w = .ok (.slice a n cap) w := by
  rcases hu with ⟨e2, hu⟩ | hu
  · cases a <;> simp [Builtin.append_, run_underlying ht, run_underlying hu, sizeOf, typeInfo, hi, hlen, hfc, hc, storeCells]
  · cases a <;> simp [Builtin.append_, run_underlying ht, run_underlying hu, sizeOf, typeInfo, hi, hlen, hfc, hc, storeCells]

theorem append_room_run {t u ty et : TypeId} {inf : TypeInfo} (ht : P.underlying t = some (.slice et)) (hu : (∃ e2, P.underlying u = some (.slice e2)) ∨ P.underlying u = some .string) (hi : P.info? et = some inf)
    {g n cap m : Nat} {cur : Array Value} {e' : TypeId} (hg : w.heap[g]? = some (.cells cur e' (0, 0))) (vy : Value) (news : Array Value) (hlen : (Builtin.lenOf vy).run P w = .ok m w) (hfc : (Builtin.firstCells inf.size m vy).run P w = .ok news w)
    (h1 : ∀ x ∈ news.toList, x.oneCell' = true) (hroom : n + m ≤ cap) (hfit : n * inf.size + news.size ≤ cur.size) :
    (Builtin.append_ #[t, u] ty #[.slice (some ⟨g, 0, none⟩) n cap, vy]).run P w = .ok (.slice (some ⟨g, 0, none⟩) (n + m) cap) (w.setRow g (cur.toList.take (n * inf.size) ++ news.toList ++ cur.toList.drop (n * inf.size + news.toList.length)).toArray) := by
  have hst := run_storeCells_at P g (n * inf.size) e' news.toList 0 cur w hg (by simpa using hfit) h1
  simp only [Nat.add_zero] at hst
  rcases hu with ⟨e2, hu⟩ | hu
  · simp [Builtin.append_, run_underlying ht, run_underlying hu, sizeOf, typeInfo, hi, hlen, hfc, hroom, hst, Addr.add_lit]
  · simp [Builtin.append_, run_underlying ht, run_underlying hu, sizeOf, typeInfo, hi, hlen, hfc, hroom, hst, Addr.add_lit]

theorem append_grow_run {t u ty et : TypeId} {inf : TypeInfo} {z : Value} (ht : P.underlying t = some (.slice et)) (hu : (∃ e2, P.underlying u = some (.slice e2)) ∨ P.underlying u = some .string) (hi : P.info? et = some inf) (hz : inf.zero = some z)
    {a : Option Addr} {n cap m : Nat} (vy : Value) (olds news : Array Value) (hlen : (Builtin.lenOf vy).run P w = .ok m w) (hold : (Builtin.firstCells inf.size n (.slice a n cap)).run P w.drew = .ok olds w.drew) (hfc : (Builtin.firstCells inf.size m vy).run P w.drew = .ok news w.drew)
    (hroom : cap < n + m) (h63 : ((n + m : Nat) : Int) ≤ 9223372036854775807) (hfit : Builtin.nextslicecap (n + m) cap * inf.bytes ≤ 281474976710656) :
    (Builtin.append_ #[t, u] ty #[.slice a n cap, vy]).run P w = .ok (.slice (some ⟨w.heap.size, 0, none⟩) (n + m) (grownCap w (n + m) cap et))
      (w.drew.alloc (.cells (olds ++ news ++ Builtin.zeroCells z.cells (grownCap w (n + m) cap et - (n + m))) et)) := by
  have hn : ¬ (n + m ≤ cap) := by omega
  have h63' : ¬ (9223372036854775807 < ((n : Int) + (m : Int))) := by omega
  have h48' : ¬ (281474976710656 < Builtin.nextslicecap (n + m) cap * inf.bytes) := by omega
  rcases hu with ⟨e2, hu⟩ | hu
  · simp [Builtin.append_, run_underlying ht, run_underlying hu, sizeOf, typeInfo, zeroValue, hi, hz, hlen, hn, h63', h48', Question.forced, hfc, hold, newRow, grownCap]
  · simp [Builtin.append_, run_underlying ht, run_underlying hu, sizeOf, typeInfo, zeroValue, hi, hz, hlen, hn, h63', h48', Question.forced, hfc, hold, newRow, grownCap]

end

end Go.Abs

/- Soundness of the abstract machine, part 15: append. -/
set_option linter.unusedSimpArgs false
namespace Go.Abs
open Go

theorem rowApp {α β : Type} (l m : List α) (i : Nat) (d : α) (f : α → β) (n : Nat) (hn : n = l.length) : f ((l ++ m).getD i d) = if i < n then f (l.getD i d) else f (m.getD (i - n) d) := by
  subst hn
  simp only [List.getD_eq_getElem?_getD, List.getElem?_append]
  split <;> rfl

theorem append_spec {S Y Z : Rows} (h : S.append Y = some Z) : Z.len = S.len + Y.len ∧ Z.kind = S.kind ∧ Y.kind = S.kind ∧ Z.width = S.width ∧ Y.width = S.width ∧ ∀ i, Z.row i = if i < S.len then S.row i else Y.row (i - S.len) := by
  cases S <;> cases Y <;> simp only [Rows.append, Option.some.injEq, reduceCtorEq] at h
  case bytes.bytes l m => subst h; exact ⟨by simp [Rows.len], rfl, rfl, rfl, rfl, fun i => rowApp l m i 0 (fun b => [U.int .u8 (b.toNat : Int)]) _ rfl⟩
  case ints.ints k l k' m =>
    split at h
    · rename_i hk; subst hk; simp only [Option.some.injEq] at h; subst h
      exact ⟨by simp [Rows.len], rfl, rfl, rfl, rfl, fun i => rowApp l m i 0 (fun b => [U.int k b]) _ rfl⟩
    · cases h
  case strs.strs l m => subst h; exact ⟨by simp [Rows.len], rfl, rfl, rfl, rfl, fun i => rowApp l m i [] (fun b => [U.str b]) _ rfl⟩
  case exprs.exprs l m => subst h; exact ⟨by simp [Rows.len], rfl, rfl, rfl, rfl, fun i => rowApp l m i default XE.cells _ rfl⟩
  case nodes.nodes l m => subst h; exact ⟨by simp [Rows.len], rfl, rfl, rfl, rfl, fun i => rowApp l m i default XN.cells _ rfl⟩
  case toks.toks l m => subst h; exact ⟨by simp [Rows.len], rfl, rfl, rfl, rfl, fun i => rowApp l m i default XT.cells _ rfl⟩
  case tab.tab k l k' m =>
    split at h
    · rename_i hk; subst hk; simp only [Option.some.injEq] at h; subst h
      exact ⟨by simp [Rows.len], rfl, rfl, rfl, rfl, fun i => rowApp l m i [] (fun r => tabCells r k 0) _ rfl⟩
    · cases h

theorem row_solid (S : Rows) (i j : Nat) (h : j < S.width) : solid1 ((S.row i).getD j .undef) = true := by
  have ht : ∀ (r : List Cell) (sig : List CK) (k j : Nat), j < sig.length → solid1 ((tabCells r sig k).getD j U.undef) = true := by
    intro r sig
    induction sig with
    | nil => intro k j h; simp at h
    | cons c sig ih => intro k j h; cases c <;> (cases j with
      | zero => simp [tabCells, solid1]
      | succ j => simpa [tabCells] using ih (k + 1) j (by simpa using h))
  cases S <;> simp only [Rows.row, Rows.width] at h ⊢
  case tab sig l => exact ht _ sig 0 j h
  all_goals (first
    | (rcases j with _ | j <;> simp [solid1] at h ⊢ <;> done)
    | (rcases j with _ | _ | _ | _ | _ | _ | _ | j <;> simp [XE.cells, XN.cells, XT.cells, solid1] at h ⊢ <;> first | done | omega)
    | (rcases j with _ | _ | _ | _ | j <;> simp [XE.cells, XN.cells, XT.cells, solid1] at h ⊢ <;> first | done | omega))

section
variable {P : Program} {env : Env} (E : EnvOK P env) {imm : Imm} {loc : Locs} {w : World} {lk lk' : Lk}

/-- so many rows stand in cells one behind another -/
def RowsIn (imm : Imm) (loc : Locs) (S : Rows) (cs : Array Value) : Prop := cs.size = S.len * S.width ∧ ∀ i j, i < S.len → j < S.width → Rep imm loc ((S.row i).getD j .undef) (cs.getD (i * S.width + j) undef)

theorem RowsIn.one {S : Rows} {cs : Array Value} (h : RowsIn imm loc S cs) : ∀ x ∈ cs.toList, x.oneCell' = true := by
  intro x hx
  obtain ⟨k, hk, rfl⟩ := List.getElem_of_mem hx
  have hk' : k < cs.size := by simpa using hk
  have hk2 : k < S.len * S.width := by rw [← h.1]; exact hk'
  have hw : 0 < S.width := by
    rcases Nat.eq_zero_or_pos S.width with h0 | h0
    · rw [h0, Nat.mul_zero] at hk2; omega
    · exact h0
  have hi : k / S.width < S.len := Nat.div_lt_of_lt_mul (by rw [Nat.mul_comm]; exact hk2)
  have hj : k % S.width < S.width := Nat.mod_lt _ hw
  have hr := (h.2 _ _ hi hj).one (row_solid S _ _ hj)
  have he : k / S.width * S.width + k % S.width = k := by rw [Nat.mul_comm]; exact Nat.div_add_mod k S.width
  rw [he] at hr
  simpa [Array.getD_eq_getD_getElem?, hk'] using hr

/-- cells that stand in memory -/
theorem firstCells_run {size n cap : Nat} {b o : Nat} (g : Nat → Value) (hc : ∀ j, j < n * size → w.cell? ⟨b, o + j, none⟩ = some (g j)) : (Builtin.firstCells size n (.slice (some ⟨b, o, none⟩) n cap)).run P w = .ok ((List.range (n * size)).map g).toArray w := by
  show (loadCells ⟨b, o, none⟩ (n * size)).run P w = _
  exact run_loadCells w _ _ g fun j hj => by rw [Addr.add_lit]; exact hc j hj

theorem mul_split {k n W : Nat} (h : k < n * W) : k / W < n ∧ k % W < W ∧ k / W * W + k % W = k := by
  have hw : 0 < W := by
    rcases Nat.eq_zero_or_pos W with h0 | h0
    · rw [h0, Nat.mul_zero] at h; omega
    · exact h0
  exact ⟨Nat.div_lt_of_lt_mul (by rw [Nat.mul_comm]; exact h), Nat.mod_lt _ hw, by rw [Nat.mul_comm]; exact Nat.div_add_mod k W⟩

theorem rowsIn_of (S : Rows) (g : Nat → Value) (h : ∀ i j, i < S.len → j < S.width → Rep imm loc ((S.row i).getD j .undef) (g (i * S.width + j))) : RowsIn imm loc S ((List.range (S.len * S.width)).map g).toArray := by
  refine ⟨by simp, fun i j hi hj => ?_⟩
  have := row_index hi hj
  have he : (((List.range (S.len * S.width)).map g).toArray).getD (i * S.width + j) undef = g (i * S.width + j) := by simp [this]
  rw [he]
  exact h i j hi hj

/-- rows that are held -/
theorem slice_first (R : Rel imm loc lk w) {S : Rows} {f : Bool} {a : Option Addr} {n cap size : Nat} (hv : Rep imm loc (.slice S f) (.slice a n cap)) (hsz : size = S.width) :
    ∃ cs, RowsIn imm loc S cs ∧ ∀ w' : World, (∀ a, w'.cell? a = w.cell? a) → (Builtin.firstCells size n (.slice a n cap)).run P w' = .ok cs w' := by
  subst hsz
  obtain ⟨a', n', cap', vals, he, hn, _, _, ha, hr⟩ := hv.slice_inv
  cases he
  subst hn
  cases a with
  | none =>
    have h0 : S.len = 0 := by
      rcases Nat.eq_zero_or_pos S.len with h | h
      · exact h
      · obtain ⟨_, _, h, _⟩ := ha h; cases h
    refine ⟨#[], ⟨by simp [h0], fun i j hi => by omega⟩, fun w' _ => rfl⟩
  | some ad =>
    by_cases h0 : S.len = 0
    · refine ⟨#[], ⟨by simp [h0], fun i j hi => by omega⟩, fun w' _ => ?_⟩
      rw [h0]
      show (loadCells ad (0 * S.width)).run P w' = _
      rw [Nat.zero_mul]
      rfl
    · obtain ⟨b, o, he, him⟩ := ha (by omega)
      cases he
      refine ⟨_, rowsIn_of S (fun k => vals (k / S.width) (k % S.width)) fun i j hi hj => ?_, fun w' hw' => firstCells_run _ fun k hk => ?_⟩
      · have hw : 0 < S.width := by omega
        have h1 : (i * S.width + j) / S.width = i := by
          rw [Nat.mul_comm, Nat.mul_add_div hw, Nat.div_eq_of_lt hj, Nat.add_zero]
        have h2 : (i * S.width + j) % S.width = j := by
          rw [Nat.mul_comm, Nat.mul_add_mod, Nat.mod_eq_of_lt hj]
        rw [h1, h2]
        exact hr i j hi hj
      · obtain ⟨h1, h2, h3⟩ := mul_split hk
        have := (R.claims _ _ (him _ _ h1 h2)).2
        rw [hw']
        rwa [Nat.add_assoc, h3] at this

theorem buf_first {S : Rows} {b cap size : Nat} {c : Array Value} {e' : TypeId} (hb : w.heap[b]? = some (.cells c e' (0, 0))) (hc : S.len ≤ cap) (hs : c.size = cap * S.width) (hr : ∀ i j, i < S.len → j < S.width → Rep imm loc ((S.row i).getD j .undef) (c.getD (i * S.width + j) undef))
    (hsz : size = S.width) : ∃ cs, RowsIn imm loc S cs ∧ ∀ w' : World, (∀ a, w'.cell? a = w.cell? a) → (Builtin.firstCells size S.len (.slice (some ⟨b, 0, none⟩) S.len cap)).run P w' = .ok cs w' := by
  subst hsz
  refine ⟨_, rowsIn_of S (fun k => c.getD k undef) fun i j hi hj => hr i j hi hj, fun w' hw' => firstCells_run _ fun k hk => ?_⟩
  rw [hw', Nat.zero_add]
  refine cell_own hb ?_
  rw [hs]
  exact Nat.lt_of_lt_of_le hk (Nat.mul_le_mul_right _ hc)

include E in
/-- what is put behind -/
theorem tail_first (R : Rel imm loc lk w) (hlk : ∀ i o, lk' i = some o → lk i = some o) {u : TypeId} {y : U} {vy : Value} (hy : Rep imm loc y vy) (hl : lenOK env lk' u y = true) {Y : Rows} (hY : asRows lk' y = some Y) {size : Nat} (hsz : size = Y.width) :
    ((∃ e2, P.underlying u = some (.slice e2)) ∨ P.underlying u = some .string) ∧ (∀ w' : World, (Builtin.lenOf vy).run P w' = .ok Y.len w') ∧
    ∃ news, RowsIn imm loc Y news ∧ ∀ w' : World, (∀ a, w'.cell? a = w.cell? a) → (Builtin.firstCells size Y.len vy).run P w' = .ok news w' := by
  unfold lenOK at hl
  split at hl
  · rename_i S f
    simp only [asRows, Option.some.injEq] at hY
    subst hY
    obtain ⟨et, hel⟩ := isElem_inv E hl
    obtain ⟨a, n, cap, vals, rfl, rfl, _⟩ := hy.slice_inv
    exact ⟨.inl ⟨_, (E.elems _ _ _ hel).1⟩, fun _ => rfl, slice_first R hy hsz⟩
  · rename_i id
    split at hl
    · rename_i S wr hu
      simp only [asRows, hu, Option.some.injEq] at hY
      subst hY
      obtain ⟨et, hel⟩ := isElem_inv E hl
      refine ⟨.inl ⟨_, (E.elems _ _ _ hel).1⟩, ?_⟩
      rcases buf_rows R (hlk _ _ hu) with ⟨b, cap, e', c, h1, hb, hc, hs, hr⟩ | ⟨a, h1, hr, _⟩
      · rcases hy.gsl_inv h1 with ⟨b', n', cap', e'', h2, rfl⟩ | ⟨_, _, h2, _⟩
        · cases h2; exact ⟨fun _ => rfl, buf_first hb hc hs hr hsz⟩
        · cases h2
      · rcases hy.gsl_inv h1 with ⟨_, _, _, _, h2, _⟩ | ⟨a', n', h2, rfl⟩
        · cases h2
        · cases h2; exact ⟨fun _ => rfl, slice_first R hr hsz⟩
    · cases hl
  · simp only [asRows, Option.some.injEq] at hY
    subst hY
    obtain ⟨s, rfl, rfl⟩ := hy.str_inv
    refine ⟨.inr (isKind_str E hl), fun _ => by simp [Builtin.lenOf, Rows.len], _, ?_, fun w' _ => rfl⟩
    have h1 : s.extract 0 (Rows.bytes s.data.toList).len = s := by
      cases s
      simp [Rows.len, ByteArray.extract, ByteArray.copySlice]
    rw [h1]
    refine ⟨by simp [Rows.len, Rows.width], fun i j hi hj => ?_⟩
    simp only [Rows.width, Nat.lt_one_iff] at hj
    subst hj
    have hi' : i < s.data.size := by simpa [Rows.len] using hi
    simp only [Rows.row, Rows.width, Nat.mul_one, Nat.add_zero, List.getD_cons_zero]
    have h2 : (Array.map (fun b : UInt8 => Value.int .u8 b.toNat) s.data).getD i undef = .int .u8 ((s.data.toList.getD i 0).toNat : Int) := by
      rw [Array.getD_eq_getD_getElem?, Array.getElem?_map, Array.getElem?_eq_getElem hi', List.getD_eq_getElem?_getD, Array.getElem?_toList, Array.getElem?_eq_getElem hi']
      rfl
    rw [h2]
    exact .int _ _
  · cases hl

end

end Go.Abs

/- Soundness of the abstract machine, part 16: append, joined. -/
set_option linter.unusedSimpArgs false
namespace Go.Abs
open Go

section
variable {P : Program} {env : Env} (E : EnvOK P env) {imm : Imm} {loc loc' : Locs} {w : World} {lk lk' : Lk}

theorem getD_append3 (a b c : Array Value) (k : Nat) : (a ++ b ++ c).getD k undef = if k < a.size then a.getD k undef else if k < a.size + b.size then b.getD (k - a.size) undef else c.getD (k - (a.size + b.size)) undef := by
  simp only [Array.getD_eq_getD_getElem?, Array.getElem?_append, Array.size_append]
  by_cases h1 : k < a.size
  · rw [if_pos (by omega), if_pos h1, if_pos h1]
  · by_cases h2 : k < a.size + b.size
    · rw [if_pos h2, if_neg h1, if_neg h1, if_pos h2]
    · rw [if_neg h2, if_neg h1, if_neg h2]

theorem grown_obj {S Y Z : Rows} (hZ : S.append Y = some Z) {olds news z : Array Value} (ho : RowsIn imm loc S olds) (hn : RowsIn imm loc Y news) (hz : z.size = S.width) {cap B : Nat} (hc : S.len + Y.len ≤ cap) {w' : World} {et : TypeId}
    (hB : w'.heap[B]? = some (.cells (olds ++ news ++ Builtin.zeroCells z (cap - (S.len + Y.len))) et (0, 0))) (wr : Bool) : ObjRel imm loc' w' (.gbuf Z wr) (.buf B (S.len + Y.len) cap et) := by
  obtain ⟨h1, h2, h3, h4, h5, h6⟩ := append_spec hZ
  refine .buf Z wr B _ cap et _ hB h1.symm hc ?_ fun i j hi hj => ?_
  · simp only [Array.size_append, size_zeroCells, ho.1, hn.1, h4, h5, hz, ← Nat.add_mul]
    congr 1
    omega
  · rw [h4] at hj ⊢
    rw [h6, getD_append3, ho.1, hn.1, h5]
    by_cases hi1 : i < S.len
    · rw [if_pos hi1, if_pos (row_index hi1 hj)]
      exact (ho.2 i j hi1 hj).row
    · have hge : S.len * S.width ≤ i * S.width := Nat.mul_le_mul_right _ (by omega)
      have hlt := row_index hi hj
      rw [Nat.add_mul] at hlt
      rw [if_neg hi1, if_neg (by omega), if_pos hlt]
      have := hn.2 (i - S.len) j (by omega) (by rw [h5]; exact hj)
      rw [h5] at this
      have he : (i - S.len) * S.width + j = i * S.width + j - S.len * S.width := by
        rw [Nat.sub_mul]; omega
      rw [he] at this
      exact this.row

theorem fits {n m cap bytes : Nat} (h : n + m ≤ lim) (hc : cap < n + m) (hb : bytes ≤ 128) : Builtin.nextslicecap (n + m) cap * bytes ≤ 281474976710656 := by
  refine growslice_fits hc ?_
  have h1 : (n + m) * bytes ≤ lim * 128 := Nat.mul_le_mul h hb
  have h2 : lim * 128 = 140737488355328 := rfl
  omega

theorem Rel.drew (R : Rel imm loc lk w) : Rel imm loc lk w.drew := ⟨R.claims, fun id o h => by
    obtain ⟨l, hl, hr⟩ := R.objs id o h
    refine ⟨l, hl, ?_⟩
    cases hr with
    | cells _ b c e h1 h2 h3 => exact .cells _ b c e h1 h2 h3
    | buf _ _ b n cap e c h1 h2 h3 h4 h5 => exact .buf _ _ b n cap e c h1 h2 h3 h4 h5
    | full _ _ a n h1 h2 => exact .full _ _ a n h1 h2
    | iter _ _ b bs h1 h2 => exact .iter _ _ b bs h1 h2
    | map _ _ b ms cl h1 h2 h3 => exact .map _ _ b ms cl h1 h2 h3, R.dom, R.inj, R.sep⟩

include E in
/-- append, where the room does not do: a new row -/
theorem grow_does (R : Rel imm loc lk w) {t u ty : TypeId} {d : Nat} {k : Option Nat} (hk : k ≠ some d) (hpar : notParam d = true) {S Y Z : Rows} (hZ : S.append Y = some Z) (he : isElem env t S.kind = true) {a : Option Addr} {cap : Nat} {vy : Value} {olds news : Array Value}
    (hu : (∃ e2, P.underlying u = some (.slice e2)) ∨ P.underlying u = some .string) (hlen : ∀ w' : World, (Builtin.lenOf vy).run P w' = .ok Y.len w')
    (ho : RowsIn imm loc S olds) (hold : ∀ w' : World, (∀ a, w'.cell? a = w.cell? a) → (Builtin.firstCells S.width S.len (.slice a S.len cap)).run P w' = .ok olds w')
    (hn : RowsIn imm loc Y news) (hnews : ∀ w' : World, (∀ a, w'.cell? a = w.cell? a) → (Builtin.firstCells S.width Y.len vy).run P w' = .ok news w')
    (hroom : cap < S.len + Y.len) (hlim : S.len + Y.len ≤ lim) (wr : Bool) :
    Does imm loc lk w ((do pure (.value (← Builtin.append_ #[t, u] ty #[.slice a S.len cap, vy])) : Sem Next).run P w) ⟨.gsl d, true, swapTn d k, swapSets d (.gbuf Z wr) k⟩ := by
  obtain ⟨et, hel⟩ := isElem_inv E he
  obtain ⟨ht, inf, z, hi, hz, hzs, hsz, hpos, hby, _⟩ := E.elems _ _ _ hel
  rw [kind_width] at hzs hsz
  have hl2 := lim_lt
  have hrun := append_grow_run (P := P) (w := w) (ty := ty) (n := S.len) (m := Y.len) (cap := cap) (a := a) ht hu hi hz vy olds news (hlen w) (by rw [hsz]; exact hold w.drew fun _ => rfl) (by rw [hsz]; exact hnews w.drew fun _ => rfl) hroom (by omega) (fits hlim hroom hby)
  have hge := grownCap_ge w (S.len + Y.len) cap et
  have hobj : ∀ loc', ObjRel imm loc' (w.drew.alloc (.cells (olds ++ news ++ Builtin.zeroCells z.cells (grownCap w (S.len + Y.len) cap et - (S.len + Y.len))) et)) (.gbuf Z wr) (.buf w.heap.size (S.len + Y.len) (grownCap w (S.len + Y.len) cap et) et) :=
    fun loc' => grown_obj hZ ho hn hzs hge (heap_alloc_new w.drew _) wr
  obtain ⟨h1, h2⟩ := R.swap (w' := w.drew.alloc (.cells (olds ++ news ++ Builtin.zeroCells z.cells (grownCap w (S.len + Y.len) cap et - (S.len + Y.len))) et)) (d := d) (l := .buf w.heap.size (S.len + Y.len) (grownCap w (S.len + Y.len) cap et) et) (k := k) (o := .gbuf Z wr) hk hpar
    rfl rfl rfl (by simp) (fun b hb => .inl (by simp only [Loc.block, Option.some.injEq] at hb; omega)) (fun b hb _ => heap_alloc_old w.drew _ hb) (hobj _)
  exact ⟨_, _, _, imm, _, by rw [Sem.run_bind, hrun]; rfl, .inl rfl, h1, h2, TurnOK.swap imm loc d _ k, .gsl _ _ _ _ _ (by simp [swapLoc]; rfl)⟩

include E in
theorem appendEff_does (R : Rel imm loc lk w) (hlk : ∀ i o, lk' i = some o → lk i = some o) {d : Option Tmp} {t u ty : TypeId} {x y : U} {vx vy : Value} {e : Eff} (hx : Rep imm loc x vx) (hy : Rep imm loc y vy) (hl : lenOK env lk' u y = true)
    (h : appendEff env lk' d t x y = some e) (hok : e.ok = true) : Does imm loc lk w ((do pure (.value (← Builtin.append_ #[t, u] ty #[vx, vy])) : Sem Next).run P w) e := by
  unfold appendEff at h
  split at h
  rotate_left
  · cases h
  rename_i d Y hY
  cases hpar : notParam d with
  | false => rw [hpar] at h; cases h
  | true =>
  rw [hpar] at h
  simp only [Bool.not_true, cond_false] at h
  split at h
  · rename_i S
    split at h
    rotate_left
    · cases h
    rename_i Z hZ
    cases he : isElem env t S.kind with
    | false => rw [he] at h; cases h
    | true =>
      rw [he] at h
      simp only [cond_true, Option.some.injEq] at h
      subst h
      simp only [Bool.and_eq_true, Bool.or_eq_true, decide_eq_true_eq] at hok
      obtain ⟨hne, hlim⟩ := hok
      obtain ⟨h1, h2, h3, h4, h5, h6⟩ := append_spec hZ
      obtain ⟨hu, hlen, news, hn, hnews⟩ := tail_first (P := P) E R hlk hy hl hY (size := S.width) h5.symm
      obtain ⟨a, n, cap, vals, rfl, rfl, hfull, hc, _⟩ := hx.slice_inv
      have hcap := hfull rfl
      subst hcap
      obtain ⟨olds, ho, hold⟩ := slice_first (P := P) R hx (size := S.width) rfl
      by_cases hm : Y.len = 0
      · have h0 : S.len = 0 := by
          rcases hne with h | h
          · exact Nat.eq_of_beq_eq_true h
          · simp [Nat.blt_eq, hm] at h
        obtain ⟨et, hel⟩ := isElem_inv E he
        obtain ⟨ht, inf, z, hi, hz, hzs, hsz, hpos, hby, _⟩ := E.elems _ _ _ hel
        rw [kind_width] at hsz
        have hnil : news = #[] := by
          have := hn.1
          rw [hm, Nat.zero_mul] at this
          exact Array.eq_empty_of_size_eq_zero this
        have hrun := append_same_run (P := P) (w := w) (ty := ty) ht hu hi a S.len S.len vy (by have := hlen w; rwa [hm] at this) (by have := hnews w fun _ => rfl; rw [hm, hnil] at this; rw [hsz]; exact this) (Nat.le_refl _)
        have hZ0 : Z.len = 0 := by omega
        obtain ⟨h7, h8⟩ := R.swap (w' := w) (d := d) (l := .full a S.len) (k := none) (o := .gbuf Z true) (by simp) hpar rfl rfl rfl (Nat.le_refl _) (fun b hb => by simp [Loc.block] at hb) (fun _ _ _ => rfl)
          (.full Z true a S.len (.slice Z true a S.len S.len (fun _ _ => undef) (by omega) (fun _ => rfl) (Nat.le_refl _) (fun h => by omega) fun i j hi => by omega) fun _ => h0)
        exact ⟨_, _, _, imm, _, by rw [Sem.run_bind, hrun]; rfl, .inl rfl, h7, h8, TurnOK.swap imm loc d _ none, .gslF _ _ _ (by simp [swapLoc])⟩
      · have := grow_does (P := P) E R (t := t) (u := u) (ty := ty) (d := d) (k := none) (by simp) hpar hZ he hu hlen ho hold hn hnews (by omega) hlim true
        obtain ⟨nx, v, w', imm', loc', g1, g2, g3, g4, g5, g6⟩ := this
        exact ⟨nx, v, w', imm', loc', g1, g2, g3, g4, g5, g6⟩
  · rename_i id
    cases hb : Nat.beq id d with
    | true => rw [hb] at h; cases h
    | false =>
      rw [hb] at h
      simp only [cond_false] at h
      have hne : (some id : Option Nat) ≠ some d := fun h => by cases h; rw [Nat.beq_refl] at hb; cases hb
      split at h
      rotate_left
      · cases h
      rename_i S wr hS
      split at h
      rotate_left
      · cases h
      rename_i Z hZ
      cases he : isElem env t S.kind with
      | false => rw [he] at h; cases h
      | true =>
        rw [he] at h
        simp only [cond_true, Option.some.injEq] at h
        subst h
        simp only [decide_eq_true_eq] at hok
        obtain ⟨h1, h2, h3, h4, h5, h6⟩ := append_spec hZ
        obtain ⟨hu, hlen, news, hn, hnews⟩ := tail_first (P := P) E R hlk hy hl hY (size := S.width) h5.symm
        obtain ⟨et, hel⟩ := isElem_inv E he
        obtain ⟨ht, inf, z, hi, hz, hzs, hsz, hpos, hby, _⟩ := E.elems _ _ _ hel
        rw [kind_width] at hsz
        rcases buf_rows R (hlk _ _ hS) with ⟨b, cap, e', c, hll, hbk, hc, hs, hr⟩ | ⟨a, hll, hr, hfull⟩
        · rcases hx.gsl_inv hll with ⟨b', n', cap', e'', h7, rfl⟩ | ⟨_, _, h7, _⟩
          rotate_left
          · cases h7
          cases h7
          obtain ⟨olds, ho, hold⟩ := buf_first (P := P) (w := w) hbk hc hs hr (size := S.width) rfl
          by_cases hroom : S.len + Y.len ≤ cap
          · have hfit : S.len * S.width + news.size ≤ c.size := by
              rw [hn.1, h5, hs, ← Nat.add_mul]; exact Nat.mul_le_mul_right _ hroom
            have hrun := append_room_run (P := P) (w := w) (ty := ty) (n := S.len) (m := Y.len) (cap := cap) ht hu hi hbk vy news (hlen w) (by rw [hsz]; exact hnews w fun _ => rfl) hn.one hroom (by rw [hsz]; exact hfit)
            rw [hsz] at hrun
            have hcs : (c.toList.take (S.len * S.width) ++ news.toList ++ c.toList.drop (S.len * S.width + news.toList.length)).toArray.size = c.size := by
              simp only [List.size_toArray, List.length_append, List.length_take, List.length_drop, Array.length_toList]
              omega
            have hcg : ∀ q, (c.toList.take (S.len * S.width) ++ news.toList ++ c.toList.drop (S.len * S.width + news.toList.length)).toArray.getD q undef = if q < S.len * S.width then c.getD q undef else if q < S.len * S.width + news.size then news.getD (q - S.len * S.width) undef else c.getD q undef := by
              intro q
              simp only [Array.getD_eq_getD_getElem?, List.getElem?_toArray, List.getElem?_append, List.length_append, List.length_take, Array.length_toList, List.getElem?_take, List.getElem?_drop, Array.getElem?_toList]
              rw [Nat.min_eq_left (by omega)]
              by_cases q1 : q < S.len * S.width
              · rw [if_pos (by omega), if_pos q1, if_pos q1, if_pos q1]
              · by_cases q2 : q < S.len * S.width + news.size
                · rw [if_pos q2, if_neg q1, if_neg q1, if_pos q2]
                · rw [if_neg q2, if_neg q1, if_neg q2]
                  congr 2
                  omega
            obtain ⟨g1, g2⟩ := R.swap (w' := w.setRow b _) (d := d) (l := .buf b (S.len + Y.len) cap e') (k := some id) (o := .gbuf Z (wr || Nat.blt 0 Y.len)) hne hpar rfl rfl rfl (by simp)
              (fun b' hb' => .inr ⟨id, _, .inr rfl, hll, by simpa [Loc.block] using hb'⟩) (fun k _ hk => setRow_other w b k _ (fun h => hk (by simp [Loc.block, h])))
              (.buf Z _ b _ cap e' _ (setRow_rel_heap b _ hbk) h1.symm hroom (by rw [hcs, hs, h4]) fun i j hi hj => by
                rw [h4] at hj ⊢
                rw [hcg, h6, hn.1, h5]
                by_cases hi1 : i < S.len
                · rw [if_pos hi1, if_pos (row_index hi1 hj)]
                  exact (hr i j hi1 hj).row
                · have hge : S.len * S.width ≤ i * S.width := Nat.mul_le_mul_right _ (by omega)
                  have hlt := row_index hi hj
                  rw [Nat.add_mul] at hlt
                  rw [if_neg hi1, if_neg (by omega), if_pos hlt]
                  have := hn.2 (i - S.len) j (by omega) (by rw [h5]; exact hj)
                  rw [h5] at this
                  have hee : (i - S.len) * S.width + j = i * S.width + j - S.len * S.width := by rw [Nat.sub_mul]; omega
                  rw [hee] at this
                  exact this.row)
            exact ⟨_, _, _, imm, _, by rw [Sem.run_bind, hrun]; rfl, .inl rfl, g1, g2, TurnOK.swap imm loc d _ (some id), .gsl _ _ _ _ _ (by simp [swapLoc]; rfl)⟩
          · have := grow_does (P := P) E R (t := t) (u := u) (ty := ty) (d := d) (k := some id) hne hpar hZ he hu hlen ho hold hn hnews (by omega) hok (wr || Nat.blt 0 Y.len)
            obtain ⟨nx, v, w', imm', loc', g1, g2, g3, g4, g5, g6⟩ := this
            exact ⟨nx, v, w', imm', loc', g1, g2, g3, g4, g5, g6⟩
        · rcases hx.gsl_inv hll with ⟨_, _, _, _, h7, _⟩ | ⟨a', n', h7, rfl⟩
          · cases h7
          cases h7
          obtain ⟨olds, ho, hold⟩ := slice_first (P := P) R hr (size := S.width) rfl
          by_cases hm : Y.len = 0
          · have hnil : news = #[] := by
              have := hn.1
              rw [hm, Nat.zero_mul] at this
              exact Array.eq_empty_of_size_eq_zero this
            have hrun := append_same_run (P := P) (w := w) (ty := ty) ht hu hi a S.len S.len vy (by have := hlen w; rwa [hm] at this) (by have := hnews w fun _ => rfl; rw [hm, hnil] at this; rw [hsz]; exact this) (Nat.le_refl _)
            have hwr : (wr || Nat.blt 0 Y.len) = wr := by
              have : Nat.blt 0 Y.len = false := by rw [hm]; rfl
              rw [this, Bool.or_false]
            rw [hwr]
            obtain ⟨a', n', cap', vals, hv, hnn, _, _, ha, hrr⟩ := hr.slice_inv
            cases hv
            obtain ⟨g1, g2⟩ := R.swap (w' := w) (d := d) (l := .full a S.len) (k := some id) (o := .gbuf Z wr) hne hpar rfl rfl rfl (Nat.le_refl _) (fun b hb => by simp [Loc.block] at hb) (fun _ _ _ => rfl)
              (.full Z wr a S.len (.slice Z true a S.len S.len vals (by omega) (fun _ => rfl) (Nat.le_refl _) (fun h => by
                obtain ⟨b, o, q1, q2⟩ := ha h
                exact ⟨b, o, q1, fun i j hi hj => by rw [h4] at hj ⊢; exact q2 i j hi hj⟩) fun i j hi hj => by
                  rw [h6, if_pos hi]; rw [h4] at hj; exact (hrr i j hi hj).row) fun h => hfull h)
            exact ⟨_, _, _, imm, _, by rw [Sem.run_bind, hrun]; rfl, .inl rfl, g1, g2, TurnOK.swap imm loc d _ (some id), .gslF _ _ _ (by simp [swapLoc])⟩
          · have := grow_does (P := P) E R (t := t) (u := u) (ty := ty) (d := d) (k := some id) hne hpar hZ he hu hlen ho hold hn hnews (by omega) hok (wr || Nat.blt 0 Y.len)
            obtain ⟨nx, v, w', imm', loc', g1, g2, g3, g4, g5, g6⟩ := this
            exact ⟨nx, v, w', imm', loc', g1, g2, g3, g4, g5, g6⟩
  · cases h

end

end Go.Abs

/- Soundness of the abstract machine, part 17: buffers are frozen; literals of slices. -/
set_option linter.unusedSimpArgs false
namespace Go.Abs
open Go

/-- all that is turned is frozen -/
def FrozenTn (lk : Lk) (tn : List (Nat × To)) : Prop := ∀ i t, (i, t) ∈ tn → ∃ S wr, t = .frozen S ∧ lk i = some (.gbuf S wr)

theorem asTo_not_mem (tn : List (Nat × To)) (i : Nat) (h : i ∉ tn.map (·.1)) : asTo tn i = .same := by
  induction tn with
  | nil => rfl
  | cons p r ih =>
    obtain ⟨j, t⟩ := p
    simp only [List.map_cons, List.mem_cons, not_or] at h
    simp only [asTo]
    rw [beq_false_of_ne (Ne.symm h.1)]
    exact ih h.2

theorem asTo_mem (tn : List (Nat × To)) (i : Nat) (h : i ∈ tn.map (·.1)) : (i, asTo tn i) ∈ tn := by
  induction tn with
  | nil => simp at h
  | cons p r ih =>
    obtain ⟨j, t⟩ := p
    simp only [asTo]
    by_cases hj : j = i
    · subst hj; simp [Nat.beq_refl]
    · rw [beq_false_of_ne hj]
      simp only [List.map_cons, List.mem_cons] at h
      rcases h with h | h
      · exact absurd h.symm hj
      · exact List.mem_cons_of_mem _ (ih h)

theorem keysS_gonesOf (tn : List (Nat × To)) : keysS (gonesOf tn) = tn.map (·.1) := by
  induction tn with
  | nil => rfl
  | cons p r ih => obtain ⟨j, t⟩ := p; simp only [gonesOf, keysS, List.map_cons] at ih ⊢; rw [ih]

theorem setLk_gonesOf (tn : List (Nat × To)) (lk : Lk) (i : Nat) : setLk lk (gonesOf tn) i = if i ∈ tn.map (·.1) then none else lk i := by
  induction tn generalizing lk with
  | nil => simp [gonesOf, setLk]
  | cons p r ih =>
    obtain ⟨j, t⟩ := p
    simp only [gonesOf, setLk, ih, List.map_cons, List.mem_cons]
    by_cases h1 : i ∈ r.map (·.1)
    · simp [h1]
    · by_cases h2 : i = j
      · simp [h2]
      · simp [h1, h2]

section
variable {imm : Imm} {loc : Locs} {lk lk' : Lk} {w : World}

open Classical in
theorem Rel.freeze (R : Rel imm loc lk w) {tn : List (Nat × To)} (hF : FrozenTn lk tn) :
    ∃ imm' loc', Evolve imm loc w imm' loc' w ∧ Rel imm' loc' (effLk tn (gonesOf tn) lk) w ∧ TurnOK imm' loc loc' (asTo tn) ∧ (∀ i, i ∉ tn.map (·.1) → loc' i = loc i) ∧ (∀ i, i ∈ tn.map (·.1) → loc' i = none) := by
  let own : Addr → Prop := fun a => a.spot = none ∧ ∃ i l, i ∈ tn.map (·.1) ∧ loc i = some l ∧ l.block = some a.block
  let imm' : Imm := fun a => if own a then w.cell? a else imm a
  let loc' : Locs := fun i => if i ∈ tn.map (·.1) then none else loc i
  have hgrow : ∀ a v, imm a = some v → imm' a = some v := by
    intro a v h
    have : ¬ own a := by
      rintro ⟨_, i, l, _, hl, hb⟩
      exact R.sep i l _ hl hb a v h rfl
    simp only [imm', if_neg this, h]
  have hev : Evolve imm loc w imm' loc' w := by
    refine ⟨rfl, rfl, rfl, Nat.le_refl _, fun _ _ _ => rfl, hgrow, fun a v h => ?_, fun i l b hi hb => ?_, fun i _ => ?_⟩
    · by_cases ho : own a
      · obtain ⟨_, i, l, _, hl, hb⟩ := ho
        exact .inr (.inl ⟨i, l, hl, hb⟩)
      · simp only [imm', if_neg ho] at h; exact .inl h
    · simp only [loc'] at hi
      split at hi
      · cases hi
      · exact .inl ⟨i, l, hi, hb⟩
    · by_cases hi : i ∈ tn.map (·.1)
      · exact .inr (by simp only [loc', if_pos hi])
      · exact .inl (by simp only [loc', if_neg hi])
  have hturn : TurnOK imm' loc loc' (asTo tn) := by
    intro id
    by_cases hid : id ∈ tn.map (·.1)
    · obtain ⟨S, wr, ht, hS⟩ := hF id _ (asTo_mem tn id hid)
      rw [ht]
      simp only
      rcases buf_rows R hS with ⟨b, cap, e, c, hl, hbk, hc, hs, hr⟩ | ⟨a, hl, hr, _⟩
      · rw [hl]
        simp only
        refine .slice S false _ _ _ (fun i j => c.getD (i * S.width + j) undef) rfl (fun h => by cases h) hc (fun _ => ⟨b, 0, rfl, fun i j hi hj => ?_⟩) fun i j hi hj => ?_
        · have ho : own ⟨b, 0 + i * S.width + j, none⟩ := ⟨rfl, id, _, hid, hl, rfl⟩
          simp only [imm', if_pos ho]
          rw [Nat.zero_add]
          refine cell_own hbk ?_
          rw [hs]
          exact Nat.lt_of_lt_of_le (row_index hi hj) (Nat.mul_le_mul_right _ hc)
        · have := (hr i j hi hj).turn (imm' := imm') (loc' := loc') (f := fun _ => .gone) hgrow (fun _ => trivial)
          rwa [row_turn] at this
      · rw [hl]
        simp only
        obtain ⟨a', n, cap, vals, he, hn, _, hc, ha, hrr⟩ := hr.slice_inv
        cases he
        refine .slice S false _ _ _ vals rfl (fun h => by cases h) (Nat.le_refl _) (fun h => ?_) fun i j hi hj => ?_
        · obtain ⟨b, o, h1, h2⟩ := ha h
          exact ⟨b, o, h1, fun i j hi hj => hgrow _ _ (h2 i j hi hj)⟩
        · have := (hrr i j hi hj).turn (imm' := imm') (loc' := loc') (f := fun _ => .gone) hgrow (fun _ => trivial)
          rwa [row_turn] at this
    · rw [asTo_not_mem tn id hid]
      exact .inl (by simp only [loc', if_neg hid])
  refine ⟨imm', loc', hev, R.eff hev ?_ ?_ (fun _ _ _ _ _ _ => rfl) hturn ?_ ?_ ?_ ?_, hturn, fun i hi => by simp only [loc', if_neg hi], fun i hi => by simp only [loc', if_pos hi]⟩
  · intro a v h
    by_cases ho : own a
    · have h1 := h
      simp only [imm', if_pos ho] at h1
      exact .inr ⟨ho.1, h1⟩
    · simp only [imm', if_neg ho] at h; exact .inl h
  · intro id hid
    rw [keysS_gonesOf] at hid
    simp only [loc', if_neg hid]
  · intro id hid
    rw [keysS_gonesOf] at hid
    rw [setLk_gonesOf, if_pos hid]
    simp only [loc', if_pos hid]
  · intro i j l m b hi h1
    rw [keysS_gonesOf] at hi
    simp only [loc', if_pos hi] at h1
    cases h1
  · intro i l b hi hb a v ha h0 hab
    simp only [loc'] at hi
    split at hi
    · cases hi
    · rename_i hni
      by_cases ho : own a
      · obtain ⟨_, j, m, hj, hm, hbj⟩ := ho
        have := R.inj i j l m b hi hm hb (by rw [hbj, hab])
        subst this
        exact hni hj
      · simp only [imm', if_neg ho] at ha; rw [ha] at h0; cases h0
  · intro i l b hi h1
    rw [keysS_gonesOf] at hi
    simp only [loc', if_pos hi] at h1
    cases h1

theorem frozenOf_ok (lk : Lk) : ∀ (l : List Nat) (tn : List (Nat × To)), frozenOf lk l = some tn → FrozenTn lk tn ∧ tn.map (·.1) = l
  | [], tn, h => by
    simp only [frozenOf, Option.some.injEq] at h
    subst h
    exact ⟨fun i t h => by simp at h, rfl⟩
  | id :: r, tn, h => by
    simp only [frozenOf] at h
    split at h
    · rename_i S wr q hS hq
      cases h
      obtain ⟨h1, h2⟩ := frozenOf_ok lk r q hq
      refine ⟨fun i t hm => ?_, by simp [h2]⟩
      rcases List.mem_cons.1 hm with h | h
      · cases h; exact ⟨S, wr, rfl, hS⟩
      · exact h1 i t h
    · cases h

/-- a new block of what is never written -/
theorem Rel.claimNew (R : Rel imm loc lk w) (c : Array Value) (e : TypeId) :
    ∃ imm', Evolve imm loc w imm' loc (w.alloc (.cells c e)) ∧ Rel imm' loc lk (w.alloc (.cells c e)) ∧ ∀ j, j < c.size → imm' ⟨w.heap.size, j, none⟩ = some (c.getD j undef) := by
  let imm' : Imm := fun a => if a.spot = none ∧ a.block = w.heap.size then c[a.off]? else imm a
  have hnone : ∀ a v, imm a = some v → ¬ (a.spot = none ∧ a.block = w.heap.size) := fun a v h hb => by
    have := R.claim_lt h; omega
  have hgrow : ∀ a v, imm a = some v → imm' a = some v := fun a v h => by simp only [imm', if_neg (hnone a v h), h]
  have hev : Evolve imm loc w imm' loc (w.alloc (.cells c e)) := by
    refine ⟨rfl, rfl, rfl, by simp, fun b hb _ => heap_alloc_old w _ hb, hgrow, fun a v h => ?_, fun i l b hi hb => .inl ⟨i, l, hi, hb⟩, fun _ _ => .inl rfl⟩
    by_cases ho : a.spot = none ∧ a.block = w.heap.size
    · exact .inr (.inr (by omega))
    · simp only [imm', if_neg ho] at h; exact .inl h
  have R' := R.eff (tn := []) (sets := []) (imm' := imm') (loc' := loc) (w' := w.alloc (.cells c e)) hev ?_ (fun _ _ => rfl) (fun id l b _ hl hb => heap_alloc_old w _ (R.block_lt hl hb)) (fun _ => .inl rfl) (fun id h => by simp [keysS] at h) (fun i j l m b h => by simp [keysS] at h) ?_ (fun i l b h => by simp [keysS] at h)
  · rw [effLk_nil] at R'
    exact ⟨imm', hev, R', fun j hj => by simp [imm', hj]⟩
  · intro a v h
    by_cases ho : a.spot = none ∧ a.block = w.heap.size
    · simp only [imm', if_pos ho] at h
      refine .inr ⟨ho.1, ?_⟩
      simp only [World.cell?, ho.2, heap_alloc_new, ho.1]
      exact h
    · simp only [imm', if_neg ho] at h; exact .inl h
  · intro i l b hi hb a v ha h0 hab
    by_cases ho : a.spot = none ∧ a.block = w.heap.size
    · have := R.block_lt hi hb; omega
    · simp only [imm', if_neg ho] at ha; rw [ha] at h0; cases h0

end

end Go.Abs

/- Soundness of the abstract machine, part 18: literals of slices. -/
set_option linter.unusedSimpArgs false
namespace Go.Abs
open Go

theorem cons_spec {k : RowKind} {c : List U} {r : Option Rows} {S : Rows} (h : Rows.cons k c r = some S) (hb : byteIn k c = true) (hr : ∀ T, r = some T → T.kind = k) :
    ∃ T, r = some T ∧ T.kind = k ∧ S.kind = k ∧ S.len = T.len + 1 ∧ c.length = k.width ∧ RowOK k c (S.row 0) ∧ ∀ i, S.row (i + 1) = T.row i := by
  unfold Rows.cons at h
  split at h
  · split at h
    · rename_i n l
      cases h
      refine ⟨_, rfl, rfl, rfl, by simp [Rows.len], rfl, ?_, fun i => by simp [Rows.row]⟩
      intro imm loc j v hv
      have : (Rows.bytes (UInt8.ofNat n.toNat :: l)).row 0 = [.int .u8 n] := by
        simp only [Rows.row, List.getD_cons_zero]
        rw [byte_rep hb]
      rw [this]; exact hv
    · cases h
  · split at h
    · rename_i k k1 n k2 l
      split at h
      · rename_i hk
        obtain ⟨rfl, rfl⟩ := hk
        cases h
        exact ⟨_, rfl, rfl, rfl, by simp [Rows.len], rfl, fun imm loc j v hv => hv, fun i => by simp [Rows.row]⟩
      · cases h
    · cases h
  · split at h
    · cases h
      exact ⟨_, rfl, rfl, rfl, by simp [Rows.len], rfl, fun imm loc j v hv => hv, fun i => by simp [Rows.row]⟩
    · cases h
  · unfold consE at h
    split at h
    · rename_i e l he
      cases h
      refine ⟨_, rfl, rfl, rfl, by simp [Rows.len], ?_, fun imm loc j v hv => xeOf_rep he j hv, fun i => by simp [Rows.row]⟩
      unfold XE.of at he
      split at he
      · rfl
      · cases he
    · cases h
  · unfold consN at h
    split at h
    · rename_i e l he
      cases h
      refine ⟨_, rfl, rfl, rfl, by simp [Rows.len], ?_, fun imm loc j v hv => xnOf_rep he j hv, fun i => by simp [Rows.row]⟩
      unfold XN.of at he
      split at he
      · rfl
      · cases he
    · cases h
  · unfold consT at h
    split at h
    · rename_i e l he
      cases h
      refine ⟨_, rfl, rfl, rfl, by simp [Rows.len], ?_, fun imm loc j v hv => xtOf_rep he j hv, fun i => by simp [Rows.row]⟩
      unfold XT.of at he
      split at he
      · rfl
      · cases he
    · cases h
  · unfold consTab at h
    split at h
    · rename_i sig e sg l he
      cases h
      have hk := hr _ rfl
      simp only [Rows.kind, RowKind.tab.injEq] at hk
      subst hk
      have hc := tabOf_row he
      refine ⟨_, rfl, rfl, rfl, by simp [Rows.len], ?_, fun imm loc j v hv => ?_, fun i => by simp [Rows.row]⟩
      · rw [← hc]
        have := row_length (.tab sg [e]) 0
        simpa [Rows.row, Rows.width, RowKind.width] using this
      · have : (Rows.tab sg (e :: l)).row 0 = c := by
          rw [← hc]; simp [Rows.row]
        rw [this]; exact hv
    · cases h

theorem ofRows_spec (k : RowKind) : ∀ (rows : List (List U)) (S : Rows), Rows.ofRows k rows = some S → bytesIn k rows = true → S.kind = k ∧ S.len = rows.length ∧ (∀ i, i < rows.length → (rows.getD i []).length = k.width ∧ RowOK k (rows.getD i []) (S.row i))
  | [], S, h, _ => by
    simp only [Rows.ofRows, Option.some.injEq] at h
    subst h
    exact ⟨by cases k <;> rfl, by cases k <;> rfl, fun i hi => by simp at hi⟩
  | c :: rows, S, h, hb => by
    simp only [bytesIn, Bool.and_eq_true] at hb
    simp only [Rows.ofRows] at h
    obtain ⟨T, hT, _, h1, h2, h3, h4, h5⟩ := cons_spec h hb.1 (fun T hT => (ofRows_spec k rows T hT hb.2).1)
    obtain ⟨h6, h7, h8⟩ := ofRows_spec k rows T hT hb.2
    refine ⟨h1, by rw [h2, h7]; rfl, fun i hi => ?_⟩
    cases i with
    | zero => simpa using ⟨h3, h4⟩
    | succ i =>
      have := h8 i (by simpa using hi)
      rw [h5]
      simpa using this

theorem byteIn_turn (f : Nat → To) (k : RowKind) (c : List U) (h : byteIn k c = true) : byteIn k (U.turns f c) = true := by
  unfold byteIn at h
  split at h
  · simpa [U.turns, U.turn, byteIn] using h
  · rename_i hn
    unfold byteIn
    split
    · rename_i n hc
      exfalso
      cases c with
      | nil => simp [U.turns] at hc
      | cons u us =>
        cases us with
        | cons _ _ => simp [U.turns] at hc
        | nil =>
          simp only [U.turns, List.cons.injEq, and_true] at hc
          cases u <;> simp only [U.turn, reduceCtorEq] at hc
          case int k' n' => cases hc; exact hn _ rfl rfl
          all_goals (split at hc <;> cases hc)
    · rfl

theorem bytesIn_turn (f : Nat → To) (k : RowKind) : ∀ rows : List (List U), bytesIn k rows = true → bytesIn k (turnAll f rows) = true
  | [], _ => rfl
  | c :: rows, h => by
    simp only [bytesIn, Bool.and_eq_true] at h
    simp only [turnAll, bytesIn, Bool.and_eq_true]
    exact ⟨byteIn_turn f k c h.1, bytesIn_turn f k rows h.2⟩

theorem turnAll_length (f : Nat → To) : ∀ rows : List (List U), (turnAll f rows).length = rows.length
  | [] => rfl
  | _ :: rows => by simp [turnAll, turnAll_length f rows]

theorem turnAll_getD (f : Nat → To) : ∀ (rows : List (List U)) (i : Nat), (turnAll f rows).getD i [] = U.turns f (rows.getD i [])
  | [], i => by simp [turnAll, U.turns]
  | c :: rows, 0 => by simp [turnAll]
  | c :: rows, i + 1 => by simpa [turnAll] using turnAll_getD f rows i

/-- filling from one end to the other -/
theorem fill_seq (W : Nat) : ∀ (vs : List Value) (k : Nat) (cs : Array Value), (∀ v ∈ vs, v.cells.size = W) → (k + vs.length) * W ≤ cs.size →
    ∃ cs', Instr.fill (fun i => some (i * W, W)) cs ((vs.zipIdx k).map fun p => (p.2, p.1)) = some cs' ∧ cs'.size = cs.size ∧
      ∀ i j, j < W → cs'.getD (i * W + j) undef = if k ≤ i ∧ i < k + vs.length then (vs.getD (i - k) undef).cells.getD j undef else cs.getD (i * W + j) undef
  | [], k, cs, _, _ => ⟨cs, rfl, rfl, fun i j _ => by rw [if_neg]; simp only [List.length_nil]; omega⟩
  | v :: vs, k, cs, hv, hle => by
    have hvW := hv v (by simp)
    have hkW : k * W + W ≤ cs.size := by
      have : (k + 1) * W ≤ (k + (v :: vs).length) * W := Nat.mul_le_mul_right _ (by simp only [List.length_cons]; omega)
      rw [Nat.add_mul, Nat.one_mul] at this
      omega
    obtain ⟨h1, h2⟩ := foldSet v.cells (k * W) cs (by omega)
    obtain ⟨cs', h3, h4, h5⟩ := fill_seq W vs (k + 1) (v.cells.zipIdx.foldl (fun cs (c, j) => cs.setIfInBounds (k * W + j) c) cs) (fun x hx => hv x (by simp [hx])) (by
      rw [h1]; simp only [List.length_cons] at hle; rw [show k + 1 + vs.length = k + (vs.length + 1) by omega]; exact hle)
    refine ⟨cs', ?_, h4.trans h1, fun i j hj => ?_⟩
    · simp only [List.zipIdx_cons, List.map_cons, Instr.fill]
      rw [if_neg]
      · exact h3
      · simp only [hvW, ne_eq, not_true_eq_false, decide_false, Bool.false_or, decide_eq_true_eq]
        omega
    · rw [h5 i j hj, h2]
      simp only [List.length_cons]
      by_cases hc1 : k + 1 ≤ i ∧ i < k + 1 + vs.length
      · rw [if_pos hc1, if_pos (by omega), show i - k = i - (k + 1) + 1 by omega, List.getD_cons_succ]
      · rw [if_neg hc1]
        by_cases hc2 : i = k
        · subst hc2
          rw [if_pos (by omega), if_pos (by omega), Nat.sub_self, List.getD_cons_zero, show i * W + j - i * W = j by omega]
        · rw [if_neg (c := k ≤ i ∧ i < k + (vs.length + 1)) (by omega), if_neg]
          rintro ⟨h6, h7⟩
          rcases Nat.lt_or_gt_of_ne hc2 with h8 | h8
          · have := row_index (n := k) (w := W) h8 hj; omega
          · have : (k + 1) * W ≤ i * W := Nat.mul_le_mul_right _ h8
            rw [Nat.add_mul, Nat.one_mul] at this
            omega

theorem inOrder_map (f : Operand → Value) (ev : Operand → U) : ∀ (ps : List (Nat × Operand)) (k : Nat), inOrder k (evPairs ev ps) = true → ps.map (fun p => (p.1, f p.2)) = ((ps.map fun p => f p.2).zipIdx k).map fun p => (p.2, p.1)
  | [], k, _ => rfl
  | (i, x) :: ps, k, h => by
    simp only [evPairs, inOrder, Bool.and_eq_true] at h
    have := Nat.eq_of_beq_eq_true h.1
    subst this
    simp only [List.map_cons, List.zipIdx_cons]
    rw [inOrder_map f ev ps _ h.2]

theorem partsCells_getD (ev : Operand → U) : ∀ (ps : List (Nat × Operand)) (i : Nat), i < ps.length → (partsCells (evPairs ev ps)).getD i [] = (ev (ps.getD i default).2).cells
  | [], i, h => by simp at h
  | (j, x) :: ps, 0, _ => by simp [evPairs, partsCells]
  | (j, x) :: ps, i + 1, h => by simpa [evPairs, partsCells] using partsCells_getD ev ps i (by simpa using h)

theorem partsCells_length (ev : Operand → U) : ∀ ps : List (Nat × Operand), (partsCells (evPairs ev ps)).length = ps.length
  | [] => rfl
  | (j, x) :: ps => by simp [evPairs, partsCells, partsCells_length ev ps]

theorem evPairs_length (ev : Operand → U) : ∀ ps : List (Nat × Operand), (evPairs ev ps).length = ps.length
  | [] => rfl
  | (j, x) :: ps => by simp [evPairs, evPairs_length ev ps]

theorem solidParts_getD (ev : Operand → U) : ∀ (ps : List (Nat × Operand)) (i : Nat), solidParts (evPairs ev ps) = true → i < ps.length → solid (ev (ps.getD i default).2) = true
  | [], i, _, h => by simp at h
  | (j, x) :: ps, 0, h, _ => by simp only [evPairs, solidParts, Bool.and_eq_true] at h; simpa using h.1
  | (j, x) :: ps, i + 1, h, hi => by simp only [evPairs, solidParts, Bool.and_eq_true] at h; simpa using solidParts_getD ev ps i h.2 (by simpa using hi)

section
variable {P : Program} {env : Env} (E : EnvOK P env) {imm : Imm} {loc : Locs} {w : World} {lk lk' : Lk}

include E in
theorem litEff_does (R : Rel imm loc lk w) (hlk : ∀ i o, lk' i = some o → lk i = some o) {t : TypeId} {n : Nat} {ps : Array (Nat × Operand)} (f : Operand → Value) (ev : Operand → U) (hr : ∀ x, Rep imm loc (ev x) (f x)) {e : Eff}
    (h : litEff env lk' t n (evPairs ev ps.toList) = some e) (hok : e.ok = true) : Does imm loc lk w ((do pure (.value (← Instr.buildSlice t n (ps.map fun (i, x) => (i, f x)))) : Sem Next).run P w) e := by
  unfold litEff at h
  split at h
  rotate_left
  · cases h
  rename_i et k hel
  obtain ⟨ht, inf, z, hi, hz, hzs, hsz, hpos, _⟩ := E.elems _ _ _ hel
  cases hb : (inOrder 0 (evPairs ev ps.toList) && solidParts (evPairs ev ps.toList) && Nat.beq (evPairs ev ps.toList).length n && Nat.ble (n * k.width) 16777216) with
  | false => rw [hb] at h; cases h
  | true =>
    rw [hb] at h
    simp only [Bool.and_eq_true] at hb
    obtain ⟨⟨⟨hord, hsol⟩, hlen⟩, hbig⟩ := hb
    have hlen := Nat.eq_of_beq_eq_true hlen
    have hbig := Nat.le_of_ble_eq_true hbig
    rw [evPairs_length] at hlen
    simp only [cond_true] at h
    split at h
    rotate_left
    · cases h
    rename_i tn htn
    split at h
    rotate_left
    · cases h
    rename_i S hS
    cases h
    simp only at hok
    obtain ⟨hF, _⟩ := frozenOf_ok lk' _ tn htn
    have hF' : FrozenTn lk tn := fun i t hm => by
      obtain ⟨S, wr, h1, h2⟩ := hF i t hm
      exact ⟨S, wr, h1, hlk _ _ h2⟩
    obtain ⟨imm1, loc1, hev1, R1, hturn, _, _⟩ := R.freeze hF'
    obtain ⟨hk, hl, hrows⟩ := ofRows_spec k _ S hS (bytesIn_turn _ k _ hok)
    rw [turnAll_length, partsCells_length] at hl
    -- the cells
    let vs : List Value := ps.toList.map fun p => f p.2
    have hvs : vs.length = n := by simp [vs, hlen]
    have hrow : ∀ i, i < n → (vs.getD i undef).cells.size = k.width ∧ ∀ j, j < k.width → Rep imm1 loc1 ((S.row i).getD j .undef) ((vs.getD i undef).cells.getD j undef) := by
      intro i hi'
      have hip : i < ps.toList.length := by omega
      have hv : vs.getD i undef = f (ps.toList.getD i default).2 := by
        simp only [vs, List.getD_eq_getElem?_getD, List.getElem?_map, List.getElem?_eq_getElem hip]
        rfl
      obtain ⟨h1, h2⟩ := (hr (ps.toList.getD i default).2).cells (solidParts_getD ev _ i hsol hip)
      obtain ⟨h3, h4⟩ := hrows i (by rw [turnAll_length, partsCells_length]; exact hip)
      rw [turnAll_getD, partsCells_getD ev _ i hip] at h3 h4
      rw [turns_length] at h3
      rw [hv]
      refine ⟨by omega, fun j hj => h4 _ _ j _ ?_⟩
      rw [turns_getD]
      exact (h2 j (by omega)).turn hev1.grow hturn
    have hlist : (ps.map fun (i, x) => (i, f x)).toList = (vs.zipIdx 0).map fun p => (p.2, p.1) := by
      rw [← inOrder_map f ev ps.toList 0 hord]
      simp
    have hall : ∀ v ∈ vs, v.cells.size = k.width := by
      intro v hv
      obtain ⟨i, hi', rfl⟩ := List.getElem_of_mem hv
      have := (hrow i (by omega)).1
      simpa [List.getD_eq_getElem?_getD, hi'] using this
    obtain ⟨cs, hfill, hcs, hcg⟩ := fill_seq k.width vs 0 ((Array.range (n * inf.size)).map (z.cells[· % z.cells.size]!)) hall (by simp [hvs, hsz])
    have hrun : (Instr.buildSlice t n (ps.map fun (i, x) => (i, f x))).run P w = .ok (.slice (some ⟨w.heap.size, 0, none⟩) n n) (w.alloc (.cells cs et)) := by
      by_cases h0 : n = 0
      · have hv0 : vs = [] := List.eq_nil_of_length_eq_zero (by omega)
        have hcs0 : cs = #[] := Array.eq_empty_of_size_eq_zero (by rw [hcs, h0]; simp)
        have hp0 : ps = #[] := by
          apply Array.eq_empty_of_size_eq_zero
          have := hlen
          simp only [Array.length_toList] at this
          omega
        subst h0
        rw [hcs0, hp0]
        simp [Instr.buildSlice, run_underlying ht, sizeOf, typeInfo, hi, Instr.fill, newRow]
        congr 2
        exact Array.eq_empty_of_size_eq_zero (by simp)
      · refine run_buildSlice w t et n _ cs inf z ht hi hz (by rw [hsz]; omega) (by rw [hsz]; exact Nat.mul_ne_zero h0 (by omega)) ?_
        rw [hlist, hsz]
        rw [hsz] at hfill
        exact hfill
    obtain ⟨imm2, hev2, R2, hnew⟩ := R1.claimNew cs et
    refine ⟨_, _, _, imm2, loc1, by rw [Sem.run_bind, hrun]; rfl, .inl rfl, hev1.trans hev2, R2, ?_, ?_⟩
    · intro id
      have := hturn id
      cases hf : asTo tn id with
      | same => rw [hf] at this; exact this
      | gone => trivial
      | id j => rw [hf] at this; exact this
      | frozen S =>
        rw [hf] at this
        simp only at this ⊢
        split <;> rename_i hl0 <;> rw [hl0] at this <;> simp only at this
        · exact this.mono hev2.grow fun _ => .inl rfl
        · exact this.mono hev2.grow fun _ => .inl rfl
        · trivial
    · have hw : S.width = k.width := by rw [← kind_width, hk]
      refine .slice S true _ n n (fun i j => cs.getD (i * k.width + j) undef) (by omega) (fun _ => rfl) (Nat.le_refl _) (fun _ => ⟨w.heap.size, 0, rfl, fun i j hi' hj => ?_⟩) fun i j hi' hj => ?_
      · rw [hw] at hj ⊢
        rw [Nat.zero_add]
        refine hnew _ ?_
        rw [hcs]
        simp only [Array.size_map, Array.size_range, hsz]
        exact row_index hi' hj
      · rw [hw] at hj
        rw [hcg i j hj, if_pos (by omega), Nat.sub_zero]
        exact ((hrow i hi').2 j hj).mono hev2.grow fun _ => .inl rfl

end

end Go.Abs

/- Soundness of the abstract machine: maps. -/
set_option linter.unusedSimpArgs false
namespace Go.Abs
open Go Go.MapKept

/-- entries against entries -/
structure EntryRel (imm : Imm) (loc : Locs) (sig : List CK) (p : Bytes × List Cell) (m : MapEntry) : Prop where
  key : ∃ ks : ByteArray, m.key = .string ks ∧ ks.data.toList = p.1
  size : m.val.cells.size = sig.length
  val : ∀ j, j < sig.length → Rep imm loc ((tabCells p.2 sig 0).getD j .undef) (m.val.cells.getD j undef)

structure MapRel (imm : Imm) (loc : Locs) (sig : List CK) (es : List (Bytes × List Cell)) (ms : List MapEntry) : Prop where
  len : ms.length = es.length
  at' : ∀ (i : Nat) (p : Bytes × List Cell) (m : MapEntry), es[i]? = some p → ms[i]? = some m → EntryRel imm loc sig p m

section
variable {P : Program} {env : Env} (E : EnvOK P env) {imm : Imm} {loc : Locs} {w : World} {lk lk' : Lk}

theorem objMap_inv {sig : List CK} {es : List (Bytes × List Cell)} {b : Nat} (h : ObjRel imm loc w (.map sig es) (.map b)) : ∃ (ms : Array MapEntry) (clock : Nat), w.heap[b]? = some (.map ms clock) ∧ MapRel imm loc sig es ms.toList := by
  cases h with
  | map _ _ _ ms clock h1 h2 h3 =>
    refine ⟨ms, clock, h1, by simpa using h2, fun i p m hp hm => ?_⟩
    have hi : i < ms.size := by
      have := (List.getElem?_eq_some_iff.1 hm).1
      simpa using this
    obtain ⟨k, v, hk, hkey, hsz, hv⟩ := h3 i hi
    rw [hp] at hk
    cases hk
    have hmd : ms.getD i default = m := by
      rw [Array.getElem?_toList] at hm
      simp [hm]
    rw [hmd] at hkey hsz hv
    exact ⟨hkey, hsz, hv⟩

theorem objMap_of {sig : List CK} {es : List (Bytes × List Cell)} {b : Nat} {ms : Array MapEntry} {clock : Nat} (hb : w.heap[b]? = some (.map ms clock)) (h : MapRel imm loc sig es ms.toList) : ObjRel imm loc w (.map sig es) (.map b) := by
  have hl : ms.size = es.length := by simpa using h.len
  refine .map sig es b ms clock hb hl fun i hi => ?_
  have hp : es[i]? = some es[i] := List.getElem?_eq_getElem (by omega)
  have hm : ms.toList[i]? = some ms[i] := by simp [hi]
  have := h.at' i _ _ hp hm
  have hmd : ms.getD i default = ms[i] := by simp [hi]
  rw [hmd]
  exact ⟨es[i].1, es[i].2, hp, this.key, this.size, this.val⟩

theorem MapRel.tail {sig : List CK} {p : Bytes × List Cell} {es : List (Bytes × List Cell)} {m : MapEntry} {ms : List MapEntry} (h : MapRel imm loc sig (p :: es) (m :: ms)) : EntryRel imm loc sig p m ∧ MapRel imm loc sig es ms :=
  ⟨h.at' 0 p m rfl rfl, by simpa using h.len, fun i q n hq hn => h.at' (i + 1) q n (by simpa using hq) (by simpa using hn)⟩

/-- where a key stands -/
theorem find_rel {sig : List CK} (x : ByteArray) : ∀ (es : List (Bytes × List Cell)) (ms : List MapEntry) (n : Nat), MapRel imm loc sig es ms →
    (Instr.findNow .string (.string x) ms n = some none ∧ mapHas es x.data.toList = false ∧ mapGet es x.data.toList = [] ∧ ∀ v, mapPut es x.data.toList v = es ++ [(x.data.toList, v)]) ∨
    ∃ i m, Instr.findNow .string (.string x) ms n = some (some (n + i, m.val)) ∧ ms[i]? = some m ∧ m.key = .string x ∧ mapHas es x.data.toList = true ∧ es[i]? = some (x.data.toList, mapGet es x.data.toList) ∧ ∀ v, mapPut es x.data.toList v = es.set i (x.data.toList, v)
  | [], [], n, _ => .inl ⟨rfl, rfl, rfl, fun _ => rfl⟩
  | [], _ :: _, _, h => by have := h.len; simp at this
  | _ :: _, [], _, h => by have := h.len; simp at this
  | (k, v) :: es, m :: ms, n, h => by
    obtain ⟨he, ht⟩ := h.tail
    obtain ⟨ks, hk, hkl⟩ := he.key
    simp only at hkl
    have hsame : Instr.sameNow .string (.string x) m.key = some (decide (k = x.data.toList)) := by
      rw [hk]
      simp only [Instr.sameNow]
      rw [bytesBeq, hkl]
      congr 1
      rw [Bool.eq_iff_iff]
      simp [eq_comm]
    by_cases hkx : k = x.data.toList
    · subst hkx
      refine .inr ⟨0, m, ?_, rfl, ?_, ?_, ?_, fun v' => ?_⟩
      · simp only [Instr.findNow, hsame, decide_true]; rfl
      · rw [hk]
        congr 1
        have : ks.data = x.data := Array.toList_inj.1 hkl
        cases ks; cases x; simp_all
      · simp [mapHas]
      · simp [mapGet]
      · simp [mapPut]
    · rcases find_rel x es ms (n + 1) ht with ⟨h1, h2, h3, h4⟩ | ⟨i, m', h1, h2, h3, h4, h5, h6⟩
      · refine .inl ⟨?_, ?_, ?_, fun v' => ?_⟩
        · simp only [Instr.findNow, hsame, decide_eq_false hkx]; exact h1
        · simp [mapHas, hkx, h2]
        · simp [mapGet, hkx, h3]
        · simp [mapPut, hkx, h4]
      · refine .inr ⟨i + 1, m', ?_, by simpa using h2, h3, ?_, ?_, fun v' => ?_⟩
        · simp only [Instr.findNow, hsame, decide_eq_false hkx]
          rw [h1]; congr 3; omega
        · simp [mapHas, hkx, h4]
        · simpa [mapGet, hkx] using h5
        · simp [mapPut, hkx, h6]

theorem Rep.map_inv {id b : Nat} {v : Value} (h : Rep imm loc (.map id) v) (hl : loc id = some (.map b)) : v = .map (some b) := by
  cases h with
  | map _ b' h => rw [hl] at h; cases h; rfl
  | dead _ _ i hu _ h => simp only [U.ref?, Option.some.injEq] at hu; subst hu; rw [hl] at h; cases h

/-- a map in the store -/
theorem map_at (R : Rel imm loc lk w) {id : Nat} {sig : List CK} {es : List (Bytes × List Cell)} (h : lk id = some (.map sig es)) {v : Value} (hv : Rep imm loc (.map id) v) :
    ∃ b ms clock, loc id = some (.map b) ∧ v = .map (some b) ∧ w.heap[b]? = some (.map ms clock) ∧ MapRel imm loc sig es ms.toList := by
  obtain ⟨l, hl, hr⟩ := R.objs id _ h
  cases l with
  | map b =>
    obtain ⟨ms, clock, h1, h2⟩ := objMap_inv hr
    exact ⟨b, ms, clock, hl, hv.map_inv hl, h1, h2⟩
  | _ => cases hr

theorem agg_of_cells {v : Value} (h : 1 < v.cells.size) : v = .agg v.cells := by
  cases v <;> first | rfl | (simp [Value.cells] at h)

include E in
theorem lookupEff_plain (R : Rel imm loc lk w) (hlk : ∀ i o, lk' i = some o → lk i = some o) {t : TypeId} {m k : U} {vm vk : Value} (hm : Rep imm loc m vm) (hk : Rep imm loc k vk) {ok : Bool} {e : Eff} (h : lookupEff env lk' t m k ok = some e) :
    Plain P imm loc w (Instr.lookup t vm vk ok) e := by
  unfold lookupEff at h
  split at h
  · rename_i et sig id x hmt
    split at h
    · rename_i sig' es ti hob hti
      cases hc : (decide (sig = sig') && (ti.agg && (Nat.beq sig.length ti.size && Nat.blt 1 ti.size))) with
      | false => rw [hc] at h; cases h
      | true =>
        rw [hc] at h
        simp only [cond_true] at h
        simp only [Bool.and_eq_true, decide_eq_true_eq] at hc
        obtain ⟨rfl, hagg, h1, h2⟩ := hc
        have h1 := Nat.eq_of_beq_eq_true h1
        have h2 : 1 < ti.size := Nat.le_of_ble_eq_true h2
        obtain ⟨⟨kt, hu, hkt⟩, i, z, hi, hz, hzs, hzr⟩ := E.maps t et sig hmt
        obtain ⟨b, ms, clock, hl, rfl, hheap, hrel⟩ := map_at R (hlk _ _ hob) hm
        obtain ⟨xs, rfl, rfl⟩ := hk.str_inv
        have hchk : ∀ emp, (Instr.checkKey emp 10000 kt (.string xs)).run P w = .ok () w := fun emp => run_checkKey hkt (by simp [IsKey]) emp 9999
        have hpart : ∀ r : List Cell, partU ti (tabCells r sig 0) 0 = .agg ((tabCells r sig 0).take ti.size) := fun r => by simp [partU, hagg]
        have hlen : ∀ (r : List Cell) (n : Nat) (sig : List CK), (tabCells r sig n).length = sig.length := by
          intro r n sig
          induction sig generalizing n with
          | nil => rfl
          | cons c sig ih => cases c <;> simp [tabCells, ih]
        have htake : ∀ r : List Cell, (tabCells r sig 0).take ti.size = tabCells r sig 0 := fun r => by
          rw [List.take_of_length_le]
          rw [hlen]; omega
        -- whatever is found
        have key : ∃ v, (Instr.findKey kt (.string xs) ms.toList >>= fun r => (match r with | some (_, v) => pure (v, true) | none => do pure (← zeroValue et, false) : Sem (Value × Bool))).run P w = .ok (v, mapHas es xs.data.toList) w ∧
            Rep imm loc (partU ti (tabCells (mapGet es xs.data.toList) sig 0) 0) v := by
          rcases find_rel xs es ms.toList 0 hrel with ⟨h3, h4, h5, _⟩ | ⟨j, me, h3, h4, _, h6, h7, _⟩
          · have hzv : (zeroValue et).run P w = .ok z w := by simp [zeroValue, typeInfo, hi, hz]
            refine ⟨z, ?_, ?_⟩
            · rw [Sem.run_bind, run_findKey hkt h3, Result.andThen_ok]
              simp only [Sem.run_bind, hzv, Result.andThen_ok, Sem.run_pure, h4]
            · rw [h5, hpart, htake, agg_of_cells (v := z) (by omega)]
              exact .agg _ _ (by rw [hlen]; omega) fun q hq => hzr q (by omega) imm loc
          · refine ⟨me.val, ?_, ?_⟩
            · rw [Sem.run_bind, run_findKey hkt h3, Result.andThen_ok]
              simp only [Sem.run_pure, h6]
            · have he := hrel.at' j _ _ h7 h4
              have hsz := he.size
              rw [hpart, htake, agg_of_cells (v := me.val) (by omega)]
              exact .agg _ _ (by rw [hlen]; omega) fun q hq => he.val q (by omega)
        obtain ⟨v, hrun, hrep⟩ := key
        have hall : (Instr.lookup t (.map (some b)) (.string xs) ok).run P w = .ok (if ok then .tuple #[v, .bool (mapHas es xs.data.toList)] else v) w := by
          unfold Instr.lookup
          rw [Sem.run_bind, run_underlying hu, Result.andThen_ok]
          simp only [Sem.run_bind, MapKept.run_getObj_map hheap, Result.andThen_ok, Sem.run_pure, hchk]
          rw [Sem.run_bind] at hrun
          revert hrun
          cases (Instr.findKey kt (.string xs) ms.toList).run P w with
          | halt x w' => intro hrun; cases hrun
          | ok r w' =>
            simp only [Result.andThen_ok]
            cases r with
            | none =>
              simp only [Sem.run_bind]
              cases (zeroValue et).run P w' with
              | halt x w'' => intro hrun; cases hrun
              | ok z' w'' =>
                simp only [Result.andThen_ok, Sem.run_pure]
                intro hrun
                simp only [Result.ok.injEq, Prod.mk.injEq] at hrun
                obtain ⟨⟨rfl, hb⟩, rfl⟩ := hrun
                rw [← hb]
            | some p =>
              obtain ⟨pn, pv⟩ := p
              simp only [Sem.run_pure, Result.andThen_ok]
              intro hrun
              simp only [Result.ok.injEq, Prod.mk.injEq] at hrun
              obtain ⟨⟨rfl, hb⟩, rfl⟩ := hrun
              rw [← hb]
              rfl
        cases ok with
        | true =>
          refine plain_val h ⟨_, hall, .tup _ _ rfl fun q hq => ?_⟩
          have : q = 0 ∨ q = 1 := by simp at hq; omega
          rcases this with rfl | rfl
          · exact hrep
          · exact .bool _
        | false => exact plain_val h ⟨_, hall, hrep⟩
    · cases h
  · cases h

include E in
theorem mapPutEff_does (R : Rel imm loc lk w) (hlk : ∀ i o, lk' i = some o → lk i = some o) {t : TypeId} {m k v : U} {vm vk vv : Value} (hm : Rep imm loc m vm) (hk : Rep imm loc k vk) (hv : Rep imm loc v vv) {e : Eff} (h : mapPutEff env lk' t m k v = some e) :
    Does imm loc lk w ((do Instr.mapUpdate t vm vk vv; pure .skip : Sem Next).run P w) e := by
  unfold mapPutEff at h
  split at h
  · rename_i et sig id x hmt
    split at h
    · rename_i sig' es c hob htab
      cases hc : (decide (sig = sig') && solid v) with
      | false => rw [hc] at h; cases h
      | true =>
        rw [hc] at h
        simp only [cond_true, Option.some.injEq] at h
        subst h
        simp only [Bool.and_eq_true, decide_eq_true_eq] at hc
        obtain ⟨rfl, hsol⟩ := hc
        obtain ⟨⟨kt, hu, hkt⟩, _⟩ := E.maps t et sig hmt
        obtain ⟨b, ms, clock, hl, rfl, hheap, hrel⟩ := map_at R (hlk _ _ hob) hm
        obtain ⟨xs, rfl, rfl⟩ := hk.str_inv
        have hkey : IsKey .string (.string xs) := by simp [IsKey]
        obtain ⟨hcs, hcr⟩ := hv.cells hsol
        have hrow := tabOf_row htab
        have hlen : ∀ (r : List Cell) (n : Nat) (sig : List CK), (tabCells r sig n).length = sig.length := by
          intro r n sig
          induction sig generalizing n with
          | nil => rfl
          | cons c sig ih => cases c <;> simp [tabCells, ih]
        have hent : ∀ born, EntryRel imm loc sig (xs.data.toList, c) { key := .string xs, val := vv, born := born } := fun born => by
          have hl2 : v.cells.length = sig.length := by rw [← hrow, hlen]
          refine ⟨⟨xs, rfl, rfl⟩, by rw [hcs]; exact hl2, fun j hj => ?_⟩
          simp only
          rw [hrow]
          exact hcr j (by omega)
        have hblt : b < w.heap.size := (Array.getElem?_eq_some_iff.1 hheap).1
        -- what is written
        have fin : ∀ (ms' : Array MapEntry) (clock' : Nat), (Instr.mapUpdate t (.map (some b)) (.string xs) vv).run P w = .ok () { w with heap := w.heap.setIfInBounds b (.map ms' clock') } → MapRel imm loc sig (mapPut es xs.data.toList c) ms'.toList →
            Does imm loc lk w ((do Instr.mapUpdate t (.map (some b)) (.string xs) vv; pure .skip : Sem Next).run P w) ⟨.tup [], true, [], [(id, some (.map sig (mapPut es xs.data.toList c)))]⟩ := fun ms' clock' hrun hrel' => by
          obtain ⟨nw, hnw⟩ : ∃ nw : Obj, nw = .map ms' clock' := ⟨_, rfl⟩
          rw [← hnw] at hrun
          have hup := R.update (w' := { w with heap := w.heap.setIfInBounds b nw }) (o := .map sig (mapPut es xs.data.toList c)) hl rfl rfl rfl rfl (by simp)
            (fun q _ hq => by simp [Array.getElem?_setIfInBounds_ne (Ne.symm hq)]) (objMap_of (ms := ms') (clock := clock') (by simp [hblt, hnw]) hrel')
          refine ⟨.skip, undef, _, imm, loc, ?_, .inr ⟨rfl, rfl⟩, hup.1, hup.2, TurnOK.same _ _, .tup [] #[] rfl fun i hi => absurd hi (Nat.not_lt_zero _)⟩
          rw [Sem.run_bind, hrun]; rfl
        rcases find_rel xs es ms.toList 0 hrel with ⟨h3, _, _, h6⟩ | ⟨j, me, h3, h4, h5, _, h7, h8⟩
        · refine fin (ms.push { key := .string xs, val := vv, born := clock }) (clock + 1) ?_ ?_
          · simp [Instr.mapUpdate, run_underlying hu, MapKept.run_getObj_map hheap, run_checkKey hkt hkey, run_findKey hkt h3, MapKept.run_setObj_map _ hheap, Result.andThen]
          · rw [h6]
            refine ⟨by simp [← hrel.len], fun i p q hp hq => ?_⟩
            rw [Array.toList_push] at hq
            by_cases hi : i < es.length
            · rw [List.getElem?_append_left hi] at hp
              rw [List.getElem?_append_left (by rw [hrel.len]; exact hi)] at hq
              exact hrel.at' i p q hp hq
            · rw [List.getElem?_append_right (by omega)] at hp
              rw [List.getElem?_append_right (by rw [hrel.len]; omega), hrel.len] at hq
              have h0 : i - es.length = 0 := by
                rcases Nat.eq_zero_or_pos (i - es.length) with h0 | h0
                · exact h0
                · rw [List.getElem?_eq_none (by simp; omega)] at hp; cases hp
              rw [h0] at hp hq
              cases hp; cases hq
              exact hent clock
        · have hj : ms[j]? = some me := by rw [← Array.getElem?_toList]; exact h4
          refine fin (ms.modify j fun e => { e with key := .string xs, val := vv }) clock ?_ ?_
          · have h3' : Instr.findNow .string (.string xs) ms.toList 0 = some (some (j, me.val)) := by rw [h3, Nat.zero_add]
            simp [Instr.mapUpdate, run_underlying hu, MapKept.run_getObj_map hheap, run_checkKey hkt hkey, run_findKey hkt h3', hj, h5, run_keyThatStays hkey, MapKept.run_setObj_map _ hheap, Result.andThen]
          · rw [h8]
            refine ⟨by simpa using hrel.len, fun i p q hp hq => ?_⟩
            rw [Array.getElem?_toList, Array.getElem?_modify] at hq
            by_cases hij : j = i
            · subst hij
              rw [if_pos rfl, hj] at hq
              simp only [Option.map_some, Option.some.injEq] at hq
              have hjl : j < es.length := (List.getElem?_eq_some_iff.1 h7).1
              rw [List.getElem?_set_self hjl] at hp
              cases hp
              subst hq
              exact hent me.born
            · rw [if_neg hij] at hq
              rw [List.getElem?_set_ne hij] at hp
              exact hrel.at' i p q hp (by rw [Array.getElem?_toList]; exact hq)
    · cases h
  · cases h

include E in
theorem makeMap_does (R : Rel imm loc lk w) {d : Option Tmp} {t : TypeId} {e : Eff} (h : makeMapEff env d t = some e) : Does imm loc lk w ((do pure (.value (← Instr.makeMap t none)) : Sem Next).run P w) e := by
  have _ := E
  unfold makeMapEff at h
  split at h
  · rename_i et sig hmt
    refine new_does R h (v := .map (some w.heap.size)) (obj := .map #[] 0) ?_ (.map w.heap.size) rfl (fun d hd => objMap_of (ms := #[]) (clock := 0) (heap_alloc_new w _) ⟨rfl, fun i p m hp => by simp at hp⟩) fun d => .map _ _ (by simp [swapLoc])
    simp [Instr.makeMap]
  · cases h

include E in
theorem ifaceEff_plain {t : TypeId} {x : U} {vx : Value} (hx : Rep imm loc x vx) {e : Eff} (h : ifaceEff env t x = some e) : Plain P imm loc w (Instr.makeInterface t vx) e := by
  unfold ifaceEff at h
  split at h
  · rename_i k hk
    refine plain_val h ⟨.iface t vx, ?_, .iface t x vx hx⟩
    unfold Instr.makeInterface
    rw [Sem.run_bind, run_underlying (E.ints t k hk), Result.andThen_ok]
    rfl
  · cases h

end

end Go.Abs

/- Soundness of the abstract machine, part 19: every operation does what its effect says. -/
set_option linter.unusedSimpArgs false
namespace Go.Abs
open Go

section
variable {P : Program} {env : Env} (E : EnvOK P env) {imm : Imm} {loc : Locs} {w : World} {lk lk' : Lk}

theorem does_value {R : Rel imm loc lk w} {u : U} {e : Eff} {v : Value} (h : val u = some e) (hr : Rep imm loc u v) : Does imm loc lk w (.ok (.value v) w) e := by
  cases h
  exact ⟨_, v, w, imm, loc, rfl, .inl rfl, Evolve.refl _ _ _, by rw [effLk_nil]; exact R, TurnOK.same _ _, hr⟩

theorem optRep_map (ev : Operand → U) (f : Operand → Value) (hr : ∀ x, Rep imm loc (ev x) (f x)) (o : Option Operand) : OptRep imm loc (o.map ev) (o.map f) := by
  cases o with
  | none => exact .none
  | some x => exact .some (hr x)

include E in
theorem opEff_does (R : Rel imm loc lk w) (hlk : ∀ i o, lk' i = some o → lk i = some o) (f : Operand → Value) (ev : Operand → U) (hr : ∀ x, Rep imm loc (ev x) (f x)) {o : Oper} {e : Eff} (h : opEff env o ev lk' = some e) (hok : e.ok = true) :
    Does imm loc lk w ((Go.execOp f o).run P w) e := by
  obtain ⟨dst, op, type, pos, after, guard⟩ := o
  cases op with
  | move x => exact does_value (R := R) h (hr x)
  | assign x => exact does_value (R := R) h (hr x)
  | alloc t =>
    simp only [opEff] at h
    split at h
    · rename_i us hz
      exact alloc_does E R hz h
    · cases h
  | box t x =>
    simp only [opEff] at h
    cases hs : solid (ev x) with
    | false => rw [hs] at h; cases h
    | true => rw [hs] at h; exact box_does R (hr x) hs h
  | build t ps =>
    simp only [opEff] at h
    split at h
    · rename_i us hz
      split at h
      · rename_i fs hf
        split at h
        · rename_i us' hpl
          exact does_plain R (build_plain E f ev hr hz hf hpl h)
        · cases h
      · split at h
        · rename_i n et ha
          split at h
          · rename_i ti hti
            split at h
            · rename_i us' hpl
              exact does_plain R (buildArr_plain E f ev hr hz hpl ha hti h)
            · cases h
          · cases h
        · cases h
    · cases h
  | makeMap t rsv =>
    cases rsv with
    | some _ => cases h
    | none => exact makeMap_does E R h
  | insert t m k v => exact mapPutEff_does E R hlk (hr m) (hr k) (hr v) h
  | mapUpdate t m k v => exact mapPutEff_does E R hlk (hr m) (hr k) (hr v) h
  | lookup t m k ok => exact does_plain R (lookupEff_plain E R hlk (hr m) (hr k) h)
  | makeInterface t x => exact does_plain R (ifaceEff_plain E (hr x) h)
  | buildSlice t n ps => exact litEff_does E R hlk f ev hr h hok
  | load t x => exact does_plain R (loadEff_plain E R hlk (hr x) h hok)
  | store t x v => exact storeEff_does E R hlk (hr x) (hr v) h hok
  | nilCheck x =>
    obtain ⟨h1, h2, v, h3, h4⟩ := nilCheck_run (P := P) (w := w) ⟨dst, .nilCheck x, type, pos, after, guard⟩ f x rfl rfl (hr x) h
    refine ⟨_, v, w, imm, loc, h3, .inl rfl, Evolve.refl _ _ _, ?_, ?_, h4⟩
    · rw [h1, h2, effLk_nil]; exact R
    · rw [h1]; exact TurnOK.same _ _
  | binOp op t x y yt => exact does_plain R (binEff_plain E x y (hr x) (hr y) h hok)
  | unOp op t x => exact does_plain R (unEff_plain (hr x) h)
  | convert s d x => exact does_plain R (convEff_plain E R hlk (hr x) h)
  | makeFunc fn a b =>
    cases fn with
    | func g =>
      refine does_value (R := R) h ?_
      refine .func g _ _ (a.map f) (b.map f) (by simp) (by simp) (fun i hi => ?_) fun i hi => ?_
      · have hi' : i < a.size := by simpa using hi
        simpa [List.getD_eq_getElem?_getD, hi'] using hr a[i]
      · have hi' : i < b.size := by simpa using hi
        simpa [List.getD_eq_getElem?_getD, hi'] using hr b[i]
    | _ => cases h
  | slice t x lo hi mx =>
    cases mx with
    | some _ => cases h
    | none =>
      simp only [opEff] at h
      by_cases hx : ∃ id, ev x = .gsl id
      · obtain ⟨id, hid⟩ := hx
        have hrx := hr x
        rw [hid] at h hrx
        exact sliceBuf_does E R hlk hrx (optRep_map ev f hr lo) (optRep_map ev f hr hi) h hok
      · exact does_plain R (sliceEff_plain E (hr x) (optRep_map ev f hr lo) (optRep_map ev f hr hi) (fun id hid => hx ⟨id, hid⟩) h hok)
  | fieldAddr t x i => exact does_plain R (fieldAddrEff_plain E (hr x) h)
  | field t x i =>
    simp only [opEff] at h
    split at h
    · rename_i cs off ti hx hf
      cases hb : Nat.ble (off + ti.size) cs.length with
      | false => rw [hb] at h; cases h
      | true => rw [hb] at h; exact does_plain R (field_plain E (hr x) hx hf (Nat.le_of_ble_eq_true hb) h)
    · cases h
  | indexAddr t x i =>
    simp only [opEff] at h
    split at h
    · rename_i k n hi
      have hri := hr i
      rw [hi] at hri
      have := hri.int_inv
      show Does imm loc lk w ((do pure (.value (← Instr.indexAt t (f x) (f i))) : Sem Next).run P w) e
      rw [this]
      exact does_plain R (indexAddrEff_plain E R hlk (hr x) h hok)
    · cases h
  | index t x i =>
    simp only [opEff] at h
    split at h
    · rename_i k n hi
      have hri := hr i
      rw [hi] at hri
      have := hri.int_inv
      show Does imm loc lk w ((do pure (.value (← Instr.index t (f x) (f i))) : Sem Next).run P w) e
      rw [this]
      exact does_plain R (indexEff_plain E (hr x) h hok)
    · cases h
  | range t x =>
    simp only [opEff] at h
    split at h
    · rename_i s hx
      have hrx := hr x
      rw [hx] at hrx
      cases ht : isKind env t 1 with
      | false => rw [ht] at h; cases h
      | true => rw [ht] at h; exact range_does E R hrx ht h
    · cases h
  | extract x i =>
    simp only [opEff] at h
    split at h
    · rename_i us hx
      split at h
      · rename_i u hu
        exact does_plain R (plain_val h (extract_plain (hr x) hx hu))
      · cases h
    · cases h
  | call c =>
    obtain ⟨callee, args, argTypes⟩ := c
    cases callee with
    | builtin b =>
      simp only [opEff] at h
      have hargs : ∀ us, args.toList.map ev = us → us.length = args.size := fun us hu => by rw [← hu]; simp
      have hrun : ∀ (ts : Array TypeId) (s : Array Value → Sem Value), argTypes = ts → (builtin b argTypes type (args.map fun | .const _ => true | _ => false) (args.map f) = (do pure (.value (← s (args.map f))) : Sem Next)) →
          (Go.execOp f ⟨dst, .call ⟨.builtin b, args, argTypes⟩, type, pos, after, guard⟩).run P w = (do pure (.value (← s (args.map f))) : Sem Next).run P w := by
        intro ts s _ hs
        rw [← hs]
        rfl
      have one : ∀ x, args.toList.map ev = [x] → ∃ p, args = #[p] ∧ ev p = x := by
        intro x hx
        cases hl : args.toList with
        | nil => rw [hl] at hx; cases hx
        | cons p r =>
          cases r with
          | nil => rw [hl] at hx; cases hx; exact ⟨p, Array.toList_inj.1 (by rw [hl]), rfl⟩
          | cons _ _ => rw [hl] at hx; cases hx
      have two : ∀ x y, args.toList.map ev = [x, y] → ∃ p q, args = #[p, q] ∧ ev p = x ∧ ev q = y := by
        intro x y hx
        cases hl : args.toList with
        | nil => rw [hl] at hx; cases hx
        | cons p r =>
          cases r with
          | nil => rw [hl] at hx; cases hx
          | cons q r =>
            cases r with
            | nil => rw [hl] at hx; cases hx; exact ⟨p, q, Array.toList_inj.1 (by rw [hl]), rfl, rfl⟩
            | cons _ _ => rw [hl] at hx; cases hx
      unfold builtinEff at h
      split at h
      · rename_i x hx
        split at h
        · rename_i t ht
          cases hl : lenOK env lk' t x with
          | false => rw [hl] at h; cases h
          | true =>
            rw [hl] at h
            obtain ⟨p, rfl, rfl⟩ := one x hx
            have ha : argTypes = #[t] := Array.toList_inj.1 ht
            subst ha
            rw [hrun _ (fun vs => Builtin.len_ #[t] type vs) rfl rfl]
            have hm : (#[p].map f) = #[f p] := by simp
            rw [hm]
            exact does_plain R (len_plain E R hlk (hr p) hl h)
        · cases h
      · rename_i x y hx
        split at h
        · rename_i t u ht
          cases hl : lenOK env lk' u y with
          | false => rw [hl] at h; cases h
          | true =>
            rw [hl] at h
            obtain ⟨p, q, rfl, rfl, rfl⟩ := two x y hx
            have ha : argTypes = #[t, u] := Array.toList_inj.1 ht
            subst ha
            rw [hrun _ (fun vs => Builtin.append_ #[t, u] type vs) rfl rfl]
            have hm : (#[p, q].map f) = #[f p, f q] := by simp
            rw [hm]
            exact appendEff_does E R hlk (hr p) (hr q) hl h hok
        · cases h
      · rename_i k m j n hx
        obtain ⟨p, q, rfl, hp, hq⟩ := two _ _ hx
        by_cases hkj : k = j
        · subst hkj
          simp only [decide_true, cond_true] at h
          have h1 := hr p
          have h2 := hr q
          rw [hp] at h1
          rw [hq] at h2
          rw [hrun _ (fun vs => Builtin.max_ argTypes type vs) rfl rfl]
          have hm : (#[p, q].map f) = #[f p, f q] := by simp
          rw [hm, h1.int_inv, h2.int_inv]
          exact does_plain R (max_plain argTypes type h)
        · simp [hkj] at h
      · rename_i k m j n hx
        obtain ⟨p, q, rfl, hp, hq⟩ := two _ _ hx
        by_cases hkj : k = j
        · subst hkj
          simp only [decide_true, cond_true] at h
          have h1 := hr p
          have h2 := hr q
          rw [hp] at h1
          rw [hq] at h2
          rw [hrun _ (fun vs => Builtin.min_ argTypes type vs) rfl rfl]
          have hm : (#[p, q].map f) = #[f p, f q] := by simp
          rw [hm, h1.int_inv, h2.int_inv]
          exact does_plain R (min_plain argTypes type h)
        · simp [hkj] at h
      · cases h
    | _ => cases h
  | _ => cases h

end

end Go.Abs

/- Soundness of the abstract machine, part 20: stores cut down, renamed. -/
set_option linter.unusedSimpArgs false
namespace Go.Abs
open Go

section
variable {imm : Imm} {loc : Locs} {lk : Lk} {w : World}

/-- only some of a store's objects -/
theorem Rel.restrict (R : Rel imm loc lk w) (p : Nat → Bool) : Rel imm (fun i => bif p i then loc i else none) (fun i => bif p i then lk i else none) w := by
  have hm : ∀ id, (fun i => bif p i then loc i else none) id = loc id ∨ (fun i => bif p i then loc i else none) id = none := fun id => by
    cases h : p id <;> simp [h]
  refine ⟨R.claims, fun id o h => ?_, fun id l h => ?_, fun i j l m b h1 h2 h3 h4 => ?_, fun i l b h1 h2 => ?_⟩
  · cases hp : p id with
    | false => simp [hp] at h
    | true =>
      simp only [hp, cond_true] at h ⊢
      obtain ⟨l, hl, hr⟩ := R.objs id o h
      refine ⟨l, hl, ?_⟩
      have := hr.turn (w' := w) (f := fun _ => .same) (imm' := imm) (loc' := fun i => bif p i then loc i else none) (fun _ _ h => h) (fun id => hm id) fun _ _ => rfl
      rwa [AObj.turn_same] at this
  · cases hp : p id with
    | false => simp [hp] at h
    | true =>
      simp only [hp, cond_true] at h ⊢
      exact R.dom id l h
  · cases hp : p i with
    | false => simp [hp] at h1
    | true =>
      cases hq : p j with
      | false => simp [hq] at h2
      | true =>
        simp only [hp, cond_true] at h1
        simp only [hq, cond_true] at h2
        exact R.inj i j l m b h1 h2 h3 h4
  · cases hp : p i with
    | false => simp [hp] at h1
    | true => simp only [hp, cond_true] at h1; exact R.sep i l b h1 h2

/-! ### names -/

/-- which old name a new one stands for -/
def oldOf (nm : List (Nat × Nat)) (j : Nat) : Option Nat :=
  match nm with
  | [] => none
  | (i, k) :: r => bif Nat.beq k j then some i else oldOf r j

def nmLoc (nm : List (Nat × Nat)) (loc : Locs) : Locs := fun j => match oldOf nm j with | some i => loc i | none => none
def nmLk (nm : List (Nat × Nat)) (f : Nat → To) (lk : Lk) : Lk := fun j => match oldOf nm j with | some i => (lk i).map (AObj.turn f) | none => none

theorem oldOf_mem {nm : List (Nat × Nat)} {i j : Nat} (h : oldOf nm j = some i) : (i, j) ∈ nm := by
  induction nm with
  | nil => cases h
  | cons p r ih =>
    obtain ⟨i', k⟩ := p
    simp only [oldOf] at h
    by_cases hk : k = j
    · subst hk; rw [Nat.beq_refl] at h; cases h; simp
    · rw [beq_false_of_ne hk] at h; exact List.mem_cons_of_mem _ (ih h)

theorem sndN_eq (nm : List (Nat × Nat)) : sndN nm = nm.map (·.2) := by
  induction nm with
  | nil => rfl
  | cons p r ih => obtain ⟨i, j⟩ := p; simp [sndN, ih]

theorem nodupN_iff (l : List Nat) : nodupN l = true ↔ l.Nodup := by
  induction l with
  | nil => simp [nodupN]
  | cons i r ih =>
    simp only [nodupN, Bool.and_eq_true, Bool.not_eq_true', ih, List.nodup_cons]
    constructor
    · rintro ⟨h1, h2⟩
      exact ⟨fun h => (by rw [(elemN_mem i r).2 h] at h1; cases h1), h2⟩
    · rintro ⟨h1, h2⟩
      refine ⟨?_, h2⟩
      cases h : elemN i r with
      | false => rfl
      | true => exact absurd ((elemN_mem i r).1 h) h1

/-- with new names that differ, each pair tells -/
theorem oldOf_of_mem {nm : List (Nat × Nat)} (hn : (nm.map (·.2)).Nodup) {i j : Nat} (h : (i, j) ∈ nm) : oldOf nm j = some i := by
  induction nm with
  | nil => simp at h
  | cons p r ih =>
    obtain ⟨i', k⟩ := p
    simp only [List.map_cons, List.nodup_cons] at hn
    simp only [oldOf]
    rcases List.mem_cons.1 h with h | h
    · cases h; rw [Nat.beq_refl]; rfl
    · have hne : k ≠ j := fun hk => by
        subst hk
        exact hn.1 (List.mem_map.2 ⟨(i, k), h, rfl⟩)
      rw [beq_false_of_ne hne]
      exact ih hn.2 h

theorem nmTo_spec (nm : List (Nat × Nat)) (i : Nat) : (∃ k, nmTo nm i = .id k ∧ (i, k) ∈ nm) ∨ (nmTo nm i = .gone ∧ ∀ k, (i, k) ∉ nm) := by
  induction nm with
  | nil => exact .inr ⟨rfl, fun k h => by simp at h⟩
  | cons p r ih =>
    obtain ⟨j, k⟩ := p
    simp only [nmTo]
    by_cases hj : j = i
    · subst hj; rw [Nat.beq_refl]; exact .inl ⟨k, rfl, by simp⟩
    · rw [beq_false_of_ne hj]
      simp only [cond_false]
      rcases ih with ⟨q, h1, h2⟩ | ⟨h1, h2⟩
      · exact .inl ⟨q, h1, List.mem_cons_of_mem _ h2⟩
      · refine .inr ⟨h1, fun q hq => ?_⟩
        rcases List.mem_cons.1 hq with h | h
        · cases h; exact hj rfl
        · exact h2 q h

theorem TurnOK.names (imm : Imm) (loc : Locs) {nm : List (Nat × Nat)} (hn : (nm.map (·.2)).Nodup) : TurnOK imm loc (nmLoc nm loc) (nmTo nm) := by
  intro id
  rcases nmTo_spec nm id with ⟨k, h1, h2⟩ | ⟨h1, _⟩
  · rw [h1]
    exact .inl (by simp only [nmLoc, oldOf_of_mem hn h2])
  · rw [h1]; trivial

theorem Rel.rename (R : Rel imm loc lk w) {nm : List (Nat × Nat)} (hn : (nm.map (·.2)).Nodup) (ho : (nm.map (·.1)).Nodup) : Rel imm (nmLoc nm loc) (nmLk nm (nmTo nm) lk) w := by
  have hinj : ∀ {i j k : Nat}, (i, j) ∈ nm → (i, k) ∈ nm → j = k := by
    intro i j k h1 h2
    clear R hn
    induction nm with
    | nil => simp at h1
    | cons p r ih =>
      obtain ⟨a, b⟩ := p
      simp only [List.map_cons, List.nodup_cons] at ho
      rcases List.mem_cons.1 h1 with h3 | h3 <;> rcases List.mem_cons.1 h2 with h4 | h4
      · cases h3; cases h4; rfl
      · cases h3; exact (ho.1 (List.mem_map.2 ⟨(i, k), h4, rfl⟩)).elim
      · cases h4; exact (ho.1 (List.mem_map.2 ⟨(i, j), h3, rfl⟩)).elim
      · exact ih ho.2 h3 h4
  have hT := TurnOK.names imm loc hn
  refine ⟨R.claims, fun id o h => ?_, fun id l h => ?_, fun i j l m b h1 h2 h3 h4 => ?_, fun i l b h1 h2 => ?_⟩
  · simp only [nmLk] at h
    split at h
    · rename_i i hi
      obtain ⟨x, hx, rfl⟩ := Option.map_eq_some_iff.1 h
      obtain ⟨l, hl, hr⟩ := R.objs i x hx
      exact ⟨l, by simp only [nmLoc, hi, hl], hr.turn (fun _ _ h => h) hT fun _ _ => rfl⟩
    · cases h
  · simp only [nmLoc] at h
    split at h
    · rename_i i hi
      obtain ⟨o, ho⟩ := R.dom i l h
      exact ⟨_, by simp only [nmLk, hi, ho]; rfl⟩
    · cases h
  · simp only [nmLoc] at h1 h2
    split at h1
    · rename_i i' hi
      split at h2
      · rename_i j' hj
        have := R.inj i' j' l m b h1 h2 h3 h4
        subst this
        exact hinj (oldOf_mem hi) (oldOf_mem hj)
      · cases h2
    · cases h1
  · simp only [nmLoc] at h1
    split at h1
    · rename_i i' hi
      exact R.sep i' l b h1 h2
    · cases h1

theorem Rel.weakAll (R : Rel imm loc lk w) : Rel imm loc (fun i => (lk i).map AObj.weak) w :=
  ⟨R.claims, fun id o h => by
    obtain ⟨x, hx, rfl⟩ := Option.map_eq_some_iff.1 h
    obtain ⟨l, hl, hr⟩ := R.objs id x hx
    exact ⟨l, hl, hr.weak⟩, fun id l h => by
    obtain ⟨o, ho⟩ := R.dom id l h
    exact ⟨_, by rw [ho]; rfl⟩, R.inj, R.sep⟩

theorem look_weakSt (j : Nat) : ∀ st : St, look j (weakSt st) = (look j st).map AObj.weak
  | [] => rfl
  | (i, o) :: r => by
    simp only [weakSt, look]
    cases Nat.beq i j <;> simp [look_weakSt j r]

theorem look_renameSt (f : Nat → To) (lk : Lk) (j : Nat) : ∀ nm : List (Nat × Nat), (nm.map (·.2)).Nodup → look j (renameSt f lk nm) = nmLk nm f lk j
  | [], _ => rfl
  | (i, k) :: r, hn => by
    simp only [List.map_cons, List.nodup_cons] at hn
    have ih := look_renameSt f lk j r hn.2
    simp only [renameSt, nmLk, oldOf]
    by_cases hk : k = j
    · subst hk
      rw [Nat.beq_refl]
      simp only [cond_true]
      cases h : lk i with
      | some o => simp only [look, Nat.beq_refl, cond_true, Option.map_some]
      | none =>
        simp only [Option.map_none]
        rw [ih]
        simp only [nmLk]
        have : oldOf r k = none := by
          cases ho : oldOf r k with
          | none => rfl
          | some q => exact absurd (List.mem_map.2 ⟨(q, k), oldOf_mem ho, rfl⟩) hn.1
        rw [this]
    · rw [beq_false_of_ne hk]
      simp only [cond_false]
      cases h : lk i with
      | some o => simp only [look, beq_false_of_ne hk, cond_false]; rw [ih]; rfl
      | none => simp only; rw [ih]; rfl

end

end Go.Abs

/- Soundness of the abstract machine, part 21: empty slices become buffers. -/
set_option linter.unusedSimpArgs false
namespace Go.Abs
open Go

theorem aturn_fresh (f : Nat → To) (o : AObj) (h : ∀ id, id ∈ o.ids → f id = .same) : o.turn f = o := by
  cases o <;> simp only [AObj.turn]
  case cells us => rw [turns_fresh f us h]

theorem growU_inv {b : Nat} {u v : U} {o : AObj} (h : growU b u = some (v, o)) : ∃ S, u = .slice S true ∧ S.len = 0 ∧ v = .gsl b ∧ o = .gbuf (Rows.empty S.kind) true := by
  unfold growU at h
  split at h
  · rename_i S
    split at h
    · rename_i hl
      cases h
      exact ⟨S, rfl, hl, rfl, rfl⟩
    · cases h
  · cases h

theorem idsL_set (us : List U) (k : Nat) (u : U) (id : Nat) (h : id ∈ U.idsL (us.set k u)) : id ∈ U.idsL us ∨ id ∈ u.ids := by
  induction us generalizing k with
  | nil => simp [U.idsL] at h
  | cons x us ih =>
    cases k with
    | zero =>
      simp only [List.set_cons_zero, U.idsL, List.mem_append] at h ⊢
      rcases h with h | h
      · exact .inr h
      · exact .inl (.inr h)
    | succ k =>
      simp only [List.set_cons_succ, U.idsL, List.mem_append] at h ⊢
      rcases h with h | h
      · exact .inl (.inl h)
      · rcases ih k h with h | h
        · exact .inl (.inr h)
        · exact .inr h

section
variable {imm : Imm} {loc : Locs} {lk : Lk} {w : World}

theorem Rel.grow1 (R : Rel imm loc lk w) {i b k : Nat} {us : List U} {u v : U} {o : AObj} (hi : lk i = some (.cells us)) (hk : k < us.length) (hu : us.getD k .undef = u) (hg : growU b u = some (v, o)) (hb : lk b = none)
    (hm : ∀ j x, lk j = some x → b ∉ x.ids) :
    ∃ l, l.block = none ∧ Rel imm (swapLoc loc b l none) (fun j => if j = b then some o else if j = i then some (.cells (us.set k v)) else lk j) w := by
  obtain ⟨S, rfl, hS, rfl, rfl⟩ := growU_inv hg
  obtain ⟨li, hli, hri⟩ := R.objs i _ hi
  have hib : i ≠ b := fun h => by subst h; rw [hi] at hb; cases hb
  cases hri with
  | cells _ bl c e h1 h2 h3 =>
    have hrk := h3 k (by omega)
    rw [hu] at hrk
    obtain ⟨a, n, cap, vals, hv, hn, hcap, _, _, _⟩ := hrk.slice_inv
    have hn0 : n = 0 := by omega
    have hc0 := hcap rfl
    subst hn0
    subst hc0
    have hlocb : loc b = none := by
      cases hl : loc b with
      | none => rfl
      | some m => obtain ⟨x, hx⟩ := R.dom b m hl; rw [hx] at hb; cases hb
    have hobj : ∀ j x l, lk j = some x → ObjRel imm loc w x l → ObjRel imm (swapLoc loc b (.full a 0) none) w x l := by
      intro j x l hj hr
      have := hr.turn (f := asTo (swapTn b none)) (fun _ _ h => h) (TurnOK.swap imm loc b (.full a 0) none) (w' := w) fun _ _ => rfl
      rwa [aturn_fresh _ x fun id hid => by
        rw [asTo_swap, if_neg]
        rintro (h | h)
        · subst h; exact hm j x hj hid
        · cases h] at this
    refine ⟨.full a 0, rfl, R.claims, fun j x hj => ?_, fun j l hj => ?_, fun j q l m bb hj hq hl hmm => ?_, fun j l bb hj hl => ?_⟩
    · by_cases hjb : j = b
      · subst hjb
        rw [if_pos rfl] at hj
        cases hj
        exact ⟨.full a 0, by simp [swapLoc], .full _ true a 0 (.slice _ true a 0 0 (fun _ _ => undef) (by cases S <;> rfl) (fun _ => rfl) (Nat.le_refl _) (fun h => absurd h (Nat.lt_irrefl _)) fun i j hi => absurd hi (Nat.not_lt_zero _)) fun _ => rfl⟩
      · rw [if_neg hjb] at hj
        by_cases hji : j = i
        · subst hji
          rw [if_pos rfl] at hj
          cases hj
          refine ⟨.cells bl, by simp [swapLoc, hjb, hli], .cells _ bl c e h1 (by rw [List.length_set]; exact h2) fun q hq => ?_⟩
          by_cases hqk : q = k
          · subst hqk
            have : (us.set q (.gsl b)).getD q .undef = .gsl b := by simp [List.getD_eq_getElem?_getD, hk]
            rw [this, hv]
            exact .gslF b 0 a (by simp [swapLoc])
          · have : (us.set k (.gsl b)).getD q .undef = us.getD q .undef := by simp [List.getD_eq_getElem?_getD, List.getElem?_set_ne (Ne.symm hqk)]
            rw [this]
            exact (h3 q hq).avoid (fun h => hm _ _ hi (idsL_getD us q h)) fun _ h => by cases h
        · rw [if_neg hji] at hj
          obtain ⟨l, hl, hr⟩ := R.objs j x hj
          exact ⟨l, by simp [swapLoc, hjb, hl], hobj j x l hj hr⟩
    · simp only [swapLoc] at hj
      by_cases hjb : j = b
      · exact ⟨_, by simp [hjb]; rfl⟩
      · rw [if_neg hjb] at hj
        simp only [reduceCtorEq, if_false] at hj
        obtain ⟨x, hx⟩ := R.dom j l hj
        by_cases hji : j = i
        · exact ⟨_, by simp [hji, hib]; rfl⟩
        · exact ⟨x, by simp [hjb, hji, hx]⟩
    · simp only [swapLoc] at hj hq
      by_cases hjb : j = b
      · rw [if_pos hjb] at hj; cases hj; simp [Loc.block] at hl
      · by_cases hqb : q = b
        · rw [if_pos hqb] at hq; cases hq; simp [Loc.block] at hmm
        · rw [if_neg hjb] at hj; rw [if_neg hqb] at hq
          simp only [reduceCtorEq, if_false] at hj hq
          exact R.inj j q l m bb hj hq hl hmm
    · simp only [swapLoc] at hj
      by_cases hjb : j = b
      · rw [if_pos hjb] at hj; cases hj; simp [Loc.block] at hl
      · rw [if_neg hjb] at hj
        simp only [reduceCtorEq, if_false] at hj
        exact R.sep j l bb hj hl

end

end Go.Abs

/- Soundness of the abstract machine, part 22: growing, all of it. -/
set_option linter.unusedSimpArgs false
namespace Go.Abs
open Go

/-- new names, of no block -/
structure Growth (N : List Nat) (loc loc' : Locs) : Prop where
  old : ∀ j, j ∉ N → loc' j = loc j
  new : ∀ j, j ∈ N → loc j = none ∧ ∀ l, loc' j = some l → l.block = none

theorem Growth.refl (loc : Locs) : Growth [] loc loc := ⟨fun _ _ => rfl, fun j h => by simp at h⟩

theorem Growth.trans {N M : List Nat} {loc loc' loc'' : Locs} (h : Growth N loc loc') (h' : Growth M loc' loc'') (hd : ∀ j, j ∈ N → j ∉ M) : Growth (N ++ M) loc loc'' where
  old j hj := by
    simp only [List.mem_append, not_or] at hj
    rw [h'.old j hj.2, h.old j hj.1]
  new j hj := by
    rcases List.mem_append.1 hj with hN | hM
    · refine ⟨(h.new j hN).1, fun l hl => ?_⟩
      rw [h'.old j (hd j hN)] at hl
      exact (h.new j hN).2 l hl
    · have h1 := h'.new j hM
      refine ⟨?_, h1.2⟩
      have hn : j ∉ N := fun hN => hd j hN hM
      rw [← h.old j hn]; exact h1.1

/-- values that do not mention new names go on -/
theorem Rep.growth {imm : Imm} {N : List Nat} {loc loc' : Locs} (g : Growth N loc loc') {u : U} {v : Value} (h : Rep imm loc u v) (hu : ∀ id, id ∈ u.ids → id ∉ N) : Rep imm loc' u v := by
  have hT : TurnOK imm loc loc' (fun id => if id ∈ N then .gone else .same) := by
    intro id
    by_cases hid : id ∈ N
    · simp [hid]
    · simp only [if_neg hid]; exact .inl (g.old id hid)
  have := h.turn (fun _ _ h => h) hT
  rwa [turn_fresh _ u fun id hid => by simp [hu id hid]] at this

def orLk (st : St) (lk : Lk) : Lk := fun j => match look j st with | some o => some o | none => lk j

section
variable {imm : Imm} {w : World}

theorem growCells_rel {i : Nat} : ∀ (rest pre : List U) (b : Nat) (loc : Locs) (lk : Lk), Rel imm loc lk w → lk i = some (.cells (pre ++ rest)) → (keysN (growCells b rest).2).Nodup →
    (∀ n, n ∈ keysN (growCells b rest).2 → lk n = none ∧ ∀ j x, lk j = some x → n ∉ x.ids) →
    ∃ loc', Growth (keysN (growCells b rest).2) loc loc' ∧ Rel imm loc' (orLk (growCells b rest).2 (fun j => if j = i then some (.cells (pre ++ (growCells b rest).1)) else lk j)) w
  | [], pre, b, loc, lk, R, hi, _, _ => by
    refine ⟨loc, Growth.refl loc, ?_⟩
    have : orLk (growCells b []).2 (fun j => if j = i then some (.cells (pre ++ (growCells b []).1)) else lk j) = lk := by
      funext j
      simp only [growCells, orLk, look, List.append_nil]
      by_cases h : j = i
      · subst h; simpa using hi.symm
      · simp [h]
    rw [this]; exact R
  | u :: rest, pre, b, loc, lk, R, hi, hn, hm => by
    cases hg : growU b u with
    | none =>
      have h1 : (growCells b (u :: rest)) = (u :: (growCells b rest).1, (growCells b rest).2) := by simp only [growCells, hg]
      rw [h1] at hn hm ⊢
      obtain ⟨loc', g, R'⟩ := growCells_rel (i := i) rest (pre ++ [u]) b loc lk R (by simpa using hi) hn hm
      exact ⟨loc', g, by simpa using R'⟩
    | some p =>
      obtain ⟨v, o⟩ := p
      have h1 : (growCells b (u :: rest)) = (v :: (growCells (b + 1) rest).1, (b, o) :: (growCells (b + 1) rest).2) := by simp only [growCells, hg]
      rw [h1] at hn hm ⊢
      simp only [keysN, List.nodup_cons] at hn
      have hb := hm b (by simp [keysN])
      obtain ⟨l, hl, R1⟩ := R.grow1 hi (k := pre.length) (by simp) (by simp [List.getD_eq_getElem?_getD]) hg hb.1 hb.2
      have hib : i ≠ b := fun h => by subst h; rw [hi] at hb; cases hb.1
      obtain ⟨S, hS, _, hv, ho⟩ := growU_inv hg
      have hset : (pre ++ u :: rest).set pre.length v = (pre ++ [v]) ++ rest := by simp
      obtain ⟨loc', g, R'⟩ := growCells_rel (i := i) rest (pre ++ [v]) (b + 1) _ _ R1 (by simp [hib, hset]) hn.2 (fun n hnn => by
        have hnb : n ≠ b := fun h => by subst h; exact hn.1 hnn
        have h2 := hm n (by simp [keysN, hnn])
        have hni : n ≠ i := fun h => by subst h; rw [hi] at h2; cases h2.1
        refine ⟨by simp [hnb, hni, h2.1], fun j x hj hx => ?_⟩
        by_cases hjb : j = b
        · rw [if_pos hjb] at hj; cases hj; rw [ho] at hx; simp [AObj.ids] at hx
        · rw [if_neg hjb] at hj
          by_cases hji : j = i
          · rw [if_pos hji] at hj
            cases hj
            rcases idsL_set _ _ _ _ hx with h | h
            · exact h2.2 i _ hi h
            · rw [hv] at h; simp only [U.ids, List.mem_singleton] at h; exact hnb h
          · rw [if_neg hji] at hj; exact h2.2 j x hj hx)
      refine ⟨loc', ?_, ?_⟩
      · have g1 : Growth [b] loc (swapLoc loc b l none) := ⟨fun j hj => by simp only [List.mem_singleton] at hj; simp [swapLoc, hj], fun j hj => by
          simp only [List.mem_singleton] at hj
          subst hj
          refine ⟨?_, fun m hmm => by simp only [swapLoc, if_true, Option.some.injEq] at hmm; subst hmm; exact hl⟩
          cases hlj : loc j with
          | none => rfl
          | some q => obtain ⟨x, hx⟩ := R.dom j q hlj; rw [hx] at hb; cases hb.1⟩
        exact g1.trans g fun j hj => by simp only [List.mem_singleton] at hj; subst hj; exact hn.1
      · have : orLk ((b, o) :: (growCells (b + 1) rest).2) (fun j => if j = i then some (.cells (pre ++ v :: (growCells (b + 1) rest).1)) else lk j) =
          orLk (growCells (b + 1) rest).2 (fun j => if j = i then some (.cells ((pre ++ [v]) ++ (growCells (b + 1) rest).1)) else (fun j => if j = b then some o else if j = i then some (.cells ((pre ++ u :: rest).set pre.length v)) else lk j) j) := by
          funext j
          simp only [orLk, look]
          by_cases hjb : b = j
          · subst hjb
            have hno : look b (growCells (b + 1) rest).2 = none := by
              have key : ∀ st : St, b ∉ keysN st → look b st = none := by
                intro st
                induction st with
                | nil => intro _; rfl
                | cons p r ih =>
                  obtain ⟨q, x⟩ := p
                  intro h
                  simp only [keysN, List.mem_cons, not_or] at h
                  simp only [look, beq_false_of_ne (Ne.symm h.1), cond_false]
                  exact ih h.2
              exact key _ hn.1
            rw [Nat.beq_refl, hno]
            simp [Ne.symm hib]
          · rw [beq_false_of_ne hjb]
            simp only [cond_false]
            cases look j (growCells (b + 1) rest).2 with
            | some x => rfl
            | none =>
              by_cases hji : j = i
              · simp [hji]
              · simp [hji, Ne.symm hjb]
        rw [this]; exact R'

end

end Go.Abs

