/- Soundness of the abstract machine, fourth part: regions that draw, loops, bodies, tables; from a world to what is known of it. -/
import Derived.Test.YtfigbonpcodfpaaDoorAbsSndC
import Derived.Below
import Derived.Lib.LaidU8
import Derived.OpenShut
set_option linter.unusedSimpArgs false
set_option linter.unusedVariables false
set_option linter.unusedSectionVars false
/- Soundness of the abstract machine, part 31: a region that draws, in whatever order. -/
set_option linter.unusedSimpArgs false
namespace Go.Abs
open Go

theorem count_set : ∀ (l : List Bool) (i : Nat), l[i]? = some false → (l.set i true).count false + 1 = l.count false
  | [], i, h => by simp at h
  | b :: l, 0, h => by
    simp at h
    subst h
    simp
  | b :: l, i + 1, h => by
    have := count_set l i (by simpa using h)
    simp only [List.set_cons_succ, List.count_cons]
    omega

theorem count_zero {l : List Bool} (h : l.count false = 0) (i : Nat) (hi : i < l.length) : l[i]? = some true := by
  have h1 : false ∉ l := List.count_eq_zero.1 h
  have h2 : l[i]? = some l[i] := List.getElem?_eq_getElem hi
  rw [h2]
  cases hb : l[i] with
  | true => rfl
  | false => exact absurd (hb ▸ List.getElem_mem hi) h1

/-- what a region's text shows -/
structure DrawText (ops : List Oper) (bs : List Nat) : Prop where
  len : bs.length = ops.length
  back : ∀ j o, ops[j]? = some o → ∀ g, g ∈ o.after.toList → Region.binds .any g = true → g.on < j
  just : ∀ j o i, ops[j]? = some o → i < j → (bs.getD j 0).testBit i = true → ∃ g, g ∈ o.after.toList ∧ Region.binds .any g = true ∧ (g.on = i ∨ (i < g.on ∧ (bs.getD g.on 0).testBit i = true))
  names : ∀ i j x y, i < j → ops[i]? = some x → ops[j]? = some y → (bs.getD j 0).testBit i = true ∨ unlike ops x y = true

theorem drawOK_text {ops : List Oper} (h : drawOK ops = true) : DrawText ops (befs ops []) ∧ blocksB (befs ops []) ops.length 0 (cutsOf (befs ops []) ops.length) = true := by
  unfold drawOK at h
  simp only [Bool.and_eq_true, List.all_eq_true, List.mem_range] at h
  obtain ⟨⟨hl, hblk⟩, h⟩ := h
  refine ⟨?_, hblk⟩
  have get : ∀ j o, ops[j]? = some o → j < ops.length ∧ ops.getD j default = o := fun j o ho => by
    have hlt := (List.getElem?_eq_some_iff.1 ho).1
    exact ⟨hlt, by rw [List.getD_eq_getElem?_getD, ho]; rfl⟩
  refine ⟨Nat.eq_of_beq_eq_true hl, fun j o ho g hg hb => ?_, fun j o i ho hi ht => ?_, fun i j x y hij hx hy => ?_⟩
  · obtain ⟨hlt, hd⟩ := get j o ho
    have h1 := (h j hlt).1 g (by rw [hd]; exact hg)
    rw [hb] at h1
    simpa using h1
  · obtain ⟨hlt, hd⟩ := get j o ho
    have h1 := ((h j hlt).2 i hi).1
    rw [ht, hd] at h1
    simp only [Bool.not_true, Bool.false_or, List.any_eq_true, Bool.and_eq_true, Bool.or_eq_true] at h1
    obtain ⟨g, h2, h3, h4⟩ := h1
    refine ⟨g, h2, h3, ?_⟩
    rcases h4 with h4 | ⟨h4, h5⟩
    · exact .inl (Nat.eq_of_beq_eq_true h4)
    · exact .inr ⟨Nat.le_of_ble_eq_true h4, h5⟩
  · obtain ⟨hlt, hd⟩ := get j y hy
    obtain ⟨_, hd'⟩ := get i x hx
    have h1 := ((h j hlt).2 i hij).2
    rw [hd, hd'] at h1
    simpa only [Bool.or_eq_true] using h1

theorem unlike_spec {ops : List Oper} {x y : Oper} (h : unlike ops x y = true) :
    (∀ d, x.dst = some d → d ∉ namesOf ops y) ∧ (∀ d, y.dst = some d → d ∉ namesOf ops x) ∧ (∀ d, x.dst = some d → y.dst ≠ some d) := by
  simp only [unlike, Bool.and_eq_true] at h
  refine ⟨fun d hd => apartN_spec _ _ h.1.1 d (by simp [dstL, hd]), fun d hd => apartN_spec _ _ h.1.2 d (by simp [dstL, hd]), fun d hd hy => ?_⟩
  exact apartN_spec _ _ h.2 d (by simp [dstL, hd]) (by simp [dstL, hy])

section
variable {P : Program} {env : Env} {nt : Nat} {imm0 : Imm} {loc0 : Locs} {w0 : World}

/-- what is listed draws what comes ahead of it -/
def Closed (ops : Array Oper) (listed : Array Bool) : Prop :=
  ∀ j o, ops[j]? = some o → listed.getD j false = true → ∀ g, g ∈ o.after.toList → Region.binds .any g = true → listed.getD g.on false = true

theorem pred_listed {ops : Array Oper} {bs : List Nat} (D : DrawText ops.toList bs) {listed : Array Bool} (hc : Closed ops listed) :
    ∀ (j : Nat) (o : Oper), ops[j]? = some o → (∀ g, g ∈ o.after.toList → Region.binds .any g = true → listed.getD g.on false = true) →
      ∀ i, i < j → (bs.getD j 0).testBit i = true → listed.getD i false = true := by
  intro j
  induction j using Nat.strongRecOn with
  | _ j ih =>
    intro o ho hall i hi ht
    obtain ⟨g, h1, h2, h3⟩ := D.just j o i (by rw [Array.getElem?_toList]; exact ho) hi ht
    rcases h3 with h3 | ⟨h3, h4⟩
    · rw [← h3]; exact hall g h1 h2
    · have hlt := D.back j o (by rw [Array.getElem?_toList]; exact ho) g h1 h2
      have hj : j < ops.size := (Array.getElem?_eq_some_iff.1 ho).1
      have hg : ops[g.on]? = some ops[g.on] := Array.getElem?_eq_getElem (by omega)
      exact ih g.on hlt _ hg (fun g' h5 h6 => hc g.on _ hg (hall g h1 h2) g' h5 h6) i h3 h4

/-- behind a cut all that stands ahead of it is listed first -/
def Cut (bs : List Nat) (n e : Nat) : Prop := ∀ k i, e ≤ k → k < n → i < e → (bs.getD k 0).testBit i = true

theorem isCut_spec {bs : List Nat} {n e : Nat} (hn : n ≤ bs.length) (h : isCut bs e = true) : Cut bs n e := by
  intro k i hk hkn hi
  simp only [isCut, List.all_eq_true] at h
  have hlt : k < bs.length := by omega
  have hm : bs[k] ∈ bs.drop e := by
    rw [List.mem_iff_getElem?]
    exact ⟨k - e, by rw [List.getElem?_drop, show e + (k - e) = k by omega]; exact List.getElem?_eq_getElem hlt⟩
  have h1 := Nat.eq_of_beq_eq_true (h _ hm)
  rw [List.getD_eq_getElem?_getD, List.getElem?_eq_getElem hlt, Option.getD_some]
  have h2 : (Nat.land bs[k] (2 ^ e - 1)).testBit i = true := by
    rw [h1]; simp [Nat.testBit_two_pow_sub_one, hi]
  have h3 : (Nat.land bs[k] (2 ^ e - 1)).testBit i = ((bs[k]).testBit i && (2 ^ e - 1).testBit i) := Nat.testBit_and ..
  rw [h3, Bool.and_eq_true] at h2
  exact h2.1

/-- what is ready stands ahead of the next cut, as long as something there is not listed -/
theorem ready_lt {ops : Array Oper} {bs : List Nat} (D : DrawText ops.toList bs) {e : Nat} (hcut : Cut bs ops.size e) {listed : Array Bool} (hcl : Closed ops listed) {i : Nat} (hi : i < e) (hun : listed.getD i false = false) :
    ∀ j, j ∈ Region.ready .any ops listed → j < e := by
  intro j hj
  obtain ⟨h0, o, ho, hafter⟩ := mem_ready.1 hj
  rcases Nat.lt_or_ge j e with hlt | hge
  · exact hlt
  · have hjlt : j < ops.size := (Array.getElem?_eq_some_iff.1 ho).1
    have := pred_listed D hcl j o ho (fun g hg hb' => hafter g (Array.mem_toList_iff.1 hg) hb') i (by omega) (hcut j i hge hjlt hi)
    rw [hun] at this; cases this

/-- where something is not listed, something is ready -/
theorem ready_some {ops : Array Oper} {bs : List Nat} (D : DrawText ops.toList bs) {listed : Array Bool} (hsz : listed.size = ops.size) (hnil : Region.ready .any ops listed = []) : ∀ i, i < ops.size → listed.getD i false = true := by
  intro i
  induction i using Nat.strongRecOn with
  | _ i ih =>
    intro hi
    cases hx : listed.getD i false with
    | true => rfl
    | false =>
      exfalso
      have hg : ops[i]? = some ops[i] := Array.getElem?_eq_getElem hi
      have : i ∈ Region.ready .any ops listed := mem_ready.2 ⟨by
        simp [show i < listed.size by omega] at hx ⊢
        exact hx, _, hg, fun g hg' hb => by
        have hlt := D.back i _ (by rw [Array.getElem?_toList]; exact hg) g (Array.mem_toList_iff.2 hg') hb
        exact ih g.on hlt (by omega)⟩
      rw [hnil] at this; simp at this

/-- what is listed is what stands ahead of a place -/
structure Upto (ops : Array Oper) (listed : Array Bool) (m fuel : Nat) : Prop where
  size : listed.size = ops.size
  count : listed.toList.count false = fuel
  iff : ∀ i, i < ops.size → (listed.getD i false = true ↔ i < m)

theorem Upto.closed {ops : Array Oper} {bs : List Nat} (D : DrawText ops.toList bs) {listed : Array Bool} {m fuel : Nat} (H : Upto ops listed m fuel) : Closed ops listed := fun k o' ho' hk g hg hb' => by
  have hk' : k < ops.size := (Array.getElem?_eq_some_iff.1 ho').1
  have hkm := (H.iff k hk').1 hk
  have := D.back k o' (by rw [Array.getElem?_toList]; exact ho') g hg hb'
  exact (H.iff g.on (by omega)).2 (by omega)

theorem Upto.fuel {ops : Array Oper} {listed : Array Bool} {m fuel : Nat} (H : Upto ops listed m fuel) (hlt : m < ops.size) : fuel ≠ 0 := fun h0 => by
  have h1 := count_zero (by rw [H.count, h0]) m (by have := H.size; simp; omega)
  have h2 : listed.getD m false = true := by
    rw [Array.getElem?_toList] at h1
    simp [h1]
  have := (H.iff m hlt).1 h2
  omega

theorem Upto.next {ops : Array Oper} {listed : Array Bool} {m fuel : Nat} (H : Upto ops listed m (fuel + 1)) (hlt : m < ops.size) : Upto ops (listed.setIfInBounds m true) (m + 1) fuel := by
  have hsz := H.size
  have hml : listed.toList[m]? = some false := by
    have h1 : ¬ listed.getD m false = true := fun h1 => by have := (H.iff m hlt).1 h1; omega
    rw [Array.getElem?_toList]
    simp [show m < listed.size by omega] at h1 ⊢
    exact h1
  refine ⟨by simpa using hsz, ?_, fun i hi => ?_⟩
  · have := count_set listed.toList m hml
    have h2 := H.count
    simp only [Array.toList_setIfInBounds]
    omega
  · by_cases hij : m = i
    · subst hij
      simp [show m < listed.size by omega]
    · rw [getD_set_ne false hij, H.iff i hi]
      omega

/-- all is listed -/
theorem done_wp {ops : Array Oper} {Q : Exit → Act → World → Prop} {listed : Array Bool} {fuel : Nat} (H : Upto ops listed ops.size fuel) {a : Act} {w : World} (h : Q .normal a w) : wpAny P .any ops Q fuel listed a w := by
  have hnil : Region.ready .any ops listed = [] := by
    cases hr : Region.ready .any ops listed with
    | nil => rfl
    | cons x xs =>
      exfalso
      have hx : x ∈ Region.ready .any ops listed := by rw [hr]; simp
      obtain ⟨h0, o, ho, _⟩ := mem_ready.1 hx
      have hlt : x < ops.size := (Array.getElem?_eq_some_iff.1 ho).1
      have h1 := (H.iff x hlt).2 hlt
      have := H.size
      simp [show x < listed.size by omega] at h0 h1
      rw [h0] at h1; cases h1
  exact wpAny_done hnil h fuel

/-- a part of one operation -/
theorem single_wp (E : EnvOK P env) {c : Ctx} (hc : c.env = env) (hT : TableOK P env c.tab) (hG : GlobOK imm0 env) {ops : Array Oper} (hds : dstsOK nt ops.toList = true) {bs : List Nat} (D : DrawText ops.toList bs) {m : Nat} (hm : m < ops.size) (hcut : Cut bs ops.size (m + 1))
    {κ : Fr → St → Out} {κp : KR} {out : Out} (hne : out ≠ .fail) {Q : Exit → Act → World → Prop}
    (hnext : ∀ fuel listed fr st a w, Upto ops listed (m + 1) fuel → At nt imm0 loc0 w0 fr st a w → κ fr st = out → wpAny P .any ops Q fuel listed a w)
    (hp : ∀ u' st' v a w', a.defers = [] → Pan imm0 loc0 w0 u' st' v w' → κp u' st' = out → Q (.panic [{ v, recovered := false }]) a w')
    {fuel : Nat} {listed : Array Bool} {fr : Fr} {st : St} {a : Act} {w : World} (H : Upto ops listed m fuel) (A : At nt imm0 loc0 w0 fr st a w) (h : execOps c ops.toList ((ops.toList.drop m).take 1) fr st κ κp = out) : wpAny P .any ops Q fuel listed a w := by
  have hg : ops[m]? = some ops[m] := Array.getElem?_eq_getElem hm
  have hdrop : (ops.toList.drop m).take 1 = [ops[m]] := by
    rw [List.drop_eq_getElem_cons (by simpa using hm)]
    simp
  rw [hdrop] at h
  have hun : listed.getD m false = false := by
    cases hx : listed.getD m false with
    | false => rfl
    | true => have := (H.iff m hm).1 hx; omega
  have hsz := H.size
  cases fuel with
  | zero => exact absurd rfl (H.fuel hm)
  | succ fuel =>
    refine ⟨fun hnil => ?_, fun j hj => ?_⟩
    · have := ready_some D hsz hnil m hm
      rw [hun] at this; cases this
    · have hjm : j = m := by
        have h1 := ready_lt D hcut (H.closed D) (Nat.lt_succ_self m) hun j hj
        obtain ⟨h0, o, ho, _⟩ := mem_ready.1 hj
        have hjlt : j < ops.size := (Array.getElem?_eq_some_iff.1 ho).1
        have h2 : ¬ j < m := fun hlt => by
          have h3 := (H.iff j hjlt).2 hlt
          simp [show j < listed.size by omega] at h0 h3
          rw [h0] at h3; cases h3
        omega
      subst hjm
      exact execOps_step E hc hT hG hds hg A h hne (fun fr' st' a' w' A' h' => hnext fuel _ fr' st' a' w' (H.next hm) A' h')
        fun u' st' v w' hP h' => hp u' st' v a w' (by obtain ⟨_, _, _, _, _, h4, _⟩ := A; exact h4) hP h'

end

end Go.Abs

/- Soundness of the abstract machine, part 32: a region that draws, all of it. -/
set_option linter.unusedSimpArgs false
namespace Go.Abs
open Go

section
variable {P : Program} {env : Env} {nt : Nat} {imm0 : Imm} {loc0 : Locs} {w0 : World}

/-- what stands for a frame and a world in the midst of a region that draws -/
def AtF (nt : Nat) (imm0 : Imm) (loc0 : Locs) (w0 : World) (F : Nat → Option U) (L : Lk) (a : Act) (w : World) : Prop :=
  ∃ imm loc, Evolve imm0 loc0 w0 imm loc w ∧ Rel imm loc L w ∧ (∀ t u, F t = some u → t < a.tmps.size ∧ Rep imm loc u (a.tmps.getD t undef)) ∧ a.defers = [] ∧ a.tmps.size = nt

theorem AtF.at {fr : Fr} {st : St} {F : Nat → Option U} {L : Lk} {a : Act} {w : World} (A : AtF nt imm0 loc0 w0 F L a w) (hf : ∀ t, look t fr = F t) (hl : ∀ i, look i st = L i) : At nt imm0 loc0 w0 fr st a w := by
  obtain ⟨imm, loc, h1, h2, h3, h4, h5⟩ := A
  have : (fun i => look i st) = L := funext hl
  exact ⟨imm, loc, h1, by rw [this]; exact h2, ⟨fun t u hu => h3 t u (by rw [← hf t]; exact hu)⟩, h4, h5⟩

theorem At.atF {fr : Fr} {st : St} {a : Act} {w : World} (A : At nt imm0 loc0 w0 fr st a w) : AtF nt imm0 loc0 w0 (fun t => look t fr) (fun i => look i st) a w := by
  obtain ⟨imm, loc, h1, h2, h3, h4, h5⟩ := A
  exact ⟨imm, loc, h1, h2, fun t u hu => h3.get t u hu, h4, h5⟩

/-- all that is asked of the operations of a part that is drawn -/
structure Facts (P : Program) (env : Env) (ops : List Oper) (bs : List Nat) (F0 : Nat → Option U) (L0 : Lk) (rs : List DR) (s e : Nat) : Prop where
  len : rs.length = e
  idle : ∀ i, i < s → rs[i]? = some DR.none
  at' : ∀ i, s ≤ i → i < e → ∃ o r, FactAt P env ops bs F0 L0 rs i o r

theorem map_turn_nil (x : Option U) : x.map (U.turn (asTo [])) = x := by
  have : asTo [] = fun _ => To.same := by funext i; rfl
  rw [this]
  cases x with
  | none => rfl
  | some u => simp [Go.Abs.turn_same]

theorem ovF_idle {rs : List DR} {F0 : Nat → Option U} {lf : Nat → Bool} {s : Nat} (h : ∀ i, i < s → rs[i]? = some DR.none) : ∀ m, m ≤ s → ovF rs F0 lf m = F0
  | 0, _ => rfl
  | m + 1, hm => by
    funext t
    simp only [ovF, h m (by omega)]
    have ih := ovF_idle (F0 := F0) (lf := lf) h m (by omega)
    rw [ih]
    split
    · have hd : DR.none.dst = Option.none := rfl
      rw [hd]
      simp only [reduceCtorEq, if_false]
      exact map_turn_nil _
    · rfl

theorem ovL_idle {rs : List DR} {L0 : Lk} {lf : Nat → Bool} {s : Nat} (h : ∀ i, i < s → rs[i]? = some DR.none) : ∀ m, m ≤ s → ovL rs L0 lf m = L0
  | 0, _ => rfl
  | m + 1, hm => by
    funext t
    simp only [ovL, h m (by omega)]
    have ih := ovL_idle (L0 := L0) (lf := lf) h m (by omega)
    rw [ih]
    split
    · exact congrFun (effLk_nil L0) t
    · rfl

/-- j is not listed, all that is listed ahead of it is; nothing listed comes behind it of need -/
structure Next (bs : List Nat) (s e : Nat) (lf : Nat → Bool) (j : Nat) : Prop where
  ge : s ≤ j
  lt : j < e
  un : lf j = false
  pre : ∀ i, i < j → (bs.getD j 0).testBit i = true → lf i = true
  post : ∀ k, j < k → k < e → lf k = true → (bs.getD k 0).testBit j = false

section
variable {ops : List Oper} {bs : List Nat} {F0 : Nat → Option U} {L0 : Lk} {rs : List DR} {s e : Nat} {lf : Nat → Bool} {j : Nat} {o : Oper} {r : DR}
  (D : DrawText ops bs) (H : Facts P env ops bs F0 L0 rs s e) (N : Next bs s e lf j) (hj : FactAt P env ops bs F0 L0 rs j o r)
include D H N hj

/-- what stands in a slot that the operation looks at was there, or an operation ahead of it has put it there -/
theorem rawSlot {t : Nat} (ht : t ∈ namesOf ops o) (lf' : Nat → Bool) (hl : ∀ k, j ≤ k → k < e → lf' k = true → (bs.getD k 0).testBit j = false ∧ k ≠ j) :
    ∀ m, m ≤ e → ∀ u, ovF rs F0 lf' m t = some u → ∀ id, id ∈ u.ids → id ∈ r.raw := by
  intro m
  induction m with
  | zero => intro _ u hu id hid; exact hj.rawF t u ht hu id hid
  | succ m ih =>
    intro hm u hu id hid
    rcases Nat.lt_or_ge m s with hms | hms
    · rw [ovF_idle H.idle (m + 1) hms] at hu
      exact hj.rawF t u ht hu id hid
    obtain ⟨x, q, hq⟩ := H.at' m hms (by omega)
    simp only [ovF, hq.dr] at hu
    split at hu
    · rename_i hlm
      split at hu
      · rename_i hd
        cases hu
        have hx : x.dst = some t := by rw [← hq.dst]; exact hd
        rcases Nat.lt_trichotomy m j with hmj | hmj | hmj
        · rcases D.names m j x o hmj hq.op hj.op with h | h
          · exact hj.rawB m q hmj hq.dr h id (List.mem_append_left _ hid)
          · exact absurd ht ((unlike_spec h).1 t hx)
        · subst hmj
          exact absurd rfl (hl m (Nat.le_refl _) (by omega) hlm).2
        · rcases D.names j m o x hmj hj.op hq.op with h | h
          · have := (hl m (by omega) (by omega) hlm).1
            rw [this] at h; cases h
          · exact absurd ht ((unlike_spec h).2.1 t hx)
      · obtain ⟨v, hv, rfl⟩ := Option.map_eq_some_iff.1 hu
        exact ih (by omega) v hv id (turn_ids (plainTn_asTo hq.plain) id v hid)
    · exact ih (by omega) u hu id hid

theorem rawObj {i : Nat} (hi : i ∈ r.reads) (lf' : Nat → Bool) (hl : ∀ k, j ≤ k → k < e → lf' k = true → (bs.getD k 0).testBit j = false ∧ k ≠ j) :
    ∀ m, m ≤ e → ∀ x, ovL rs L0 lf' m i = some x → ∀ id, id ∈ x.ids → id ∈ r.raw := by
  have _ := D
  intro m
  induction m with
  | zero => intro _ u hu id hid; exact hj.rawL i u hi hu id hid
  | succ m ih =>
    intro hm u hu id hid
    rcases Nat.lt_or_ge m s with hms | hms
    · rw [ovL_idle H.idle (m + 1) hms] at hu
      exact hj.rawL i u hi hu id hid
    obtain ⟨x, q, hq⟩ := H.at' m hms (by omega)
    simp only [ovL, hq.dr] at hu
    split at hu
    · rename_i hlm
      by_cases hk : i ∈ keysS q.sets
      · have hmn := setLk_ments hk hu id hid
        rcases Nat.lt_trichotomy m j with hmj | hmj | hmj
        · rcases hj.pairs m q hmj hq.dr with h | h
          · exact hj.rawB m q hmj hq.dr h id (List.mem_append_right _ hmn)
          · exact absurd hi (h.wr i hk)
        · subst hmj
          exact absurd rfl (hl m (Nat.le_refl _) (by omega) hlm).2
        · rcases hq.pairs j r hmj hj.dr with h | h
          · have := (hl m (by omega) (by omega) hlm).1
            rw [this] at h; cases h
          · exact absurd hi (h.rw' i hk)
      · rw [effLk_not hk] at hu
        obtain ⟨v, hv, rfl⟩ := Option.map_eq_some_iff.1 hu
        exact ih (by omega) v hv id (aturn_ids (plainTn_asTo hq.plain) id v hid)
    · exact ih (by omega) u hu id hid

theorem seesF : ∀ t, t ∈ namesOf ops o → ovF rs F0 lf e t = ovF rs F0 (fun _ => true) j t := by
  intro t ht
  have hlt := N.lt
  have hge := N.ge
  have hun : ∀ k, j ≤ k → k < e → lf k = true → (bs.getD k 0).testBit j = false ∧ k ≠ j := fun k hk hke hl => by
    have hne : k ≠ j := fun h => by rw [h, N.un] at hl; cases hl
    exact ⟨N.post k (by omega) hke hl, hne⟩
  -- what turns nothing that is seen
  have still : ∀ (m : Nat) (x : Oper) (q : DR), FactAt P env ops bs F0 L0 rs m x q → (∀ z, z ∈ q.tn.map (·.1) → z ∉ r.raw) → ∀ (lf' : Nat → Bool), (∀ k, j ≤ k → k < e → lf' k = true → (bs.getD k 0).testBit j = false ∧ k ≠ j) → m ≤ e →
      (ovF rs F0 lf' m t).map (U.turn (asTo q.tn)) = ovF rs F0 lf' m t := fun m x q hq hz lf' hl hm => by
    cases hu : ovF rs F0 lf' m t with
    | none => rfl
    | some u =>
      simp only [Option.map_some]
      rw [turn_off fun id hid hx => hz id hx (rawSlot D H N hj ht lf' hl m hm u hu id hid)]
  have allT : ∀ m, m ≤ j → ∀ k, j ≤ k → k < m → (fun _ : Nat => true) k = true → (bs.getD k 0).testBit j = false ∧ k ≠ j := fun m hm k h1 h2 => by omega
  have h1 : ∀ m, m ≤ j → ovF rs F0 lf m t = ovF rs F0 (fun _ => true) m t := by
    intro m
    induction m with
    | zero => intro _; rfl
    | succ m ih =>
      intro hm
      rcases Nat.lt_or_ge m s with hms | hms
      · rw [ovF_idle H.idle (m + 1) hms, ovF_idle H.idle (m + 1) hms]
      obtain ⟨x, q, hq⟩ := H.at' m hms (by omega)
      simp only [ovF, hq.dr, if_true]
      by_cases hd : q.dst = some t
      · have hx : x.dst = some t := by rw [← hq.dst]; exact hd
        have hl : lf m = true := by
          rcases D.names m j x o (by omega) hq.op hj.op with h | h
          · exact N.pre m (by omega) h
          · exact absurd ht ((unlike_spec h).1 t hx)
        simp [hl, hd]
      · simp only [if_neg hd]
        by_cases hl : lf m = true
        · rw [if_pos hl, ih (by omega)]
        · rw [if_neg hl, ← ih (by omega)]
          rcases hj.pairs m q (by omega) hq.dr with h | h
          · exact absurd (N.pre m (by omega) h) hl
          · exact (still m x q hq h.tr lf hun (by omega)).symm
  have h2 : ∀ k, j + k ≤ e → ovF rs F0 lf (j + k) t = ovF rs F0 lf j t := by
    intro k
    induction k with
    | zero => intro _; rfl
    | succ k ih =>
      intro hk
      rw [← ih (by omega)]
      obtain ⟨x, q, hq⟩ := H.at' (j + k) (by omega) (by omega)
      show ovF rs F0 lf (j + k + 1) t = _
      simp only [ovF, hq.dr]
      by_cases hl : lf (j + k) = true
      · rw [if_pos hl]
        cases k with
        | zero => rw [Nat.add_zero, N.un] at hl; cases hl
        | succ k =>
          have hno : ¬ q.dst = some t := fun hd => by
            have hx : x.dst = some t := by rw [← hq.dst]; exact hd
            rcases D.names j (j + (k + 1)) o x (by omega) hj.op hq.op with h | h
            · have := N.post (j + (k + 1)) (by omega) (by omega) hl
              rw [this] at h; cases h
            · exact absurd ht ((unlike_spec h).2.1 t hx)
          rw [if_neg hno]
          rcases hq.pairs j r (by omega) hj.dr with h | h
          · have := N.post (j + (k + 1)) (by omega) (by omega) hl
            rw [this] at h; cases h
          · exact still (j + (k + 1)) x q hq h.rt lf hun (by omega)
      · rw [if_neg hl]
  have := h2 (e - j) (by omega)
  rw [show j + (e - j) = e by omega] at this
  rw [this, h1 j (Nat.le_refl _)]

theorem seesL : ∀ i, i ∈ r.reads → ovL rs L0 lf e i = ovL rs L0 (fun _ => true) j i := by
  intro i hi
  have hlt := N.lt
  have hge := N.ge
  have hun : ∀ k, j ≤ k → k < e → lf k = true → (bs.getD k 0).testBit j = false ∧ k ≠ j := fun k hk hke hl => by
    have hne : k ≠ j := fun h => by rw [h, N.un] at hl; cases hl
    exact ⟨N.post k (by omega) hke hl, hne⟩
  have still : ∀ (m : Nat) (q : DR), (∀ z, z ∈ q.tn.map (·.1) → z ∉ r.raw) → m ≤ e → (ovL rs L0 lf m i).map (AObj.turn (asTo q.tn)) = ovL rs L0 lf m i := fun m q hz hm => by
    cases hu : ovL rs L0 lf m i with
    | none => rfl
    | some u =>
      simp only [Option.map_some]
      rw [aturn_off fun id hid hx => hz id hx (rawObj D H N hj hi lf hun m hm u hu id hid)]
  have h1 : ∀ m, m ≤ j → ovL rs L0 lf m i = ovL rs L0 (fun _ => true) m i := by
    intro m
    induction m with
    | zero => intro _; rfl
    | succ m ih =>
      intro hm
      rcases Nat.lt_or_ge m s with hms | hms
      · rw [ovL_idle H.idle (m + 1) hms, ovL_idle H.idle (m + 1) hms]
      obtain ⟨x, q, hq⟩ := H.at' m hms (by omega)
      simp only [ovL, hq.dr, if_true]
      by_cases hk : i ∈ keysS q.sets
      · have hl : lf m = true := by
          rcases hj.pairs m q (by omega) hq.dr with h | h
          · exact N.pre m (by omega) h
          · exact absurd hi (h.wr i hk)
        rw [if_pos hl]
        exact setLk_mem hk
      · rw [effLk_not hk, effLk_not hk]
        by_cases hl : lf m = true
        · rw [if_pos hl, ih (by omega)]
        · rw [if_neg hl, ← ih (by omega)]
          rcases hj.pairs m q (by omega) hq.dr with h | h
          · exact absurd (N.pre m (by omega) h) hl
          · exact (still m q h.tr (by omega)).symm
  have h2 : ∀ k, j + k ≤ e → ovL rs L0 lf (j + k) i = ovL rs L0 lf j i := by
    intro k
    induction k with
    | zero => intro _; rfl
    | succ k ih =>
      intro hk
      rw [← ih (by omega)]
      obtain ⟨x, q, hq⟩ := H.at' (j + k) (by omega) (by omega)
      show ovL rs L0 lf (j + k + 1) i = _
      simp only [ovL, hq.dr]
      by_cases hl : lf (j + k) = true
      · rw [if_pos hl]
        cases k with
        | zero => rw [Nat.add_zero, N.un] at hl; cases hl
        | succ k =>
          rcases hq.pairs j r (by omega) hj.dr with h | h
          · have := N.post (j + (k + 1)) (by omega) (by omega) hl
            rw [this] at h; cases h
          · rw [effLk_not fun hm => h.rw' i hm hi]
            exact still (j + (k + 1)) q h.rt (by omega)
      · rw [if_neg hl]
  have := h2 (e - j) (by omega)
  rw [show j + (e - j) = e by omega] at this
  rw [this, h1 j (Nat.le_refl _)]

theorem addF (t : Nat) : ovF rs F0 (fun k => if k = j then true else lf k) e t = if r.dst = some t then some r.v else (ovF rs F0 lf e t).map (U.turn (asTo r.tn)) := by
  have hlt := N.lt
  have hge := N.ge
  have h1 : ∀ m, m ≤ j → ovF rs F0 (fun k => if k = j then true else lf k) m = ovF rs F0 lf m := fun m hm =>
    ovF_congr m (fun _ _ => rfl) fun k hk => if_neg (by omega)
  have h2 : ∀ k, j + 1 + k ≤ e → ovF rs F0 (fun k => if k = j then true else lf k) (j + 1 + k) t = if r.dst = some t then some r.v else (ovF rs F0 lf (j + 1 + k) t).map (U.turn (asTo r.tn)) := by
    intro k
    induction k with
    | zero =>
      intro _
      simp only [Nat.add_zero, ovF, hj.dr, if_true, N.un, Bool.false_eq_true, if_false, h1 j (Nat.le_refl _)]
    | succ k ih =>
      intro hk
      obtain ⟨x, q, hq⟩ := H.at' (j + 1 + k) (by omega) (by omega)
      show ovF rs F0 _ (j + 1 + k + 1) t = if r.dst = some t then some r.v else (ovF rs F0 lf (j + 1 + k + 1) t).map (U.turn (asTo r.tn))
      have hne : ¬ j + 1 + k = j := by omega
      simp only [ovF, hq.dr, if_neg hne]
      rw [ih (by omega)]
      by_cases hl : lf (j + 1 + k) = true
      · rw [if_pos hl, if_pos hl]
        have hap : Apart r q := by
          rcases hq.pairs j r (by omega) hj.dr with h | h
          · have := N.post (j + 1 + k) (by omega) (by omega) hl
            rw [this] at h; cases h
          · exact h
        by_cases hd : q.dst = some t
        · rw [if_pos hd, if_pos hd]
          have hx : x.dst = some t := by rw [← hq.dst]; exact hd
          rw [if_neg]
          · simp only [Option.map_some]
            rw [turn_off fun id hid hx => hap.tm id hx (List.mem_append_left _ hid)]
          · intro hd'
            have ho : o.dst = some t := by rw [← hj.dst]; exact hd'
            rcases D.names j (j + 1 + k) o x (by omega) hj.op hq.op with h | h
            · have := N.post (j + 1 + k) (by omega) (by omega) hl
              rw [this] at h; cases h
            · exact (unlike_spec h).2.2 t ho hx
        · rw [if_neg hd, if_neg hd]
          by_cases hd' : r.dst = some t
          · rw [if_pos hd', if_pos hd']
            simp only [Option.map_some]
            rw [turn_off fun id hid hx => hap.mt id hx (List.mem_append_left _ hid)]
          · rw [if_neg hd', if_neg hd']
            cases ovF rs F0 lf (j + 1 + k) t with
            | none => rfl
            | some u =>
              simp only [Option.map_some]
              rw [turn_comm (plainTn_asTo hj.plain) (plainTn_asTo hq.plain) fun i => ?_]
              by_cases hi : i ∈ r.tn.map (·.1)
              · exact .inr (asTo_not_mem _ _ (hap.tt i hi))
              · exact .inl (asTo_not_mem _ _ hi)
      · rw [if_neg hl, if_neg hl]
  have := h2 (e - (j + 1)) (by omega)
  rw [show j + 1 + (e - (j + 1)) = e by omega] at this
  exact this

theorem addL : ovL rs L0 (fun k => if k = j then true else lf k) e = effLk r.tn r.sets (ovL rs L0 lf e) := by
  have _ := D
  have hlt := N.lt
  have hge := N.ge
  have h1 : ∀ m, m ≤ j → ovL rs L0 (fun k => if k = j then true else lf k) m = ovL rs L0 lf m := fun m hm =>
    ovL_congr m (fun _ _ => rfl) fun k hk => if_neg (by omega)
  have h2 : ∀ k, j + 1 + k ≤ e → ovL rs L0 (fun k => if k = j then true else lf k) (j + 1 + k) = effLk r.tn r.sets (ovL rs L0 lf (j + 1 + k)) := by
    intro k
    induction k with
    | zero =>
      intro _
      have e1 : ovL rs L0 (fun k => if k = j then true else lf k) (j + 1) = effLk r.tn r.sets (ovL rs L0 lf j) := by
        funext i
        simp only [ovL, hj.dr, if_true, h1 j (Nat.le_refl _)]
      have e2 : ovL rs L0 lf (j + 1) = ovL rs L0 lf j := by
        funext i
        simp only [ovL, hj.dr, N.un, Bool.false_eq_true, if_false]
      rw [Nat.add_zero, e1, e2]
    | succ k ih =>
      intro hk
      obtain ⟨x, q, hq⟩ := H.at' (j + 1 + k) (by omega) (by omega)
      have hne : ¬ j + 1 + k = j := by omega
      by_cases hl : lf (j + 1 + k) = true
      · have e1 : ovL rs L0 (fun k => if k = j then true else lf k) (j + 1 + k + 1) = effLk q.tn q.sets (ovL rs L0 (fun k => if k = j then true else lf k) (j + 1 + k)) := by
          funext i; simp only [ovL, hq.dr, if_neg hne, hl, if_true]
        have e2 : ovL rs L0 lf (j + 1 + k + 1) = effLk q.tn q.sets (ovL rs L0 lf (j + 1 + k)) := by
          funext i; simp only [ovL, hq.dr, hl, if_true]
        show ovL rs L0 _ (j + 1 + k + 1) = effLk r.tn r.sets (ovL rs L0 lf (j + 1 + k + 1))
        have hap : Apart r q := by
          rcases hq.pairs j r (by omega) hj.dr with h | h
          · have := N.post (j + 1 + k) (by omega) (by omega) hl
            rw [this] at h; cases h
          · exact h
        rw [e1, e2, ih (by omega)]
        exact (effLk_comm hj.plain hq.plain hap.ww hap.tt (fun z hz hx => hap.tm z hz (List.mem_append_right _ hx)) fun z hz hx => hap.mt z hz (List.mem_append_right _ hx)).symm
      · have e1 : ovL rs L0 (fun k => if k = j then true else lf k) (j + 1 + k + 1) = ovL rs L0 (fun k => if k = j then true else lf k) (j + 1 + k) := by
          funext i; simp only [ovL, hq.dr, if_neg hne, hl, if_false, Bool.false_eq_true]
        have e2 : ovL rs L0 lf (j + 1 + k + 1) = ovL rs L0 lf (j + 1 + k) := by
          funext i; simp only [ovL, hq.dr, hl, if_false, Bool.false_eq_true]
        show ovL rs L0 _ (j + 1 + k + 1) = effLk r.tn r.sets (ovL rs L0 lf (j + 1 + k + 1))
        rw [e1, e2]
        exact ih (by omega)
  have := h2 (e - (j + 1)) (by omega)
  rw [show j + 1 + (e - (j + 1)) = e by omega] at this
  exact this
end

theorem wantF_congr {ops : List Oper} {o : Oper} {F F' : Nat → Option U} (h : ∀ t, t ∈ namesOf ops o → F' t = F t) : wantF ops o F' = wantF ops o F := by
  unfold wantF
  split
  · rfl
  · rename_i g b hg
    cases hs : guardSlot ops g with
    | none => rfl
    | some s =>
      simp only
      rw [h s (List.mem_append_left _ (by simp [guardTmp, hg, hs]))]

theorem wanted_of {ops : Array Oper} {o : Oper} {F : Nat → Option U} {L : Lk} {a : Act} {w : World} (A : AtF nt imm0 loc0 w0 F L a w) {b : Bool} (h : wantF ops.toList o F = some b) : Region.wanted o (yielded ops a.tmps) = b := by
  obtain ⟨imm, loc, _, _, h3, _, _⟩ := A
  unfold wantF at h
  split at h
  · rename_i hg
    cases h
    simp [Region.wanted, hg]
  · rename_i g b' hg
    split at h
    · cases h
    · rename_i s hs
      split at h
      · rename_i x hx
        cases h
        obtain ⟨hlt, hr⟩ := h3 s _ hx
        simp only [Region.wanted, hg, yielded_of hs hlt hr.bool_inv]
        cases x <;> cases b' <;> rfl
      · rename_i hx
        cases h
        obtain ⟨hlt, hr⟩ := h3 s _ hx
        obtain ⟨vs, hv, _, _⟩ := hr.tup_inv
        simp only [Region.wanted, hg, yielded_tup hs hlt hv]
        rfl
      · cases h

/-- a part that is drawn -/
theorem drawn_wp (E : EnvOK P env) (hG : GlobOK imm0 env) {ops : Array Oper} (hds : dstsOK nt ops.toList = true) {bs : List Nat} (D : DrawText ops.toList bs)
    {F0 : Nat → Option U} {L0 : Lk} {rs : List DR} {s e : Nat} (hle : e ≤ ops.size) (hcut : Cut bs ops.size e) (H : Facts P env ops.toList bs F0 L0 rs s e) {frT : Fr} {stT : St}
    (hfr : ∀ t, look t frT = ovF rs F0 (fun _ => true) e t) (hst : ∀ i, look i stT = ovL rs L0 (fun _ => true) e i)
    {Q : Exit → Act → World → Prop} (hnext : ∀ fuel listed a w, Upto ops listed e fuel → At nt imm0 loc0 w0 frT stT a w → wpAny P .any ops Q fuel listed a w) :
    ∀ (fuel : Nat) (listed : Array Bool) (a : Act) (w : World), listed.size = ops.size → listed.toList.count false = fuel → (∀ i, i < ops.size → listed.getD i false = true → i < e) → (∀ i, i < s → listed.getD i false = true) → Closed ops listed →
      AtF nt imm0 loc0 w0 (ovF rs F0 (fun i => listed.getD i false) e) (ovL rs L0 (fun i => listed.getD i false) e) a w → wpAny P .any ops Q fuel listed a w := by
  intro fuel
  induction fuel with
  | zero =>
    intro listed a w hsz hcnt hin _ hcl A
    have hall : ∀ i, i < ops.size → listed.getD i false = true := fun i hi => by
      have h1 := count_zero hcnt i (by simp; omega)
      rw [Array.getElem?_toList] at h1
      simp [h1]
    refine hnext 0 listed a w ⟨hsz, hcnt, fun i hi => ⟨hin i hi, fun _ => hall i hi⟩⟩ (A.at ?_ ?_)
    · intro t; rw [hfr, ovF_congr e (fun _ _ => rfl) fun k hk => (hall k (by omega)).symm]
    · intro i; rw [hst, ovL_congr e (fun _ _ => rfl) fun k hk => (hall k (by omega)).symm]
  | succ fuel ih =>
    intro listed a w hsz hcnt hin hpre hcl A
    by_cases hall : ∀ i, i < e → listed.getD i false = true
    · refine hnext (fuel + 1) listed a w ⟨hsz, hcnt, fun i hi => ⟨hin i hi, hall i⟩⟩ (A.at ?_ ?_)
      · intro t; rw [hfr, ovF_congr e (fun _ _ => rfl) fun k hk => (hall k hk).symm]
      · intro i; rw [hst, ovL_congr e (fun _ _ => rfl) fun k hk => (hall k hk).symm]
    · -- something of the part is not listed yet
      have hsome : ∃ i, i < e ∧ listed.getD i false = false := by
        refine Classical.byContradiction fun hno => hall fun i hi => ?_
        cases hx : listed.getD i false with
        | true => rfl
        | false => exact absurd ⟨i, hi, hx⟩ hno
      obtain ⟨i0, hi0, hun0⟩ := hsome
      have hready := ready_lt D hcut hcl hi0 hun0
      refine ⟨fun hnil => ?_, fun j hj => ?_⟩
      · have := ready_some D hsz hnil i0 (by omega)
        rw [hun0] at this; cases this
      · have hje := hready j hj
        obtain ⟨h0, o', ho', hafter⟩ := mem_ready.1 hj
        have hun : listed.getD j false = false := by
          simp [show j < listed.size by omega] at h0 ⊢
          exact h0
        have hsj : s ≤ j := by
          rcases Nat.lt_or_ge j s with hlt | hge
          · have := hpre j hlt
            rw [hun] at this; cases this
          · exact hge
        obtain ⟨o, r, hfact⟩ := H.at' j hsj hje
        have hoo : o' = o := by have := hfact.op; rw [Array.getElem?_toList, ho'] at this; cases this; rfl
        subst hoo
        have N : Next bs s e (fun i => listed.getD i false) j := ⟨hsj, hje, hun, fun i hi ht => pred_listed D hcl j o' ho' (fun g hg hb' => hafter g (Array.mem_toList_iff.1 hg) hb') i hi ht, fun k hjk hke hk => by
          cases hb : (bs.getD k 0).testBit j with
          | false => rfl
          | true =>
            have hg : ops[k]? = some ops[k] := Array.getElem?_eq_getElem (by omega)
            have := pred_listed D hcl k _ hg (fun g hg' hb' => hcl k _ hg hk g hg' hb') j hjk hb
            rw [hun] at this; cases this⟩
        have hsF := seesF D H N hfact
        have hsL := seesL D H N hfact
        have hlf : (fun i => (listed.setIfInBounds j true).getD i false) = fun k => if k = j then true else listed.getD k false := by
          funext k
          by_cases hk : k = j
          · subst hk; simp [show k < listed.size by omega]
          · rw [getD_set_ne false (Ne.symm hk), if_neg hk]
        have hdl : ∀ t, o'.dst = some t → t < nt := dstsOK_mem hds o' (Array.mem_toList_iff.2 (Array.mem_of_getElem? ho'))
        have hjl : listed.toList[j]? = some false := by
          rw [Array.getElem?_toList]
          simp [show j < listed.size by omega] at hun ⊢
          exact hun
        -- going on
        have on : ∀ a' w', AtF nt imm0 loc0 w0 (ovF rs F0 (fun k => if k = j then true else listed.getD k false) e) (ovL rs L0 (fun k => if k = j then true else listed.getD k false) e) a' w' →
            wpAny P .any ops Q fuel (listed.setIfInBounds j true) a' w' := fun a' w' A' => by
          refine ih _ a' w' (by simpa using hsz) ?_ (fun i hi hx => ?_) (fun i hi => getD_set_true (hpre i hi)) (fun k x hk hx g hg hb => ?_) (by rw [hlf]; exact A')
          · have := count_set listed.toList j hjl
            simp only [Array.toList_setIfInBounds]
            omega
          · by_cases hij : i = j
            · omega
            · rw [getD_set_ne false (Ne.symm hij)] at hx
              exact hin i hi hx
          · by_cases hkj : k = j
            · subst hkj
              rw [ho'] at hk; cases hk
              exact getD_set_true (hafter g (Array.mem_toList_iff.1 hg) hb)
            · rw [getD_set_ne false (Ne.symm hkj)] at hx
              exact getD_set_true (hcl k x hk hx g hg hb)
        unfold wpOp
        rw [ho']
        simp only
        have hwant := wantF_congr (F := ovF rs F0 (fun _ => true) j) (F' := ovF rs F0 (fun i => listed.getD i false) e) hsF
        have hrd : r.dst = o'.dst := hfact.dst
        -- what the slots hold behind the step
        have frames : ∀ (imm imm' : Imm) (loc loc' : Locs) (v : Value), (∀ t u, ovF rs F0 (fun i => listed.getD i false) e t = some u → t < a.tmps.size ∧ Rep imm loc u (a.tmps.getD t undef)) → (∀ a v, imm a = some v → imm' a = some v) → TurnOK imm' loc loc' (asTo r.tn) → Rep imm' loc' r.v v → a.tmps.size = nt →
            ∀ t u, ovF rs F0 (fun k => if k = j then true else listed.getD k false) e t = some u → t < (a.put o'.dst v).tmps.size ∧ Rep imm' loc' u ((a.put o'.dst v).tmps.getD t undef) := fun imm imm' loc loc' v h3 hgr hturn hv h5 t u hu => by
          rw [addF D H N hfact t] at hu
          by_cases hd : r.dst = some t
          · rw [if_pos hd] at hu
            cases hu
            have hlt : LT.lt (α := Nat) t nt := hdl t (by rw [← hrd]; exact hd)
            rw [hrd] at hd
            refine ⟨by rw [put_size]; omega, ?_⟩
            rw [hd]
            simp only [Act.put]
            simp [show t < a.tmps.size by omega]
            exact hv
          · rw [if_neg hd] at hu
            obtain ⟨x, hx, rfl⟩ := Option.map_eq_some_iff.1 hu
            obtain ⟨hlt, hrep⟩ := h3 t x hx
            refine ⟨by rw [put_size]; exact hlt, ?_⟩
            have hsame : (a.put o'.dst v).tmps.getD t undef = a.tmps.getD t undef := by
              cases hd' : o'.dst with
              | none => rfl
              | some d =>
                have hne' : d ≠ t := fun hh => hd (by rw [hrd, hd', hh])
                simp [Act.put, Array.getElem?_setIfInBounds_ne hne']
            rw [hsame]
            exact hrep.turn hgr hturn
        rcases hfact.run with ⟨hw, ef, hr, hsem⟩ | ⟨hw, hv0, hs0, ht0⟩
        · rw [← hwant] at hw
          rw [if_pos (wanted_of A hw)]
          obtain ⟨imm, loc, h1, h2, h3, h4, h5⟩ := A
          refine .inl (hsem imm loc _ w a (hG.mono h1.grow) h2 (fun t u ht hu => (h3 t u (by rw [hsF t ht]; exact hu)).2) (fun i hi => hsL i hi) _ Q fun imm' loc' v w' hev hR hturn hv => on _ _ ?_)
          have hrv : r.v = ef.v := by rw [hr]; rfl
          have hrs : r.sets = ef.sets := by rw [hr]; rfl
          have hrt : r.tn = ef.tn := by rw [hr]; rfl
          refine ⟨imm', loc', h1.trans hev, by rw [addL D H N hfact, hrs, hrt]; exact hR, frames imm imm' loc loc' v h3 hev.grow (by rw [hrt]; exact hturn) (by rw [hrv]; exact hv) h5, by rw [put_defers']; exact h4, by rw [put_size]; exact h5⟩
        · rw [← hwant] at hw
          rw [if_neg (by rw [wanted_of A hw]; simp)]
          refine on _ _ ?_
          obtain ⟨imm, loc, h1, h2, h3, h4, h5⟩ := A
          refine ⟨imm, loc, h1, by rw [addL D H N hfact, hs0, ht0, effLk_nil]; exact h2, frames imm imm loc loc undef h3 (fun _ _ h => h) (by rw [ht0]; exact TurnOK.same _ _) (by rw [hv0]; exact .tup [] #[] rfl fun i hi => absurd hi (Nat.not_lt_zero _)) h5, by rw [put_defers']; exact h4, by rw [put_size]; exact h5⟩

theorem mem_frIds (fr : Fr) (id : Nat) {t : Nat} {u : U} (h : look t fr = some u) (hid : id ∈ u.ids) : id ∈ frIds fr := by
  induction fr with
  | nil => cases h
  | cons p r ih =>
    obtain ⟨q, y⟩ := p
    simp only [look] at h
    simp only [frIds, List.mem_append]
    by_cases hq : q = t
    · subst hq; rw [Nat.beq_refl] at h; cases h; exact .inl hid
    · rw [beq_false_of_ne hq] at h; exact .inr (ih h)

theorem blocks_wp (E : EnvOK P env) {c : Ctx} (hc : c.env = env) (hT : TableOK P env c.tab) (hG : GlobOK imm0 env) {ops : Array Oper} (hds : dstsOK nt ops.toList = true) {bs : List Nat} (D : DrawText ops.toList bs) {κ : Fr → St → Out} {κp : KR} {out : Out} (hne : out ≠ .fail)
    {Q : Exit → Act → World → Prop} (hn : ∀ fr st a w, At nt imm0 loc0 w0 fr st a w → κ fr st = out → Q .normal a w)
    (hp : ∀ u' st' v a w', a.defers = [] → Pan imm0 loc0 w0 u' st' v w' → κp u' st' = out → Q (.panic [{ v, recovered := false }]) a w') :
    ∀ (r : List Nat) (j : Nat), blocksB bs ops.size j r = true → ∀ (fuel : Nat) (listed : Array Bool) (fr : Fr) (st : St) (a : Act) (w : World), Upto ops listed j fuel → At nt imm0 loc0 w0 fr st a w →
      execBlocks c ops.toList bs r j fr st κ κp = out → wpAny P .any ops Q fuel listed a w
  | [], j, hb, fuel, listed, fr, st, a, w, H, A, h => by
    have hj := Nat.eq_of_beq_eq_true hb
    subst hj
    exact done_wp H (hn fr st a w A h)
  | e :: r, j, hb, fuel, listed, fr, st, a, w, H, A, h => by
    simp only [blocksB, Bool.and_eq_true] at hb
    obtain ⟨h1, h2, h3, h4⟩ := hb
    have hje : j < e := Nat.le_of_ble_eq_true h1
    have hen : e ≤ ops.size := Nat.le_of_ble_eq_true h2
    have hcut : Cut bs ops.size e := isCut_spec (by rw [D.len]; simp) h3
    simp only [execBlocks] at h
    cases he : Nat.beq e (j + 1) with
    | true =>
      have hej := Nat.eq_of_beq_eq_true he
      subst hej
      rw [he] at h
      simp only [cond_true] at h
      exact single_wp E hc hT hG hds D (by omega) hcut hne (fun fuel' listed' fr' st' a' w' H' A' h' => blocks_wp E hc hT hG hds D hne hn hp r (j + 1) h4 fuel' listed' fr' st' a' w' H' A' h') hp H A h
    | false =>
      rw [he] at h
      simp only [cond_false] at h
      have hlen : ((ops.toList.drop j).take (e - j)).length = e - j := by simp; omega
      have hidle : ∀ i, i < j → (List.replicate j DR.none)[i]? = some DR.none := fun i hi => by simp [hi]
      have hstep : StepAt (List.replicate j DR.none) fr st (fun t => look t fr) (fun i => look i st) := ⟨fun t => by
        rw [ovF_idle (s := j) hidle _ (by simp)], fun i => by rw [ovL_idle (s := j) hidle _ (by simp)]⟩
      obtain ⟨rs, g1, g2, g3, frT, stT, g4, g5⟩ := draws_facts (ops := ops.toList) E hc hT hne ((ops.toList.drop j).take (e - j)) (List.replicate j DR.none) [] fr st (fun k hk => by
        rw [hlen] at hk
        simp only [List.length_replicate]
        have h8 : ((ops.toList.drop j).take (e - j))[k]? = ops.toList[j + k]? := by rw [List.getElem?_take, if_pos hk, List.getElem?_drop]
        exact h8.symm) hstep (fun k q hk => by
        left
        rcases Nat.lt_or_ge k j with hkj | hkj
        · rw [hidle k hkj] at hk; cases hk; rfl
        · rw [List.getElem?_eq_none (by simpa using hkj)] at hk; cases hk) (by simpa using h)
      simp only [List.length_replicate] at g1 g2 g3
      rw [hlen] at g1
      have hrs : rs.length = e := by omega
      have hzF : ovF rs (fun t => look t fr) (fun i => listed.getD i false) e = fun t => look t fr := by
        have hz : ∀ m, m ≤ e → ovF rs (fun t => look t fr) (fun i => listed.getD i false) m = fun t => look t fr := by
          intro m
          induction m with
          | zero => intro _; rfl
          | succ m ih =>
            intro hm
            rcases Nat.lt_or_ge m j with hmj | hmj
            · exact ovF_idle (s := j) (fun i hi => by rw [g2 i hi, hidle i hi]) (m + 1) hmj
            · funext t
              have hl : ¬ listed.getD m false = true := fun hl => by
                have := (H.iff m (by omega)).1 hl
                omega
              simp only [ovF, ih (by omega), if_neg hl]
              split <;> rfl
        exact hz e (Nat.le_refl _)
      have hzL : ovL rs (fun i => look i st) (fun i => listed.getD i false) e = fun i => look i st := by
        have hz : ∀ m, m ≤ e → ovL rs (fun i => look i st) (fun i => listed.getD i false) m = fun i => look i st := by
          intro m
          induction m with
          | zero => intro _; rfl
          | succ m ih =>
            intro hm
            rcases Nat.lt_or_ge m j with hmj | hmj
            · exact ovL_idle (s := j) (fun i hi => by rw [g2 i hi, hidle i hi]) (m + 1) hmj
            · funext t
              have hl : ¬ listed.getD m false = true := fun hl => by
                have := (H.iff m (by omega)).1 hl
                omega
              simp only [ovL, ih (by omega), if_neg hl]
              split <;> rfl
        exact hz e (Nat.le_refl _)
      refine drawn_wp E hG hds D hen hcut ⟨hrs, fun i hi => by rw [g2 i hi, hidle i hi], fun i hi hie => g3 i hi (by omega)⟩ (fun t => by rw [g4.fr, hrs]) (fun i => by rw [g4.st, hrs])
        (fun fuel' listed' a' w' H' A' => blocks_wp E hc hT hG hds D hne hn hp r e h4 fuel' listed' frT stT a' w' H' A' g5) fuel listed a w H.size H.count (fun i hi hx => by have := (H.iff i hi).1 hx; omega) (fun i hi => (H.iff i (by omega)).2 hi) (H.closed D) ?_
      rw [hzF, hzL]
      exact A.atF

theorem region_drawn_wp (E : EnvOK P env) {c : Ctx} (hc : c.env = env) (hT : TableOK P env c.tab) (hG : GlobOK imm0 env) {ops : Array Oper} (hds : dstsOK nt ops.toList = true) (hdo : drawOK ops.toList = true) {id : Nat}
    {fr : Fr} {st : St} {a : Act} {w : World} (A : At nt imm0 loc0 w0 fr st a w) {κ : Fr → St → Out} {κp : KR} {out : Out} (hne : out ≠ .fail)
    (h : execBlocks c ops.toList (befs ops.toList []) (cutsOf (befs ops.toList []) ops.toList.length) 0 fr st κ κp = out)
    {Q : Exit → Act → World → Prop} (hn : ∀ fr st a w, At nt imm0 loc0 w0 fr st a w → κ fr st = out → Q .normal a w)
    (hp : ∀ u' st' v a w', a.defers = [] → Pan imm0 loc0 w0 u' st' v w' → κp u' st' = out → Q (.panic [{ v, recovered := false }]) a w') : (Code.region id ops true).wp P Q a w := by
  obtain ⟨D, hblk⟩ := drawOK_text hdo
  refine wp_region_any E.mixed (blocks_wp E hc hT hG hds D hne hn hp _ 0 (by simpa using hblk) ops.size _ fr st a _ ⟨by simp, by simp, fun i hi => ?_⟩ ?_ h)
  · simp [hi]
  · obtain ⟨imm, loc, h6, h7, h8, h9, h10⟩ := A
    exact ⟨imm, loc, ⟨h6.os, h6.tape, h6.output, h6.size, h6.block, h6.grow, h6.claims, h6.own, h6.par⟩, h7.drew, ⟨fun t u hu => h8.get t u hu⟩, h9, h10⟩

end

end Go.Abs

/- Soundness of the abstract machine, part 33: names made alike. -/
set_option linter.unusedSimpArgs false
namespace Go.Abs
open Go

theorem allBelow_mem {nt : Nat} : ∀ {l : List Nat}, allBelow nt l = true → ∀ t, t ∈ l → t < nt
  | [], _, t, h => by simp at h
  | x :: r, h, t, ht => by
    simp only [allBelow, Bool.and_eq_true] at h
    rcases List.mem_cons.1 ht with h1 | h1
    · subst h1; exact Nat.le_of_ble_eq_true h.1
    · exact allBelow_mem h.2 t h1

theorem headsOK_look {nt : Nat} : ∀ {l : List (Nat × Head)}, headsOK nt l = true → ∀ id h, look id l = some h → (∀ t, t ∈ h.keep → t < nt) ∧ (∀ t, t ∈ h.out → t < nt) ∧ (∀ t, t ∈ h.res → t < nt)
  | [], _, _, _, h => by cases h
  | (i, x) :: r, h, id, y, hl => by
    simp only [headsOK, Bool.and_eq_true] at h
    simp only [look] at hl
    by_cases hi : i = id
    · subst hi
      rw [Nat.beq_refl] at hl
      cases hl
      exact ⟨fun t => allBelow_mem h.1.1.1 t, fun t => allBelow_mem h.1.1.2 t, fun t => allBelow_mem h.1.2 t⟩
    · rw [beq_false_of_ne hi] at hl
      exact headsOK_look h.2 id y hl

theorem newNames_map_fst (p : Nat → Bool) : ∀ (b : Nat) (l : List Nat), (newNames p b l).map (·.1) = l
  | _, [] => rfl
  | b, i :: r => by
    simp only [newNames]
    cases p i <;> simp [newNames_map_fst p]

theorem newNames_mem (p : Nat → Bool) : ∀ (b : Nat) (l : List Nat) (i j : Nat), (i, j) ∈ newNames p b l → j = i ∨ b ≤ j
  | _, [], i, j, h => by simp [newNames] at h
  | b, k :: r, i, j, h => by
    simp only [newNames] at h
    cases hp : p k with
    | true =>
      rw [hp] at h
      rcases List.mem_cons.1 h with h1 | h1
      · cases h1; exact .inr (Nat.le_refl _)
      · rcases newNames_mem p (b + 1) r i j h1 with h2 | h2
        · exact .inl h2
        · exact .inr (by omega)
    | false =>
      rw [hp] at h
      rcases List.mem_cons.1 h with h1 | h1
      · cases h1; exact .inl rfl
      · exact newNames_mem p b r i j h1

theorem look_keepFr (fr : Fr) (t : Nat) : ∀ l : List Nat, look t (keepFr fr l) = if t ∈ l then some ((look t fr).getD .undef) else none
  | [] => rfl
  | k :: r => by
    simp only [keepFr, look, List.mem_cons]
    by_cases hk : k = t
    · subst hk; simp
    · rw [beq_false_of_ne hk]
      simp only [cond_false, look_keepFr fr t r]
      have : (t = k ∨ t ∈ r) ↔ t ∈ r := ⟨fun h => h.resolve_left (fun e => hk e.symm), .inr⟩
      simp only [this]

theorem look_weakFr (t : Nat) : ∀ fr : Fr, look t (weakFr fr) = (look t fr).map U.weak
  | [] => rfl
  | (k, u) :: r => by
    simp only [weakFr, look]
    cases Nat.beq k t <;> simp [look_weakFr t r]

theorem notParam_ge {b j : Nat} (hb : 2000 ≤ b) (h : b ≤ j) : notParam j = true := by
  have h3 : 1999 < j := by omega
  simp only [notParam, Bool.or_eq_true]
  exact .inr (by simp [h3])

section
variable {imm : Imm} {loc : Locs} {w : World}

theorem Evolve.names {nm : List (Nat × Nat)} (hp : ∀ i j, (i, j) ∈ nm → j = i ∨ notParam j = true) : Evolve imm loc w imm (nmLoc nm loc) w := by
  refine ⟨rfl, rfl, rfl, Nat.le_refl _, fun _ _ _ => rfl, fun _ _ h => h, fun _ _ h => .inl h, fun i l b hi hb => ?_, fun i hi => ?_⟩
  · simp only [nmLoc] at hi
    split at hi
    · rename_i j hj; exact .inl ⟨j, l, hi, hb⟩
    · cases hi
  · simp only [nmLoc]
    split
    · rename_i j hj
      rcases hp j i (oldOf_mem hj) with h | h
      · rw [h]; exact .inl rfl
      · rw [h] at hi; cases hi
    · exact .inr rfl

theorem Evolve.growth {N : List Nat} {loc' : Locs} (g : Growth N loc loc') (hp : ∀ n, n ∈ N → notParam n = true) : Evolve imm loc w imm loc' w := by
  refine ⟨rfl, rfl, rfl, Nat.le_refl _, fun _ _ _ => rfl, fun _ _ h => h, fun _ _ h => .inl h, fun i l b hi hb => ?_, fun i hi => ?_⟩
  · by_cases hN : i ∈ N
    · have := (g.new i hN).2 l hi
      rw [hb] at this; cases this
    · rw [g.old i hN] at hi
      exact .inl ⟨i, l, hi, hb⟩
  · by_cases hN : i ∈ N
    · rw [hp i hN] at hi; cases hi
    · exact .inl (g.old i hN)

end

section
variable {nt : Nat} {imm0 : Imm} {loc0 : Locs} {w0 : World}

theorem canonFr_at {keep : List Nat} {fr : Fr} {st : St} {k : Fr → St → Out} {out : Out} (h : canonFr keep fr st k = out) (hne : out ≠ .fail) {a : Act} {w : World} (A : At nt imm0 loc0 w0 fr st a w) (hk : ∀ t, t ∈ keep → t < nt) :
    ∃ fr' st', At nt imm0 loc0 w0 fr' st' a w ∧ k fr' st' = out := by
  unfold canonFr at h
  simp only at h
  obtain ⟨l, hl⟩ : ∃ l, l = live (keepFr fr keep) st := ⟨_, rfl⟩
  obtain ⟨nm, hnm⟩ : ∃ nm, nm = newNames (fun i => isBuf (fun i => look i st) i && (notParam i || elemN i (objIds st))) 300000 l := ⟨_, rfl⟩
  rw [← hl, ← hnm] at h
  cases hok : (nodupN l && nodupN (sndN nm)) with
  | false => rw [hok] at h; exact absurd h.symm hne
  | true =>
    rw [hok] at h
    simp only [cond_true] at h
    simp only [Bool.and_eq_true, nodupN_iff, sndN_eq] at hok
    have ho : (nm.map (·.1)).Nodup := by rw [hnm, newNames_map_fst]; exact hok.1
    obtain ⟨imm, loc, hev, R, F, hdf, hsz⟩ := A
    refine ⟨_, _, ⟨imm, nmLoc nm loc, hev.trans (Evolve.names fun i j hij => ?_), ?_, ⟨fun t u hu => ?_⟩, hdf, hsz⟩, h⟩
    · rw [hnm] at hij
      rcases newNames_mem _ _ _ _ _ hij with h1 | h1
      · exact .inl h1
      · exact .inr (notParam_ge (by omega) h1)
    · have he : (fun i => look i (weakSt (renameSt (nmTo nm) (fun i => look i st) nm))) = fun i => (nmLk nm (nmTo nm) (fun j => look j st) i).map AObj.weak := by
        funext j
        rw [look_weakSt, look_renameSt _ _ _ _ hok.2]
      rw [he]
      exact (R.rename hok.2 ho).weakAll
    · rw [look_weakFr, look_turnFr, look_keepFr] at hu
      by_cases ht : t ∈ keep
      · rw [if_pos ht] at hu
        simp only [Option.map_some, Option.some.injEq] at hu
        subst hu
        refine ⟨by rw [hsz]; exact hk t ht, ?_⟩
        cases hx : look t fr with
        | none => exact .undef _
        | some x => exact ((F.get t x hx).2.turn (fun _ _ h => h) (TurnOK.names imm loc hok.2)).weak
      · rw [if_neg ht] at hu; cases hu

/-! ### slices that have no room become buffers -/

section
variable {imm : Imm} {loc : Locs} {lk : Lk} {w : World}

theorem Rep.off {b : Nat} {l : Loc} {u : U} {v : Value} (h : Rep imm loc u v) (hb : b ∉ u.ids) : Rep imm (swapLoc loc b l none) u v := h.avoid hb fun _ h => by cases h

theorem Rel.addFull (R : Rel imm loc lk w) {b : Nat} {S S' : Rows} {wr : Bool} {a : Option Addr} {n : Nat} (hv : Rep imm loc (.slice S true) (.slice a n n)) (hS : (S' = S ∧ wr = false) ∨ (S.len = 0 ∧ S' = Rows.empty S.kind)) (hb : lk b = none)
    (hm : ∀ j x, lk j = some x → b ∉ x.ids) : Rel imm (swapLoc loc b (.full a n) none) (fun j => if j = b then some (.gbuf S' wr) else lk j) w := by
  have hn : n = S.len := by
    obtain ⟨a', n', cap, vals, he, hn, _⟩ := hv.slice_inv
    cases he; exact hn
  refine ⟨R.claims, fun j x hj => ?_, fun j l hj => ?_, fun j q l m bb hj hq hl hmm => ?_, fun j l bb hj hl => ?_⟩
  · by_cases hjb : j = b
    · subst hjb
      rw [if_pos rfl] at hj
      cases hj
      refine ⟨.full a n, by simp [swapLoc], ?_⟩
      rcases hS with ⟨rfl, rfl⟩ | ⟨h0, rfl⟩
      · exact .full _ false a n (hv.frozen fun _ _ h => h) (by simp)
      · have hn0 : n = 0 := by omega
        subst hn0
        exact .full _ wr a 0 (.slice _ true a 0 0 (fun _ _ => undef) (by cases S <;> rfl) (fun _ => rfl) (Nat.le_refl _) (fun h => absurd h (Nat.lt_irrefl _)) fun i j hi => absurd hi (Nat.not_lt_zero _)) fun _ => rfl
    · rw [if_neg hjb] at hj
      obtain ⟨l, hl, hr⟩ := R.objs j x hj
      refine ⟨l, by simp [swapLoc, hjb, hl], ?_⟩
      have := hr.turn (f := asTo (swapTn b none)) (fun _ _ h => h) (TurnOK.swap imm loc b (.full a n) none) (w' := w) fun _ _ => rfl
      rwa [aturn_fresh _ x fun id hid => by
        rw [asTo_swap, if_neg]
        rintro (h | h)
        · subst h; exact hm j x hj hid
        · cases h] at this
  · simp only [swapLoc] at hj
    by_cases hjb : j = b
    · exact ⟨_, by simp [hjb]; rfl⟩
    · rw [if_neg hjb] at hj
      simp only [reduceCtorEq, if_false] at hj
      obtain ⟨x, hx⟩ := R.dom j l hj
      exact ⟨x, by simp [hjb, hx]⟩
  · simp only [swapLoc] at hj hq
    by_cases hjb : j = b
    · rw [if_pos hjb] at hj; cases hj; simp [Loc.block] at hl
    · by_cases hqb : q = b
      · rw [if_pos hqb] at hq; cases hq; simp [Loc.block] at hmm
      · rw [if_neg hjb] at hj; rw [if_neg hqb] at hq
        simp only [reduceCtorEq, if_false] at hj hq
        exact R.inj j q l m bb hj hq hl hmm
  · simp only [swapLoc] at hj
    by_cases hjb : j = b
    · rw [if_pos hjb] at hj; cases hj; simp [Loc.block] at hl
    · rw [if_neg hjb] at hj
      simp only [reduceCtorEq, if_false] at hj
      exact R.sep j l bb hj hl

theorem Rel.setCell (R : Rel imm loc lk w) {i k : Nat} {us : List U} (hi : lk i = some (.cells us)) {u' : U} (hval : ∀ bl c e, loc i = some (.cells bl) → w.heap[bl]? = some (.cells c e (0, 0)) → k < us.length → Rep imm loc u' (c.getD k undef)) :
    Rel imm loc (fun j => if j = i then some (.cells (us.set k u')) else lk j) w := by
  refine ⟨R.claims, fun j x hj => ?_, fun j l hj => ?_, R.inj, R.sep⟩
  · by_cases hji : j = i
    · subst hji
      rw [if_pos rfl] at hj
      cases hj
      obtain ⟨l, hl, hr⟩ := R.objs j _ hi
      cases hr with
      | cells _ bl c e h1 h2 h3 =>
        refine ⟨_, hl, .cells _ bl c e h1 (by rw [List.length_set]; exact h2) fun q hq => ?_⟩
        by_cases hqk : q = k
        · subst hqk
          have : (us.set q u').getD q .undef = u' := by simp [List.getD_eq_getElem?_getD, show q < us.length by omega]
          rw [this]
          exact hval bl c e hl h1 (by omega)
        · have : (us.set k u').getD q .undef = us.getD q .undef := by simp [List.getD_eq_getElem?_getD, List.getElem?_set_ne (Ne.symm hqk)]
          rw [this]; exact h3 q hq
    · rw [if_neg hji] at hj; exact R.objs j x hj
  · by_cases hji : j = i
    · exact ⟨_, by rw [if_pos hji]⟩
    · obtain ⟨x, hx⟩ := R.dom j l hj
      exact ⟨x, by rw [if_neg hji]; exact hx⟩

/-- nothing is written anew in a buffer from here on -/
theorem Rel.weakBuf (R : Rel imm loc lk w) {i : Nat} {S : Rows} {wr : Bool} (hi : lk i = some (.gbuf S wr)) : Rel imm loc (fun j => if j = i then some (.gbuf S false) else lk j) w := by
  refine ⟨R.claims, fun j x hj => ?_, fun j l hj => ?_, R.inj, R.sep⟩
  · by_cases hji : j = i
    · subst hji
      rw [if_pos rfl] at hj
      cases hj
      obtain ⟨l, hl, hr⟩ := R.objs j _ hi
      refine ⟨l, hl, ?_⟩
      cases hr with
      | buf _ _ b n cap e c h1 h2 h3 h4 h5 => exact .buf _ _ b n cap e c h1 h2 h3 h4 h5
      | full _ _ a n h1 h2 => exact .full _ _ a n h1 (by simp)
    · rw [if_neg hji] at hj; exact R.objs j x hj
  · by_cases hji : j = i
    · exact ⟨_, by rw [if_pos hji]⟩
    · obtain ⟨x, hx⟩ := R.dom j l hj
      exact ⟨x, by rw [if_neg hji]; exact hx⟩

end

theorem Rel.same {imm : Imm} {loc : Locs} {lk lk' : Lk} {w : World} (R : Rel imm loc lk w) (h : ∀ i, lk' i = lk i) : Rel imm loc lk' w := by
  have : lk' = lk := funext h
  rw [this]; exact R

theorem keysN_repl (i : Nat) (o : AObj) : ∀ st : St, keysN (repl i o st) = keysN st
  | [] => rfl
  | (j, x) :: r => by
    simp only [repl]
    by_cases h : j = i
    · subst h; rw [Nat.beq_refl]; rfl
    · rw [beq_false_of_ne h]; simp [keysN, keysN_repl i o r]

/-- a buffer's growing at a loop's head: three ways -/
theorem headBuf_cases (k : Bool) (b : Nat) (u : U) (st : St) :
    (∃ S S' wr, u = .slice S true ∧ ((S' = S ∧ wr = false) ∨ (S.len = 0 ∧ S' = Rows.empty S.kind)) ∧ headBuf k b u st = (.gsl b, st ++ [(b, .gbuf S' wr)])) ∨
    (∃ id S wr, u = .gsl id ∧ look id st = some (.gbuf S wr) ∧ headBuf k b u st = (u, repl id (.gbuf S false) st)) ∨ headBuf k b u st = (u, st) := by
  unfold headBuf
  split
  · rename_i S
    cases k with
    | true => exact .inl ⟨S, S, false, rfl, .inl ⟨rfl, rfl⟩, rfl⟩
    | false =>
      simp only [cond_false]
      cases hg : growU b (.slice S true) with
      | none => exact .inr (.inr rfl)
      | some p =>
        obtain ⟨v, o⟩ := p
        obtain ⟨S', h1, h2, rfl, rfl⟩ := growU_inv hg
        cases h1
        exact .inl ⟨S, _, true, rfl, .inr ⟨h2, rfl⟩, rfl⟩
  · rename_i id
    cases k with
    | false => exact .inr (.inr rfl)
    | true =>
      simp only [cond_true]
      split
      · rename_i S wr hS
        exact .inr (.inl ⟨id, S, wr, rfl, hS, rfl⟩)
      · exact .inr (.inr rfl)
  · exact .inr (.inr rfl)

/-- the names of a store, and what is mentioned, in the midst of a growing -/
structure Names (K0 M0 ks : List Nat) (fr : Fr) (st : St) : Prop where
  keys : ∃ ext, ks = keysN st ++ ext
  old : ∀ i, i ∈ K0 → i ∈ keysN st
  ments : ∀ i, i ∈ frIds fr ++ objIds st → i ∈ M0 ∨ i ∈ keysN st

theorem frIds_repl (t : Nat) (u : U) (id : Nat) : ∀ fr : Fr, id ∈ frIds (repl t u fr) → id ∈ frIds fr ∨ id ∈ u.ids
  | [], h => by simp [repl, frIds] at h
  | (j, x) :: r, h => by
    simp only [repl] at h
    by_cases hj : j = t
    · subst hj
      rw [Nat.beq_refl] at h
      simp only [cond_true, frIds, List.mem_append] at h ⊢
      rcases h with h | h
      · exact .inr h
      · exact .inl (.inr h)
    · rw [beq_false_of_ne hj] at h
      simp only [cond_false, frIds, List.mem_append] at h ⊢
      rcases h with h | h
      · exact .inl (.inl h)
      · rcases frIds_repl t u id r h with h | h
        · exact .inl (.inr h)
        · exact .inr h

theorem objIds_repl (t : Nat) (o : AObj) (id : Nat) : ∀ st : St, id ∈ objIds (repl t o st) → id ∈ objIds st ∨ id ∈ o.ids
  | [], h => by simp [repl, objIds] at h
  | (j, x) :: r, h => by
    simp only [repl] at h
    by_cases hj : j = t
    · subst hj
      rw [Nat.beq_refl] at h
      simp only [cond_true, objIds, List.mem_append] at h ⊢
      rcases h with h | h
      · exact .inr h
      · exact .inl (.inr h)
    · rw [beq_false_of_ne hj] at h
      simp only [cond_false, objIds, List.mem_append] at h ⊢
      rcases h with h | h
      · exact .inl (.inl h)
      · rcases objIds_repl t o id r h with h | h
        · exact .inl (.inr h)
        · exact .inr h

theorem objIds_append (a b : St) : objIds (a ++ b) = objIds a ++ objIds b := by
  induction a with
  | nil => rfl
  | cons p r ih => obtain ⟨i, o⟩ := p; simp [objIds, ih]

theorem mem_objIds_of {st : St} {i : Nat} {us : List U} (h : look i st = some (.cells us)) (id : Nat) (hid : id ∈ U.idsL us) : id ∈ objIds st := mem_objIds st id h hid

section
variable {K0 M0 ks : List Nat} (hnd : ks.Nodup) (hap : ∀ x, x ∈ ks → x ∉ K0 → x ∉ M0)
include hnd hap

theorem Names.fresh {fr : Fr} {st : St} (H : Names K0 M0 ks fr st) {b : Nat} (hb : ∃ ext, ks = (keysN st ++ [b]) ++ ext) : b ∉ keysN st ∧ b ∉ frIds fr ∧ b ∉ objIds st := by
  obtain ⟨ext, he⟩ := hb
  have h1 : b ∉ keysN st := fun hm => by
    rw [he, List.append_assoc, List.nodup_append] at hnd
    exact hnd.2.2 b hm b (by simp) rfl
  have h2 : b ∉ M0 := hap b (by rw [he]; simp) fun hk => h1 (H.old b hk)
  have h3 : b ∉ frIds fr ++ objIds st := fun hm => by
    rcases H.ments b hm with h | h
    · exact h2 h
    · exact h1 h
  simp only [List.mem_append, not_or] at h3
  exact ⟨h1, h3.1, h3.2⟩

theorem headSlot_at {fr : Fr} {st : St} {a : Act} {w : World} (A : At nt imm0 loc0 w0 fr st a w) (H : Names K0 M0 ks fr st) {t b : Nat} {k : Bool} {u : U} (hu : look t fr = some u) (hb : 2000 ≤ b) (hks : ∃ ext, ks = keysN (headBuf k b u st).2 ++ ext) :
    At nt imm0 loc0 w0 (repl t (headBuf k b u st).1 fr) (headBuf k b u st).2 a w ∧ Names K0 M0 ks (repl t (headBuf k b u st).1 fr) (headBuf k b u st).2 := by
  have hself : ∀ q, look q (repl t u fr) = look q fr := fun q => by
    rw [look_repl]
    by_cases hq : q = t
    · subst hq; rw [if_pos rfl, hu]; rfl
    · rw [if_neg hq]
  have hids : ∀ id, id ∈ u.ids → id ∈ frIds fr := fun id hid => mem_frIds fr id hu hid
  rcases headBuf_cases k b u st with ⟨S, S', wr, rfl, hS, he⟩ | ⟨id, S, wr, rfl, hS, he⟩ | he
  · rw [he] at hks ⊢
    simp only [keysN_append, keysN] at hks
    obtain ⟨f1, f2, f3⟩ := H.fresh hnd hap hks
    obtain ⟨imm, loc, hev, R, F, hdf, hsz⟩ := A
    obtain ⟨hlt, hrep⟩ := F.get t _ hu
    obtain ⟨av, n, cap, vals, hv, hn, hcap, _⟩ := hrep.slice_inv
    have hcn := hcap rfl
    subst hcn
    have hlb : look b st = none := look_none b st (by rw [← keysN_eq]; exact f1)
    rw [hv] at hrep
    have R' := R.addFull (b := b) (S' := S') (wr := wr) hrep hS hlb fun j x hj hx => f3 (mem_objIds st b hj hx)
    have hev' : Evolve imm loc w imm (swapLoc loc b (.full av cap) none) w := Evolve.growth (N := [b]) ⟨fun j hj => by
        simp only [List.mem_singleton] at hj
        simp [swapLoc, hj], fun j hj => by
        simp only [List.mem_singleton] at hj
        subst hj
        refine ⟨?_, fun l hl => ?_⟩
        · cases hl : loc j with
          | none => rfl
          | some l => obtain ⟨o, ho⟩ := R.dom j l hl; simp only [hlb] at ho; cases ho
        · simp [swapLoc] at hl; subst hl; rfl⟩ fun n hn => by
        simp only [List.mem_singleton] at hn
        subst hn
        exact notParam_ge hb (Nat.le_refl _)
    refine ⟨⟨imm, _, hev.trans hev', R'.same fun i => ?_, ⟨fun q x hq => ?_⟩, hdf, hsz⟩, ⟨?_, ?_, ?_⟩⟩
    · rw [look_append]
      by_cases hib : i = b
      · subst hib; simp [hlb, look]
      · rw [if_neg hib]; simp [look, beq_false_of_ne (Ne.symm hib)]
    · rw [look_repl] at hq
      by_cases hqt : q = t
      · subst hqt
        rw [if_pos rfl, hu] at hq
        cases hq
        refine ⟨hlt, ?_⟩
        rw [hv]
        exact .gslF b cap av (by simp [swapLoc])
      · rw [if_neg hqt] at hq
        obtain ⟨h1, h2⟩ := F.get q x hq
        exact ⟨h1, h2.off fun hx => f2 (mem_frIds fr b hq hx)⟩
    · obtain ⟨ext, hx⟩ := hks
      exact ⟨ext, by rw [keysN_append]; exact hx⟩
    · intro i hi; rw [keysN_append]; exact List.mem_append_left _ (H.old i hi)
    · intro i hi
      rw [keysN_append]
      rcases List.mem_append.1 hi with h | h
      · rcases frIds_repl t _ i fr h with h | h
        · rcases H.ments i (List.mem_append_left _ h) with h | h
          · exact .inl h
          · exact .inr (List.mem_append_left _ h)
        · simp only [U.ids, List.mem_singleton] at h
          subst h
          exact .inr (by simp [keysN])
      · rw [objIds_append] at h
        have : objIds [(b, AObj.gbuf S' wr)] = [] := rfl
        rw [this, List.append_nil] at h
        rcases H.ments i (List.mem_append_right _ h) with h | h
        · exact .inl h
        · exact .inr (List.mem_append_left _ h)
  · rw [he] at hks ⊢
    obtain ⟨imm, loc, hev, R, F, hdf, hsz⟩ := A
    refine ⟨⟨imm, loc, hev, (R.weakBuf hS).same fun i => ?_, ⟨fun q x hq => F.get q x (by rw [← hself q]; exact hq)⟩, hdf, hsz⟩, ⟨?_, ?_, ?_⟩⟩
    · rw [look_repl, hS]; rfl
    · obtain ⟨ext, hx⟩ := hks; exact ⟨ext, hx⟩
    · intro i hi; rw [keysN_repl]; exact H.old i hi
    · intro i hi
      rw [keysN_repl]
      rcases List.mem_append.1 hi with h | h
      · rcases frIds_repl t _ i fr h with h | h
        · exact H.ments i (List.mem_append_left _ h)
        · exact H.ments i (List.mem_append_left _ (hids i h))
      · rcases objIds_repl _ _ i st h with h | h
        · exact H.ments i (List.mem_append_right _ h)
        · simp [AObj.ids] at h
  · rw [he] at hks ⊢
    refine ⟨A.same hself, ⟨hks, H.old, fun i hi => ?_⟩⟩
    rcases List.mem_append.1 hi with h | h
    · rcases frIds_repl t _ i fr h with h | h
      · exact H.ments i (List.mem_append_left _ h)
      · exact H.ments i (List.mem_append_left _ (hids i h))
    · exact H.ments i (List.mem_append_right _ h)

theorem headCell_at {fr : Fr} {st : St} {a : Act} {w : World} (A : At nt imm0 loc0 w0 fr st a w) (H : Names K0 M0 ks fr st) {id off b : Nat} {k : Bool} {us : List U} (hu : look id st = some (.cells us)) (hb : 2000 ≤ b)
    (hks : ∃ ext, ks = keysN (repl id (.cells (us.set off (headBuf k b (us.getD off .undef) st).1)) (headBuf k b (us.getD off .undef) st).2) ++ ext) :
    At nt imm0 loc0 w0 fr (repl id (.cells (us.set off (headBuf k b (us.getD off .undef) st).1)) (headBuf k b (us.getD off .undef) st).2) a w ∧
      Names K0 M0 ks fr (repl id (.cells (us.set off (headBuf k b (us.getD off .undef) st).1)) (headBuf k b (us.getD off .undef) st).2) := by
  rw [keysN_repl] at hks
  have hids : ∀ i, i ∈ (us.getD off .undef).ids → i ∈ objIds st := fun i hi => mem_objIds_of hu i (idsL_getD us off hi)
  have hsame : us.set off (us.getD off .undef) = us := by
    apply List.ext_getElem?
    intro q
    by_cases hq : off = q
    · subst hq
      by_cases hlt : off < us.length
      · simp [List.getD_eq_getElem?_getD, hlt]
      · rw [List.getElem?_eq_none (by simp; omega), List.getElem?_eq_none (by omega)]
    · rw [List.getElem?_set_ne hq]
  rcases headBuf_cases k b (us.getD off .undef) st with ⟨S, S', wr, hsl, hS, he⟩ | ⟨j, S, wr, hsl, hS, he⟩ | he
  · rw [he] at hks ⊢
    simp only [keysN_append, keysN] at hks
    obtain ⟨f1, f2, f3⟩ := H.fresh hnd hap hks
    have hoff : off < us.length := by
      rcases Nat.lt_or_ge off us.length with h | h
      · exact h
      · rw [List.getD_eq_getElem?_getD, List.getElem?_eq_none h] at hsl; cases hsl
    obtain ⟨imm, loc, hev, R, F, hdf, hsz⟩ := A
    obtain ⟨l, hl, hr⟩ := R.objs id _ hu
    cases hr with
    | cells _ bl c e h1 h2 h3 =>
      have hrep := h3 off (by omega)
      rw [hsl] at hrep
      obtain ⟨av, n, cap, vals, hv, hn, hcap, _⟩ := hrep.slice_inv
      have hcn := hcap rfl
      subst hcn
      have hlb : look b st = none := look_none b st (by rw [← keysN_eq]; exact f1)
      have hidb : id ≠ b := fun h => by rw [h, hlb] at hu; cases hu
      have hrep' := hrep
      rw [hv] at hrep'
      have R' := R.addFull (b := b) (S' := S') (wr := wr) hrep' hS hlb fun j x hj hx => f3 (mem_objIds st b hj hx)
      have R'' := R'.setCell (i := id) (k := off) (us := us) (u' := .gsl b) (by rw [if_neg hidb]; exact hu) (fun bl' c' e' hl' hb' _ => by
        simp only [swapLoc, if_neg hidb, reduceCtorEq, if_false] at hl'
        rw [hl] at hl'; cases hl'
        rw [h1] at hb'; cases hb'
        rw [hv]
        exact .gslF b cap av (by simp [swapLoc]))
      have hev' : Evolve imm loc w imm (swapLoc loc b (.full av cap) none) w := Evolve.growth (N := [b]) ⟨fun j hj => by
          simp only [List.mem_singleton] at hj
          simp [swapLoc, hj], fun j hj => by
          simp only [List.mem_singleton] at hj
          subst hj
          refine ⟨?_, fun l hl => ?_⟩
          · cases hl : loc j with
            | none => rfl
            | some l => obtain ⟨o, ho⟩ := R.dom j l hl; simp only [hlb] at ho; cases ho
          · simp [swapLoc] at hl; subst hl; rfl⟩ fun n hn => by
          simp only [List.mem_singleton] at hn
          subst hn
          exact notParam_ge hb (Nat.le_refl _)
      refine ⟨⟨imm, _, hev.trans hev', R''.same fun i => ?_, ⟨fun q x hq => ?_⟩, hdf, hsz⟩, ⟨?_, ?_, ?_⟩⟩
      · rw [look_repl, look_append, look_append]
        by_cases hid : i = id
        · subst hid; simp [hu]
        · rw [if_neg hid, if_neg hid]
          by_cases hib : i = b
          · subst hib; simp [hlb, look]
          · rw [if_neg hib]; simp [look, beq_false_of_ne (Ne.symm hib)]
      · obtain ⟨h1, h2⟩ := F.get q x hq
        exact ⟨h1, h2.off fun hx => f2 (mem_frIds fr b hq hx)⟩
      · obtain ⟨ext, hx⟩ := hks
        exact ⟨ext, by rw [keysN_repl, keysN_append]; exact hx⟩
      · intro i hi; rw [keysN_repl, keysN_append]; exact List.mem_append_left _ (H.old i hi)
      · intro i hi
        rw [keysN_repl, keysN_append]
        have up : (i ∈ M0 ∨ i ∈ keysN st) → i ∈ M0 ∨ i ∈ keysN st ++ keysN [(b, AObj.gbuf S' wr)] := fun h => h.imp (fun h => h) fun h => List.mem_append_left _ h
        rcases List.mem_append.1 hi with h | h
        · exact up (H.ments i (List.mem_append_left _ h))
        · rcases objIds_repl _ _ i _ h with h | h
          · rw [objIds_append] at h
            have : objIds [(b, AObj.gbuf S' wr)] = [] := rfl
            rw [this, List.append_nil] at h
            exact up (H.ments i (List.mem_append_right _ h))
          · rcases idsL_set us off _ i h with h | h
            · exact up (H.ments i (List.mem_append_right _ (mem_objIds_of hu i h)))
            · simp only [U.ids, List.mem_singleton] at h
              subst h
              exact .inr (by simp [keysN])
  · rw [he] at hks ⊢
    simp only [hsame]
    have hjid : id ≠ j := fun h => by rw [h, hS] at hu; cases hu
    obtain ⟨imm, loc, hev, R, F, hdf, hsz⟩ := A
    refine ⟨⟨imm, loc, hev, (R.weakBuf hS).same fun i => ?_, F, hdf, hsz⟩, ⟨?_, ?_, ?_⟩⟩
    · rw [look_repl, look_repl, look_repl]
      by_cases hid : i = id
      · subst hid; rw [if_pos rfl, if_neg hjid, if_neg hjid, hu]; rfl
      · rw [if_neg hid, hS]; rfl
    · obtain ⟨ext, hx⟩ := hks; exact ⟨ext, by rw [keysN_repl]; exact hx⟩
    · intro i hi; rw [keysN_repl, keysN_repl]; exact H.old i hi
    · intro i hi
      rw [keysN_repl, keysN_repl]
      rcases List.mem_append.1 hi with h | h
      · exact H.ments i (List.mem_append_left _ h)
      · rcases objIds_repl _ _ i _ h with h | h
        · rcases objIds_repl _ _ i st h with h | h
          · exact H.ments i (List.mem_append_right _ h)
          · simp [AObj.ids] at h
        · exact H.ments i (List.mem_append_right _ (mem_objIds_of hu i h))
  · rw [he] at hks ⊢
    simp only [hsame]
    obtain ⟨imm, loc, hev, R, F, hdf, hsz⟩ := A
    refine ⟨⟨imm, loc, hev, R.same fun i => ?_, F, hdf, hsz⟩, ⟨by rw [keysN_repl]; exact hks, fun i hi => by rw [keysN_repl]; exact H.old i hi, fun i hi => ?_⟩⟩
    · rw [look_repl]
      by_cases hid : i = id
      · subst hid; rw [if_pos rfl, hu]; rfl
      · rw [if_neg hid]
    · rw [keysN_repl]
      rcases List.mem_append.1 hi with h | h
      · exact H.ments i (List.mem_append_left _ h)
      · rcases objIds_repl _ _ i _ h with h | h
        · exact H.ments i (List.mem_append_right _ h)
        · exact H.ments i (List.mem_append_right _ (mem_objIds_of hu i h))
end

theorem headBuf_keys (k : Bool) (b : Nat) (u : U) (st : St) : ∃ ext, keysN (headBuf k b u st).2 = keysN st ++ ext := by
  rcases headBuf_cases k b u st with ⟨S, S', wr, _, _, he⟩ | ⟨id, S, wr, _, _, he⟩ | he
  · rw [he]; exact ⟨_, keysN_append _ _⟩
  · rw [he]; exact ⟨[], by rw [keysN_repl]; simp⟩
  · rw [he]; exact ⟨[], by simp⟩

theorem growSlots_keys : ∀ (l : List (Nat × Bool)) (b : Nat) (fr : Fr) (st : St), ∃ ext, keysN (growSlots b l fr st).2 = keysN st ++ ext
  | [], _, _, st => ⟨[], by simp [growSlots]⟩
  | (t, k) :: r, b, fr, st => by
    simp only [growSlots]
    split
    · rename_i u hu
      obtain ⟨e1, h1⟩ := headBuf_keys k b u st
      obtain ⟨e2, h2⟩ := growSlots_keys r (b + 1) (repl t (headBuf k b u st).1 fr) (headBuf k b u st).2
      exact ⟨e1 ++ e2, by rw [h2, h1, List.append_assoc]⟩
    · exact growSlots_keys r (b + 1) fr st

theorem growObjs_keys : ∀ (l : List (Nat × Nat × Bool)) (b : Nat) (st : St), ∃ ext, keysN (growObjs b l st) = keysN st ++ ext
  | [], _, st => ⟨[], by simp [growObjs]⟩
  | (id, off, k) :: r, b, st => by
    simp only [growObjs]
    split
    · rename_i us hu
      obtain ⟨e1, h1⟩ := headBuf_keys k b (us.getD off .undef) st
      obtain ⟨e2, h2⟩ := growObjs_keys r (b + 1) (repl id (.cells (us.set off (headBuf k b (us.getD off .undef) st).1)) (headBuf k b (us.getD off .undef) st).2)
      exact ⟨e1 ++ e2, by rw [h2, keysN_repl, h1, List.append_assoc]⟩
    · exact growObjs_keys r (b + 1) st

section
variable {K0 M0 ks : List Nat} (hnd : ks.Nodup) (hap : ∀ x, x ∈ ks → x ∉ K0 → x ∉ M0)
include hnd hap

theorem growSlots_at : ∀ (l : List (Nat × Bool)) (b : Nat) (fr : Fr) (st : St) (a : Act) (w : World), 2000 ≤ b → At nt imm0 loc0 w0 fr st a w → Names K0 M0 ks fr st → (∃ ext, ks = keysN (growSlots b l fr st).2 ++ ext) →
    At nt imm0 loc0 w0 (growSlots b l fr st).1 (growSlots b l fr st).2 a w ∧ Names K0 M0 ks (growSlots b l fr st).1 (growSlots b l fr st).2
  | [], _, _, _, _, _, _, A, H, _ => ⟨A, H⟩
  | (t, k) :: r, b, fr, st, a, w, hb, A, H, hks => by
    simp only [growSlots] at hks ⊢
    cases hu : look t fr with
    | none =>
      rw [hu] at hks
      exact growSlots_at r (b + 1) fr st a w (by omega) A H hks
    | some u =>
      rw [hu] at hks
      simp only at hks ⊢
      obtain ⟨e2, h2⟩ := growSlots_keys r (b + 1) (repl t (headBuf k b u st).1 fr) (headBuf k b u st).2
      have hks' : ∃ ext, ks = keysN (headBuf k b u st).2 ++ ext := by
        obtain ⟨ext, he⟩ := hks
        exact ⟨e2 ++ ext, by rw [he, h2, List.append_assoc]⟩
      obtain ⟨A', H'⟩ := headSlot_at hnd hap A H hu hb hks'
      exact growSlots_at r (b + 1) _ _ a w (by omega) A' H' hks

theorem growObjs_at : ∀ (l : List (Nat × Nat × Bool)) (b : Nat) (fr : Fr) (st : St) (a : Act) (w : World), 2000 ≤ b → At nt imm0 loc0 w0 fr st a w → Names K0 M0 ks fr st → (∃ ext, ks = keysN (growObjs b l st) ++ ext) →
    At nt imm0 loc0 w0 fr (growObjs b l st) a w
  | [], _, _, _, _, _, _, A, _, _ => A
  | (id, off, k) :: r, b, fr, st, a, w, hb, A, H, hks => by
    simp only [growObjs] at hks ⊢
    split
    · rename_i us hu
      rw [hu] at hks
      simp only at hks
      obtain ⟨e2, h2⟩ := growObjs_keys r (b + 1) (repl id (.cells (us.set off (headBuf k b (us.getD off .undef) st).1)) (headBuf k b (us.getD off .undef) st).2)
      have hks' : ∃ ext, ks = keysN (repl id (.cells (us.set off (headBuf k b (us.getD off .undef) st).1)) (headBuf k b (us.getD off .undef) st).2) ++ ext := by
        obtain ⟨ext, he⟩ := hks
        exact ⟨e2 ++ ext, by rw [he, h2, List.append_assoc]⟩
      obtain ⟨A', H'⟩ := headCell_at hnd hap A H hu hb hks'
      exact growObjs_at r (b + 1) fr _ a w (by omega) A' H' hks
    · rename_i hno
      have hks' : ∃ ext, ks = keysN (growObjs (b + 1) r st) ++ ext := by
        obtain ⟨ext, he⟩ := hks
        refine ⟨ext, ?_⟩
        rw [he]
        congr 2
        split
        · rename_i us hu; exact absurd hu (hno us)
        · rfl
      exact growObjs_at r (b + 1) fr st a w (by omega) A H hks'
end

theorem headOf_at {h : Head} {fr : Fr} {st : St} {k : Fr → St → Out} {out : Out} (hh : headOf h fr st k = out) (hne : out ≠ .fail) {a : Act} {w : World} (A : At nt imm0 loc0 w0 fr st a w) (hk : ∀ t, t ∈ h.keep → t < nt) :
    ∃ fr' st', At nt imm0 loc0 w0 fr' st' a w ∧ k fr' st' = out := by
  unfold headOf at hh
  simp only at hh
  cases hok : grownOK (keysN st) (keysN (growObjs 710000 h.cells (growSlots 700000 h.grow fr st).2)) (frIds fr ++ objIds st) with
  | false => rw [hok] at hh; exact absurd hh.symm hne
  | true =>
    rw [hok] at hh
    simp only [cond_true] at hh
    simp only [grownOK, Bool.and_eq_true, nodupN_iff] at hok
    obtain ⟨hnd, hap⟩ := hok
    have hap' : ∀ x, x ∈ keysN (growObjs 710000 h.cells (growSlots 700000 h.grow fr st).2) → x ∉ keysN st → x ∉ frIds fr ++ objIds st := fun x hx hn =>
      apartN_spec _ _ hap x ((mem_notIn _ x _).2 ⟨hx, hn⟩)
    obtain ⟨e1, h1⟩ := growSlots_keys h.grow 700000 fr st
    obtain ⟨e2, h2⟩ := growObjs_keys h.cells 710000 (growSlots 700000 h.grow fr st).2
    have H : Names (keysN st) (frIds fr ++ objIds st) (keysN (growObjs 710000 h.cells (growSlots 700000 h.grow fr st).2)) fr st :=
      ⟨⟨e1 ++ e2, by rw [h2, h1, List.append_assoc]⟩, fun _ h => h, fun _ h => .inl h⟩
    obtain ⟨A1, H1⟩ := growSlots_at hnd hap' h.grow 700000 fr st a w (by omega) A H ⟨e2, h2⟩
    have A2 := growObjs_at hnd hap' h.cells 710000 _ _ a w (by omega) A1 H1 ⟨[], by simp⟩
    exact canonFr_at hh hne A2 hk

end

end Go.Abs

/- Soundness of the abstract machine, part 34: bodies. -/
set_option linter.unusedSimpArgs false
namespace Go.Abs
open Go

theorem wp_loop_fuel {P : Program} {c : Code} {Q : Exit → Act → World → Prop} {a : Act} {w : World} (I : Nat → Act → World → Prop) (n : Nat) (h : I n a w) (h0 : ∀ a w, ¬ I 0 a w)
    (round : ∀ n a w, I (n + 1) a w → c.wp P (Exit.then (I n) Q) a w) : (Code.loop c).wp P Q a w := by
  intro b k cs
  have key : ∀ n a w, I n a w → ∃ e a' w', Q e a' w' ∧ Arrives P (lone (b.at a (.code c :: .inLoop c :: k)) cs w) b k cs e a' w' := by
    intro n
    induction n with
    | zero => intro a w hI; exact absurd hI (h0 a w)
    | succ n ih =>
      intro a w hI
      obtain ⟨e, a₁, w₁, hq, harr⟩ := round n a w hI b (.inLoop c :: k) cs
      cases e with
      | normal =>
        obtain ⟨e₂, a₂, w₂, hq₂, harr₂⟩ := ih a₁ w₁ hq
        exact ⟨e₂, a₂, w₂, hq₂, .of_steps (Steps.trans harr (.one step_inLoop)) harr₂⟩
      | exit id => exact ⟨_, a₁, w₁, hq, .pass (x := .inLoop c) rfl (fun _ _ => .inl (by simp)) harr⟩
      | goto l => exact ⟨_, a₁, w₁, hq, .pass (x := .inLoop c) rfl (fun _ _ => .inl (by simp)) harr⟩
      | ret => exact ⟨_, a₁, w₁, hq, .pass (x := .inLoop c) rfl (fun _ _ => .inl (by simp)) harr⟩
      | panic ch => exact ⟨_, a₁, w₁, hq, .pass (x := .inLoop c) rfl (fun _ _ => .inl (by simp)) harr⟩
      | outgrown => exact ⟨_, a₁, w₁, hq, .pass (x := .inLoop c) rfl (fun _ _ => .inl (by simp)) harr⟩
  obtain ⟨e, a', w', hq, harr⟩ := key n a w h
  exact ⟨e, a', w', hq, .of_steps (.one step_loop) harr⟩

section
variable (nt : Nat) (imm0 : Imm) (loc0 : Locs) (w0 : World)

def Post (κ : K) (κp : KR) (out : Out) : Exit → Act → World → Prop
  | .normal, a, w => ∃ fr st, At nt imm0 loc0 w0 fr st a w ∧ κ .normal fr st = out
  | .exit id, a, w => ∃ fr st, At nt imm0 loc0 w0 fr st a w ∧ κ (.exit id) fr st = out
  | .ret, a, w => ∃ fr st, At nt imm0 loc0 w0 fr st a w ∧ κ .ret fr st = out
  | .panic ch, a, w => a.defers = [] ∧ ∃ u st v, ch = [{ v, recovered := false }] ∧ Pan imm0 loc0 w0 u st v w ∧ κp u st = out
  | _, _, _ => False
end

/-- a typed loop goes the loop's way -/
def LoopOK (c : FCtx) (id : Nat) (h : Head) (body : Code) (f : Fr → St → K → KR → Out) : Prop :=
  ∃ (F : Nat → Fr → St → K → KR → Out) (n : Nat), f = F n ∧ (∀ fr st κ κp, F 0 fr st κ κp = .fail) ∧
    ∀ k fr st κ κp, F (k + 1) fr st κ κp ≠ .fail → loopStep (exec c body) id (some h) κ κp (fun fr st => F k fr st κ κp) fr st = F (k + 1) fr st κ κp

/-- a typed part goes the part's way -/
def SectOK (c : FCtx) (h : Head) (a : Code) (f : Fr → St → K → KR → Out) : Prop := ∀ fr st κ κp, f fr st κ κp ≠ .fail → exec c a fr st (sectEnd h κ) κp = f fr st κ κp

def SectsOK (c : FCtx) (code : Code) : Prop := ∀ k a, (k, a) ∈ sectsOf code → ∀ h f, look k c.sects = some h → c.sectT k = some f → SectOK c h a f

def LoopsOK (c : FCtx) (code : Code) : Prop := ∀ id b, (id, b) ∈ loopsOf code → ∀ h f, look id c.heads = some h → c.loops id = some f → LoopOK c id h b f

section
variable {P : Program} {env : Env} (E : EnvOK P env) {c : FCtx} (hc : c.env = env) (hT : TableOK P env c.tab) {nt : Nat} {imm0 : Imm} {loc0 : Locs} {w0 : World} (hG : GlobOK imm0 env) (hH : headsOK nt c.heads = true) (hX : headsOK nt c.sects = true)

include hX in
theorem sect_wp {a : Code} {κ : K} {κp : KR} {out : Out} (hne : out ≠ .fail)
    (hrec : ∀ κ' fr st ac w, At nt imm0 loc0 w0 fr st ac w → exec c a fr st κ' κp = out → a.wp P (Post nt imm0 loc0 w0 κ' κp out) ac w)
    (hs : ∀ k h f, sectKey a = some k → look k c.sects = some h → c.sectT k = some f → SectOK c h a f)
    {fr : Fr} {st : St} {ac : Act} {w : World} (A : At nt imm0 loc0 w0 fr st ac w) (h : sectOr c a (exec c a) fr st κ κp = out) : a.wp P (Post nt imm0 loc0 w0 κ κp out) ac w := by
  unfold sectOr at h
  cases hk : sectKey a with
  | none => rw [hk] at h; exact hrec _ fr st ac w A h
  | some k =>
    rw [hk] at h
    simp only at h
    cases hl : look k c.sects with
    | none => rw [hl] at h; exact hrec _ fr st ac w A h
    | some hd =>
      rw [hl] at h
      simp only at h
      have hb := headsOK_look hX k hd hl
      obtain ⟨fr', st', A', h2⟩ := canonFr_at h hne A hb.1
      have h3 : exec c a fr' st' (sectEnd hd κ) κp = out := by
        cases hf : c.sectT k with
        | none => rw [hf] at h2; exact h2
        | some f =>
          rw [hf] at h2
          rw [hs k hd f hk hl hf fr' st' κ κp (by simp only at h2; rw [h2]; exact hne)]
          exact h2
      refine wp_mono (hrec _ fr' st' ac w A' h3) fun e a' w' he => ?_
      cases e with
      | normal =>
        obtain ⟨fr1, st1, A1, h4⟩ := he
        exact canonFr_at h4 hne A1 hb.2.1
      | exit j =>
        obtain ⟨fr1, st1, A1, h4⟩ := he
        exact absurd h4.symm hne
      | ret =>
        obtain ⟨fr1, st1, A1, h4⟩ := he
        exact canonFr_at h4 hne A1 hb.2.2
      | panic ch => exact he
      | goto l => exact he
      | outgrown => exact he

include hH

/-- a loop, by whatever follows its rounds -/
theorem loop_wp {body : Code} {id : Nat} {h : Option Head} (hh : ∀ x, h = some x → look id c.heads = some x) {κ : K} {κp : KR} {out : Out} (hne : out ≠ .fail)
    (hbody : ∀ κ' fr st a w, At nt imm0 loc0 w0 fr st a w → exec c body fr st κ' κp = out → body.wp P (Post nt imm0 loc0 w0 κ' κp out) a w)
    (F : Nat → Fr → St → Out) (hF0 : ∀ fr st, F 0 fr st = .fail) (hF : ∀ k fr st, F (k + 1) fr st = out → loopStep (exec c body) id h κ κp (F k) fr st = out)
    {n : Nat} {fr : Fr} {st : St} {a : Act} {w : World} (A : At nt imm0 loc0 w0 fr st a w) (hrun : F n fr st = out) : (Code.block id (.loop body)).wp P (Post nt imm0 loc0 w0 κ κp out) a w := by
  refine wp_block (wp_loop_fuel (fun k a w => ∃ fr st, At nt imm0 loc0 w0 fr st a w ∧ F k fr st = out) n ⟨fr, st, A, hrun⟩ (fun a w ⟨fr, st, _, h0⟩ => hne (by rw [← h0, hF0])) fun k a w ⟨fr, st, A, hk⟩ => ?_)
  have h1 := hF k fr st hk
  unfold loopStep at h1
  refine wp_mono (hbody _ fr st a w A h1) fun e a' w' he => ?_
  cases e with
  | normal =>
    obtain ⟨fr', st', A', h2⟩ := he
    cases h with
    | none => exact ⟨fr', st', A', h2⟩
    | some x => exact headOf_at h2 hne A' (headsOK_look hH id x (hh x rfl)).1
  | exit j =>
    obtain ⟨fr', st', A', h2⟩ := he
    show Exit.inBlock id (Post nt imm0 loc0 w0 κ κp out) (.exit j) a' w'
    simp only [Exit.inBlock]
    cases h with
    | none =>
      simp only at h2
      by_cases hj : j = id
      · subst hj
        rw [Nat.beq_refl] at h2
        rw [if_pos rfl]
        exact ⟨fr', st', A', h2⟩
      · rw [beq_false_of_ne hj] at h2
        rw [if_neg hj]
        exact ⟨fr', st', A', h2⟩
    | some x =>
      simp only at h2
      by_cases hj : j = id
      · subst hj
        rw [Nat.beq_refl] at h2
        rw [if_pos rfl]
        exact canonFr_at h2 hne A' (headsOK_look hH _ x (hh x rfl)).2.1
      · rw [beq_false_of_ne hj] at h2
        exact absurd h2.symm hne
  | ret =>
    obtain ⟨fr', st', A', h2⟩ := he
    cases h with
    | none => exact ⟨fr', st', A', h2⟩
    | some x => exact canonFr_at h2 hne A' (headsOK_look hH id x (hh x rfl)).2.2
  | panic ch => exact he
  | goto l => exact he.elim
  | outgrown => exact he.elim

omit hH in
theorem exec_block (b : Code) (hb : ∀ x, b ≠ .loop x) (id : Nat) (fr : Fr) (st : St) (κ : K) (κp : KR) : exec c (.block id b) fr st κ κp = exec c b fr st (fun ex fr st => match ex with
      | .exit j => bif Nat.beq j id then κ .normal fr st else κ (.exit j) fr st
      | ex => κ ex fr st) κp := by
  cases b <;> first
    | exact absurd rfl (hb _)
    | rfl
    | (simp only [exec])

omit hH in
theorem block_wp {b : Code} (hb : ∀ x, b ≠ .loop x) {id : Nat} {κ : K} {κp : KR} {out : Out} (hne : out ≠ .fail)
    (hrec : ∀ κ' fr st a w, At nt imm0 loc0 w0 fr st a w → exec c b fr st κ' κp = out → b.wp P (Post nt imm0 loc0 w0 κ' κp out) a w)
    {fr : Fr} {st : St} {a : Act} {w : World} (A : At nt imm0 loc0 w0 fr st a w) (h : exec c (.block id b) fr st κ κp = out) : (Code.block id b).wp P (Post nt imm0 loc0 w0 κ κp out) a w := by
  rw [exec_block b hb] at h
  refine wp_block (wp_mono (hrec _ fr st a w A h) fun e a' w' he => ?_)
  cases e with
  | normal => exact he
  | exit j =>
    obtain ⟨fr', st', A', h2⟩ := he
    show Exit.inBlock id (Post nt imm0 loc0 w0 κ κp out) (.exit j) a' w'
    simp only [Exit.inBlock]
    simp only at h2
    by_cases hj : j = id
    · subst hj
      rw [Nat.beq_refl] at h2
      rw [if_pos rfl]
      exact ⟨fr', st', A', h2⟩
    · rw [beq_false_of_ne hj] at h2
      rw [if_neg hj]
      exact ⟨fr', st', A', h2⟩
  | ret => exact he
  | panic ch => exact he
  | goto l => exact he
  | outgrown => exact he

include E hc hT hG hX in
theorem exec_wp : ∀ (code : Code), codeOK nt code = true → LoopsOK c code → SectsOK c code → ∀ (κ : K) (κp : KR) (out : Out), out ≠ .fail → ∀ (fr : Fr) (st : St) (a : Act) (w : World), At nt imm0 loc0 w0 fr st a w → exec c code fr st κ κp = out →
    code.wp P (Post nt imm0 loc0 w0 κ κp out) a w
  | .skip, _, _, _, κ, κp, out, hne, fr, st, a, w, A, h => wp_skip ⟨fr, st, A, by simpa only [exec] using h⟩
  | .region id ops draw, hok, _, _, κ, κp, out, hne, fr, st, a, w, A, h => by
    simp only [codeOK, Bool.and_eq_true] at hok
    simp only [exec] at h
    cases draw with
    | true =>
      simp only [cond_true] at h
      have hdo : drawOK ops.toList = true := by simpa using hok.2
      exact region_drawn_wp E hc hT hG hok.1 hdo A hne h (fun fr st a w A h => ⟨fr, st, A, h⟩) fun u st v a w hd hp h => ⟨hd, u, st, v, rfl, hp, h⟩
    | false =>
      simp only [cond_false] at h
      refine wp_region ?_
      rw [List.range_eq_range']
      have := execOps_wp (Q := Post nt imm0 loc0 w0 κ κp out) E hc hT hG hok.1 hne (fun fr st a w A h => ⟨fr, st, A, h⟩) (fun u st v a w hd hp h => ⟨hd, u, st, v, rfl, hp, h⟩) ops.toList 0 fr st a w rfl A h
      simpa using this
  | .seq x y, hok, hl, hs, κ, κp, out, hne, fr, st, a, w, A, h => by
    simp only [codeOK, Bool.and_eq_true] at hok
    simp only [exec] at h
    refine wp_seq (wp_mono (sect_wp hX hne (fun κ' fr st a w A h => exec_wp x hok.1 (fun id b hm => hl id b (by simp only [loopsOf, List.mem_append]; exact .inl hm)) (fun k a hm => hs k a (by simp only [sectsOf, List.mem_append]; exact .inr (.inl hm))) κ' κp out hne fr st a w A h)
      (fun k hd f hk => hs k x (by simp only [sectsOf, hk, List.mem_append, List.mem_singleton]; exact .inl trivial) hd f) A h) fun e a' w' he => ?_)
    cases e with
    | normal =>
      obtain ⟨fr', st', A', h2⟩ := he
      exact exec_wp y hok.2 (fun id b hm => hl id b (by simp only [loopsOf, List.mem_append]; exact .inr hm)) (fun k a hm => hs k a (by simp only [sectsOf, List.mem_append]; exact .inr (.inr hm))) κ κp out hne fr' st' a' w' A' h2
    | exit j => exact he
    | ret => exact he
    | panic ch => exact he
    | goto l => exact he
    | outgrown => exact he
  | .cond x y z, hok, hl, hs, κ, κp, out, hne, fr, st, a, w, A, h => by
    simp only [codeOK, Bool.and_eq_true] at hok
    simp only [exec] at h
    split at h
    · rename_i t ht
      obtain ⟨imm, loc, hev, R, F, hdf, hsz⟩ := A
      have hrep := evalO_rep E (hG.mono hev.grow) F 0 x
      rw [← hc, ht] at hrep
      have hv := hrep.bool_inv
      have hlit : ∀ q, look q (condLit x t fr) = look q fr := by
        intro q
        unfold condLit
        split
        · rename_i s
          simp only [evalO] at ht
          cases hs : look s fr with
          | none => rw [hs] at ht; cases ht
          | some u =>
            rw [hs] at ht
            simp only [Option.getD_some] at ht
            subst ht
            exact look_reput hs q
        · rfl
      have A' : At nt imm0 loc0 w0 (condLit x t fr) st a w := At.same ⟨imm, loc, hev, R, F, hdf, hsz⟩ hlit
      refine wp_cond hv ?_
      cases t with
      | true =>
        simp only [cond_true] at h
        exact exec_wp y hok.1 (fun id b hm => hl id b (by simp only [loopsOf, List.mem_append]; exact .inl hm)) (fun k a hm => hs k a (by simp only [sectsOf, List.mem_append]; exact .inl hm)) κ κp out hne _ st a w A' h
      | false =>
        simp only [cond_false] at h
        exact exec_wp z hok.2 (fun id b hm => hl id b (by simp only [loopsOf, List.mem_append]; exact .inr hm)) (fun k a hm => hs k a (by simp only [sectsOf, List.mem_append]; exact .inr hm)) κ κp out hne _ st a w A' h
    · exact absurd h.symm hne
  | .block id (.loop body), hok, hl, hs, κ, κp, out, hne, fr, st, a, w, A, h => by
    have hok' : codeOK nt body = true := by simpa only [codeOK] using hok
    have hl' : LoopsOK c body := fun id' b hm => hl id' b (by simp only [loopsOf]; exact List.mem_cons_of_mem _ hm)
    have hbody : ∀ κ' fr st a w, At nt imm0 loc0 w0 fr st a w → exec c body fr st κ' κp = out → body.wp P (Post nt imm0 loc0 w0 κ' κp out) a w :=
      fun κ' fr st a w A h => exec_wp body hok' hl' (fun k a hm => hs k a (by simpa only [sectsOf] using hm)) κ' κp out hne fr st a w A h
    simp only [exec] at h
    cases hhd : look id c.heads with
    | none =>
      rw [hhd] at h
      simp only at h
      exact loop_wp hH (h := none) (fun x hx => by cases hx) hne hbody (loopRun (exec c body) id none κ κp) (fun _ _ => rfl) (fun k fr st hk => hk) A h
    | some hd =>
      rw [hhd] at h
      cases hlp : c.loops id with
      | none =>
        rw [hlp] at h
        simp only at h
        obtain ⟨fr', st', A', h2⟩ := headOf_at h hne A (headsOK_look hH id hd hhd).1
        exact loop_wp hH (h := some hd) (fun x hx => by cases hx; exact hhd) hne hbody (loopRun (exec c body) id (some hd) κ κp) (fun _ _ => rfl) (fun k fr st hk => hk) A' h2
      | some f =>
        rw [hlp] at h
        simp only at h
        obtain ⟨fr', st', A', h2⟩ := headOf_at h hne A (headsOK_look hH id hd hhd).1
        obtain ⟨F, n, rfl, hF0, hF⟩ := hl id body (by simp [loopsOf]) hd f hhd hlp
        exact loop_wp hH (h := some hd) (fun x hx => by cases hx; exact hhd) hne hbody (fun k fr st => F k fr st κ κp) (fun fr st => hF0 fr st κ κp)
          (fun k fr st hk => by
            have := hF k fr st κ κp (by rw [hk]; exact hne)
            rw [this]; exact hk) A' h2
  | .block id (.skip), hok, hl, hs, κ, κp, out, hne, fr, st, a, w, A, h =>
    block_wp (fun _ h => by cases h) hne (fun κ' fr st a w A h => exec_wp (.skip) hok hl (fun k a hm => hs k a (by simpa only [sectsOf] using hm)) κ' κp out hne fr st a w A h) A h
  | .block id (.region i o d), hok, hl, hs, κ, κp, out, hne, fr, st, a, w, A, h =>
    block_wp (fun _ h => by cases h) hne (fun κ' fr st a w A h => exec_wp (.region i o d) hok hl (fun k a hm => hs k a (by simpa only [sectsOf] using hm)) κ' κp out hne fr st a w A h) A h
  | .block id (.seq x y), hok, hl, hs, κ, κp, out, hne, fr, st, a, w, A, h =>
    block_wp (fun _ h => by cases h) hne (fun κ' fr st a w A h => exec_wp (.seq x y) hok hl (fun k a hm => hs k a (by simpa only [sectsOf] using hm)) κ' κp out hne fr st a w A h) A h
  | .block id (.cond x y z), hok, hl, hs, κ, κp, out, hne, fr, st, a, w, A, h =>
    block_wp (fun _ h => by cases h) hne (fun κ' fr st a w A h => exec_wp (.cond x y z) hok hl (fun k a hm => hs k a (by simpa only [sectsOf] using hm)) κ' κp out hne fr st a w A h) A h
  | .block id (.block i x), hok, hl, hs, κ, κp, out, hne, fr, st, a, w, A, h =>
    block_wp (fun _ h => by cases h) hne (fun κ' fr st a w A h => exec_wp (.block i x) hok hl (fun k a hm => hs k a (by simpa only [sectsOf] using hm)) κ' κp out hne fr st a w A h) A h
  | .block id (.exit i), hok, hl, hs, κ, κp, out, hne, fr, st, a, w, A, h =>
    block_wp (fun _ h => by cases h) hne (fun κ' fr st a w A h => exec_wp (.exit i) hok hl (fun k a hm => hs k a (by simpa only [sectsOf] using hm)) κ' κp out hne fr st a w A h) A h
  | .block id (.ret), hok, hl, hs, κ, κp, out, hne, fr, st, a, w, A, h =>
    block_wp (fun _ h => by cases h) hne (fun κ' fr st a w A h => exec_wp (.ret) hok hl (fun k a hm => hs k a (by simpa only [sectsOf] using hm)) κ' κp out hne fr st a w A h) A h
  | .block id (.rangeFunc f ps x y), hok, hl, hs, κ, κp, out, hne, fr, st, a, w, A, h =>
    block_wp (fun _ h => by cases h) hne (fun κ' fr st a w A h => exec_wp (.rangeFunc f ps x y) hok hl (fun k a hm => hs k a (by simpa only [sectsOf] using hm)) κ' κp out hne fr st a w A h) A h
  | .block id (.scope x), hok, hl, hs, κ, κp, out, hne, fr, st, a, w, A, h =>
    block_wp (fun _ h => by cases h) hne (fun κ' fr st a w A h => exec_wp (.scope x) hok hl (fun k a hm => hs k a (by simpa only [sectsOf] using hm)) κ' κp out hne fr st a w A h) A h
  | .block id (.label i), hok, hl, hs, κ, κp, out, hne, fr, st, a, w, A, h =>
    block_wp (fun _ h => by cases h) hne (fun κ' fr st a w A h => exec_wp (.label i) hok hl (fun k a hm => hs k a (by simpa only [sectsOf] using hm)) κ' κp out hne fr st a w A h) A h
  | .block id (.goto i), hok, hl, hs, κ, κp, out, hne, fr, st, a, w, A, h =>
    block_wp (fun _ h => by cases h) hne (fun κ' fr st a w A h => exec_wp (.goto i) hok hl (fun k a hm => hs k a (by simpa only [sectsOf] using hm)) κ' κp out hne fr st a w A h) A h
  | .block id (.refuse s), hok, hl, hs, κ, κp, out, hne, fr, st, a, w, A, h =>
    block_wp (fun _ h => by cases h) hne (fun κ' fr st a w A h => exec_wp (.refuse s) hok hl (fun k a hm => hs k a (by simpa only [sectsOf] using hm)) κ' κp out hne fr st a w A h) A h
  | .exit id, _, _, _, κ, κp, out, hne, fr, st, a, w, A, h => wp_exit ⟨fr, st, A, by simpa only [exec] using h⟩
  | .ret, _, _, _, κ, κp, out, hne, fr, st, a, w, A, h => wp_ret ⟨fr, st, A, by simpa only [exec] using h⟩
  | .loop _, _, _, _, κ, κp, out, hne, fr, st, a, w, A, h => by simp only [exec] at h; exact absurd h.symm hne
  | .rangeFunc .., _, _, _, κ, κp, out, hne, fr, st, a, w, A, h => by simp only [exec] at h; exact absurd h.symm hne
  | .scope _, _, _, _, κ, κp, out, hne, fr, st, a, w, A, h => by simp only [exec] at h; exact absurd h.symm hne
  | .label _, _, _, _, κ, κp, out, hne, fr, st, a, w, A, h => by simp only [exec] at h; exact absurd h.symm hne
  | .goto _, _, _, _, κ, κp, out, hne, fr, st, a, w, A, h => by simp only [exec] at h; exact absurd h.symm hne
  | .refuse _, _, _, _, κ, κp, out, hne, fr, st, a, w, A, h => by simp only [exec] at h; exact absurd h.symm hne

end

end Go.Abs

/- Soundness of the abstract machine, part 35: the end of a call; a function's run. -/
set_option linter.unusedSimpArgs false
namespace Go.Abs
open Go

section
variable {imm : Imm} {loc : Locs} {w : World}

theorem growCells_names : ∀ (us : List U) (b n : Nat), n ∈ keysN (growCells b us).2 → b ≤ n
  | [], b, n, h => by simp [growCells, keysN] at h
  | u :: us, b, n, h => by
    unfold growCells at h
    cases hg : growU b u with
    | none => rw [hg] at h; exact growCells_names us b n h
    | some p =>
      rw [hg] at h
      simp only [keysN, List.mem_cons] at h
      rcases h with h | h
      · omega
      · have := growCells_names us (b + 1) n h; omega

theorem growNew_names (ids : List Nat) : ∀ (st : St) (b n : Nat), n ∈ growNew ids b st → b ≤ n
  | [], b, n, h => by simp [growNew] at h
  | (i, o) :: r, b, n, h => by
    simp only [growNew] at h
    cases he : elemN i ids with
    | false => rw [he] at h; exact growNew_names ids r b n h
    | true =>
      rw [he] at h
      simp only [cond_true] at h
      split at h
      · rename_i us
        rcases List.mem_append.1 h with h | h
        · exact growCells_names us b n h
        · have := growNew_names ids r _ n h; omega
      · exact growNew_names ids r b n h

theorem canonRet_rel {u : U} {st : St} {k : U → St → Out} {out : Out} (h : canonRet u st k = out) (hne : out ≠ .fail) (R : Rel imm loc (fun i => look i st) w) (hkeys : (keysN st).Nodup → ∀ p, p ∈ st → look p.1 st = some p.2) {v : Value} (hu : Rep imm loc u v) :
    ∃ loc' u' st', Evolve imm loc w imm loc' w ∧ Rel imm loc' (fun i => look i st') w ∧ Rep imm loc' u' v ∧ k u' st' = out := by
  unfold canonRet at h
  simp only at h
  obtain ⟨ids, hids⟩ : ∃ ids, ids = reachSt st (params st) := ⟨_, rfl⟩
  rw [← hids] at h
  obtain ⟨s, hs⟩ : ∃ s, s = growSt ids 730000 st := ⟨_, rfl⟩
  rw [← hs] at h
  obtain ⟨l, hl⟩ : ∃ l, l = reachSt s (u.ids ++ params s) := ⟨_, rfl⟩
  rw [← hl] at h
  obtain ⟨nm, hnm⟩ : ∃ nm, nm = newNames (fun i => notParam i || (isBuf (fun i => look i s) i && elemN i (u.ids ++ objIds s))) 500000 l := ⟨_, rfl⟩
  rw [← hnm] at h
  cases hok : (grownOK (keysN st) (keysN s) (u.ids ++ objIds st) && nodupN l && nodupN (sndN nm)) with
  | false => rw [hok] at h; exact absurd h.symm hne
  | true =>
    rw [hok] at h
    simp only [cond_true] at h
    simp only [Bool.and_eq_true, nodupN_iff, sndN_eq, grownOK] at hok
    obtain ⟨⟨⟨hnd, hap⟩, hln⟩, hn⟩ := hok
    have ho : (nm.map (·.1)).Nodup := by rw [hnm, newNames_map_fst]; exact hln
    have hfresh : ∀ n, n ∈ growNew ids 730000 st → n ∉ keysN st ∧ n ∉ u.ids ∧ n ∉ objIds st := fun n hn => by
      have h1 := growNew_fresh ids st 730000 n (by rw [← hs]; exact hnd) hn
      have h2 := apartN_spec _ _ hap n ((mem_notIn _ n _).2 ⟨by rw [hs]; exact growNew_keys _ _ _ n hn, h1⟩)
      simp only [List.mem_append, not_or] at h2
      exact ⟨h1, h2.1, h2.2⟩
    have hstn : (keysN st).Nodup := by
      have sub : ∀ (st : St) (b : Nat), (keysN (growSt ids b st)).Nodup → (keysN st).Nodup := by
        intro st
        induction st with
        | nil => intro b _; simp [keysN]
        | cons p r ih =>
          obtain ⟨q, x⟩ := p
          intro b hnd
          simp only [growSt] at hnd
          cases hq : elemN q ids with
          | false =>
            rw [hq] at hnd
            simp only [cond_false, keysN, List.nodup_cons] at hnd ⊢
            exact ⟨fun hm => hnd.1 (grow_old_keys ids r b q hm), ih b hnd.2⟩
          | true =>
            rw [hq] at hnd
            cases x with
            | cells us =>
              simp only [cond_true, List.cons_append, keysN, keysN_append, List.nodup_cons, List.nodup_append, List.mem_append, not_or] at hnd ⊢
              exact ⟨fun hm => hnd.1.2 (grow_old_keys ids r _ q hm), ih _ hnd.2.2.1⟩
            | gbuf S wr =>
              simp only [cond_true, keysN, List.nodup_cons] at hnd ⊢
              exact ⟨fun hm => hnd.1 (grow_old_keys ids r b q hm), ih b hnd.2⟩
            | iter s pos =>
              simp only [cond_true, keysN, List.nodup_cons] at hnd ⊢
              exact ⟨fun hm => hnd.1 (grow_old_keys ids r b q hm), ih b hnd.2⟩
            | map sg es =>
              simp only [cond_true, keysN, List.nodup_cons] at hnd ⊢
              exact ⟨fun hm => hnd.1 (grow_old_keys ids r b q hm), ih b hnd.2⟩
      exact sub st 730000 (by rw [← hs]; exact hnd)
    obtain ⟨loc1, g, R1⟩ := growSt_rel ids st 730000 loc _ R (hkeys hstn) (by rw [← hs]; exact hnd) fun n hn => by
      obtain ⟨h1, _, h3⟩ := hfresh n hn
      exact ⟨look_none n _ (by rw [← keysN_eq]; exact h1), fun j x hj hx => h3 (mem_objIds _ n hj hx)⟩
    rw [orLk_grow, ← hs] at R1
    have hu1 : Rep imm loc1 u v := hu.growth g fun id hid hN => (hfresh id hN).2.1 hid
    have he : (fun i => look i (weakSt (renameSt (nmTo nm) (fun i => look i s) nm))) = fun i => (nmLk nm (nmTo nm) (fun j => look j s) i).map AObj.weak := by
      funext j
      rw [look_weakSt, look_renameSt _ _ _ _ hn]
    refine ⟨nmLoc nm loc1, _, _, (Evolve.growth g fun n hn => notParam_ge (by omega) (growNew_names ids st 730000 n hn)).trans (Evolve.names fun i j hij => ?_), ?_, (hu1.turn (fun _ _ h => h) (TurnOK.names imm loc1 hn)).weak, h⟩
    · rw [hnm] at hij
      rcases newNames_mem _ _ _ _ _ hij with h1 | h1
      · exact .inl h1
      · exact .inr (notParam_ge (by omega) h1)
    · rw [he]
      exact (R1.rename hn ho).weakAll

theorem look_of_mem : ∀ (st : St), (keysN st).Nodup → ∀ p, p ∈ st → look p.1 st = some p.2
  | [], _, p, h => by simp at h
  | (i, o) :: r, hn, p, h => by
    simp only [keysN, List.nodup_cons] at hn
    simp only [look]
    rcases List.mem_cons.1 h with h1 | h1
    · subst h1; simp
    · have hne : i ≠ p.1 := fun hh => hn.1 (by rw [hh, keysN_eq]; exact List.mem_map.2 ⟨p, h1, rfl⟩)
      rw [beq_false_of_ne hne]
      exact look_of_mem r hn.2 p h1
end

section
variable {P : Program} {env : Env} (E : EnvOK P env) {nt : Nat} {imm0 : Imm} {loc0 : Locs} {w0 : World}

def resRun (tmps : Array Value) : ResultVar → Sem Value
  | .tmp t => pure (tmps.getD t undef)
  | .cell x t => do loadVar t (← asAddr (tmps.getD x undef))

include E in
theorem resOne_run {imm : Imm} {loc : Locs} {fr : Fr} {st : St} {a : Act} {w : World} (R : Rel imm loc (fun i => look i st) w) (F : FrRel imm loc fr a) (r : ResultVar) (hu : isUndef (resOne env fr st r) = false) :
    ∃ v, (resRun a.tmps r).run P w = .ok v w ∧ Rep imm loc (resOne env fr st r) v := by
  cases r with
  | tmp t =>
    refine ⟨_, rfl, ?_⟩
    simp only [resOne]
    cases h : look t fr with
    | none => exact .undef _
    | some u => exact (F.get t u h).2
  | cell t ty =>
    simp only [resOne] at hu ⊢
    cases hti : look ty env.tys with
    | none => rw [hti] at hu; simp [isUndef] at hu
    | some ti =>
      rw [hti] at hu
      cases hx : look t fr with
      | none => rw [hx] at hu; simp [isUndef] at hu
      | some x =>
        rw [hx] at hu
        simp only [Option.getD_some] at hu ⊢
        cases x with
        | ptr id off =>
          simp only at hu ⊢
          have hrx := (F.get t _ hx).2
          cases ho : look id st with
          | none => rw [ho] at hu; simp [isUndef] at hu
          | some o =>
            rw [ho] at hu
            cases o with
            | cells us =>
              simp only at hu ⊢
              cases hb : Nat.ble (off + ti.size) us.length with
              | false => rw [hb] at hu; simp [isUndef] at hu
              | true =>
                simp only [cond_true]
                have hl : loadEff env (fun i => look i st) ty (.ptr id off) = val (partU ti us off) := by simp only [loadEff, hti, ho, hb, cond_true]
                obtain ⟨_, _, v, hrun, hrep⟩ := loadEff_plain (P := P) E R (fun _ _ h => h) hrx hl rfl
                obtain ⟨b, hv⟩ := Rep.ptr_inv hrx
                rw [hv] at hrun
                refine ⟨v, ?_, hrep⟩
                have hrun2 : (resRun a.tmps (.cell t ty)).run P w = (loadVar ty ⟨b, off, none⟩).run P w := by simp only [resRun, hv]; rfl
                rw [hrun2]
                exact hrun
            | _ => simp [isUndef] at hu
        | _ => simp [isUndef] at hu

omit E in
theorem run_mapM_list {α β : Type} {f : α → Sem β} {w : World} : ∀ (l : List α) (g : α → β), (∀ x, x ∈ l → (f x).run P w = .ok (g x) w) → (l.mapM f).run P w = .ok (l.map g) w
  | [], g, _ => by simp
  | x :: r, g, h => by
    have h1 := h x (by simp)
    have h2 := run_mapM_list r g fun y hy => h y (by simp [hy])
    simp only [List.mapM_cons, Sem.run_bind, h1, Result.andThen_ok, h2, Sem.run_pure, List.map_cons]

theorem resAll_eq (env : Env) (fr : Fr) (st : St) : ∀ l : List ResultVar, resAll env fr st l = l.map (resOne env fr st)
  | [] => rfl
  | r :: rs => by simp [resAll, resAll_eq env fr st rs]

theorem anyUndef_mem : ∀ {l : List U}, anyUndef l = false → ∀ u, u ∈ l → isUndef u = false
  | [], _, u, h => by simp at h
  | x :: r, h, u, hu => by
    simp only [anyUndef, Bool.or_eq_false_iff] at h
    rcases List.mem_cons.1 hu with h1 | h1
    · subst h1; exact h.1
    · exact anyUndef_mem h.2 u h1

omit E in
theorem oneOf_one : ∀ {l : List U}, l.length = 1 → oneOf l = l.getD 0 .undef
  | [], h => by simp at h
  | [u], _ => rfl
  | _ :: _ :: _, h => by simp at h

theorem oneOf_many : ∀ {l : List U}, l.length ≠ 1 → oneOf l = .tup l
  | [], _ => rfl
  | [u], h => by simp at h
  | _ :: _ :: _, _ => rfl

include E in
theorem results_run {fn : Func} {imm : Imm} {loc : Locs} {fr : Fr} {st : St} {a : Act} {w : World} (R : Rel imm loc (fun i => look i st) w) (F : FrRel imm loc fr a) (hu : anyUndef (resAll env fr st fn.results.toList) = false) :
    ∃ v, (results fn a.tmps).run P w = .ok v w ∧ Rep imm loc (oneOf (resAll env fr st fn.results.toList)) v := by
  classical
  have hone : ∀ r, r ∈ fn.results.toList → ∃ v, (resRun a.tmps r).run P w = .ok v w ∧ Rep imm loc (resOne env fr st r) v := fun r hr =>
    resOne_run E R F r (anyUndef_mem hu _ (by rw [resAll_eq]; exact List.mem_map.2 ⟨r, hr, rfl⟩))
  let g : ResultVar → Value := fun r => if h : r ∈ fn.results.toList then Classical.choose (hone r h) else undef
  have hg : ∀ r (h : r ∈ fn.results.toList), (resRun a.tmps r).run P w = .ok (g r) w ∧ Rep imm loc (resOne env fr st r) (g r) := fun r h => by
    have := Classical.choose_spec (hone r h)
    simp only [g, dif_pos h]
    exact this
  have hm := run_mapM_list (P := P) (w := w) fn.results.toList g fun r hr => (hg r hr).1
  have hrun : (results fn a.tmps).run P w = .ok (if h : (fn.results.map g).size = 1 then (fn.results.map g)[0] else .tuple (fn.results.map g)) w := by
    have hdef : results fn a.tmps = (do let vs ← fn.results.mapM (resRun a.tmps); pure (if h : vs.size = 1 then vs[0] else .tuple vs)) := by
      rfl
    have hm2 : (fn.results.mapM (resRun a.tmps)).run P w = .ok (fn.results.map g) w := by
      rw [Array.mapM_eq_mapM_toList, ← bind_pure_comp, Sem.run_bind, hm]
      have he : (fn.results.toList.map g).toArray = fn.results.map g := by
        rw [← Array.toList_map, Array.toArray_toList]
      show Result.ok (fn.results.toList.map g).toArray w = _
      rw [he]
    rw [hdef, Sem.run_bind, hm2]
    rfl
  refine ⟨_, hrun, ?_⟩
  rw [resAll_eq]
  have hsz : (fn.results.map g).size = fn.results.toList.length := by simp
  have hi : ∀ i, i < fn.results.toList.length → Rep imm loc ((fn.results.toList.map (resOne env fr st)).getD i .undef) ((fn.results.map g).getD i undef) := fun i hlt => by
    have hlt' : i < fn.results.size := by simpa using hlt
    have := (hg fn.results.toList[i] (List.getElem_mem hlt)).2
    simpa [List.getD_eq_getElem?_getD, hlt'] using this
  by_cases h1 : (fn.results.map g).size = 1
  · rw [dif_pos h1]
    have h2 := hi 0 (by omega)
    rw [oneOf_one (by simpa using h1)]
    have h3 : (fn.results.map g).getD 0 undef = (fn.results.map g)[0] := by simp [Array.getD, h1]
    rw [h3] at h2
    exact h2
  · rw [dif_neg h1, oneOf_many (by simpa using h1)]
    exact .tup _ _ (by simp) fun i hlt => hi i (by rw [← hsz]; exact hlt)

include E in
theorem finish_rel {c : FCtx} (hc : c.env = env) {fn : Func} (hres : c.results = fn.results.toList) {ex : Ex} {fr : Fr} {st : St} {out : Out} (h : finish c ex fr st = out) (hne : out ≠ .fail) {a : Act} {w : World} (A : At nt imm0 loc0 w0 fr st a w) :
    (∀ id, ex ≠ .exit id) ∧ ∃ v, (results fn a.tmps).run P w = .ok v w ∧ ∃ u' st', out = .ret u' st' ∧ ∃ imm' loc', Evolve imm0 loc0 w0 imm' loc' w ∧ Rel imm' loc' (fun i => look i st') w ∧ Rep imm' loc' u' v := by
  unfold finish at h
  split at h
  · exact absurd h.symm hne
  · rename_i hex
    refine ⟨fun id he => hex id he, ?_⟩
    simp only at h
    rw [hres, hc] at h
    cases hu : anyUndef (resAll env fr st fn.results.toList) with
    | true => rw [hu] at h; exact absurd h.symm hne
    | false =>
      rw [hu] at h
      simp only [cond_false] at h
      split at h
      · rename_i tn htn
        obtain ⟨imm, loc, hev, R, F, hdf, hsz⟩ := A
        obtain ⟨v, hrun, hrep⟩ := results_run E R F hu
        have hF := (frozenOf_ok _ _ _ htn).1
        obtain ⟨imm1, loc1, hev1, R1, hturn, _, _⟩ := R.freeze hF
        have hrep1 := hrep.turn hev1.grow hturn
        rw [← look_eff] at R1
        obtain ⟨loc2, u', st', hev2, R2, hrep2, h2⟩ := canonRet_rel h hne R1 (fun hn => look_of_mem _ hn) hrep1
        exact ⟨v, hrun, u', st', h2.symm, imm1, loc2, (hev.trans hev1).trans hev2, R2, hrep2⟩
      · exact absurd h.symm hne

theorem look_argFr : ∀ (us : List U) (k t : Nat), look t (argFr k us) = if k ≤ t then us[t - k]? else none
  | [], k, t => by simp [argFr, look]
  | u :: us, k, t => by
    simp only [argFr, look]
    by_cases h : k = t
    · subst h; simp
    · rw [beq_false_of_ne h]
      simp only [cond_false, look_argFr us (k + 1) t]
      by_cases h2 : k ≤ t
      · rw [if_pos h2, if_pos (by omega)]
        have : t - k = (t - (k + 1)) + 1 := by omega
        rw [this]; simp
      · rw [if_neg h2, if_neg (by omega)]

theorem callFunc_enter {f : FuncId} {fn : Func} (hf : P.funcs[f]? = some fn) (hname : (fn.name == "runtime.NumGoroutine") = false) {code : Code} (hb : fn.body = some code) (vs : Array Value) (w : World) : (callFunc f vs).run P w = .ok (.enter f vs) w := by
  unfold callFunc
  rw [Sem.run_bind]
  have hp : (program).run P w = .ok P w := rfl
  rw [hp, Result.andThen_ok]
  simp only [hf, hname, hb, Option.isNone_some, Bool.false_eq_true, if_false]
  rfl

/-- what is asked of a function's text and context -/
structure FnOK (P : Program) (env : Env) (c : FCtx) (f : FuncId) (code : Code) : Prop where
  hfn : ∃ fn, P.funcs[f]? = some fn ∧ fn.body = some code ∧ (fn.name == "runtime.NumGoroutine") = false ∧ c.ntmps = fn.ntmps ∧ c.results = fn.results.toList
  henv : c.env = env
  hcode : codeOK c.ntmps code = true
  hheads : headsOK c.ntmps c.heads = true
  hsheads : headsOK c.ntmps c.sects = true
  hloops : LoopsOK c code
  hsects : SectsOK c code
  htab : TableOK P env c.tab

include E in
theorem body_answers {c : FCtx} {f : FuncId} {code : Code} (H : FnOK P env c f code) {us : List U} {st : St} (hlen : us.length ≤ c.ntmps) {pan : Bool} {u : U} {st' : St} (h : bodyRun c code us st = if pan then .pan u st' else .ret u st') : AnswersTo P env f us st pan u st' := by
  obtain ⟨fn, hf, hb, hname, hnt, hres⟩ := H.hfn
  intro imm loc w vs hG R hargs
  obtain ⟨out, hout⟩ : ∃ out : Out, out = if pan then .pan u st' else .ret u st' := ⟨_, rfl⟩
  have hne : out ≠ .fail := by rw [hout]; cases pan <;> simp
  rw [← hout] at h
  refine .inl ⟨callFunc_enter hf hname hb vs w, calls_of_wp hf hb ?_⟩
  have hsz : (vs ++ Array.replicate (fn.ntmps - vs.size) undef).size = c.ntmps := by
    have := hargs.1
    simp only [Array.size_append, Array.size_replicate]
    omega
  have A : At c.ntmps imm loc w (argFr 0 us) st { tmps := vs ++ Array.replicate (fn.ntmps - vs.size) undef, defers := [] } w := by
    refine ⟨imm, loc, Evolve.refl _ _ _, R, ⟨fun t x hx => ?_⟩, rfl, hsz⟩
    rw [look_argFr] at hx
    simp only [Nat.zero_le, if_true, Nat.sub_zero] at hx
    have hlt := (List.getElem?_eq_some_iff.1 hx).1
    have hl := hargs.1
    refine ⟨by simp only; omega, ?_⟩
    have h1 := hargs.2 t (by omega)
    have h2 : us.getD t .undef = x := by rw [List.getD_eq_getElem?_getD, hx]; rfl
    rw [h2] at h1
    have h3 : (vs ++ Array.replicate (fn.ntmps - vs.size) undef).getD t undef = vs.getD t undef := by simp [Array.getElem?_append_left (show t < vs.size by omega)]
    rw [h3]; exact h1
  refine wp_mono (exec_wp E H.henv H.htab hG H.hheads H.hsheads code H.hcode H.hloops H.hsects (finish c) finishP out hne _ st _ w A h) fun e a' w' he => ?_
  have fin : ∀ ex, (∃ fr st, At c.ntmps imm loc w fr st a' w' ∧ finish c ex fr st = out) → a'.defers = [] ∧ ∃ v, (results fn a'.tmps).run P w' = .ok v w' ∧
      ∃ imm' loc' v', Evolve imm loc w imm' loc' w' ∧ Rel imm' loc' (fun i => look i st') w' ∧ Rep imm' loc' u v' ∧ Ending.returned v = endOf pan v' := fun ex ⟨fr, st1, A', h2⟩ => by
    obtain ⟨_, v, hrun, u1, st1', h3, imm', loc', h4, h5, h6⟩ := finish_rel E H.henv hres h2 hne A'
    have hd : a'.defers = [] := by obtain ⟨_, _, _, _, _, hd, _⟩ := A'; exact hd
    rw [hout] at h3
    cases pan with
    | true => simp at h3
    | false =>
      simp only [Bool.false_eq_true, if_false, Out.ret.injEq] at h3
      obtain ⟨rfl, rfl⟩ := h3
      exact ⟨hd, v, hrun, imm', loc', v, h4, h5, h6, rfl⟩
  cases e with
  | normal => exact fin .normal he
  | ret => exact fin .ret he
  | exit j =>
    obtain ⟨fr, st1, A', h2⟩ := he
    exact absurd rfl ((finish_rel E H.henv hres h2 hne A').1 j)
  | panic ch =>
    obtain ⟨hd, u1, st1, v, rfl, ⟨imm', loc', h4, h5, h6⟩, h2⟩ := he
    refine ⟨hd, ?_⟩
    unfold finishP at h2
    obtain ⟨loc2, u', st2, hev2, R2, hrep2, h7⟩ := canonRet_rel h2 hne h5 (fun hn => look_of_mem _ hn) h6
    rw [hout] at h7
    cases pan with
    | false => simp at h7
    | true =>
      simp only [if_true, Out.pan.injEq] at h7
      obtain ⟨rfl, rfl⟩ := h7
      exact ⟨imm', loc2, v, h4.trans hev2, R2, hrep2, rfl⟩
  | goto l => exact he.elim
  | outgrown => exact he.elim

end

end Go.Abs

/- Soundness of the abstract machine, part 36: tables. -/
set_option linter.unusedSimpArgs false
namespace Go.Abs
open Go

def XOK (P : Program) (env : Env) (f : FuncId) (us : List U) (st : St) : CallX → Prop
  | .plain v r => ∀ a, v = some a → AnswersTo P env f us st false (r a).1 (r a).2
  | .pan v r p => (∀ a, v = some (.inl a) → AnswersTo P env f us st false (r a).1 (r a).2) ∧ ∀ b, v = some (.inr b) → AnswersTo P env f us st true (p b).1 (p b).2

def EntryOK (P : Program) (env : Env) (f : FuncId) (en : Entry) : Prop := ∀ us st, en us st = none ∨ ∃ x, en us st = some x ∧ XOK P env f us st x

theorem tableOf_ok {P : Program} {env : Env} {l : List (FuncId × Entry)} (H : ∀ p, p ∈ l → EntryOK P env p.1 p.2) : TableOK P env (tableOf l) := by
  intro f us st
  have mem : ∀ (l : List (FuncId × Entry)) en, look f l = some en → (f, en) ∈ l := by
    intro l
    induction l with
    | nil => intro en h; cases h
    | cons p r ih =>
      obtain ⟨g, e⟩ := p
      intro en h
      simp only [look] at h
      by_cases hg : g = f
      · subst hg; rw [Nat.beq_refl] at h; cases h; simp
      · rw [beq_false_of_ne hg] at h; exact List.mem_cons_of_mem _ (ih en h)
  unfold tableOf
  cases hl : look f l with
  | none => exact .inl fun _ _ => rfl
  | some en =>
    have hen : EntryOK P env f en := H _ (mem l en hl)
    simp only
    rcases hen us st with h | ⟨x, h, hx⟩
    · exact .inl fun _ _ => by rw [h]
    · cases x with
      | plain v r =>
        cases v with
        | none => exact .inl fun _ _ => by rw [h]; rfl
        | some a => exact .inr ⟨false, _, _, fun _ _ => by rw [h]; rfl, hx a rfl⟩
      | pan v r p =>
        cases v with
        | none => exact .inl fun _ _ => by rw [h]; rfl
        | some ab =>
          cases ab with
          | inl a => exact .inr ⟨false, _, _, fun _ _ => by rw [h]; rfl, hx.1 a rfl⟩
          | inr b => exact .inr ⟨true, _, _, fun _ _ => by rw [h]; rfl, hx.2 b rfl⟩

theorem look_or {α : Type} (id : Nat) (l m : List (Nat × α)) : look id (l ++ m) = (look id l).or (look id m) := look_append id l m

theorem loopIn_eq (id : Nat) : ∀ code : Code, loopIn id code = look id (loopsOf code)
  | .skip => rfl
  | .region .. => rfl
  | .seq x y => by
    simp only [loopIn, loopsOf, look_append, loopIn_eq id x, loopIn_eq id y]
    cases look id (loopsOf x) <;> rfl
  | .cond c x y => by
    simp only [loopIn, loopsOf, look_append, loopIn_eq id x, loopIn_eq id y]
    cases look id (loopsOf x) <;> rfl
  | .block i (.loop b) => by
    simp only [loopIn, loopsOf, look, loopIn_eq id b]
  | .block i .skip => rfl
  | .block i (.region ..) => rfl
  | .block i (.seq x y) => loopIn_eq id (.seq x y)
  | .block i (.cond c x y) => loopIn_eq id (.cond c x y)
  | .block i (.block j x) => loopIn_eq id (.block j x)
  | .block i (.exit _) => rfl
  | .block i .ret => rfl
  | .block i (.rangeFunc ..) => rfl
  | .block i (.scope _) => rfl
  | .block i (.label _) => rfl
  | .block i (.goto _) => rfl
  | .block i (.refuse _) => rfl
  | .loop b => by simp only [loopIn, loopsOf]; exact loopIn_eq id b
  | .exit _ => rfl
  | .ret => rfl
  | .rangeFunc .. => rfl
  | .scope _ => rfl
  | .label _ => rfl
  | .goto _ => rfl
  | .refuse _ => rfl

theorem look_mem_nodup {α : Type} {id : Nat} {b : α} : ∀ {l : List (Nat × α)}, (l.map (·.1)).Nodup → (id, b) ∈ l → look id l = some b
  | [], _, h => by simp at h
  | (i, x) :: r, hn, h => by
    simp only [List.map_cons, List.nodup_cons] at hn
    simp only [look]
    rcases List.mem_cons.1 h with h1 | h1
    · cases h1; simp
    · have hne : i ≠ id := fun hh => hn.1 (by rw [hh]; exact List.mem_map.2 ⟨(id, b), h1, rfl⟩)
      rw [beq_false_of_ne hne]
      exact look_mem_nodup hn.2 h1

theorem look_mem {α : Type} {id : Nat} {b : α} : ∀ {l : List (Nat × α)}, look id l = some b → (id, b) ∈ l
  | [], h => by cases h
  | (i, x) :: r, h => by
    simp only [look] at h
    by_cases hi : i = id
    · subst hi; rw [Nat.beq_refl] at h; cases h; simp
    · rw [beq_false_of_ne hi] at h; exact List.mem_cons_of_mem _ (look_mem h)

/-- the loops' numbers differ -/
def loopIds : Code → List Nat := fun c => (loopsOf c).map (·.1)

theorem loopsOK_of {c : FCtx} {code : Code} (hn : nodupN (loopIds code) = true) (h : ∀ p, p ∈ c.heads → ∀ f, c.loops p.1 = some f → LoopOK c p.1 p.2 (loopBody p.1 code) f) : LoopsOK c code := by
  intro id b hm hd f hhd hf
  have h1 : loopIn id code = some b := by
    rw [loopIn_eq]
    exact look_mem_nodup ((nodupN_iff _).1 hn) hm
  have h2 : loopBody id code = b := by simp only [loopBody, h1]
  have := h (id, hd) (look_mem hhd) f hf
  rw [h2] at this
  exact this

theorem loopsOK_none {c : FCtx} {code : Code} (h : ∀ i, c.loops i = none) : LoopsOK c code := fun id b _ hd f _ hf => by rw [h] at hf; cases hf

def sectIds : Code → List Nat := fun c => (sectsOf c).map (·.1)

theorem sectsOK_of {c : FCtx} {code : Code} (hn : nodupN (sectIds code) = true) (h : ∀ p, p ∈ c.sects → ∀ f, c.sectT p.1 = some f → SectOK c p.2 (sectBody p.1 code) f) : SectsOK c code := by
  intro k b hm hd f hhd hf
  have h1 : look k (sectsOf code) = some b := look_mem_nodup ((nodupN_iff _).1 hn) hm
  have h2 : sectBody k code = b := by simp only [sectBody, h1]
  have := h (k, hd) (look_mem hhd) f hf
  rw [h2] at this
  exact this

theorem sectsOK_none {c : FCtx} {code : Code} (h : ∀ i, c.sectT i = none) : SectsOK c code := fun k a _ hd f _ hf => by rw [h] at hf; cases hf

end Go.Abs

/- Soundness of the abstract machine, part 37: what the machine knows of the program, held against it. -/
set_option linter.unusedSimpArgs false
namespace Go.Abs
open Go

def allL {α : Type} (p : α → Bool) : List α → Bool
  | [] => true
  | a :: r => p a && allL p r

theorem allL_look {α : Type} {p : Nat × α → Bool} {id : Nat} {a : α} : ∀ {l : List (Nat × α)}, allL p l = true → look id l = some a → p (id, a) = true
  | [], _, h => by cases h
  | (i, x) :: r, h, hl => by
    simp only [allL, Bool.and_eq_true] at h
    simp only [look] at hl
    by_cases hi : i = id
    · subst hi; rw [Nat.beq_refl] at hl; cases hl; exact h.1
    · rw [beq_false_of_ne hi] at hl; exact allL_look h.2 hl

theorem allL_mem {α : Type} {p : α → Bool} : ∀ {l : List α}, allL p l = true → ∀ a, a ∈ l → p a = true
  | [], _, a, h => by simp at h
  | x :: r, h, a, ha => by
    simp only [allL, Bool.and_eq_true] at h
    rcases List.mem_cons.1 ha with h1 | h1
    · subst h1; exact h.1
    · exact allL_mem h.2 a h1

def boolEq : Bool → Bool → Bool
  | true, b => b
  | false, b => !b

theorem boolEq_spec {a b : Bool} (h : boolEq a b = true) : a = b := by cases a <;> cases b <;> simp_all [boolEq]

/-- a constant's cell, by a test -/
def repB : U → Value → Bool
  | .undef, _ => true
  | .int k n, .int j m => decide (k = j) && decide (n = m)
  | .bool a, .bool b => boolEq a b
  | .str l, .string s => decide (s.data.toList = l)
  | .nilp, .pointer none => true
  | .slice S true, .slice none n c => Nat.beq S.len 0 && (Nat.beq n 0 && Nat.beq c 0)
  | _, _ => false

theorem repB_rep {u : U} {v : Value} (h : repB u v = true) : RepC u v := by
  intro imm loc
  unfold repB at h
  split at h
  · exact .undef _
  · simp only [Bool.and_eq_true, decide_eq_true_eq] at h
    obtain ⟨rfl, rfl⟩ := h
    exact .int _ _
  · rw [boolEq_spec h]; exact .bool _
  · exact .str _ _ (of_decide_eq_true h)
  · exact .nilp
  · rename_i S n c
    simp only [Bool.and_eq_true] at h
    have h0 := Nat.eq_of_beq_eq_true h.1
    have h1 := Nat.eq_of_beq_eq_true h.2.1
    have h2 := Nat.eq_of_beq_eq_true h.2.2
    subst h1 h2
    exact .slice _ _ none 0 0 (fun _ _ => undef) h0.symm (fun _ => rfl) (Nat.le_refl _) (fun h => absurd h (Nat.lt_irrefl _)) fun _ _ h => absurd h (Nat.not_lt_zero _)
  · cases h

def repsB : List U → List Value → Bool
  | [], [] => true
  | u :: us, v :: vs => repB u v && repsB us vs
  | _, _ => false

theorem repsB_rep : ∀ {us : List U} {vs : List Value}, repsB us vs = true → vs.length = us.length ∧ ∀ j, j < us.length → RepC (us.getD j .undef) (vs.getD j undef)
  | [], [], _ => ⟨rfl, fun j hj => absurd hj (Nat.not_lt_zero _)⟩
  | [], _ :: _, h => by simp [repsB] at h
  | _ :: _, [], h => by simp [repsB] at h
  | u :: us, v :: vs, h => by
    simp only [repsB, Bool.and_eq_true] at h
    obtain ⟨h1, h2⟩ := repsB_rep h.2
    refine ⟨by simp [h1], fun j hj => ?_⟩
    cases j with
    | zero => exact repB_rep h.1
    | succ j => simpa using h2 j (by simpa using hj)

def fieldPairs : List Field → List (Nat × TypeId)
  | [] => []
  | f :: r => (f.offset, f.type) :: fieldPairs r

theorem fieldPairs_eq : ∀ l : List Field, fieldPairs l = l.map fun f => (f.offset, f.type)
  | [] => rfl
  | f :: r => by simp [fieldPairs, fieldPairs_eq r]

def samePairs : List (Nat × Nat) → List (Nat × Nat) → Bool
  | [], [] => true
  | (a, b) :: r, (c, d) :: s => (Nat.beq a c && Nat.beq b d) && samePairs r s
  | _, _ => false

theorem samePairs_eq : ∀ {l m : List (Nat × Nat)}, samePairs l m = true → l = m
  | [], [], _ => rfl
  | [], _ :: _, h => by simp [samePairs] at h
  | _ :: _, [], h => by simp [samePairs] at h
  | (a, b) :: r, (c, d) :: s, h => by
    simp only [samePairs, Bool.and_eq_true] at h
    rw [Nat.eq_of_beq_eq_true h.1.1, Nat.eq_of_beq_eq_true h.1.2, samePairs_eq h.2]

section
variable (P : Program)

def tyB : Nat × TyInfo → Bool
  | (t, ti) => match P.info? t, P.underlying t with
    | some i, some d => Nat.beq i.size ti.size && (boolEq (descAgg d) ti.agg && (ti.agg || Nat.beq ti.size 1))
    | _, _ => false

def infoB (t : TypeId) : Bool := match P.info? t with | some _ => true | none => false

def fieldB : Nat × List (Nat × TypeId) → Bool
  | (t, fs) => match P.underlying t with
    | some (.struct Fs) => samePairs fs (fieldPairs Fs.toList) && allL (fun f => infoB P f.type) Fs.toList
    | _ => false

def arrB : Nat × (Nat × TypeId) → Bool
  | (t, (n, et)) => match P.underlying t with
    | some (.array m e) => Nat.beq m n && Nat.beq e et
    | _ => false

def zeroB : Nat × List U → Bool
  | (t, us) => match P.info? t with
    | some i => match i.zero with
      | some z => repsB us z.cells.toList
      | none => false
    | none => false

def elemB : Nat × (TypeId × RowKind) → Bool
  | (t, (et, k)) => match P.underlying t with
    | some (.slice e) => Nat.beq e et && (match P.info? et with
      | some i => match i.zero with
        | some z => (Nat.beq z.cells.size k.width && (Nat.beq i.size k.width && (Nat.blt 0 k.width && Nat.ble i.bytes 128))) &&
            (match k with
              | .bytes => match P.underlying et with
                | some (.int .u8) => true
                | _ => false
              | _ => true)
        | none => false
      | none => false)
    | _ => false

def ckB (t : TypeId) : CK → Bool
  | .int _ => match P.underlying t with | some (.int _) => true | _ => false
  | .bool => match P.underlying t with | some .bool => true | _ => false
  | .str => match P.underlying t with | some .string => true | _ => false

def fieldsB : List CK → List Field → Nat → Bool
  | [], [], _ => true
  | c :: sig, f :: fs, n => (!decide (f.name = "_") && (Nat.beq f.offset n && ckB P f.type c)) && fieldsB sig fs (n + 1)
  | _, _, _ => false

def eqB : Nat × List CK → Bool
  | (t, sig) => match P.underlying t with
    | some (.struct Fs) => fieldsB P sig Fs.toList 0 && (!P.stoodInHeld t && !P.eqGuardType P.depth t)
    | _ => false

def kindB : Nat × Nat → Bool
  | (t, 0) => match P.underlying t with | some .bool => true | _ => false
  | (t, 1) => match P.underlying t with | some .string => true | _ => false
  | (t, 3) => match P.underlying t with | some (.pointer _) => true | _ => false
  | _ => true

def intB : Nat × IntKind → Bool
  | (t, k) => match P.underlying t with | some (.int j) => decide (j = k) | _ => false

def mapB : Nat × (TypeId × List CK) → Bool
  | (t, (et, sig)) => match P.underlying t with
    | some (.map kt e) => Nat.beq e et && ((match P.underlying kt with | some .string => true | _ => false) && (match P.info? et with
      | some i => match i.zero with
        | some z => repsB (tabCells [] sig 0) z.cells.toList && Nat.beq (tabCells [] sig 0).length sig.length
        | none => false
      | none => false))
    | _ => false

def envB (e : Env) : Bool :=
  P.follows .mixedOrders && (allL (mapB P) e.maps && (allL (tyB P) e.tys && (allL (fieldB P) e.fields && (allL (arrB P) e.arrs && (allL (zeroB P) e.zeros && (allL (elemB P) e.elems && (allL (eqB P) e.eqs && (allL (kindB P) e.kinds && allL (intB P) e.ints))))))))

variable {P}

theorem ckB_ok {t : TypeId} {c : CK} (h : ckB P t c = true) : CKOK P t c := by
  cases c <;> simp only [ckB] at h
  · split at h
    · rename_i k hk; exact ⟨k, hk⟩
    · cases h
  · split at h
    · rename_i hk; exact hk
    · cases h
  · split at h
    · rename_i hk; exact hk
    · cases h

theorem fieldsB_ok : ∀ {sig : List CK} {fs : List Field} {n : Nat}, fieldsB P sig fs n = true → FieldsOK P sig fs n
  | [], [], _, _ => trivial
  | [], _ :: _, _, h => by simp [fieldsB] at h
  | _ :: _, [], _, h => by simp [fieldsB] at h
  | c :: sig, f :: fs, n, h => by
    simp only [fieldsB, Bool.and_eq_true, Bool.not_eq_true', decide_eq_false_iff_not] at h
    exact ⟨h.1.1, Nat.eq_of_beq_eq_true h.1.2.1, ckB_ok h.1.2.2, fieldsB_ok h.2⟩

theorem envB_ok {e : Env} (h : envB P e = true) : EnvOK P e := by
  simp only [envB, Bool.and_eq_true] at h
  obtain ⟨h0, hm, h1, h2, h3, h4, h5, h6, h7, h8⟩ := h
  refine ⟨h0, fun t ti hl => ?_, fun t fs hl => ?_, fun t n et hl => ?_, fun t us hl => ?_, fun t et k hl => ?_, fun t sig hl => ?_, fun t k hl => ?_, fun t k hl => ?_, fun t et sig hl => ?_⟩
  · have := allL_look h1 hl
    simp only [tyB] at this
    split at this
    · rename_i i d hi hd
      simp only [Bool.and_eq_true, Bool.or_eq_true] at this
      refine ⟨i, d, hi, Nat.eq_of_beq_eq_true this.1, hd, boolEq_spec this.2.1, fun ha => ?_⟩
      rcases this.2.2 with h | h
      · rw [ha] at h; cases h
      · exact Nat.eq_of_beq_eq_true h
    · cases this
  · have := allL_look h2 hl
    simp only [fieldB] at this
    split at this
    · rename_i Fs hF
      simp only [Bool.and_eq_true] at this
      refine ⟨Fs, hF, (samePairs_eq this.1).trans (fieldPairs_eq _), fun f hf => ?_⟩
      have := allL_mem this.2 f hf
      simp only [infoB] at this
      split at this
      · rename_i i hi; exact ⟨i, hi⟩
      · cases this
    · cases this
  · have := allL_look h3 hl
    simp only [arrB] at this
    split at this
    · rename_i m e hm
      simp only [Bool.and_eq_true] at this
      rw [hm, Nat.eq_of_beq_eq_true this.1, Nat.eq_of_beq_eq_true this.2]
    · cases this
  · have := allL_look h4 hl
    simp only [zeroB] at this
    split at this
    · rename_i i hi
      split at this
      · rename_i z hz
        obtain ⟨h9, h10⟩ := repsB_rep this
        refine ⟨i, z, hi, hz, by simpa using h9, fun j hj => ?_⟩
        have := h10 j hj
        simpa [List.getD_eq_getElem?_getD] using this
      · cases this
    · cases this
  · have := allL_look h5 hl
    simp only [elemB] at this
    split at this
    · rename_i e hsl
      simp only [Bool.and_eq_true] at this
      obtain ⟨he, this⟩ := this
      have he' := Nat.eq_of_beq_eq_true he
      subst he'
      refine ⟨hsl, ?_⟩
      split at this
      · rename_i i hi
        split at this
        · rename_i z hz
          simp only [Bool.and_eq_true] at this
          obtain ⟨⟨a1, a2, a3, a4⟩, a5⟩ := this
          refine ⟨i, z, hi, hz, Nat.eq_of_beq_eq_true a1, Nat.eq_of_beq_eq_true a2, Nat.le_of_ble_eq_true a3, Nat.le_of_ble_eq_true a4, fun hk => ?_⟩
          subst hk
          simp only at a5
          split at a5
          · rename_i hu; exact hu
          · cases a5
        · cases this
      · cases this
    · cases this
  · have := allL_look h6 hl
    simp only [eqB] at this
    split at this
    · rename_i Fs hF
      simp only [Bool.and_eq_true, Bool.not_eq_true'] at this
      exact ⟨Fs, hF, fieldsB_ok this.1, this.2.1, this.2.2⟩
    · cases this
  · have := allL_look h7 hl
    unfold KindOK
    split
    · simp only [kindB] at this
      split at this
      · rename_i hk; exact hk
      · cases this
    · simp only [kindB] at this
      split at this
      · rename_i hk; exact hk
      · cases this
    · simp only [kindB] at this
      split at this
      · rename_i el hk; exact ⟨el, hk⟩
      · cases this
    · trivial
  · have := allL_look h8 hl
    simp only [intB] at this
    split at this
    · rename_i j hj
      rw [hj, of_decide_eq_true this]
    · cases this
  · have := allL_look hm hl
    simp only [mapB] at this
    split at this
    · rename_i kt e he
      simp only [Bool.and_eq_true] at this
      obtain ⟨a1, a2, a3⟩ := this
      have he' := Nat.eq_of_beq_eq_true a1
      subst he'
      refine ⟨⟨kt, he, ?_⟩, ?_⟩
      · split at a2
        · rename_i hk; exact hk
        · cases a2
      · split at a3
        · rename_i i hi
          split at a3
          · rename_i z hz
            simp only [Bool.and_eq_true] at a3
            obtain ⟨h9, h10⟩ := repsB_rep a3.1
            have h11 := Nat.eq_of_beq_eq_true a3.2
            refine ⟨i, z, hi, hz, by rw [← h11]; simpa using h9, fun j hj => ?_⟩
            have := h10 j (by omega)
            simpa [List.getD_eq_getElem?_getD] using this
          · cases a3
        · cases a3
    · cases this
end

end Go.Abs

/- From a world to what is known of it: tables that a row lists, and a call whose arguments nobody writes. -/
set_option linter.unusedSimpArgs false
namespace Go.Abs
open Go Go.Lib

/-- all of a world's cells -/
def immOf (W : World) : Imm := fun a => if a.spot = none then W.cell? a else none
def noLoc : Locs := fun _ => none

def scalB (P : Program) (t : TypeId) (d : DataW Unit) (u : U) : Bool := match P.underlying t, d, u with
  | some (.int k), .lit (.int k' z), .int k'' z' => decide (k = k'') && decide (k' = k'') && decide (z = z')
  | some .string, .lit (.string l), .str l' => decide (l = l')
  | some .bool, .lit (.bool b), .bool b' => decide (b = b')
  | _, _, _ => false

def rowB (P : Program) (e : TypeId) (d : DataW Unit) (S : Rows) (i : Nat) : Bool := match P.underlying e, d with
  | some (.struct fs), .agg xs => Nat.beq fs.size S.width && Nat.beq (P.cellsOf e) S.width && (List.range S.width).all fun j => match fs[j]?, xs[j]? with
    | some f, some x => Nat.beq f.offset j && Nat.beq (P.cellsOf f.type) 1 && scalB P f.type x ((S.row i).getD j .undef)
    | _, _ => false
  | _, d => Nat.beq S.width 1 && Nat.beq (P.cellsOf e) 1 && scalB P e d ((S.row i).getD 0 .undef)

def tabB (P : Program) (n : Nat) (e : TypeId) (d : DataW Unit) (S : Rows) : Bool := match d with
  | .agg ds => Nat.beq n S.len && Nat.blt 0 n && (List.range n).all fun i => match ds[i]? with | some x => rowB P e x S i | none => false
  | _ => false

section
variable {P : Program} {w : World} {base : Nat} {sp : Nat → Bool} {held : Bool} {enc : TypeId × Value → Unit}

theorem scalB_ok {fuel : Nat} {t : TypeId} {d : DataW Unit} {u : U} {cs : List Value} {p : List MemPlace} (h : scalB P t d u = true) (hd : DataW.trod enc P w base sp held fuel t cs = some (d, p)) :
    ∃ v, cs[0]? = some v ∧ ∀ imm loc, Rep imm loc u v := by
  unfold scalB at h
  split at h
  · rename_i k k' z k'' z' ht
    simp only [Bool.and_eq_true, decide_eq_true_eq] at h
    obtain ⟨⟨rfl, rfl⟩, rfl⟩ := h
    obtain ⟨n, rfl, hx, _⟩ := DataW.trod_int ht hd
    simp only [Prod.mk.injEq, DataW.lit.injEq, Lit.int.injEq, true_and] at hx
    obtain ⟨rfl, _⟩ := hx
    exact ⟨_, rfl, fun _ _ => .int _ _⟩
  · rename_i l l' ht
    simp only [decide_eq_true_eq] at h
    subst h
    obtain ⟨s, rfl, hx, _⟩ := DataW.trod_string ht hd
    simp only [Prod.mk.injEq, DataW.lit.injEq, Lit.string.injEq] at hx
    exact ⟨_, rfl, fun _ _ => .str _ _ hx.1.symm⟩
  · rename_i b b' ht
    simp only [decide_eq_true_eq] at h
    subst h
    obtain ⟨b', rfl, hx⟩ := DataW.trod_bool ht hd
    simp only [Prod.mk.injEq, DataW.lit.injEq, Lit.bool.injEq] at hx
    obtain ⟨rfl, _⟩ := hx
    exact ⟨_, rfl, fun _ _ => .bool _⟩
  · cases h

theorem rowB_ok {fuel : Nat} {e : TypeId} {d : DataW Unit} {S : Rows} {i : Nat} {cs : List Value} {p : List MemPlace} (h : rowB P e d S i = true) (hd : DataW.trod enc P w base sp held fuel e cs = some (d, p)) :
    P.cellsOf e = S.width ∧ ∀ j, j < S.width → ∃ v, cs[j]? = some v ∧ ∀ imm loc, Rep imm loc ((S.row i).getD j .undef) v := by
  unfold rowB at h
  split at h
  · rename_i fs xs ht
    simp only [Bool.and_eq_true, List.all_eq_true, List.mem_range] at h
    obtain ⟨⟨h1, h2⟩, h3⟩ := h
    refine ⟨Nat.eq_of_beq_eq_true h2, fun j hj => ?_⟩
    have h4 := h3 j hj
    obtain ⟨ys, n, _, hx, _, _, hall⟩ := DataW.trod_struct ht hd
    split at h4
    · rename_i f x hf hxj
      simp only [Bool.and_eq_true] at h4
      obtain ⟨⟨ho, hc⟩, hs⟩ := h4
      have hfo : f.offset = j := Nat.eq_of_beq_eq_true ho
      have hfc : P.cellsOf f.type = 1 := Nat.eq_of_beq_eq_true hc
      have h5 := hall j f hf
      rw [hfo, hfc] at h5
      simp only [Prod.mk.injEq, DataW.agg.injEq] at hx
      rw [hx.1, List.getElem?_map] at hxj
      cases hy : ys[j]? with
      | none => rw [hy] at hxj; cases hxj
      | some y =>
        rw [hy] at hxj h5
        simp only [Option.map_some, Option.some.injEq] at hxj
        obtain ⟨y1, y2⟩ := y
        simp only at hxj
        subst hxj
        obtain ⟨v, hv, hr⟩ := scalB_ok hs h5
        exact ⟨v, by simpa [List.getElem?_take, List.getElem?_drop] using hv, hr⟩
    · cases h4
  · simp only [Bool.and_eq_true] at h
    obtain ⟨⟨h1, h2⟩, h3⟩ := h
    have hw : S.width = 1 := Nat.eq_of_beq_eq_true h1
    refine ⟨by rw [hw]; exact Nat.eq_of_beq_eq_true h2, fun j hj => ?_⟩
    obtain rfl : j = 0 := by omega
    exact scalB_ok h3 hd

end

/-- a table that reads as its datum stands for its rows -/
theorem tab_rep {P : Program} {W : World} {name : String} {d : DataW Unit} {g : Nat} {t e : TypeId} {n : Nat} {S : Rows} (hr : VarReads P W name d) (hg : P.globalNamed name = some g) (ht : (P.globals[g]?).map (·.type) = some t) (ha : P.underlying t = some (.array n e))
    (hb : tabB P n e d S = true) (loc : Locs) : Rep (immOf W) loc (.elem S 0 0) (.pointer (some ⟨g, 0, none⟩)) := by
  unfold tabB at hb
  split at hb
  · rename_i ds
    simp only [Bool.and_eq_true, List.all_eq_true, List.mem_range] at hb
    obtain ⟨⟨h1, h2⟩, h3⟩ := hb
    have hn : n = S.len := Nat.eq_of_beq_eq_true h1
    have hpos : 0 < n := by simpa [Nat.blt_eq] using h2
    obtain ⟨g', t', cs, fuel, p, hg', ht', hvar, hd⟩ := hr
    obtain rfl := Option.some.inj (hg.symm.trans hg')
    obtain rfl := Option.some.inj (ht.symm.trans ht')
    have key : ∀ i j, i < S.len → j < S.width → ∃ v, W.cell? ⟨g, i * S.width + j, none⟩ = some v ∧ ∀ imm loc, Rep imm loc ((S.row i).getD j .undef) v := by
      intro i j hi hj
      have h4 := h3 i (by omega)
      obtain ⟨fuel', d', q, hdi, he⟩ := array_elem ha hd i (by omega)
      rw [hdi] at h4
      obtain ⟨hc, hall⟩ := rowB_ok h4 he
      obtain ⟨v, hv, hrep⟩ := hall j hj
      refine ⟨v, ?_, hrep⟩
      rw [World.var?_cell hg hvar, ← Array.getElem?_toList]
      rw [hc] at hv
      rw [List.getElem?_take, if_pos hj, List.getElem?_drop] at hv
      exact hv
    have := Rep.elem (imm := immOf W) (loc := loc) S 0 0 g 0 (fun i j => (W.cell? ⟨g, i * S.width + j, none⟩).getD undef) (by omega)
      (fun i j hi hj => by
        obtain ⟨v, hv, _⟩ := key i j hi hj
        simp [immOf, hv])
      (fun i j hi hj => by
        obtain ⟨v, hv, hrep⟩ := key i j hi hj
        rw [hv]; exact hrep _ _)
    simpa using this
  · cases hb

theorem tabs_nil {Q : Nat × Rows → Prop} : ∀ p, p ∈ ([] : List (Nat × Rows)) → Q p := fun p hp => nomatch hp
theorem tabs_cons {Q : Nat × Rows → Prop} {a : Nat × Rows} {l : List (Nat × Rows)} (h : Q a) (H : ∀ p, p ∈ l → Q p) : ∀ p, p ∈ a :: l → Q p := fun p hp => by
  rcases List.mem_cons.1 hp with rfl | hp
  · exact h
  · exact H p hp

def TabRep (imm : Imm) (p : Nat × Rows) : Prop := ∀ loc, Rep imm loc (.elem p.2 0 0) (.pointer (some ⟨p.1, 0, none⟩))

theorem globOK_of {imm : Imm} {e : Env} (h : ∀ p, p ∈ e.globs → TabRep imm p) (hv : ∀ g, g ∈ e.vars → ∃ m : Int, imm ⟨g, 0, none⟩ = some (.int .i64 m)) : GlobOK imm e :=
  ⟨fun g S hg loc => h (g, S) (look_mem hg) loc, hv⟩

/-- a table's cells, for a world of one's own -/
def uVal : U → Value
  | .int k z => .int k z
  | .str l => .string ⟨l.toArray⟩
  | .bool b => .bool b
  | _ => undef
def tabVals (S : Rows) : Array Value := ((List.range S.len).flatMap fun i => (S.row i).map uVal).toArray
def putTabs : List (Nat × Rows) → Array Obj → Array Obj
  | [], h => h
  | (g, S) :: r, h => putTabs r (h.modify g fun
    | .cells _ t frozen => .cells (tabVals S) t frozen
    | o => o)

theorem rel_none (W : World) : Rel (immOf W) noLoc (fun i => look i []) W where
  claims := fun a v h => by
    simp only [immOf] at h
    by_cases hs : a.spot = none
    · rw [if_pos hs] at h; exact ⟨hs, h⟩
    · rw [if_neg hs] at h; cases h
  objs := fun _ _ h => by cases h
  dom := fun _ _ h => by cases h
  inj := fun _ _ _ _ _ h => by cases h
  sep := fun _ _ _ h => by cases h

/-- a call all of whose arguments are values -/
theorem calls_of_answers {P : Program} {env : Env} {f : FuncId} {fn : Func} {code : Code} {us : List U} {vs : Array Value} {u : U} {W : World} (hf : P.funcs[f]? = some fn) (hname : (fn.name == "runtime.NumGoroutine") = false) (hb : fn.body = some code)
    (H : AnswersTo P env f us [] false u []) (hG : GlobOK (immOf W) env) (ha : ArgsRel (immOf W) noLoc us vs) :
    Calls P f vs W fun e W' => ∃ v imm loc, e = .returned v ∧ Rep imm loc u v ∧ RowKit.Below W.heap.size W W' := by
  rcases H (immOf W) noLoc W vs hG (rel_none W) ha with ⟨_, h⟩ | ⟨v, w', h, _⟩
  · refine h.mono fun e w' ⟨imm', loc', v, hev, _, hrep, he⟩ => ⟨v, imm', loc', he, hrep, hev.os, hev.tape, hev.output, hev.size, fun k hk => hev.block k hk fun i l hl => by cases hl⟩
  · rw [callFunc_enter hf hname hb] at h
    cases h

theorem entry_answers {P : Program} {env : Env} {f : FuncId} {en : Entry} {us : List U} {st : St} {α : Type} {v : Option α} {r : α → U × St} {a : α} (H : EntryOK P env f en) (he : en us st = some (.plain v r)) (hv : v = some a) : AnswersTo P env f us st false (r a).1 (r a).2 := by
  rcases H us st with h | ⟨x, h, hx⟩
  · rw [he] at h; cases h
  · rw [he] at h; cases h; exact hx a hv

end Go.Abs

