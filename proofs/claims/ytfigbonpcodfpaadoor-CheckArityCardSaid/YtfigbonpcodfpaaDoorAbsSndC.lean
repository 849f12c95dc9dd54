/- Soundness of the abstract machine, third part: calls and regions. -/
import Derived.Test.YtfigbonpcodfpaaDoorAbsSndB
set_option linter.unusedSimpArgs false
set_option linter.unusedVariables false
set_option linter.unusedSectionVars false
/- Soundness of the abstract machine, part 23: growing of a store. -/
set_option linter.unusedSimpArgs false
namespace Go.Abs
open Go

theorem growCells_ids {id : Nat} : ∀ (us : List U) (b : Nat), id ∈ U.idsL (growCells b us).1 → id ∈ U.idsL us ∨ id ∈ keysN (growCells b us).2
  | [], b, h => by simp [growCells, U.idsL] at h
  | u :: us, b, h => by
    cases hg : growU b u with
    | none =>
      have h1 : (growCells b (u :: us)) = (u :: (growCells b us).1, (growCells b us).2) := by simp only [growCells, hg]
      rw [h1] at h ⊢
      simp only [U.idsL, List.mem_append] at h ⊢
      rcases h with h | h
      · exact .inl (.inl h)
      · rcases growCells_ids us b h with h | h
        · exact .inl (.inr h)
        · exact .inr h
    | some p =>
      obtain ⟨v, o⟩ := p
      have h1 : (growCells b (u :: us)) = (v :: (growCells (b + 1) us).1, (b, o) :: (growCells (b + 1) us).2) := by simp only [growCells, hg]
      rw [h1] at h ⊢
      obtain ⟨S, _, _, hv, _⟩ := growU_inv hg
      simp only [U.idsL, List.mem_append, keysN, List.mem_cons] at h ⊢
      rcases h with h | h
      · rw [hv] at h; simp only [U.ids, List.mem_singleton] at h; exact .inr (.inl h)
      · rcases growCells_ids us (b + 1) h with h | h
        · exact .inl (.inr h)
        · exact .inr (.inr h)

theorem growCells_objs {j : Nat} {x : AObj} : ∀ (us : List U) (b : Nat), look j (growCells b us).2 = some x → x.ids = []
  | [], b, h => by simp [growCells, look] at h
  | u :: us, b, h => by
    cases hg : growU b u with
    | none =>
      have h1 : (growCells b (u :: us)) = (u :: (growCells b us).1, (growCells b us).2) := by simp only [growCells, hg]
      rw [h1] at h
      exact growCells_objs us b h
    | some p =>
      obtain ⟨v, o⟩ := p
      have h1 : (growCells b (u :: us)) = (v :: (growCells (b + 1) us).1, (b, o) :: (growCells (b + 1) us).2) := by simp only [growCells, hg]
      rw [h1] at h
      obtain ⟨S, _, _, _, ho⟩ := growU_inv hg
      simp only [look] at h
      by_cases hb : b = j
      · subst hb; rw [Nat.beq_refl] at h; cases h; rw [ho]; rfl
      · rw [beq_false_of_ne hb] at h; exact growCells_objs us (b + 1) h

theorem look_none {α : Type} (j : Nat) : ∀ st : List (Nat × α), j ∉ st.map (·.1) → look j st = none
  | [], _ => rfl
  | (q, x) :: r, h => by
    simp only [List.map_cons, List.mem_cons, not_or] at h
    simp only [look, beq_false_of_ne (Ne.symm h.1), cond_false]
    exact look_none j r h.2

theorem keysN_eq : ∀ st : St, keysN st = st.map (·.1)
  | [] => rfl
  | (q, x) :: r => by simp [keysN, keysN_eq r]

theorem keysN_append (a b : St) : keysN (a ++ b) = keysN a ++ keysN b := by simp [keysN_eq]

/-- the names that a growing makes -/
def growNew (ids : List Nat) (b : Nat) : St → List Nat
  | [] => []
  | (i, o) :: r => bif elemN i ids then (match o with
      | .cells us => keysN (growCells b us).2 ++ growNew ids (b + (growCells b us).2.length) r
      | _ => growNew ids b r)
    else growNew ids b r

section
variable {imm : Imm} {w : World}

theorem growSt_rel (ids : List Nat) : ∀ (st : St) (b : Nat) (loc : Locs) (lk : Lk), Rel imm loc lk w → (∀ p, p ∈ st → lk p.1 = some p.2) → (keysN (growSt ids b st)).Nodup →
    (∀ n, n ∈ growNew ids b st → lk n = none ∧ ∀ j x, lk j = some x → n ∉ x.ids) →
    ∃ loc', Growth (growNew ids b st) loc loc' ∧ Rel imm loc' (orLk (growSt ids b st) lk) w
  | [], b, loc, lk, R, _, _, _ => ⟨loc, Growth.refl loc, R⟩
  | (i, o) :: r, b, loc, lk, R, hst, hn, hm => by
    have hi := hst (i, o) (by simp)
    have plain : growSt ids b ((i, o) :: r) = (i, o) :: growSt ids b r → growNew ids b ((i, o) :: r) = growNew ids b r →
        ∃ loc', Growth (growNew ids b ((i, o) :: r)) loc loc' ∧ Rel imm loc' (orLk (growSt ids b ((i, o) :: r)) lk) w := by
      intro h1 h2
      rw [h1] at hn ⊢
      rw [h2] at hm ⊢
      simp only [keysN, List.nodup_cons] at hn
      obtain ⟨loc', g, R'⟩ := growSt_rel ids r b loc lk R (fun p hp => hst p (by simp [hp])) hn.2 hm
      refine ⟨loc', g, ?_⟩
      have : orLk ((i, o) :: growSt ids b r) lk = orLk (growSt ids b r) lk := by
        funext j
        simp only [orLk, look]
        by_cases hij : i = j
        · subst hij
          rw [Nat.beq_refl, look_none i _ (by rw [← keysN_eq]; exact hn.1)]
          simp [hi]
        · rw [beq_false_of_ne hij]; rfl
      rw [this]; exact R'
    cases he : elemN i ids with
    | false => exact plain (by simp [growSt, he]) (by simp [growNew, he])
    | true =>
      cases o with
      | gbuf S wr => exact plain (by simp [growSt, he]) (by simp [growNew, he])
      | iter s pos => exact plain (by simp [growSt, he]) (by simp [growNew, he])
      | map sg es => exact plain (by simp [growSt, he]) (by simp [growNew, he])
      | cells us =>
        have h1 : growSt ids b ((i, .cells us) :: r) = (i, .cells (growCells b us).1) :: ((growCells b us).2 ++ growSt ids (b + (growCells b us).2.length) r) := by simp [growSt, he]
        have h2 : growNew ids b ((i, .cells us) :: r) = keysN (growCells b us).2 ++ growNew ids (b + (growCells b us).2.length) r := by simp [growNew, he]
        rw [h1] at hn ⊢
        rw [h2] at hm ⊢
        simp only [keysN, keysN_append, List.nodup_cons, List.nodup_append, List.mem_append, not_or] at hn
        obtain ⟨⟨hni, hni'⟩, hnp, hnr, hdis⟩ := hn
        obtain ⟨loc1, g1, R1⟩ := growCells_rel (i := i) us [] b loc lk R (by simpa using hi) hnp (fun n hnn => hm n (List.mem_append.2 (.inl hnn)))
        have newSub : ∀ (st : St) (b : Nat) n, n ∈ growNew ids b st → n ∈ keysN (growSt ids b st) := by
          intro st
          induction st with
          | nil => intro b n h; simp [growNew] at h
          | cons p r ih =>
            obtain ⟨q, x⟩ := p
            intro b n h
            simp only [growNew, growSt] at h ⊢
            cases hq : elemN q ids with
            | false => rw [hq] at h; simp only [cond_false, keysN, List.mem_cons] at h ⊢; exact .inr (ih b n h)
            | true =>
              rw [hq] at h
              cases x with
              | cells us =>
                simp only [cond_true, List.cons_append, keysN, keysN_append, List.mem_cons, List.mem_append] at h ⊢
                rcases h with h | h
                · exact .inr (.inl h)
                · exact .inr (.inr (ih _ n h))
              | gbuf S wr => simp only [cond_true, keysN, List.mem_cons] at h ⊢; exact .inr (ih b n h)
              | iter s pos => simp only [cond_true, keysN, List.mem_cons] at h ⊢; exact .inr (ih b n h)
              | map sg es => simp only [cond_true, keysN, List.mem_cons] at h ⊢; exact .inr (ih b n h)
        have oldSub : ∀ (st : St) (b : Nat) n, n ∈ keysN st → n ∈ keysN (growSt ids b st) := by
          intro st
          induction st with
          | nil => intro b n h; simp [keysN] at h
          | cons p r ih =>
            obtain ⟨q, x⟩ := p
            intro b n h
            simp only [keysN, List.mem_cons] at h
            simp only [growSt]
            cases hq : elemN q ids with
            | false =>
              simp only [cond_false, keysN, List.mem_cons]
              rcases h with h | h
              · exact .inl h
              · exact .inr (ih b n h)
            | true =>
              cases x with
              | cells us =>
                simp only [cond_true, List.cons_append, keysN, keysN_append, List.mem_cons, List.mem_append]
                rcases h with h | h
                · exact .inl h
                · exact .inr (.inr (ih _ n h))
              | gbuf S wr =>
                simp only [cond_true, keysN, List.mem_cons]
                rcases h with h | h
                · exact .inl h
                · exact .inr (ih b n h)
              | iter s pos =>
                simp only [cond_true, keysN, List.mem_cons]
                rcases h with h | h
                · exact .inl h
                · exact .inr (ih b n h)
              | map sg es =>
                simp only [cond_true, keysN, List.mem_cons]
                rcases h with h | h
                · exact .inl h
                · exact .inr (ih b n h)
        have mem_look : ∀ {st : St} {j : Nat} {x : AObj}, look j st = some x → j ∈ keysN st := fun {st j x} h => by
          by_cases hj : j ∈ keysN st
          · exact hj
          · rw [look_none j st (by rw [← keysN_eq]; exact hj)] at h; cases h
        have look_out : ∀ {st : St} {j : Nat}, j ∉ keysN st → look j st = none := fun {st j} h => look_none j st (by rw [← keysN_eq]; exact h)
        obtain ⟨loc', g, R'⟩ := growSt_rel ids r (b + (growCells b us).2.length) loc1 _ R1 (fun p hp => by
            have hk : p.1 ∈ keysN r := by rw [keysN_eq]; exact List.mem_map.2 ⟨p, hp, rfl⟩
            have hk' := oldSub r (b + (growCells b us).2.length) _ hk
            have h3 : p.1 ∉ keysN (growCells b us).2 := fun h => hdis _ h _ hk' rfl
            have h4 : p.1 ≠ i := fun h => by rw [h] at hk'; exact hni' hk'
            simp only [orLk, look_out h3, if_neg h4]
            exact hst p (by simp [hp])) hnr (fun n hnn => by
            have hk' := newSub r (b + (growCells b us).2.length) _ hnn
            have h3 : n ∉ keysN (growCells b us).2 := fun h => hdis _ h _ hk' rfl
            have h4 : n ≠ i := fun h => by rw [h] at hk'; exact hni' hk'
            have h5 := hm n (List.mem_append.2 (.inr hnn))
            refine ⟨by simp only [orLk, look_out h3, if_neg h4]; exact h5.1, fun j x hj hx => ?_⟩
            simp only [orLk] at hj
            split at hj
            · rename_i y hy
              cases hj
              rw [growCells_objs us b hy] at hx
              simp at hx
            · split at hj
              · cases hj
                simp only [List.nil_append, AObj.ids] at hx
                rcases growCells_ids us b hx with h | h
                · exact h5.2 i _ hi h
                · exact h3 h
              · exact h5.2 j x hj hx)
        refine ⟨loc', g1.trans g fun j hj hj2 => hdis _ hj _ (newSub r _ _ hj2) rfl, ?_⟩
        have : orLk ((i, .cells (growCells b us).1) :: ((growCells b us).2 ++ growSt ids (b + (growCells b us).2.length) r)) lk =
            orLk (growSt ids (b + (growCells b us).2.length) r) (orLk (growCells b us).2 (fun j => if j = i then some (.cells ([] ++ (growCells b us).1)) else lk j)) := by
          funext j
          simp only [orLk, look, look_append]
          by_cases hij : i = j
          · subst hij
            rw [Nat.beq_refl, look_out hni', look_out hni]
            simp
          · rw [beq_false_of_ne hij]
            simp only [cond_false]
            cases h3 : look j (growCells b us).2 with
            | some x =>
              rw [look_out fun h => hdis _ (mem_look h3) _ h rfl]
              simp
            | none =>
              simp only [Option.none_or]
              cases look j (growSt ids (b + (growCells b us).2.length) r) with
              | some x => rfl
              | none => simp [Ne.symm hij]
        rw [this]; exact R'

end

end Go.Abs

/- Soundness of the abstract machine, part 24: what is handed over at a call. -/
set_option linter.unusedSimpArgs false
namespace Go.Abs
open Go

theorem frzArgs_ok (lk : Lk) (known : List Nat) : ∀ us : List U, FrozenTn lk (frzArgs lk known us)
  | [] => fun i t h => by simp [frzArgs] at h
  | u :: us => by
    have ih := frzArgs_ok lk known us
    intro i t h
    unfold frzArgs at h
    split at h
    · simp at h
    · rename_i id us' hu
      cases hu
      cases he : elemN id known with
      | true => rw [he] at h; exact ih i t h
      | false =>
        rw [he] at h
        simp only [cond_false] at h
        split at h
        · rename_i S wr hS
          rcases List.mem_cons.1 h with h | h
          · cases h; exact ⟨S, wr, rfl, hS⟩
          · exact ih i t h
        · exact ih i t h
    · rename_i hu
      cases hu
      exact ih i t h

theorem thawed_eq {lk : Lk} {fz : List (Nat × To)} (h : FrozenTn lk fz) : thawed fz lk = effLk fz (gonesOf fz) lk := by
  funext i
  unfold effLk
  rw [setLk_gonesOf]
  cases fz with
  | nil => simp [thawed, turnLk_nil]
  | cons t r =>
    simp only [thawed]
    by_cases hi : i ∈ (t :: r).map (·.1)
    · rw [if_pos hi]
      obtain ⟨S, wr, hS, _⟩ := h i _ (asTo_mem _ i hi)
      rw [hS]
    · rw [if_neg hi, asTo_not_mem _ i hi]
      rfl

theorem look_handed (lk : Lk) (j : Nat) : ∀ l : List Nat, look j (handed lk l) = bif elemN j l then lk j else none
  | [] => rfl
  | i :: r => by
    have ih := look_handed lk j r
    simp only [handed, elemN]
    by_cases hij : i = j
    · subst hij
      rw [Nat.beq_refl]
      simp only [Bool.true_or, cond_true]
      cases h : lk i with
      | some o => simp only [look, Nat.beq_refl, cond_true]
      | none => simp only [ih, h]; cases elemN i r <;> rfl
    · rw [beq_false_of_ne hij]
      simp only [Bool.false_or]
      cases h : lk i with
      | some o => simp only [look, beq_false_of_ne hij, cond_false, ih]
      | none => simp only [ih]

theorem handed_mem (lk : Lk) : ∀ (l : List Nat) (p : Nat × AObj), p ∈ handed lk l → lk p.1 = some p.2 ∧ p.1 ∈ l
  | [], p, h => by simp [handed] at h
  | i :: r, p, h => by
    simp only [handed] at h
    split at h
    · rename_i o ho
      rcases List.mem_cons.1 h with h | h
      · subst h; exact ⟨ho, by simp⟩
      · have := handed_mem lk r p h; exact ⟨this.1, List.mem_cons_of_mem _ this.2⟩
    · have := handed_mem lk r p h; exact ⟨this.1, List.mem_cons_of_mem _ this.2⟩

theorem apartN_spec : ∀ (l m : List Nat), apartN l m = true → ∀ i, i ∈ l → i ∉ m
  | [], _, _, i, h => by simp at h
  | j :: r, m, h, i, hi => by
    simp only [apartN, Bool.and_eq_true, Bool.not_eq_true'] at h
    rcases List.mem_cons.1 hi with h1 | h1
    · subst h1
      intro hm
      rw [(elemN_mem i m).2 hm] at h
      cases h.1
    · exact apartN_spec r m h.2 i h1

theorem mem_notIn (l : List Nat) (i : Nat) : ∀ m : List Nat, i ∈ notIn l m ↔ i ∈ m ∧ i ∉ l
  | [] => by simp [notIn]
  | j :: r => by
    simp only [notIn]
    cases h : elemN j l with
    | true =>
      simp only [cond_true, mem_notIn l i r, List.mem_cons]
      have hj := (elemN_mem j l).1 h
      constructor
      · rintro ⟨h1, h2⟩; exact ⟨.inr h1, h2⟩
      · rintro ⟨h1 | h1, h2⟩
        · subst h1; exact absurd hj h2
        · exact ⟨h1, h2⟩
    | false =>
      simp only [cond_false, List.mem_cons, mem_notIn l i r]
      have hj : j ∉ l := fun hm => by rw [(elemN_mem j l).2 hm] at h; cases h
      constructor
      · rintro (h1 | ⟨h1, h2⟩)
        · subst h1; exact ⟨.inl rfl, hj⟩
        · exact ⟨.inr h1, h2⟩
      · rintro ⟨h1 | h1, h2⟩
        · exact .inl h1
        · exact .inr ⟨h1, h2⟩

theorem mem_objIds (st : St) (id : Nat) {j : Nat} {x : AObj} (h : look j st = some x) (hid : id ∈ x.ids) : id ∈ objIds st := by
  induction st with
  | nil => cases h
  | cons p r ih =>
    obtain ⟨q, y⟩ := p
    simp only [look] at h
    simp only [objIds, List.mem_append]
    by_cases hq : q = j
    · subst hq; rw [Nat.beq_refl] at h; cases h; exact .inl hid
    · rw [beq_false_of_ne hq] at h; exact .inr (ih h)

theorem growNew_keys (ids : List Nat) : ∀ (st : St) (b n : Nat), n ∈ growNew ids b st → n ∈ keysN (growSt ids b st)
  | [], b, n, h => by simp [growNew] at h
  | (q, x) :: r, b, n, h => by
    simp only [growNew, growSt] at h ⊢
    cases hq : elemN q ids with
    | false => rw [hq] at h; simp only [cond_false, keysN, List.mem_cons] at h ⊢; exact .inr (growNew_keys ids r b n h)
    | true =>
      rw [hq] at h
      cases x with
      | cells us =>
        simp only [cond_true, List.cons_append, keysN, keysN_append, List.mem_cons, List.mem_append] at h ⊢
        rcases h with h | h
        · exact .inr (.inl h)
        · exact .inr (.inr (growNew_keys ids r _ n h))
      | gbuf S wr => simp only [cond_true, keysN, List.mem_cons] at h ⊢; exact .inr (growNew_keys ids r b n h)
      | iter s pos => simp only [cond_true, keysN, List.mem_cons] at h ⊢; exact .inr (growNew_keys ids r b n h)
      | map sg es => simp only [cond_true, keysN, List.mem_cons] at h ⊢; exact .inr (growNew_keys ids r b n h)

theorem grow_old_keys (ids : List Nat) : ∀ (st : St) (b n : Nat), n ∈ keysN st → n ∈ keysN (growSt ids b st)
  | [], b, n, h => by simp [keysN] at h
  | (q, x) :: r, b, n, h => by
    simp only [keysN, List.mem_cons] at h
    simp only [growSt]
    cases hq : elemN q ids with
    | false =>
      simp only [cond_false, keysN, List.mem_cons]
      exact h.imp id (grow_old_keys ids r b n)
    | true =>
      cases x with
      | cells us =>
        simp only [cond_true, List.cons_append, keysN, keysN_append, List.mem_cons, List.mem_append]
        rcases h with h | h
        · exact .inl h
        · exact .inr (.inr (grow_old_keys ids r _ n h))
      | gbuf S wr => simp only [cond_true, keysN, List.mem_cons]; exact h.imp id (grow_old_keys ids r b n)
      | iter s pos => simp only [cond_true, keysN, List.mem_cons]; exact h.imp id (grow_old_keys ids r b n)
      | map sg es => simp only [cond_true, keysN, List.mem_cons]; exact h.imp id (grow_old_keys ids r b n)

theorem growNew_fresh (ids : List Nat) : ∀ (st : St) (b n : Nat), (keysN (growSt ids b st)).Nodup → n ∈ growNew ids b st → n ∉ keysN st
  | [], b, n, _, h => by simp [growNew] at h
  | (q, x) :: r, b, n, hn, h => by
    have tail : ∀ b, (keysN (growSt ids b r)).Nodup → q ∉ keysN (growSt ids b r) → n ∈ growNew ids b r → n ∉ keysN ((q, x) :: r) := fun b h1 h2 h3 h4 => by
      simp only [keysN, List.mem_cons] at h4
      rcases h4 with h4 | h4
      · subst h4; exact h2 (growNew_keys ids r b n h3)
      · exact growNew_fresh ids r b n h1 h3 h4
    simp only [growNew, growSt] at h hn
    cases hq : elemN q ids with
    | false =>
      rw [hq] at h hn
      simp only [cond_false, keysN, List.nodup_cons] at h hn
      exact tail b hn.2 hn.1 h
    | true =>
      rw [hq] at h hn
      cases x with
      | cells us =>
        simp only [cond_true, List.cons_append, keysN, keysN_append, List.nodup_cons, List.nodup_append, List.mem_append, not_or] at h hn
        obtain ⟨⟨h1, h2⟩, h3, h4, h5⟩ := hn
        rcases h with h | h
        · intro hk
          simp only [keysN, List.mem_cons] at hk
          rcases hk with hk | hk
          · subst hk; exact h1 h
          · exact h5 _ h _ (grow_old_keys ids r _ n hk) rfl
        · exact tail _ h4 h2 h
      | gbuf S wr =>
        simp only [cond_true, keysN, List.nodup_cons] at h hn
        exact tail b hn.2 hn.1 h
      | iter s pos =>
        simp only [cond_true, keysN, List.nodup_cons] at h hn
        exact tail b hn.2 hn.1 h
      | map sg es =>
        simp only [cond_true, keysN, List.nodup_cons] at h hn
        exact tail b hn.2 hn.1 h

theorem orLk_grow (ids : List Nat) (b : Nat) (st : St) : orLk (growSt ids b st) (fun j => look j st) = fun j => look j (growSt ids b st) := by
  funext j
  unfold orLk
  cases h : look j (growSt ids b st) with
  | some o => rfl
  | none =>
    simp only
    by_cases hj : j ∈ keysN st
    · have := grow_old_keys ids st b j hj
      exfalso
      have key : ∀ s : St, j ∈ keysN s → ∃ o, look j s = some o := by
        intro s
        induction s with
        | nil => intro h; simp [keysN] at h
        | cons p r ih =>
          obtain ⟨q, y⟩ := p
          intro hm
          simp only [keysN, List.mem_cons] at hm
          simp only [look]
          by_cases hq : q = j
          · subst hq; rw [Nat.beq_refl]; exact ⟨y, rfl⟩
          · rw [beq_false_of_ne hq]
            rcases hm with hm | hm
            · exact absurd hm.symm hq
            · exact ih hm
      obtain ⟨o, ho⟩ := key _ this
      rw [ho] at h; cases h
    · exact look_none j st (by rw [← keysN_eq]; exact hj)

end Go.Abs

/- Soundness of the abstract machine, part 25: before a call. -/
set_option linter.unusedSimpArgs false
namespace Go.Abs
open Go

def ArgsRel (imm : Imm) (loc : Locs) (us : List U) (vs : Array Value) : Prop := us.length = vs.size ∧ ∀ i, i < vs.size → Rep imm loc (us.getD i .undef) (vs.getD i undef)

/-- what is known before a call -/
structure PreRel (imm : Imm) (loc : Locs) (lk : Lk) (w : World) (p : Pre) (vs : Array Value) (imm1 : Imm) (loc1 loc2 : Locs) (N : List Nat) : Prop where
  ev : Evolve imm loc w imm1 loc1 w
  frozen : FrozenTn lk p.fz
  rel1 : Rel imm1 loc1 (effLk p.fz (gonesOf p.fz) lk) w
  turn : TurnOK imm1 loc loc1 (asTo p.fz)
  kept : ∀ i, i ∉ p.fz.map (·.1) → loc1 i = loc i
  gone : ∀ i, i ∈ p.fz.map (·.1) → loc1 i = none
  growth : Growth N (fun i => bif elemN i p.ids0 then loc1 i else none) loc2
  rel2 : Rel imm1 loc2 (fun j => look j p.h) w
  args : ArgsRel imm1 loc2 p.us vs
  nodup : p.ids.Nodup
  short : p.ids.length < 1000
  sub : ∀ i, i ∈ p.ids0 → i ∈ p.ids
  fresh : ∀ i, i ∈ N → i ∉ p.ids0 ∧ notParam i = true

theorem isNilN_iff (l : List Nat) : isNilN l = true ↔ l = [] := by cases l <;> simp [isNilN]
theorem allNew_spec : ∀ l : List Nat, allNew l = true → ∀ i, i ∈ l → notParam i = true
  | [], _, i, h => by simp at h
  | j :: r, h, i, hi => by
    simp only [allNew, Bool.and_eq_true] at h
    rcases List.mem_cons.1 hi with h1 | h1
    · subst h1; exact h.1
    · exact allNew_spec r h.2 i h1

theorem callPre_rel {imm : Imm} {loc : Locs} {lk : Lk} {w : World} (R : Rel imm loc lk w) {d : Option Tmp} {known : Option (List Nat)} {us : List U} {vs : Array Value} (hargs : ArgsRel imm loc us vs) {p : Pre} (hp : p = callPre d lk known us) (hok : preOK p = true) :
    ∃ imm1 loc1 loc2 N, PreRel imm loc lk w p vs imm1 loc1 loc2 N := by
  have hF : FrozenTn lk p.fz := by
    subst hp
    cases known with
    | none => intro i t h; simp [callPre] at h
    | some l => exact frzArgs_ok lk l us
  obtain ⟨imm1, loc1, hev, R1, hturn, hkept, hgone⟩ := R.freeze hF
  have hth : thawed p.fz lk = effLk p.fz (gonesOf p.fz) lk := thawed_eq hF
  have hus : p.us = U.turns (asTo p.fz) us := by subst hp; rfl
  have hh0 : p.h0 = handed (thawed p.fz lk) p.ids0 := by subst hp; rfl
  have hh : p.h = growSt p.ids0 (growName d) p.h0 := by subst hp; rfl
  simp only [preOK, grownOK, Bool.and_eq_true] at hok
  obtain ⟨⟨hids, hnd, hap⟩, ⟨hlen, hsub⟩, happ, hnew⟩ := hok
  rw [nodupN_iff] at hnd hids
  rw [isNilN_iff] at hsub
  have R2 := R1.restrict (fun i => elemN i p.ids0)
  have hlk0 : (fun j => look j p.h0) = fun i => bif elemN i p.ids0 then effLk p.fz (gonesOf p.fz) lk i else none := by
    funext j
    rw [hh0, look_handed, hth]
  rw [← hlk0] at R2
  have hfresh : ∀ n, n ∈ growNew p.ids0 (growName d) p.h0 → n ∉ keysN p.h0 ∧ n ∉ U.idsL p.us ∧ n ∉ objIds p.h0 := fun n hn => by
    have h1 := growNew_fresh p.ids0 p.h0 (growName d) n (by rw [← hh]; exact hnd) hn
    have h2 := apartN_spec _ _ hap n ((mem_notIn _ n _).2 ⟨by rw [hh]; exact growNew_keys _ _ _ n hn, h1⟩)
    simp only [List.mem_append, not_or] at h2
    exact ⟨h1, h2.1, h2.2⟩
  obtain ⟨loc2, g, R3⟩ := growSt_rel p.ids0 p.h0 (growName d) _ _ R2 (fun q hq => by
      rw [hh0] at hq ⊢
      have := handed_mem _ _ q hq
      rw [look_handed, (elemN_mem _ _).2 this.2]
      exact this.1) (by rw [← hh]; exact hnd) (fun n hn => by
      obtain ⟨h1, _, h3⟩ := hfresh n hn
      exact ⟨look_none n _ (by rw [← keysN_eq]; exact h1), fun j x hj hx => h3 (mem_objIds _ n hj hx)⟩)
  rw [orLk_grow, ← hh] at R3
  have hfresh' : ∀ n, n ∈ growNew p.ids0 (growName d) p.h0 → n ∈ notIn (keysN p.h0) (keysN p.h) := fun n hn =>
    (mem_notIn _ n _).2 ⟨by rw [hh]; exact growNew_keys _ _ _ n hn, (hfresh n hn).1⟩
  refine ⟨imm1, loc1, loc2, _, hev, hF, R1, hturn, hkept, hgone, g, R3, ⟨?_, fun i hi => ?_⟩, hids, Nat.le_of_ble_eq_true hlen, fun i hi => ?_, fun i hi => ⟨apartN_spec _ _ happ i (hfresh' i hi), allNew_spec _ hnew i (hfresh' i hi)⟩⟩
  · rw [hus, turns_length]; exact hargs.1
  · have h1 := (hargs.2 i hi).turn hev.grow hturn
    rw [← turns_getD, ← hus] at h1
    have h2 : Rep imm1 (fun i => bif elemN i p.ids0 then loc1 i else none) (p.us.getD i .undef) (vs.getD i undef) := h1.mono (fun _ _ h => h) fun id => by
      cases elemN id p.ids0 <;> simp
    exact h2.growth g fun id hid hN => (hfresh id hN).2.1 (idsL_getD _ _ hid)
  · by_cases h : i ∈ p.ids
    · exact h
    · have : i ∈ notIn p.ids p.ids0 := (mem_notIn _ i _).2 ⟨hi, h⟩
      rw [hsub] at this; simp at this

end Go.Abs

/- Soundness of the abstract machine, part 26: behind a call. -/
set_option linter.unusedSimpArgs false
namespace Go.Abs
open Go

theorem number_map_fst : ∀ (b : Nat) (l : List Nat), (number b l).map (·.1) = l
  | _, [] => rfl
  | b, i :: r => by simp [number, number_map_fst (b + 1) r]

theorem number_mem : ∀ (b : Nat) (l : List Nat) (i j : Nat), (i, j) ∈ number b l → b ≤ j ∧ j < b + l.length ∧ i ∈ l
  | _, [], i, j, h => by simp [number] at h
  | b, k :: r, i, j, h => by
    simp only [number, List.mem_cons] at h
    rcases h with h | h
    · cases h; simp
    · obtain ⟨h1, h2, h3⟩ := number_mem (b + 1) r i j h
      simp only [List.length_cons, List.mem_cons]
      exact ⟨by omega, by omega, .inr h3⟩

theorem number_nodup : ∀ (b : Nat) (l : List Nat), ((number b l).map (·.2)).Nodup
  | _, [] => by simp [number]
  | b, k :: r => by
    simp only [number, List.map_cons, List.nodup_cons]
    refine ⟨fun h => ?_, number_nodup (b + 1) r⟩
    obtain ⟨⟨i, j⟩, h1, h2⟩ := List.mem_map.1 h
    have := number_mem (b + 1) r i j h1
    simp only at h2
    omega

theorem flip_eq : ∀ nm : List (Nat × Nat), flip nm = nm.map fun p => (p.2, p.1)
  | [] => rfl
  | (i, j) :: r => by simp [flip, flip_eq r]

theorem fstN_eq : ∀ nm : List (Nat × Nat), fstN nm = nm.map (·.1)
  | [] => rfl
  | (i, j) :: r => by simp [fstN, fstN_eq r]

theorem mem_flip (nm : List (Nat × Nat)) (i j : Nat) : (i, j) ∈ flip nm ↔ (j, i) ∈ nm := by
  rw [flip_eq]
  constructor
  · intro h
    obtain ⟨⟨a, b⟩, h1, h2⟩ := List.mem_map.1 h
    cases h2; exact h1
  · intro h; exact List.mem_map.2 ⟨(j, i), h, rfl⟩

theorem keysS_append (a b : List (Nat × Option AObj)) : keysS (a ++ b) = keysS a ++ keysS b := by simp [keysS]

theorem setLk_append : ∀ (a b : List (Nat × Option AObj)) (lk : Lk), setLk lk (a ++ b) = setLk (setLk lk a) b
  | [], _, _ => rfl
  | (i, o) :: r, b, lk => by simp only [List.cons_append, setLk, setLk_append r b]

theorem keysS_renameSets (f : Nat → To) (lk : Lk) : ∀ nm : List (Nat × Nat), keysS (renameSets f lk nm) = nm.map (·.2)
  | [] => rfl
  | (i, j) :: r => by
    have := keysS_renameSets f lk r
    simp only [keysS] at this
    simp [renameSets, keysS, this]

theorem setLk_renameSets (f : Nat → To) (lk2 : Lk) : ∀ (nm : List (Nat × Nat)) (lk : Lk) (j : Nat), (nm.map (·.2)).Nodup →
    setLk lk (renameSets f lk2 nm) j = match oldOf nm j with | some i => (lk2 i).map (AObj.turn f) | none => lk j
  | [], _, _, _ => rfl
  | (i, k) :: r, lk, j, hn => by
    simp only [List.map_cons, List.nodup_cons] at hn
    simp only [renameSets, setLk, oldOf]
    rw [setLk_renameSets f lk2 r _ j hn.2]
    by_cases hk : k = j
    · subst hk
      rw [Nat.beq_refl]
      simp only [cond_true]
      have : oldOf r k = none := by
        cases ho : oldOf r k with
        | none => rfl
        | some q => exact absurd (List.mem_map.2 ⟨(q, k), oldOf_mem ho, rfl⟩) hn.1
      rw [this]
      simp
    · rw [beq_false_of_ne hk]
      simp only [cond_false]
      cases oldOf r j with
      | some q => rfl
      | none => simp [Ne.symm hk]

theorem oldOf_none {nm : List (Nat × Nat)} {j : Nat} (h : j ∉ nm.map (·.2)) : oldOf nm j = none := by
  cases ho : oldOf nm j with
  | none => rfl
  | some q => exact absurd (List.mem_map.2 ⟨(q, j), oldOf_mem ho, rfl⟩) h

theorem fst_inj {nm : List (Nat × Nat)} (ho : (nm.map (·.1)).Nodup) {i j k : Nat} (h1 : (i, j) ∈ nm) (h2 : (i, k) ∈ nm) : j = k := by
  induction nm with
  | nil => simp at h1
  | cons p r ih =>
    obtain ⟨a, b⟩ := p
    simp only [List.map_cons, List.nodup_cons] at ho
    rcases List.mem_cons.1 h1 with h3 | h3 <;> rcases List.mem_cons.1 h2 with h4 | h4
    · cases h3; cases h4; rfl
    · cases h3; exact (ho.1 (List.mem_map.2 ⟨(i, k), h4, rfl⟩)).elim
    · cases h4; exact (ho.1 (List.mem_map.2 ⟨(i, j), h3, rfl⟩)).elim
    · exact ih ho.2 h3 h4

theorem asTo_append (a b : List (Nat × To)) (i : Nat) : asTo (a ++ b) i = if i ∈ a.map (·.1) then asTo a i else asTo b i := by
  induction a with
  | nil => simp
  | cons p r ih =>
    obtain ⟨j, t⟩ := p
    simp only [List.cons_append, asTo, List.map_cons, List.mem_cons]
    by_cases h : j = i
    · subst h; simp
    · rw [beq_false_of_ne h]
      simp only [cond_false, ih]
      have : (i = j ∨ i ∈ r.map (·.1)) ↔ i ∈ r.map (·.1) := ⟨fun h' => h'.resolve_left (fun e => h e.symm), .inr⟩
      simp only [this]

theorem gones_map : ∀ l : List Nat, (gones l).map (·.1) = l
  | [] => rfl
  | i :: r => by simp [gones, gones_map r]

theorem asTo_gones (l : List Nat) (i : Nat) : asTo (gones l) i = if i ∈ l then .gone else .same := by
  induction l with
  | nil => rfl
  | cons j r ih =>
    simp only [gones, asTo, List.mem_cons]
    by_cases h : j = i
    · subst h; simp
    · rw [beq_false_of_ne h]
      simp only [cond_false, ih]
      have : (i = j ∨ i ∈ r) ↔ i ∈ r := ⟨fun h' => h'.resolve_left (fun e => h e.symm), .inr⟩
      simp only [this]

theorem sndN_number_ge (b : Nat) (l : List Nat) (j : Nat) (h : j ∈ sndN (number b l)) : b ≤ j := by
  rw [sndN_eq] at h
  obtain ⟨⟨i, k⟩, h1, h2⟩ := List.mem_map.1 h
  have := number_mem b l i k h1
  simp only at h2
  omega

theorem dstName_new (d : Option Tmp) (l : List Nat) (j : Nat) (h : j ∈ sndN (number (dstName d) l)) : notParam j = true := by
  have h1 := sndN_number_ge _ _ _ h
  have h2 : 2000 ≤ dstName d := by cases d <;> simp [dstName]
  have h3 : 1999 < j := by omega
  simp only [notParam, Bool.or_eq_true]
  exact .inr (by simp [h3])

/-- rows that are not written stay so wherever -/
theorem Rep.frozen {imm imm' : Imm} {loc loc' : Locs} (hi : ∀ a v, imm a = some v → imm' a = some v) {S : Rows} {b : Bool} {v : Value} (h : Rep imm loc (.slice S b) v) : Rep imm' loc' (.slice S b) v := by
  have := h.turn (f := fun _ => .gone) (loc' := loc') hi fun id => trivial
  simpa only [U.turn] using this

/-- the same turning, later -/
theorem TurnOK.later {imm1 imm' : Imm} {loc loc1 loc' : Locs} {f : Nat → To} (h : TurnOK imm1 loc loc1 f) (hi : ∀ a v, imm1 a = some v → imm' a = some v)
    (hs : ∀ id, f id = .same → loc' id = loc id ∨ loc' id = none) (hid : ∀ id j, f id ≠ .id j) : TurnOK imm' loc loc' f := by
  intro id
  have h0 := h id
  have h1 := hs id
  have h2 := hid id
  cases hf : f id with
  | same => exact h1 hf
  | gone => trivial
  | id j => exact absurd hf (h2 j)
  | frozen S =>
    rw [hf] at h0
    simp only at h0 ⊢
    cases hl : loc id with
    | none => rw [hl] at h0; exact h0.elim
    | some l =>
      rw [hl] at h0
      cases l <;> simp only at h0 ⊢
      · exact h0.frozen hi
      · exact h0.frozen hi

section
variable {imm imm1 : Imm} {loc loc1 loc2 : Locs} {lk : Lk} {w : World} {p : Pre} {vs : Array Value} {N : List Nat}

/-- where what is handed over stands, by its names at the callee's -/
def preLoc (p : Pre) (loc2 : Locs) : Locs := nmLoc (number 1000 p.ids) loc2

theorem PreRel.given (H : PreRel imm loc lk w p vs imm1 loc1 loc2 N) : Rel imm1 (preLoc p loc2) (fun j => look j p.st) w ∧ ArgsRel imm1 (preLoc p loc2) p.args vs := by
  have hn := number_nodup 1000 p.ids
  have ho : ((number 1000 p.ids).map (·.1)).Nodup := by rw [number_map_fst]; exact H.nodup
  refine ⟨?_, ?_, fun i hi => ?_⟩
  · have := (H.rel2.rename hn ho).weakAll
    have he : (fun j => look j p.st) = fun i => (nmLk (number 1000 p.ids) (nmTo (number 1000 p.ids)) (fun j => look j p.h) i).map AObj.weak := by
      funext j
      rw [Pre.st, look_weakSt, look_renameSt _ _ _ _ hn]
    rw [he]
    exact this
  · rw [Pre.args, weaks_length, turns_length]; exact H.args.1
  · rw [Pre.args, weaks_getD, turns_getD]
    exact ((H.args.2 i hi).turn (fun _ _ h => h) (TurnOK.names imm1 loc2 hn)).weak

/-- what stands at the callee's stood at the caller's, or nowhere -/
theorem PreRel.block (H : PreRel imm loc lk w p vs imm1 loc1 loc2 N) {i : Nat} {l : Loc} {b : Nat} (h : preLoc p loc2 i = some l) (hb : l.block = some b) :
    ∃ j, j ∈ p.ids0 ∧ loc1 j = some l ∧ loc j = some l := by
  simp only [preLoc, nmLoc] at h
  split at h
  · rename_i j hj
    by_cases hN : j ∈ N
    · have := (H.growth.new j hN).2 l h
      rw [hb] at this; cases this
    · rw [H.growth.old j hN] at h
      cases he : elemN j p.ids0 with
      | false => simp [he] at h
      | true =>
        simp only [he, cond_true] at h
        refine ⟨j, (elemN_mem _ _).1 he, h, ?_⟩
        by_cases hf : j ∈ p.fz.map (·.1)
        · rw [H.gone j hf] at h; cases h
        · rw [← H.kept j hf]; exact h
  · cases h

theorem callPost_rel (R : Rel imm loc lk w) (H : PreRel imm loc lk w p vs imm1 loc1 loc2 N) {d : Option Tmp} {u : U} {st2 : St} {imm' : Imm} {loc' : Locs} {w' : World} {v : Value}
    (hev : Evolve imm1 (preLoc p loc2) w imm' loc' w') (R' : Rel imm' loc' (fun j => look j st2) w') (hu : Rep imm' loc' u v) {e : Eff} (he : e = callPost d p u st2) (hok : e.ok = true) :
    ∃ loc4, Evolve imm loc w imm' loc4 w' ∧ Rel imm' loc4 (effLk e.tn e.sets lk) w' ∧ TurnOK imm' loc loc4 (asTo e.tn) ∧ Rep imm' loc4 e.v v := by
  obtain ⟨news, hnews⟩ : ∃ news, backIds st2 u p.ids.length = news := ⟨_, rfl⟩
  obtain ⟨nm, hnm⟩ : ∃ nm, nm = flip (number 1000 p.ids) ++ number (dstName d) news := ⟨_, rfl⟩
  have he' : e = { v := u.turn (nmTo nm), ok := nodupN (fstN nm) && nodupN (sndN nm), tn := p.fz ++ gones (notIn p.ids0 p.ids) ++ gones (sndN (number (dstName d) news)), sets := gonesOf p.fz ++ renameSets (nmTo nm) (fun i => look i st2) nm } := by
    rw [he, callPost, hnews, hnm]
  clear he
  subst he'
  simp only [Bool.and_eq_true, nodupN_iff, fstN_eq, sndN_eq] at hok
  obtain ⟨ho, hn⟩ := hok
  have hmap : ∀ j, j ∈ nm.map (·.2) ↔ j ∈ p.ids ∨ j ∈ sndN (number (dstName d) news) := fun j => by
    rw [hnm, List.map_append, List.mem_append, sndN_eq, flip_eq, List.map_map]
    have : ((fun x : Nat × Nat => x.2) ∘ fun p : Nat × Nat => (p.2, p.1)) = fun x => x.1 := rfl
    rw [this, number_map_fst]
  -- where things stand
  obtain ⟨loc4, hl4⟩ : ∃ loc4 : Locs, loc4 = fun j => if j ∈ nm.map (·.2) then nmLoc nm loc' j else loc1 j := ⟨_, rfl⟩
  have in4 : ∀ j, j ∈ nm.map (·.2) → ∃ i, oldOf nm j = some i ∧ loc4 j = loc' i := fun j hj => by
    obtain ⟨⟨i, k⟩, h1, h2⟩ := List.mem_map.1 hj
    simp only at h2
    subst h2
    have := oldOf_of_mem hn h1
    exact ⟨i, this, by rw [hl4]; simp only [if_pos hj, nmLoc, this]⟩
  have out4 : ∀ j, j ∉ nm.map (·.2) → loc4 j = loc1 j := fun j hj => by rw [hl4]; simp only [if_neg hj]
  have of4 : ∀ i j, (i, j) ∈ nm → loc4 j = loc' i := fun i j h => by
    obtain ⟨i', h1, h2⟩ := in4 j (List.mem_map.2 ⟨(i, j), h, rfl⟩)
    rw [oldOf_of_mem hn h] at h1
    cases h1; exact h2
  have ids4 : ∀ j, j ∈ p.ids → loc4 j = loc2 j ∨ loc4 j = none := fun j hj => by
    have h1 : j ∈ (number 1000 p.ids).map (·.1) := by rw [number_map_fst]; exact hj
    obtain ⟨⟨j', k⟩, h2, h3⟩ := List.mem_map.1 h1
    simp only at h3
    subst h3
    have h4 := number_mem _ _ _ _ h2
    have h5 : (k, j') ∈ nm := by rw [hnm]; exact List.mem_append_left _ ((mem_flip _ _ _).2 h2)
    have h6 : notParam k = false := by
      have := H.short
      have blt : ∀ a b : Nat, ¬ a < b → Nat.blt a b = false := fun a b h => by
        cases hb : Nat.blt a b with
        | false => rfl
        | true => exact absurd (Nat.le_of_ble_eq_true hb) h
      simp only [notParam, Bool.or_eq_false_iff]
      exact ⟨blt _ _ (by omega), blt _ _ (by omega)⟩
    have h7 : preLoc p loc2 k = loc2 j' := by simp only [preLoc, nmLoc, oldOf_of_mem (number_nodup 1000 p.ids) h2]
    rw [of4 k j' h5]
    rcases hev.par k h6 with h | h
    · exact .inl (h.trans h7)
    · exact .inr h
  have loc1or : ∀ j, loc1 j = loc j ∨ loc1 j = none := fun j => by
    by_cases hf : j ∈ p.fz.map (·.1)
    · exact .inr (H.gone j hf)
    · exact .inl (H.kept j hf)
  have loc2or : ∀ j, j ∉ N → loc2 j = loc1 j ∨ loc2 j = none := fun j hj => by
    rw [H.growth.old j hj]
    cases elemN j p.ids0 <;> simp
  have locOf : ∀ i l b, loc1 i = some l → l.block = some b → loc i = some l := fun i l b h _ => by
    rcases loc1or i with h1 | h1
    · rw [← h1]; exact h
    · rw [h1] at h; cases h
  -- what the callee had has a place here
  have back : ∀ i l b, loc' i = some l → l.block = some b → (∃ j, j ∈ p.ids0 ∧ ∃ m, loc1 j = some m ∧ m.block = some b) ∨ w.heap.size ≤ b := fun i l b hi hb => by
    rcases hev.own i l b hi hb with ⟨j, m, hj, hm⟩ | h
    · obtain ⟨q, h1, h2, _⟩ := H.block hj hm
      exact .inl ⟨q, h1, m, h2, hm⟩
    · exact .inr h
  have hsub : ∀ j, j ∈ p.ids0 → j ∈ nm.map (·.2) := fun j hj => (hmap j).2 (.inl (H.sub j hj))
  -- what is not handed over stands apart
  have apart : ∀ i l b, i ∉ nm.map (·.2) → loc1 i = some l → l.block = some b → ∀ j m, loc' j = some m → m.block ≠ some b := fun i l b hi h1 hb j m hj hm => by
    rcases back j m b hj hm with ⟨q, hq, m', h2, h3⟩ | h
    · have := H.rel1.inj i q l m' b h1 h2 hb h3
      subst this
      exact hi (hsub i hq)
    · have := H.rel1.block_lt h1 hb
      omega
  have stays : ∀ i l b, i ∉ nm.map (·.2) → loc1 i = some l → l.block = some b → w'.heap[b]? = w.heap[b]? := fun i l b hi h1 hb =>
    hev.block b (H.rel1.block_lt h1 hb) fun j m hj hm => by
      obtain ⟨q, h2, h3, _⟩ := H.block hj hm
      have := H.rel1.inj i q l m b h1 h3 hb hm
      subst this
      exact hi (hsub i h2)
  have hgrow : ∀ a v, imm a = some v → imm' a = some v := fun a v h => hev.grow a v (H.ev.grow a v h)
  have hEv : Evolve imm loc w imm' loc4 w' := by
    refine ⟨hev.os, hev.tape, hev.output, hev.size, fun b hb hno => hev.block b hb fun i l hi hl => ?_, hgrow, fun a v ha => ?_, fun i l b hi hb => ?_, fun i hi => ?_⟩
    · obtain ⟨j, _, _, h3⟩ := H.block hi hl
      exact hno j l h3 hl
    · rcases hev.claims a v ha with h | ⟨i, l, hi, hl⟩ | h
      · rcases H.ev.claims a v h with h | h | h
        · exact .inl h
        · exact .inr (.inl h)
        · exact .inr (.inr h)
      · obtain ⟨j, _, _, h3⟩ := H.block hi hl
        exact .inr (.inl ⟨j, l, h3, hl⟩)
      · exact .inr (.inr h)
    · by_cases h : i ∈ nm.map (·.2)
      · obtain ⟨k, _, hk⟩ := in4 i h
        rw [hk] at hi
        rcases back k l b hi hb with ⟨j, _, m, hj, hm⟩ | h
        · exact .inl ⟨j, m, locOf j m b hj hm, hm⟩
        · exact .inr h
      · rw [out4 i h] at hi
        exact .inl ⟨i, l, locOf i l b hi hb, hb⟩
    · by_cases h : i ∈ nm.map (·.2)
      · rcases (hmap i).1 h with h1 | h1
        · rcases ids4 i h1 with h2 | h2
          · have hN : i ∉ N := fun hN => by rw [(H.fresh i hN).2] at hi; cases hi
            rw [h2]
            rcases loc2or i hN with h3 | h3
            · rw [h3]; exact loc1or i
            · exact .inr h3
          · exact .inr h2
        · rw [dstName_new d news i h1] at hi; cases hi
      · rw [out4 i h]; exact loc1or i
  have hTn : TurnOK imm' loc loc4 (asTo (p.fz ++ gones (notIn p.ids0 p.ids) ++ gones (sndN (number (dstName d) news)))) := by
    have hcase : ∀ id, asTo (p.fz ++ gones (notIn p.ids0 p.ids) ++ gones (sndN (number (dstName d) news))) id =
        if id ∈ p.fz.map (·.1) then asTo p.fz id else if id ∈ notIn p.ids0 p.ids then .gone else if id ∈ sndN (number (dstName d) news) then .gone else .same := fun id => by
      simp only [asTo_append, List.map_append, List.mem_append, asTo_gones, gones_map]
      by_cases h1 : id ∈ p.fz.map (·.1)
      · simp only [h1, true_or, if_true]
      · by_cases h2 : id ∈ notIn p.ids0 p.ids
        · simp only [h1, h2, or_true, if_true, if_false]
        · simp only [h1, h2, or_self, if_false]
    intro id
    rw [hcase id]
    by_cases h1 : id ∈ p.fz.map (·.1)
    · rw [if_pos h1]
      obtain ⟨S, wr, hS, _⟩ := H.frozen id _ (asTo_mem _ id h1)
      have h2 := H.turn id
      rw [hS] at h2 ⊢
      simp only at h2 ⊢
      cases hl : loc id with
      | none => rw [hl] at h2; exact h2.elim
      | some l =>
        rw [hl] at h2
        cases l with
        | buf b n cap ty => exact h2.frozen hev.grow
        | full a n => exact h2.frozen hev.grow
        | cells b => trivial
        | iter b => trivial
        | map b => trivial
    · rw [if_neg h1]
      by_cases h2 : id ∈ notIn p.ids0 p.ids
      · rw [if_pos h2]; trivial
      · rw [if_neg h2]
        by_cases h3 : id ∈ sndN (number (dstName d) news)
        · rw [if_pos h3]; trivial
        · rw [if_neg h3]
          show loc4 id = loc id ∨ loc4 id = none
          by_cases h4 : id ∈ nm.map (·.2)
          · rcases (hmap id).1 h4 with h5 | h5
            · have h6 : id ∈ p.ids0 := by
                by_cases h : id ∈ p.ids0
                · exact h
                · exact absurd ((mem_notIn _ id _).2 ⟨h5, h⟩) h2
              have hN : id ∉ N := fun hN => (H.fresh id hN).1 h6
              rcases ids4 id h5 with h7 | h7
              · rw [h7]
                rcases loc2or id hN with h8 | h8
                · rw [h8]; exact loc1or id
                · exact .inr h8
              · exact .inr h7
            · exact absurd h5 h3
          · rw [out4 id h4]; exact loc1or id
  have hNm : TurnOK imm' loc' loc4 (nmTo nm) := by
    intro id
    rcases nmTo_spec nm id with ⟨k, h1, h2⟩ | ⟨h1, _⟩
    · rw [h1]; exact .inl (of4 id k h2)
    · rw [h1]; trivial
  have hkeys : ∀ id, id ∈ keysS (gonesOf p.fz ++ renameSets (nmTo nm) (fun i => look i st2) nm) ↔ id ∈ p.fz.map (·.1) ∨ id ∈ nm.map (·.2) := fun id => by
    rw [keysS_append, List.mem_append, keysS_gonesOf, keysS_renameSets]
  refine ⟨loc4, hEv, R.eff hEv (fun a v h => .inr (R'.claims a v h)) ?_ ?_ hTn ?_ ?_ ?_ ?_, hTn, hu.turn (fun _ _ h => h) hNm⟩
  · intro id hid
    rw [hkeys, not_or] at hid
    rw [out4 id hid.2, H.kept id hid.1]
  · intro id l b hid hl hb
    rw [hkeys, not_or] at hid
    exact stays id l b hid.2 ((H.kept id hid.1).trans hl) hb
  · intro id hid
    rw [setLk_append, setLk_renameSets _ _ _ _ _ hn]
    by_cases h : id ∈ nm.map (·.2)
    · obtain ⟨i, h1, h2⟩ := in4 id h
      rw [h1]
      simp only
      cases hlk : look i st2 with
      | some o =>
        obtain ⟨l, hl, hr⟩ := R'.objs i o hlk
        exact ⟨l, h2.trans hl, hr.turn (fun _ _ h => h) hNm fun _ _ => rfl⟩
      | none =>
        show loc4 id = none
        rw [h2]
        cases hl : loc' i with
        | none => rfl
        | some l =>
          obtain ⟨o, ho⟩ := R'.dom i l hl
          simp only [hlk] at ho; cases ho
    · rw [hkeys] at hid
      have hf := hid.resolve_right h
      rw [oldOf_none h]
      simp only
      rw [setLk_gonesOf, if_pos hf]
      show loc4 id = none
      rw [out4 id h, H.gone id hf]
  · intro i j l m b hi h1 h2 h3 h4
    have noF : ∀ q, q ∈ p.fz.map (·.1) → q ∉ nm.map (·.2) → loc4 q = none := fun q h h' => by rw [out4 q h', H.gone q h]
    have hi' : i ∈ nm.map (·.2) := by
      by_cases h : i ∈ nm.map (·.2)
      · exact h
      · rw [hkeys] at hi
        rw [noF i (hi.resolve_right h) h] at h1; cases h1
    obtain ⟨a, ha, ha4⟩ := in4 i hi'
    rw [ha4] at h1
    by_cases hj : j ∈ nm.map (·.2)
    · obtain ⟨c, hc, hc4⟩ := in4 j hj
      rw [hc4] at h2
      have := R'.inj a c l m b h1 h2 h3 h4
      subst this
      exact fst_inj ho (oldOf_mem ha) (oldOf_mem hc)
    · rw [out4 j hj] at h2
      exact absurd h3 (apart j m b hj h2 h4 a l h1)
  · intro i l b hi hb a v ha h0
    by_cases h : i ∈ nm.map (·.2)
    · obtain ⟨k, _, hk⟩ := in4 i h
      rw [hk] at hi
      exact R'.sep k l b hi hb a v ha
    · rw [out4 i h] at hi
      rcases hev.claims a v ha with h1 | ⟨j, m, hj, hm⟩ | h1
      · exact H.rel1.sep i l b hi hb a v h1
      · obtain ⟨q, hq, h2, _⟩ := H.block hj hm
        intro hab
        rw [hab] at hm
        have := H.rel1.inj i q l m b hi h2 hb hm
        subst this
        exact h (hsub i hq)
      · have := H.rel1.block_lt hi hb
        omega
  · intro i l b hi h1 hb a v ha
    by_cases h : i ∈ nm.map (·.2)
    · obtain ⟨k, _, hk⟩ := in4 i h
      rw [hk] at h1
      exact R'.sep k l b h1 hb a v (hgrow a v ha)
    · rw [hkeys] at hi
      rw [out4 i h, H.gone i (hi.resolve_right h)] at h1
      cases h1

end

end Go.Abs

/- Soundness of the abstract machine, part 27: an operation's run, a call's with it. -/
set_option linter.unusedSimpArgs false
namespace Go.Abs
open Go

/-- a call's run: entered, or answered at once -/
def CallRuns (P : Program) (f : FuncId) (vs : Array Value) (w : World) (R : Ending → World → Prop) : Prop :=
  ((callFunc f vs).run P w = .ok (.enter f vs) w ∧ Calls P f vs w R) ∨ ∃ v w', (callFunc f vs).run P w = .ok (.value v) w' ∧ R (.returned v) w'

theorem CallRuns.mono {P : Program} {f : FuncId} {vs : Array Value} {w : World} {R R' : Ending → World → Prop} (h : CallRuns P f vs w R) (hr : ∀ e w', R e w' → R' e w') : CallRuns P f vs w R' := by
  rcases h with ⟨h1, h2⟩ | ⟨v, w', h1, h2⟩
  · exact .inl ⟨h1, h2.mono hr⟩
  · exact .inr ⟨v, w', h1, hr _ _ h2⟩

/-- how a call ends, told by what it comes to -/
def endOf (pan : Bool) (v : Value) : Ending := if pan then .panicked [{ v, recovered := false }] else .returned v

def AnswersTo (P : Program) (env : Env) (f : FuncId) (us : List U) (st : St) (pan : Bool) (u : U) (st' : St) : Prop :=
  ∀ imm loc w vs, GlobOK imm env → Rel imm loc (fun i => look i st) w → ArgsRel imm loc us vs →
    CallRuns P f vs w fun e w' => ∃ imm' loc' v, Evolve imm loc w imm' loc' w' ∧ Rel imm' loc' (fun i => look i st') w' ∧ Rep imm' loc' u v ∧ e = endOf pan v

def TableOK (P : Program) (env : Env) (T : Table) : Prop :=
  ∀ f us st, (∀ κ κp, T f us st κ κp = .fail) ∨ ∃ pan u st', (∀ κ κp, T f us st κ κp = bif pan then κp u st' else κ u st') ∧ AnswersTo P env f us st pan u st'

section
variable (nt : Nat) (imm0 : Imm) (loc0 : Locs) (w0 : World)

/-- a frame and a store stand for a frame and a world, and nothing else has turned -/
def At (fr : Fr) (st : St) (a : Act) (w : World) : Prop :=
  ∃ imm loc, Evolve imm0 loc0 w0 imm loc w ∧ Rel imm loc (fun i => look i st) w ∧ FrRel imm loc fr a ∧ a.defers = [] ∧ a.tmps.size = nt

def Pan (u : U) (st : St) (v : Value) (w : World) : Prop := ∃ imm loc, Evolve imm0 loc0 w0 imm loc w ∧ Rel imm loc (fun i => look i st) w ∧ Rep imm loc u v
end

theorem put_size (a : Act) (d : Option Tmp) (v : Value) : (a.put d v).tmps.size = a.tmps.size := by cases d <;> simp [Act.put]
theorem put_defers' (a : Act) (d : Option Tmp) (v : Value) : (a.put d v).defers = a.defers := by cases d <;> simp [Act.put]

theorem ArgsRel.append {imm : Imm} {loc : Locs} {us us' : List U} {vs vs' : Array Value} (h : ArgsRel imm loc us vs) (h' : ArgsRel imm loc us' vs') : ArgsRel imm loc (us ++ us') (vs ++ vs') := by
  refine ⟨by simp [h.1, h'.1], fun i hi => ?_⟩
  have hl := h.1
  by_cases hlt : i < vs.size
  · have h1 : (us ++ us').getD i .undef = us.getD i .undef := by simp [List.getD_eq_getElem?_getD, List.getElem?_append_left (show i < us.length by omega)]
    have h2 : (vs ++ vs').getD i undef = vs.getD i undef := by simp [Array.getElem?_append_left hlt]
    rw [h1, h2]; exact h.2 i hlt
  · have h1 : (us ++ us').getD i .undef = us'.getD (i - vs.size) .undef := by
      simp [List.getD_eq_getElem?_getD, List.getElem?_append_right (show us.length ≤ i by omega), hl]
    have h2 : (vs ++ vs').getD i undef = vs'.getD (i - vs.size) undef := by simp [Array.getElem?_append_right (show vs.size ≤ i by omega)]
    rw [h1, h2]
    exact h'.2 _ (by simp at hi; omega)

theorem ArgsRel.map {imm : Imm} {loc : Locs} (xs : Array Operand) (f : Operand → Value) (ev : Operand → U) (hr : ∀ x, Rep imm loc (ev x) (f x)) : ArgsRel imm loc (xs.toList.map ev) (xs.map f) := by
  refine ⟨by simp, fun i hi => ?_⟩
  have hi' : i < xs.size := by simpa using hi
  simpa [List.getD_eq_getElem?_getD, hi'] using hr xs[i]

theorem call_wp {P : Program} {o : Oper} {a : Act} {w : World} {next : Act → World → Prop} {Q : Exit → Act → World → Prop} {f : FuncId} {vs : Array Value} {R : Ending → World → Prop}
    (hrun : (Go.execOp a.eval o).run P w = (callFunc f vs).run P w) (h : CallRuns P f vs w R) (hr : ∀ v w', R (.returned v) w' → next (a.put o.dst v) w')
    (hp : ∀ ch w', R (.panicked ch) w' → Q (.panic ch) a w') (ho : ∀ w', ¬ R .outgrown w') : o.wp P a w next Q := by
  unfold Oper.wp
  rw [hrun]
  rcases h with ⟨h1, h2⟩ | ⟨v, w', h1, h2⟩
  · rw [h1]
    show Calls P f vs w _
    refine h2.mono fun e w' he => ?_
    cases e with
    | returned v => exact hr v w' he
    | panicked ch => exact hp ch w' he
    | outgrown => exact absurd he (ho w')
  · rw [h1]
    exact hr v w' h2

section
variable {P : Program} {env : Env} (E : EnvOK P env) {nt : Nat} {imm0 : Imm} {loc0 : Locs} {w0 : World}

theorem After {imm imm' : Imm} {loc loc' : Locs} {fr : Fr} {st : St} {a : Act} {w w' : World} (hev0 : Evolve imm0 loc0 w0 imm loc w) (F : FrRel imm loc fr a) (hdf : a.defers = []) (hsz : a.tmps.size = nt)
    {d : Option Tmp} (hd : ∀ t, d = some t → t < nt) {tn : List (Nat × To)} {sets : List (Nat × Option AObj)} {u : U} {v : Value} (hev : Evolve imm loc w imm' loc' w')
    (hR : Rel imm' loc' (effLk tn sets (fun i => look i st)) w') (hT : TurnOK imm' loc loc' (asTo tn)) (hu : Rep imm' loc' u v) :
    At nt imm0 loc0 w0 (putD d u (turnFr' tn fr)) (setSt (turnSt' tn st) sets) (a.put d v) w' := by
  refine ⟨imm', loc', hev0.trans hev, by rw [look_eff]; exact hR, (F.turn hev.grow hT).put d u v (fun t ht => by rw [hsz]; exact hd t ht) hu, by rw [put_defers']; exact hdf, by rw [put_size]; exact hsz⟩

include E in
theorem callOp_wp {c : Ctx} (hc : c.env = env) (hT : TableOK P env c.tab) (hG : GlobOK imm0 env) {o : Oper} {f : FuncId} {us : List U} {vs : Array Value} {fr : Fr} {st : St} {κ : Fr → St → Out} {κp : KR} {out : Out}
    {imm : Imm} {loc : Locs} {a : Act} {w : World} (hev0 : Evolve imm0 loc0 w0 imm loc w) (R : Rel imm loc (fun i => look i st) w) (F : FrRel imm loc fr a) (hdf : a.defers = []) (hsz : a.tmps.size = nt)
    (hd : ∀ t, o.dst = some t → t < nt) (hargs : ArgsRel imm loc us vs) (hrun : (Go.execOp a.eval o).run P w = (callFunc f vs).run P w)
    (h : callOp c o.dst f us fr st κ κp = out) (hne : out ≠ .fail) {next : Act → World → Prop} {Q : Exit → Act → World → Prop}
    (hn : ∀ fr' st' a' w', At nt imm0 loc0 w0 fr' st' a' w' → κ fr' st' = out → next a' w')
    (hp : ∀ u' st' v w', Pan imm0 loc0 w0 u' st' v w' → κp u' st' = out → Q (.panic [{ v, recovered := false }]) a w') : o.wp P a w next Q := by
  have _ := E
  obtain ⟨p, hpre⟩ : ∃ p, p = callPre o.dst (fun i => look i st) (some (objIds st ++ params st)) us := ⟨_, rfl⟩
  replace h : cond (preOK p) (c.tab f p.args p.st
      (fun u st2 => cond (callPost o.dst p u st2).ok (κ (putD o.dst (callPost o.dst p u st2).v (turnFr' (callPost o.dst p u st2).tn fr)) (setSt (turnSt' (callPost o.dst p u st2).tn st) (callPost o.dst p u st2).sets)) .fail)
      (fun u st2 => cond (callPost o.dst p u st2).ok (κp (callPost o.dst p u st2).v (setSt (turnSt' (callPost o.dst p u st2).tn st) (callPost o.dst p u st2).sets)) .fail)) .fail = out := by rw [hpre]; exact h
  cases hok : preOK p with
  | false => rw [hok] at h; exact absurd h.symm hne
  | true =>
    rw [hok] at h
    simp only [cond_true] at h
    obtain ⟨imm1, loc1, loc2, N, H⟩ := callPre_rel R hargs hpre hok
    obtain ⟨R1, A1⟩ := H.given
    rcases hT f p.args p.st with hf | ⟨pan, u, st2, hval, hans⟩
    · rw [hf] at h; exact absurd h.symm hne
    · rw [hval] at h
      have hcall := hans imm1 _ w vs (hG.mono fun a v h => H.ev.grow a v (hev0.grow a v h)) R1 A1
      cases pan with
      | false =>
        simp only [cond_false] at h
        cases hok2 : (callPost o.dst p u st2).ok with
        | false => rw [hok2] at h; exact absurd h.symm hne
        | true =>
          rw [hok2] at h
          simp only [cond_true] at h
          refine call_wp hrun hcall (fun v w' ⟨imm', loc', v', hev, R', hu, he⟩ => ?_) (fun ch w' ⟨_, _, _, _, _, _, he⟩ => by cases he) fun w' ⟨_, _, _, _, _, _, he⟩ => by cases he
          cases he
          obtain ⟨loc4, h1, h2, h3, h4⟩ := callPost_rel R H hev R' hu rfl hok2
          exact hn _ _ _ _ (After hev0 F hdf hsz hd h1 h2 h3 h4) h
      | true =>
        simp only [cond_true] at h
        cases hok2 : (callPost o.dst p u st2).ok with
        | false => rw [hok2] at h; exact absurd h.symm hne
        | true =>
          rw [hok2] at h
          simp only [cond_true] at h
          refine call_wp hrun hcall (fun v w' ⟨_, _, _, _, _, _, he⟩ => by cases he) (fun ch w' ⟨imm', loc', v', hev, R', hu, he⟩ => ?_) fun w' ⟨_, _, _, _, _, _, he⟩ => by cases he
          cases he
          obtain ⟨loc4, h1, h2, h3, h4⟩ := callPost_rel R H hev R' hu rfl hok2
          exact hp _ _ _ _ ⟨imm', loc4, hev0.trans h1, by rw [look_eff]; exact h2, h4⟩ h

theorem run_getObj_iter {b : Nat} {s : ByteArray} {pos : Nat} {w : World} (hb : w.heap[b]? = some (.stringIter s pos)) : (getObj b).run P w = .ok (.stringIter s pos) w := by
  simp [getObj, Sem.run, hb]
theorem run_setObj_iter {b : Nat} {s : ByteArray} {pos : Nat} {w : World} (o : Obj) (hb : w.heap[b]? = some (.stringIter s pos)) : (setObj b o).run P w = .ok () { w with heap := w.heap.setIfInBounds b o } := by
  simp [setObj, Sem.run, hb]

theorem next_does {imm : Imm} {loc : Locs} {st : St} {w : World} (R : Rel imm loc (fun i => look i st) w) {id : Nat} {s : Bytes} {pos : Nat} (hs : look id st = some (.iter s pos)) {vx : Value} (hx : Rep imm loc (.iter id) vx) (t : TypeId) :
    ∃ v w', (Instr.next vx true t).run P w = .ok v w' ∧ Evolve imm loc w imm loc w' ∧
      (if pos < s.length then Rep imm loc (.tup [.bool true, .int .i64 (pos : Int), .int .i32 ((Utf8.decode ⟨s.toArray⟩ pos).1 : Int)]) v ∧ Rel imm loc (fun i => look i (repl id (.iter s (pos + (Utf8.decode ⟨s.toArray⟩ pos).2)) st)) w'
        else Rep imm loc (.tup [.bool false]) v ∧ w' = w) := by
  obtain ⟨l, hl, hr⟩ := R.objs id _ hs
  cases hr with
  | iter _ _ b bs h1 h2 =>
    have hv : vx = .pointer (some ⟨b, 0, none⟩) := by
      cases hx with
      | iter _ b' h => rw [hl] at h; cases h; rfl
      | dead _ _ i hu _ h => simp only [U.ref?, Option.some.injEq] at hu; subst hu; rw [hl] at h; cases h
    subst hv
    have hbs : bs = ⟨s.toArray⟩ := by
      cases bs with
      | mk d => simp only at h2; rw [← h2]
    have hsz : bs.size = s.length := by rw [hbs]; simp [ByteArray.size]
    by_cases hp : pos < s.length
    · have hp' : pos < bs.size := by omega
      have hblt : b < w.heap.size := (Array.getElem?_eq_some_iff.1 h1).1
      obtain ⟨nw, hnw⟩ : ∃ nw : Obj, nw = .stringIter bs (pos + (Utf8.decode bs pos).2) := ⟨_, rfl⟩
      refine ⟨.tuple #[.bool true, goInt pos, .int .i32 (Utf8.decode bs pos).1], { w with heap := w.heap.setIfInBounds b nw }, ?_, ?_⟩
      · rw [hnw]
        simp [Instr.next, run_getObj_iter h1, Result.andThen, hp', run_setObj_iter _ h1]
      · have hup := R.update (w' := { w with heap := w.heap.setIfInBounds b nw }) (o := .iter s (pos + (Utf8.decode ⟨s.toArray⟩ pos).2)) hl rfl rfl rfl rfl (by simp)
          (fun q _ hq => by simp [Array.getElem?_setIfInBounds_ne (Ne.symm hq)]) (.iter _ _ b bs (by simp [hblt, hnw, hbs]) h2)
        refine ⟨hup.1, ?_⟩
        rw [if_pos hp]
        refine ⟨?_, ?_⟩
        · rw [← hbs]
          refine .tup _ _ rfl fun i hi => ?_
          have : i = 0 ∨ i = 1 ∨ i = 2 := by simp at hi; omega
          rcases this with rfl | rfl | rfl
          · exact .bool true
          · exact .int .i64 _
          · exact .int .i32 _
        · have he : (fun i => look i (repl id (.iter s (pos + (Utf8.decode ⟨s.toArray⟩ pos).2)) st)) = effLk [] [(id, some (.iter s (pos + (Utf8.decode ⟨s.toArray⟩ pos).2)))] (fun i => look i st) := by
            funext i
            simp only [effLk, setLk, turnLk_nil, look_repl, hs, Option.map_some]
          rw [he]
          exact hup.2
    · have hp' : ¬ pos < bs.size := by omega
      refine ⟨.tuple #[.bool false], w, ?_, Evolve.refl _ _ _, ?_⟩
      · simp [Instr.next, run_getObj_iter h1, Result.andThen, hp']
      · rw [if_neg hp]
        refine ⟨.tup _ _ rfl fun i hi => ?_, rfl⟩
        have : i = 0 := by simp at hi; omega
        subst this
        exact .bool false

include E in
theorem execOp_wp {c : Ctx} (hc : c.env = env) (hT : TableOK P env c.tab) (hG : GlobOK imm0 env) {o : Oper} {fr : Fr} {st : St} {κ : Fr → St → Out} {κp : KR} {out : Out} {a : Act} {w : World}
    (A : At nt imm0 loc0 w0 fr st a w) (hd : ∀ t, o.dst = some t → t < nt) (h : execOp c o fr st κ κp = out) (hne : out ≠ .fail) {next : Act → World → Prop} {Q : Exit → Act → World → Prop}
    (hn : ∀ fr' st' a' w', At nt imm0 loc0 w0 fr' st' a' w' → κ fr' st' = out → next a' w')
    (hp : ∀ u' st' v w', Pan imm0 loc0 w0 u' st' v w' → κp u' st' = out → Q (.panic [{ v, recovered := false }]) a w') : o.wp P a w next Q := by
  obtain ⟨imm, loc, hev0, R, F, hdf, hsz⟩ := A
  have hg := hG.mono hev0.grow
  subst hc
  have hrep : ∀ t x, Rep imm loc (evalO c.env t fr x) (a.eval x) := fun t x => evalO_rep E hg F t x
  have plainPut : ∀ u v, Rep imm loc u v → At nt imm0 loc0 w0 (putD o.dst u fr) st (a.put o.dst v) w := fun u v huv =>
    ⟨imm, loc, hev0, R, F.put o.dst u v (fun t ht => by rw [hsz]; exact hd t ht) huv, by rw [put_defers']; exact hdf, by rw [put_size]; exact hsz⟩
  have dflt : ∀ ev, (∀ x, Rep imm loc (ev x) (a.eval x)) → doEff o.dst fr st κ (opEff c.env o ev (fun i => look i st)) = out → o.wp P a w next Q := by
    intro ev hev h
    unfold doEff at h
    split at h
    · exact absurd h.symm hne
    · rename_i e he
      cases hok : e.ok with
      | false => rw [hok] at h; exact absurd h.symm hne
      | true =>
        rw [hok] at h
        simp only [cond_true] at h
        obtain ⟨n, v, w', imm', loc', h1, h2, h3, h4, h5, h6⟩ := opEff_does E R (fun _ _ h => h) a.eval ev hev he hok
        have := hn _ _ _ _ (After hev0 F hdf hsz hd h3 h4 h5 h6) h
        unfold Oper.wp
        rw [h1]
        rcases h2 with rfl | ⟨rfl, rfl⟩
        · exact this
        · exact this
  unfold execOp at h
  split at h
  · rename_i x b1 b2 hop
    split at h
    · rename_i t ht
      have hx := hrep o.type x
      rw [ht] at hx
      have hxv := hx.bool_inv
      unfold Oper.wp
      have hrun : (Go.execOp a.eval o).run P w = .ok (.value (if t then a.eval b1 else a.eval b2)) w := by
        obtain ⟨dst, op, type, pos, after, guard⟩ := o
        simp only at hop
        subst hop
        simp only [Go.execOp, hxv]
        cases t <;> rfl
      rw [hrun]
      cases t with
      | true => exact hn _ _ _ _ (plainPut _ _ (hrep o.type b1)) h
      | false => exact hn _ _ _ _ (plainPut _ _ (hrep o.type b2)) h
    · exact absurd h.symm hne
  · rename_i x hop
    have hx := hrep o.type x
    unfold nextOp at h
    split at h
    · rename_i id hid
      rw [hid] at hx
      split at h
      · rename_i s pos hs
        obtain ⟨v, w', h1, h2, h3⟩ := next_does (P := P) R hs hx o.type
        have hrun : (Go.execOp a.eval o).run P w = .ok (.value v) w' := by
          obtain ⟨dst, op, type, pos', after, guard⟩ := o
          simp only at hop
          subst hop
          show (do pure (.value (← Instr.next (a.eval x) true type)) : Sem Next).run P w = _
          rw [Sem.run_bind, h1]; rfl
        unfold Oper.wp
        rw [hrun]
        by_cases hps : pos < s.length
        · rw [if_pos hps] at h3
          simp only [decide_eq_true hps, cond_true] at h
          refine hn _ _ _ _ ⟨imm, loc, hev0.trans h2, h3.2, F.put o.dst _ v (fun t ht => by rw [hsz]; exact hd t ht) h3.1, by rw [put_defers']; exact hdf, by rw [put_size]; exact hsz⟩ h
        · rw [if_neg hps] at h3
          simp only [decide_eq_false hps, cond_false] at h
          obtain ⟨h4, rfl⟩ := h3
          exact hn _ _ _ _ (plainPut _ _ h4) h
      · exact absurd h.symm hne
    · exact absurd h.symm hne
  · rename_i fv args ats hop
    split at h
    · rename_i f us hfu
      have hx := hrep o.type fv
      unfold calleeArgs at hfu
      split at hfu
      · rename_i g ua ub hval
        cases hfu
        rw [hval] at hx
        obtain ⟨va, vb, hv, hl1, hl2, hr1, hr2⟩ := hx.func_inv
        have hargs : ArgsRel imm loc (ua ++ args.toList.map (evalO c.env o.type fr) ++ ub) (va ++ args.map a.eval ++ vb) :=
          ((show ArgsRel imm loc ua va from ⟨hl1, hr1⟩).append (ArgsRel.map args a.eval _ (hrep o.type))).append ⟨hl2, hr2⟩
        refine callOp_wp E rfl hT hG hev0 R F hdf hsz hd hargs ?_ h hne hn hp
        obtain ⟨dst, op, type, pos, after, guard⟩ := o
        simp only at hop
        subst hop
        simp only [Go.execOp, resolve, hv, Deferred.ofValue]
        rfl
      · cases hfu
    · exact absurd h.symm hne
  · rename_i x hop
    have hx := hrep o.type x
    split at h
    · rename_i t u hu
      rw [hu] at hx
      have hv : ∃ v, a.eval x = .iface t v := by
        generalize hax : a.eval x = vx at hx
        cases hx with
        | iface _ _ v _ => exact ⟨v, rfl⟩
        | dead _ _ _ hu => simp [U.ref?] at hu
      obtain ⟨v, hv⟩ := hv
      have hrun : (Go.execOp a.eval o).run P w = .halt (.panic (a.eval x)) w := by
        obtain ⟨dst, op, type, pos, after, guard⟩ := o
        simp only at hop
        subst hop
        simp only [Go.execOp, hv, Instr.panic]
        rfl
      unfold Oper.wp
      rw [hrun]
      exact hp _ _ _ _ ⟨imm, loc, hev0, R, hx⟩ h
    · exact absurd h.symm hne
  · exact dflt _ (hrep _) h

end

end Go.Abs

/- Soundness of the abstract machine, part 28: operations one behind the other. -/
set_option linter.unusedSimpArgs false
namespace Go.Abs
open Go

theorem dstsOK_mem {nt : Nat} : ∀ {l : List Oper}, dstsOK nt l = true → ∀ o, o ∈ l → ∀ t, o.dst = some t → t < nt
  | [], _, o, h, _, _ => by simp at h
  | x :: r, h, o, hm, t, ht => by
    simp only [dstsOK, Bool.and_eq_true] at h
    rcases List.mem_cons.1 hm with h1 | h1
    · subst h1
      rw [ht] at h
      exact Nat.le_of_ble_eq_true h.1
    · exact dstsOK_mem h.2 o h1 t ht

theorem guardSlot_spec (ops : Array Oper) (g : Nat) : guardSlot ops.toList g = (ops[g]?).bind (·.dst) := by
  unfold guardSlot
  rw [Array.getElem?_toList]
  cases ops[g]? <;> rfl

theorem look_put (s t : Nat) (u : U) (fr : Fr) : look t (put s u fr) = if t = s then some u else look t fr := by
  simp only [put, look]
  by_cases h : s = t
  · subst h; simp
  · rw [beq_false_of_ne h]
    simp only [cond_false, look_drop1]
    rw [if_neg (Ne.symm h)]
    simp [Ne.symm h]

theorem look_reput {s : Nat} {u : U} {fr : Fr} (h : look s fr = some u) (t : Nat) : look t (put s u fr) = look t fr := by
  rw [look_put]
  by_cases ht : t = s
  · subst ht; rw [if_pos rfl, h]
  · rw [if_neg ht]

section
variable {P : Program} {env : Env} {nt : Nat} {imm0 : Imm} {loc0 : Locs} {w0 : World}

theorem At.same {fr fr' : Fr} {st : St} {a : Act} {w : World} (A : At nt imm0 loc0 w0 fr st a w) (h : ∀ t, look t fr' = look t fr) : At nt imm0 loc0 w0 fr' st a w := by
  obtain ⟨imm, loc, h1, h2, h3, h4, h5⟩ := A
  exact ⟨imm, loc, h1, h2, ⟨fun t u hu => h3.get t u (by rw [← h t]; exact hu)⟩, h4, h5⟩

theorem At.get {fr : Fr} {st : St} {a : Act} {w : World} (A : At nt imm0 loc0 w0 fr st a w) {t : Nat} {u : U} (h : look t fr = some u) : ∃ imm loc, t < a.tmps.size ∧ Rep imm loc u (a.tmps.getD t undef) := by
  obtain ⟨imm, loc, _, _, h3, _, _⟩ := A
  exact ⟨imm, loc, h3.get t u h⟩

/-- what a guard's slot says -/
theorem yielded_of {ops : Array Oper} {a : Act} {g s : Nat} {b : Bool} (hs : guardSlot ops.toList g = some s) (hlt : s < a.tmps.size) (hv : a.tmps.getD s undef = .bool b) : yielded ops a.tmps g = some b := by
  rw [guardSlot_spec] at hs
  have h1 : a.tmps[s]? = some (a.tmps.getD s undef) := by simp [hlt]
  unfold yielded
  rw [hs]
  simp only [Option.bind_some, h1, hv]

theorem yielded_tup {ops : Array Oper} {a : Act} {g s : Nat} {vs : Array Value} (hs : guardSlot ops.toList g = some s) (hlt : s < a.tmps.size) (hv : a.tmps.getD s undef = .tuple vs) : yielded ops a.tmps g = none := by
  rw [guardSlot_spec] at hs
  have h1 : a.tmps[s]? = some (a.tmps.getD s undef) := by simp [hlt]
  unfold yielded
  rw [hs]
  simp only [Option.bind_some, h1, hv]

theorem At.skip {fr : Fr} {st : St} {a : Act} {w : World} (A : At nt imm0 loc0 w0 fr st a w) (d : Option Tmp) (hd : ∀ t, d = some t → t < nt) : At nt imm0 loc0 w0 (putD d (.tup []) fr) st (a.put d undef) w := by
  obtain ⟨imm, loc, h1, h2, h3, h4, h5⟩ := A
  refine ⟨imm, loc, h1, h2, h3.put d _ _ (fun t ht => by rw [h5]; exact hd t ht) ?_, by rw [put_defers']; exact h4, by rw [put_size]; exact h5⟩
  exact .tup [] #[] rfl fun i hi => absurd hi (Nat.not_lt_zero _)

theorem execOps_step (E : EnvOK P env) {c : Ctx} (hc : c.env = env) (hT : TableOK P env c.tab) (hG : GlobOK imm0 env) {ops : Array Oper} (hds : dstsOK nt ops.toList = true) {k : Nat} {o : Oper} {r : List Oper} (hk : ops[k]? = some o)
    {fr : Fr} {st : St} {κ : Fr → St → Out} {κp : KR} {out : Out} {a : Act} {w : World} (A : At nt imm0 loc0 w0 fr st a w) (h : execOps c ops.toList (o :: r) fr st κ κp = out) (hne : out ≠ .fail)
    {K : Act → World → Prop} {Q : Exit → Act → World → Prop}
    (hn : ∀ fr' st' a' w', At nt imm0 loc0 w0 fr' st' a' w' → execOps c ops.toList r fr' st' κ κp = out → K a' w')
    (hp : ∀ u' st' v w', Pan imm0 loc0 w0 u' st' v w' → κp u' st' = out → Q (.panic [{ v, recovered := false }]) a w') : wpOp P ops Q k K a w := by
  have hd : ∀ t, o.dst = some t → t < nt := dstsOK_mem hds o (Array.mem_toList_iff.2 (Array.mem_of_getElem? hk))
  unfold wpOp
  rw [hk]
  simp only
  have run : ∀ fr', (∀ t, look t fr' = look t fr) → execOp c o fr' st (fun fr st => execOps c ops.toList r fr st κ κp) κp = out → o.wp P a w K Q := fun fr' hs h =>
    execOp_wp E hc hT hG (A.same hs) hd h hne hn hp
  have skip : ∀ fr', (∀ t, look t fr' = look t fr) → execOps c ops.toList r (putD o.dst (.tup []) fr') st κ κp = out → K (a.put o.dst undef) w := fun fr' hs h =>
    hn _ _ _ _ ((A.same hs).skip o.dst hd) h
  unfold execOps at h
  split at h
  · rename_i hg
    have hw : Region.wanted o (yielded ops a.tmps) = true := by simp [Region.wanted, hg]
    rw [if_pos hw]
    exact .inl (run fr (fun _ => rfl) h)
  · rename_i g b hg
    split at h
    · exact absurd h.symm hne
    · rename_i s hs
      split at h
      · rename_i x hx
        obtain ⟨imm, loc, hlt, hr⟩ := A.get hx
        have hy := yielded_of hs hlt hr.bool_inv
        have hw : Region.wanted o (yielded ops a.tmps) = (x == b) := by
          simp only [Region.wanted, hg, hy]
          cases x <;> cases b <;> rfl
        rw [hw]
        cases x <;> cases b <;> simp only [cond_true, cond_false] at h
        · exact .inl (run _ (look_reput hx) h)
        · exact skip _ (look_reput hx) h
        · exact skip _ (look_reput hx) h
        · exact .inl (run _ (look_reput hx) h)
      · rename_i hx
        obtain ⟨imm, loc, hlt, hr⟩ := A.get hx
        obtain ⟨vs, hv, _, _⟩ := hr.tup_inv
        have hy := yielded_tup hs hlt hv
        have hw : Region.wanted o (yielded ops a.tmps) = false := by
          simp only [Region.wanted, hg, hy]
          rfl
        rw [hw]
        exact skip fr (fun _ => rfl) h
      · exact absurd h.symm hne

theorem execOps_wp (E : EnvOK P env) {c : Ctx} (hc : c.env = env) (hT : TableOK P env c.tab) (hG : GlobOK imm0 env) {ops : Array Oper} (hds : dstsOK nt ops.toList = true) {κ : Fr → St → Out} {κp : KR} {out : Out} (hne : out ≠ .fail)
    {Q : Exit → Act → World → Prop} (hn : ∀ fr st a w, At nt imm0 loc0 w0 fr st a w → κ fr st = out → Q .normal a w)
    (hp : ∀ u' st' v a w', a.defers = [] → Pan imm0 loc0 w0 u' st' v w' → κp u' st' = out → Q (.panic [{ v, recovered := false }]) a w') :
    ∀ (rest : List Oper) (k : Nat) (fr : Fr) (st : St) (a : Act) (w : World), ops.toList.drop k = rest → At nt imm0 loc0 w0 fr st a w → execOps c ops.toList rest fr st κ κp = out →
      wpOps P ops Q (List.range' k rest.length) a w
  | [], k, fr, st, a, w, _, A, h => hn fr st a w A h
  | o :: r, k, fr, st, a, w, hk, A, h => by
    have hk' : ops[k]? = some o := by
      rw [← Array.getElem?_toList]
      have : (ops.toList.drop k)[0]? = some o := by rw [hk]; rfl
      simpa [List.getElem?_drop] using this
    have hr : ops.toList.drop (k + 1) = r := by
      have := congrArg (List.drop 1) hk
      simpa [List.drop_drop, Nat.add_comm] using this
    simp only [List.length_cons, List.range'_succ]
    rw [wpOps_cons]
    exact execOps_step E hc hT hG hds hk' A h hne (fun fr' st' a' w' A' h' => execOps_wp E hc hT hG hds hne hn hp r (k + 1) fr' st' a' w' hr A' h')
      fun u' st' v w' hP h' => hp u' st' v a w' (by obtain ⟨_, _, _, _, _, h4, _⟩ := A; exact h4) hP h'

end

end Go.Abs

/- Soundness of the abstract machine, part 29: a region that draws, in the order of the text: what each operation does, and that what nothing orders is apart. -/
set_option linter.unusedSimpArgs false
namespace Go.Abs
open Go

/-! ### what an operation looks at -/

theorem tmpsOf_mem {t : Nat} : ∀ {l : List Operand}, Operand.tmp t ∈ l → t ∈ tmpsOf l
  | [], h => by simp at h
  | x :: r, h => by
    rcases List.mem_cons.1 h with h1 | h1
    · subst h1; simp [tmpsOf]
    · have := tmpsOf_mem h1
      cases x <;> simp [tmpsOf, this]

theorem names_op {ops : List Oper} {o : Oper} {t : Nat} (h : Operand.tmp t ∈ o.op.operands) : t ∈ namesOf ops o :=
  List.mem_append_right _ (tmpsOf_mem (Array.mem_toList_iff.2 h))

theorem evPairs_congr {ev ev' : Operand → U} : ∀ l : List (Nat × Operand), (∀ p ∈ l, ev p.2 = ev' p.2) → evPairs ev l = evPairs ev' l
  | [], _ => rfl
  | (i, x) :: r, h => by
    simp only [evPairs]
    rw [h (i, x) (by simp), evPairs_congr r fun p hp => h p (by simp [hp])]

theorem opEff_congr (e : Env) (o : Oper) {ev ev' : Operand → U} (lk : Lk) (h : ∀ x ∈ o.op.operands, ev x = ev' x) : opEff e o ev lk = opEff e o ev' lk := by
  obtain ⟨dst, op, type, pos, after, guard⟩ := o
  simp only at h
  have maps : ∀ xs : Array Operand, (∀ x ∈ xs, ev x = ev' x) → xs.toList.map ev = xs.toList.map ev' := fun xs hx =>
    List.map_congr_left fun x hm => hx x (Array.mem_toList_iff.1 hm)
  have opts : ∀ xo : Option Operand, (∀ x, xo = some x → ev x = ev' x) → xo.map ev = xo.map ev' := fun xo hx => by
    cases xo with
    | none => rfl
    | some x => simp [hx x rfl]
  have pairs : ∀ ps : Array (Nat × Operand), (∀ x ∈ (ps.toList.map (·.2)).toArray, ev x = ev' x) → evPairs ev ps.toList = evPairs ev' ps.toList := fun ps hp =>
    evPairs_congr _ fun p hm => hp p.2 (by simp only [List.mem_toArray]; exact List.mem_map.2 ⟨p, hm, rfl⟩)
  cases op with
  | move x => simp only [opEff]; rw [h x (by simp [Op.operands])]
  | assign x => simp only [opEff]; rw [h x (by simp [Op.operands])]
  | box t x => simp only [opEff]; rw [h x (by simp [Op.operands])]
  | build t ps => simp only [opEff]; rw [pairs ps fun x hx => h x (by simpa only [Op.operands] using hx)]
  | buildSlice t n ps => simp only [opEff]; rw [pairs ps fun x hx => h x (by simpa only [Op.operands] using hx)]
  | load t x => simp only [opEff]; rw [h x (by simp [Op.operands])]
  | store t x v => simp only [opEff]; rw [h x (by simp [Op.operands]), h v (by simp [Op.operands])]
  | nilCheck x => simp only [opEff]; rw [h x (by simp [Op.operands])]
  | binOp op t x y yt => simp only [opEff]; rw [h x (by simp [Op.operands]), h y (by simp [Op.operands])]
  | unOp op t x => simp only [opEff]; rw [h x (by simp [Op.operands])]
  | convert s d x => simp only [opEff]; rw [h x (by simp [Op.operands])]
  | makeFunc fn a b =>
    cases fn with
    | func g => simp only [opEff]; rw [maps a fun x hx => h x (by simp [Op.operands, hx]), maps b fun x hx => h x (by simp [Op.operands, hx])]
    | _ => rfl
  | slice t x lo hi mx =>
    cases mx with
    | some _ => rfl
    | none =>
      simp only [opEff]
      rw [h x (by simp [Op.operands]), opts lo fun y hy => h y (by simp [Op.operands, hy]), opts hi fun y hy => h y (by simp [Op.operands, hy])]
  | fieldAddr t x i => simp only [opEff]; rw [h x (by simp [Op.operands])]
  | field t x i => simp only [opEff]; rw [h x (by simp [Op.operands])]
  | indexAddr t x i => simp only [opEff]; rw [h x (by simp [Op.operands]), h i (by simp [Op.operands])]
  | index t x i => simp only [opEff]; rw [h x (by simp [Op.operands]), h i (by simp [Op.operands])]
  | range t x => simp only [opEff]; rw [h x (by simp [Op.operands])]
  | extract x i => simp only [opEff]; rw [h x (by simp [Op.operands])]
  | insert t m k v => simp only [opEff]; rw [h m (by simp [Op.operands]), h k (by simp [Op.operands]), h v (by simp [Op.operands])]
  | mapUpdate t m k v => simp only [opEff]; rw [h m (by simp [Op.operands]), h k (by simp [Op.operands]), h v (by simp [Op.operands])]
  | lookup t m k ok => simp only [opEff]; rw [h m (by simp [Op.operands]), h k (by simp [Op.operands])]
  | makeInterface t x => simp only [opEff]; rw [h x (by simp [Op.operands])]
  | makeMap t r => cases r <;> rfl
  | call c =>
    obtain ⟨callee, args, argTypes⟩ := c
    cases callee with
    | builtin b => simp only [opEff]; rw [maps args fun x hx => h x (by simp [Op.operands, Call.operands, hx])]
    | _ => rfl
  | _ => rfl

theorem mem_reach_acc {lk : Lk} {i : Nat} : ∀ (n : Nat) (todo acc : List Nat), i ∈ acc → i ∈ reach lk n todo acc
  | 0, _, _, h => by simpa [reach] using h
  | _ + 1, [], _, h => by simpa [reach] using h
  | n + 1, j :: todo, acc, h => by
    simp only [reach]
    cases elemN j acc with
    | true => exact mem_reach_acc n todo acc h
    | false =>
      simp only [cond_false]
      split
      · exact mem_reach_acc n _ _ (by simp [h])
      · exact mem_reach_acc n _ _ (by simp [h])

theorem reach_congr {lk lk' : Lk} : ∀ (n : Nat) (todo acc : List Nat), (∀ i, i ∈ reach lk n todo acc → lk' i = lk i) → reach lk' n todo acc = reach lk n todo acc
  | 0, _, _, _ => by simp [reach]
  | _ + 1, [], _, _ => by simp [reach]
  | n + 1, j :: todo, acc, h => by
    simp only [reach] at h ⊢
    cases he : elemN j acc with
    | true =>
      rw [he] at h
      simp only [cond_true] at h ⊢
      exact reach_congr n todo acc h
    | false =>
      rw [he] at h
      simp only [cond_false] at h ⊢
      cases hl : lk j with
      | none =>
        rw [hl] at h
        simp only at h ⊢
        rw [h j (mem_reach_acc n _ _ (by simp)), hl]
        simp only
        exact reach_congr n _ _ h
      | some o =>
        rw [hl] at h
        simp only at h ⊢
        rw [h j (mem_reach_acc n _ _ (by simp)), hl]
        simp only
        exact reach_congr n _ _ h

theorem handed_congr {lk lk' : Lk} : ∀ l : List Nat, (∀ i, i ∈ l → lk' i = lk i) → handed lk' l = handed lk l
  | [], _ => rfl
  | i :: r, h => by
    simp only [handed]
    rw [h i (by simp), handed_congr r fun j hj => h j (by simp [hj])]

theorem callPre_congr {d : Option Tmp} {lk lk' : Lk} {us : List U} (h : ∀ i, i ∈ (callPre d lk none us).ids0 → lk' i = lk i) : callPre d lk' none us = callPre d lk none us := by
  have h1 : reachOf (thawed [] lk') (U.idsL (U.turns (asTo []) us)) = reachOf (thawed [] lk) (U.idsL (U.turns (asTo []) us)) := reach_congr 600 _ [] h
  have h2 : handed (thawed [] lk') (reachOf (thawed [] lk) (U.idsL (U.turns (asTo []) us))) = handed (thawed [] lk) (reachOf (thawed [] lk) (U.idsL (U.turns (asTo []) us))) := handed_congr _ h
  simp only [callPre]
  rw [h1, h2]

/-! ### what is recorded of each operation -/

structure DR where
  dst : Option Tmp
  v : U
  sets : List (Nat × Option AObj)
  tn : List (Nat × To)
  reads : List Nat
  raw : List Nat

def DR.ments (r : DR) : List Nat := r.v.ids ++ mentsOfSets r.sets
def DR.ofEff (o : Oper) (reads raw : List Nat) (e : Eff) : DR := ⟨o.dst, e.v, e.sets, e.tn, reads, raw⟩
def DR.none : DR := ⟨Option.none, .tup [], [], [], [], []⟩

/-- a frame as the first m operations, as far as listed, leave it -/
def ovF (rs : List DR) (F0 : Nat → Option U) (listed : Nat → Bool) : Nat → Nat → Option U
  | 0 => F0
  | m + 1 => fun t => match rs[m]? with
    | some r => if listed m = true then (if r.dst = some t then some r.v else (ovF rs F0 listed m t).map (U.turn (asTo r.tn))) else ovF rs F0 listed m t
    | none => ovF rs F0 listed m t

/-- a store, likewise -/
def ovL (rs : List DR) (L0 : Lk) (listed : Nat → Bool) : Nat → Lk
  | 0 => L0
  | m + 1 => fun i => match rs[m]? with
    | some r => if listed m = true then effLk r.tn r.sets (ovL rs L0 listed m) i else ovL rs L0 listed m i
    | none => ovL rs L0 listed m i

/-- what an operation does, wherever what it looks at is the same -/
def SemD (P : Program) (env : Env) (ops : List Oper) (o : Oper) (F : Nat → Option U) (L : Lk) (reads : List Nat) (e : Eff) : Prop :=
  ∀ (imm : Imm) (loc : Locs) (lk : Lk) (w : World) (a : Act), GlobOK imm env → Rel imm loc lk w → (∀ t u, t ∈ namesOf ops o → F t = some u → Rep imm loc u (a.tmps.getD t undef)) → (∀ i, i ∈ reads → lk i = L i) →
    ∀ (next : Act → World → Prop) (Q : Exit → Act → World → Prop),
      (∀ imm' loc' v w', Evolve imm loc w imm' loc' w' → Rel imm' loc' (effLk e.tn e.sets lk) w' → TurnOK imm' loc loc' (asTo e.tn) → Rep imm' loc' e.v v → next (a.put o.dst v) w') → o.wp P a w next Q

section
variable {P : Program} {env : Env}

theorem SemD.same {ops : List Oper} {o : Oper} {F F' : Nat → Option U} {L L' : Lk} {reads : List Nat} {e : Eff} (h : SemD P env ops o F L reads e) (hF : ∀ t, t ∈ namesOf ops o → F' t = F t) (hL : ∀ i, i ∈ reads → L' i = L i) : SemD P env ops o F' L' reads e :=
  fun imm loc lk w a hG R hr hl next Q hn => h imm loc lk w a hG R (fun t u ht hu => hr t u ht (by rw [hF t ht]; exact hu)) (fun i hi => (hl i hi).trans (hL i hi)) next Q hn

/-- operands that an operation looks at stand for their values -/
theorem operands_rep (E : EnvOK P env) {imm : Imm} {loc : Locs} (hG : GlobOK imm env) {ops : List Oper} {o : Oper} {fr : Fr} {a : Act} (t : TypeId) (hr : ∀ t u, t ∈ namesOf ops o → look t fr = some u → Rep imm loc u (a.tmps.getD t undef)) :
    ∀ x ∈ o.op.operands, Rep imm loc (evalO env t fr x) (a.eval x) := by
  intro x hx
  cases x with
  | tmp i =>
    simp only [evalO, Act.eval]
    cases h : look i fr with
    | none => exact .undef _
    | some u => exact hr i u (names_op hx) h
  | const v => exact ofConst_rep E t v imm loc
  | global g =>
    simp only [evalO, Act.eval]
    split
    · rename_i S hS; exact hG.tab g S hS loc
    · exact .undef _
  | func f => exact .func f [] [] #[] #[] rfl rfl (fun i hi => absurd hi (Nat.not_lt_zero _)) fun i hi => absurd hi (Nat.not_lt_zero _)

/-- an evaluation that knows the operands alone -/
def evIn (o : Oper) (ev : Operand → U) [∀ x, Decidable (x ∈ o.op.operands)] : Operand → U := fun x => if x ∈ o.op.operands then ev x else .undef

open Classical in
theorem semD_eff (E : EnvOK P env) {ops : List Oper} {o : Oper} {fr : Fr} {L : Lk} {reads : List Nat} {e : Eff} {t : TypeId} (h : opEff env o (evalO env t fr) (fun i => bif elemN i reads then L i else none) = some e) (hok : e.ok = true) :
    SemD P env ops o (fun t => look t fr) L reads e := by
  intro imm loc lk w a hG R hr hl next Q hn
  have hrep := operands_rep E hG (ops := ops) (o := o) (fr := fr) (a := a) t hr
  have h' : opEff env o (evIn o (evalO env t fr)) (fun i => bif elemN i reads then L i else none) = some e := by
    rw [← h]
    exact opEff_congr env o _ fun x hx => by simp [evIn, hx]
  obtain ⟨n, v, w', imm', loc', h1, h2, h3, h4, h5, h6⟩ := opEff_does E R (fun i ob hi => by
      cases he : elemN i reads with
      | false => simp [he] at hi
      | true =>
        simp only [he, cond_true] at hi
        rw [hl i ((elemN_mem _ _).1 he)]; exact hi) a.eval (evIn o (evalO env t fr)) (fun x => by
      by_cases hx : x ∈ o.op.operands
      · simp only [evIn, if_pos hx]; exact hrep x hx
      · simp only [evIn, if_neg hx]; exact .undef _) h' hok
  have := hn imm' loc' v w' h3 h4 h5 h6
  unfold Oper.wp
  rw [h1]
  rcases h2 with rfl | ⟨rfl, rfl⟩
  · exact this
  · exact this

theorem semD_pick (E : EnvOK P env) {ops : List Oper} {o : Oper} {x y z : Operand} (hop : o.op = .pick x y z) {fr : Fr} {L : Lk} {t : TypeId} {b : Bool} (hb : evalO env t fr x = .bool b) {reads : List Nat} :
    SemD P env ops o (fun t => look t fr) L reads ⟨evalO env t fr (if b then y else z), true, [], []⟩ := by
  intro imm loc lk w a hG R hr hl next Q hn
  have hrep := operands_rep E hG (ops := ops) (o := o) (fr := fr) (a := a) t hr
  have hx := hrep x (by rw [hop]; simp [Op.operands])
  rw [hb] at hx
  have hrun : (Go.execOp a.eval o).run P w = .ok (.value (if b then a.eval y else a.eval z)) w := by
    obtain ⟨dst, op, type, pos, after, guard⟩ := o
    simp only at hop
    subst hop
    simp only [Go.execOp, hx.bool_inv]
    cases b <;> rfl
  unfold Oper.wp
  rw [hrun]
  refine hn imm loc _ w (Evolve.refl _ _ _) (by rw [effLk_nil]; exact R) (TurnOK.same _ _) ?_
  cases b with
  | true => exact hrep y (by rw [hop]; simp [Op.operands])
  | false => exact hrep z (by rw [hop]; simp [Op.operands])

theorem semD_call (E : EnvOK P env) {ops : List Oper} {o : Oper} {fv : Operand} {args : Array Operand} {ats : Array TypeId} (hop : o.op = .call { callee := .value fv, args, argTypes := ats }) {fr : Fr} {L : Lk} {t : TypeId} {f : FuncId} {us : List U}
    (hfu : calleeArgs (evalO env t fr fv) (args.toList.map (evalO env t fr)) = some (f, us)) {p : Pre} (hp : p = callPre o.dst L none us) (hok : preOK p = true) {u : U} {st2 : St} (hans : AnswersTo P env f p.args p.st false u st2) (hok2 : (callPost o.dst p u st2).ok = true) :
    SemD P env ops o (fun t => look t fr) L p.ids0 (callPost o.dst p u st2) := by
  intro imm loc lk w a hG R hr hl next Q hn
  have hrep := operands_rep E hG (ops := ops) (o := o) (fr := fr) (a := a) t hr
  have hx := hrep fv (by rw [hop]; simp [Op.operands, Call.operands])
  unfold calleeArgs at hfu
  split at hfu
  · rename_i g ua ub hval
    cases hfu
    rw [hval] at hx
    obtain ⟨va, vb, hv, hl1, hl2, hr1, hr2⟩ := hx.func_inv
    have hmid : ArgsRel imm loc (args.toList.map (evalO env t fr)) (args.map a.eval) := by
      refine ⟨by simp, fun i hi => ?_⟩
      have hi' : i < args.size := by simpa using hi
      have := hrep args[i] (by rw [hop]; simp [Op.operands, Call.operands])
      simpa [List.getD_eq_getElem?_getD, hi'] using this
    have hargs := ((show ArgsRel imm loc ua va from ⟨hl1, hr1⟩).append hmid).append (show ArgsRel imm loc ub vb from ⟨hl2, hr2⟩)
    have hp' : p = callPre o.dst lk none (ua ++ args.toList.map (evalO env t fr) ++ ub) := by
      rw [hp]
      exact (callPre_congr (by rw [← hp]; exact hl)).symm
    obtain ⟨imm1, loc1, loc2, N, H⟩ := callPre_rel R hargs hp' hok
    obtain ⟨R1, A1⟩ := H.given
    have hcall := hans imm1 _ w _ (hG.mono H.ev.grow) R1 A1
    refine call_wp ?_ hcall (fun v w' ⟨imm', loc', v', hev, R', hu, he⟩ => ?_) (fun ch w' ⟨_, _, _, _, _, _, he⟩ => by cases he) fun w' ⟨_, _, _, _, _, _, he⟩ => by cases he
    · obtain ⟨dst, op, type, pos, after, guard⟩ := o
      simp only at hop
      subst hop
      simp only [Go.execOp, resolve, hv, Deferred.ofValue]
      rfl
    · cases he
      obtain ⟨loc4, h1, h2, h3, h4⟩ := callPost_rel R H hev R' hu rfl hok2
      exact hn _ _ _ _ h1 h2 h3 h4
  · cases hfu

end

end Go.Abs

/- Soundness of the abstract machine, part 30: a region that draws: what the run in the order of the text gives for each operation. -/
set_option linter.unusedSimpArgs false
namespace Go.Abs
open Go

theorem ovF_congr {rs rs' : List DR} {F0 : Nat → Option U} {lf lf' : Nat → Bool} : ∀ m, (∀ k, k < m → rs[k]? = rs'[k]?) → (∀ k, k < m → lf k = lf' k) → ovF rs F0 lf m = ovF rs' F0 lf' m
  | 0, _, _ => rfl
  | m + 1, h1, h2 => by
    funext t
    simp only [ovF]
    rw [h1 m (by omega), h2 m (by omega), ovF_congr m (fun k hk => h1 k (by omega)) fun k hk => h2 k (by omega)]

theorem ovL_congr {rs rs' : List DR} {L0 : Lk} {lf lf' : Nat → Bool} : ∀ m, (∀ k, k < m → rs[k]? = rs'[k]?) → (∀ k, k < m → lf k = lf' k) → ovL rs L0 lf m = ovL rs' L0 lf' m
  | 0, _, _ => rfl
  | m + 1, h1, h2 => by
    funext t
    simp only [ovL]
    rw [h1 m (by omega), h2 m (by omega), ovL_congr m (fun k hk => h1 k (by omega)) fun k hk => h2 k (by omega)]

theorem setLk_from {sets : List (Nat × Option AObj)} : ∀ {lk : Lk} {i : Nat} {o : AObj}, setLk lk sets i = some o → lk i = some o ∨ ∀ id, id ∈ o.ids → id ∈ mentsOfSets sets := by
  induction sets with
  | nil => intro lk i o h; exact .inl h
  | cons p r ih =>
    intro lk i o h
    obtain ⟨j, x⟩ := p
    simp only [setLk] at h
    have sub : ∀ id, id ∈ mentsOfSets r → id ∈ mentsOfSets ((j, x) :: r) := fun id hid => by cases x <;> simp [mentsOfSets, hid]
    rcases ih h with h1 | h1
    · by_cases hj : i = j
      · simp only [hj, if_true] at h1
        subst h1
        exact .inr fun id hid => by simp [mentsOfSets, hid]
      · simp only [if_neg hj] at h1
        exact .inl h1
    · exact .inr fun id hid => sub id (h1 id hid)

theorem setLk_mem {sets : List (Nat × Option AObj)} : ∀ {lk lk' : Lk} {i : Nat}, i ∈ keysS sets → setLk lk sets i = setLk lk' sets i := by
  induction sets with
  | nil => intro lk lk' i h; simp [keysS] at h
  | cons p r ih =>
    intro lk lk' i h
    obtain ⟨j, x⟩ := p
    simp only [setLk]
    by_cases hr : i ∈ keysS r
    · exact ih hr
    · rw [setLk_not_mem i r _ hr, setLk_not_mem i r _ hr]
      simp only [keysS, List.map_cons, List.mem_cons] at h hr
      have hj : i = j := h.resolve_right hr
      simp [hj]

theorem idsOfTn_eq : ∀ tn : List (Nat × To), idsOfTn tn = tn.map (·.1)
  | [] => rfl
  | (i, _) :: r => by simp [idsOfTn, idsOfTn_eq r]
theorem idsOfSets_eq : ∀ s : List (Nat × Option AObj), idsOfSets s = keysS s
  | [] => rfl
  | (i, _) :: r => by have := idsOfSets_eq r; simp only [keysS] at this; simp [idsOfSets, keysS, this]

/-! ### turning -/

theorem plainTn_asTo : ∀ {tn : List (Nat × To)}, plainTn tn = true → ∀ i j, asTo tn i ≠ .id j
  | [], _, i, j, h => by simp [asTo] at h
  | (k, t) :: r, h, i, j, he => by
    simp only [asTo] at he
    cases t with
    | id q => simp [plainTn] at h
    | same =>
      by_cases hk : k = i
      · subst hk; rw [Nat.beq_refl] at he; simp at he
      · rw [beq_false_of_ne hk] at he; exact plainTn_asTo (tn := r) (by simpa [plainTn] using h) i j he
    | gone =>
      by_cases hk : k = i
      · subst hk; rw [Nat.beq_refl] at he; simp at he
      · rw [beq_false_of_ne hk] at he; exact plainTn_asTo (tn := r) (by simpa [plainTn] using h) i j he
    | frozen S =>
      by_cases hk : k = i
      · subst hk; rw [Nat.beq_refl] at he; simp at he
      · rw [beq_false_of_ne hk] at he; exact plainTn_asTo (tn := r) (by simpa [plainTn] using h) i j he

mutual
/-- turning mentions nothing new -/
theorem turn_ids {f : Nat → To} (hf : ∀ i j, f i ≠ .id j) (id : Nat) : ∀ u : U, id ∈ (u.turn f).ids → id ∈ u.ids
  | .undef, h => by simp [U.turn, U.ids] at h
  | .int _ _, h => by simp [U.turn, U.ids] at h
  | .bool _, h => by simp [U.turn, U.ids] at h
  | .str _, h => by simp [U.turn, U.ids] at h
  | .agg us, h => by simp only [U.turn, U.ids] at h ⊢; exact turns_ids hf id us h
  | .tup us, h => by simp only [U.turn, U.ids] at h ⊢; exact turns_ids hf id us h
  | .slice _ _, h => by simp [U.turn, U.ids] at h
  | .gsl i, h => by
    simp only [U.turn] at h
    cases hi : f i with
    | same => rw [hi] at h; exact h
    | gone => rw [hi] at h; simp [U.ids] at h
    | id j => exact absurd hi (hf i j)
    | frozen S => rw [hi] at h; simp [U.ids] at h
  | .ptr i o, h => by
    simp only [U.turn] at h
    cases hi : f i with
    | same => rw [hi] at h; exact h
    | gone => rw [hi] at h; simp [U.ids] at h
    | id j => exact absurd hi (hf i j)
    | frozen S => rw [hi] at h; simp [U.ids] at h
  | .elem _ _ _, h => by simp [U.turn, U.ids] at h
  | .gelem i _ _ _, h => by
    simp only [U.turn] at h
    cases hi : f i with
    | same => rw [hi] at h; exact h
    | gone => rw [hi] at h; simp [U.ids] at h
    | id j => exact absurd hi (hf i j)
    | frozen S => rw [hi] at h; simp [U.ids] at h
  | .nilp, h => by simp [U.turn, U.ids] at h
  | .func _ us vs, h => by
    simp only [U.turn, U.ids, List.mem_append] at h ⊢
    exact h.imp (turns_ids hf id us) (turns_ids hf id vs)
  | .iface _ u, h => by simp only [U.turn, U.ids] at h ⊢; exact turn_ids hf id u h
  | .map i, h => by
    simp only [U.turn] at h
    cases hi : f i with
    | same => rw [hi] at h; exact h
    | gone => rw [hi] at h; simp [U.ids] at h
    | id j => exact absurd hi (hf i j)
    | frozen S => rw [hi] at h; simp [U.ids] at h
  | .iter i, h => by
    simp only [U.turn] at h
    cases hi : f i with
    | same => rw [hi] at h; exact h
    | gone => rw [hi] at h; simp [U.ids] at h
    | id j => exact absurd hi (hf i j)
    | frozen S => rw [hi] at h; simp [U.ids] at h
theorem turns_ids {f : Nat → To} (hf : ∀ i j, f i ≠ .id j) (id : Nat) : ∀ us : List U, id ∈ U.idsL (U.turns f us) → id ∈ U.idsL us
  | [], h => by simp [U.turns, U.idsL] at h
  | u :: us, h => by
    simp only [U.turns, U.idsL, List.mem_append] at h ⊢
    exact h.imp (turn_ids hf id u) (turns_ids hf id us)
end

mutual
/-- turnings that touch nothing in common go either way -/
theorem turn_comm {f g : Nat → To} (hf : ∀ i j, f i ≠ .id j) (hg : ∀ i j, g i ≠ .id j) (hd : ∀ i, f i = .same ∨ g i = .same) : ∀ u : U, (u.turn f).turn g = (u.turn g).turn f
  | .undef => rfl
  | .int _ _ => rfl
  | .bool _ => rfl
  | .str _ => rfl
  | .agg us => by simp only [U.turn]; rw [turns_comm hf hg hd us]
  | .tup us => by simp only [U.turn]; rw [turns_comm hf hg hd us]
  | .slice _ _ => rfl
  | .gsl i => by
    rcases hd i with h | h
    · cases hi : g i <;> simp [U.turn, h, hi]
      rename_i j; exact absurd hi (hg i j)
    · cases hi : f i <;> simp [U.turn, h, hi]
      rename_i j; exact absurd hi (hf i j)
  | .ptr i o => by
    rcases hd i with h | h
    · cases hi : g i <;> simp [U.turn, h, hi]
      rename_i j; exact absurd hi (hg i j)
    · cases hi : f i <;> simp [U.turn, h, hi]
      rename_i j; exact absurd hi (hf i j)
  | .elem _ _ _ => rfl
  | .gelem i _ _ _ => by
    rcases hd i with h | h
    · cases hi : g i <;> simp [U.turn, h, hi]
      rename_i j; exact absurd hi (hg i j)
    · cases hi : f i <;> simp [U.turn, h, hi]
      rename_i j; exact absurd hi (hf i j)
  | .nilp => rfl
  | .func _ us vs => by simp only [U.turn]; rw [turns_comm hf hg hd us, turns_comm hf hg hd vs]
  | .iface _ u => by simp only [U.turn]; rw [turn_comm hf hg hd u]
  | .map i => by
    rcases hd i with h | h
    · cases hi : g i <;> simp [U.turn, h, hi]
      rename_i j; exact absurd hi (hg i j)
    · cases hi : f i <;> simp [U.turn, h, hi]
      rename_i j; exact absurd hi (hf i j)
  | .iter i => by
    rcases hd i with h | h
    · cases hi : g i <;> simp [U.turn, h, hi]
      rename_i j; exact absurd hi (hg i j)
    · cases hi : f i <;> simp [U.turn, h, hi]
      rename_i j; exact absurd hi (hf i j)
theorem turns_comm {f g : Nat → To} (hf : ∀ i j, f i ≠ .id j) (hg : ∀ i j, g i ≠ .id j) (hd : ∀ i, f i = .same ∨ g i = .same) : ∀ us : List U, U.turns g (U.turns f us) = U.turns f (U.turns g us)
  | [] => rfl
  | u :: us => by simp only [U.turns]; rw [turn_comm hf hg hd u, turns_comm hf hg hd us]
end

theorem aturn_comm {f g : Nat → To} (hf : ∀ i j, f i ≠ .id j) (hg : ∀ i j, g i ≠ .id j) (hd : ∀ i, f i = .same ∨ g i = .same) (o : AObj) : (o.turn f).turn g = (o.turn g).turn f := by
  cases o <;> simp only [AObj.turn]
  rw [turns_comm hf hg hd]

theorem aturn_ids {f : Nat → To} (hf : ∀ i j, f i ≠ .id j) (id : Nat) (o : AObj) (h : id ∈ (o.turn f).ids) : id ∈ o.ids := by
  cases o <;> simp only [AObj.turn, AObj.ids] at h ⊢
  · exact turns_ids hf id _ h
  all_goals exact h

theorem turn_off {tn : List (Nat × To)} {u : U} (h : ∀ id, id ∈ u.ids → id ∉ tn.map (·.1)) : u.turn (asTo tn) = u := turn_fresh _ u fun id hid => asTo_not_mem tn id (h id hid)
theorem aturn_off {tn : List (Nat × To)} {o : AObj} (h : ∀ id, id ∈ o.ids → id ∉ tn.map (·.1)) : o.turn (asTo tn) = o := aturn_fresh _ o fun id hid => asTo_not_mem tn id (h id hid)

theorem effLk_mem {tn : List (Nat × To)} {sets : List (Nat × Option AObj)} {L L' : Lk} {i : Nat} (h : i ∈ keysS sets) : effLk tn sets L i = setLk L' sets i := setLk_mem h
theorem effLk_not {tn : List (Nat × To)} {sets : List (Nat × Option AObj)} {L : Lk} {i : Nat} (h : i ∉ keysS sets) : effLk tn sets L i = (L i).map (AObj.turn (asTo tn)) := by
  unfold effLk
  rw [setLk_not_mem i sets _ h]
  rfl

theorem setLk_ments {sets : List (Nat × Option AObj)} {i : Nat} (h : i ∈ keysS sets) {o : AObj} {L : Lk} (ho : setLk L sets i = some o) (id : Nat) (hid : id ∈ o.ids) : id ∈ mentsOfSets sets := by
  rw [setLk_mem (lk' := fun _ => none) h] at ho
  rcases setLk_from ho with h1 | h1
  · cases h1
  · exact h1 id hid

/-- effects that touch nothing in common go either way -/
theorem effLk_comm {tn tn' : List (Nat × To)} {sets sets' : List (Nat × Option AObj)} {L : Lk} (hp : plainTn tn = true) (hp' : plainTn tn' = true) (ww : ∀ x, x ∈ keysS sets → x ∉ keysS sets')
    (ht : ∀ x, x ∈ tn.map (·.1) → x ∉ tn'.map (·.1)) (h1 : ∀ x, x ∈ tn.map (·.1) → x ∉ mentsOfSets sets') (h2 : ∀ x, x ∈ tn'.map (·.1) → x ∉ mentsOfSets sets) : effLk tn sets (effLk tn' sets' L) = effLk tn' sets' (effLk tn sets L) := by
  funext i
  have hd : ∀ i, asTo tn i = .same ∨ asTo tn' i = .same := fun i => by
    by_cases hi : i ∈ tn.map (·.1)
    · exact .inr (asTo_not_mem _ _ (ht i hi))
    · exact .inl (asTo_not_mem _ _ hi)
  by_cases hs : i ∈ keysS sets
  · have hs' := ww i hs
    rw [effLk_mem (L' := L) hs, effLk_not hs', effLk_mem (L' := L) hs]
    cases ho : setLk L sets i with
    | none => rfl
    | some o =>
      simp only [Option.map_some]
      rw [aturn_off fun id hid hx => h2 id hx (setLk_ments hs ho id hid)]
  · rw [effLk_not hs]
    by_cases hs' : i ∈ keysS sets'
    · rw [effLk_mem (L' := L) hs', effLk_mem (L' := L) hs']
      cases ho : setLk L sets' i with
      | none => rfl
      | some o =>
        simp only [Option.map_some]
        rw [aturn_off fun id hid hx => h1 id hx (setLk_ments hs' ho id hid)]
    · rw [effLk_not hs', effLk_not hs', effLk_not hs]
      cases L i with
      | none => rfl
      | some o =>
        simp only [Option.map_some]
        rw [aturn_comm (plainTn_asTo hp') (plainTn_asTo hp) (fun i => (hd i).symm)]

/-! ### facts -/

/-- a guard's answer, by what is in the slots -/
def wantF (ops : List Oper) (o : Oper) (F : Nat → Option U) : Option Bool :=
  match o.guard with
  | none => some true
  | some (g, b) => match guardSlot ops g with
    | none => none
    | some s => match F s with
      | some (.bool x) => some (x == b)
      | some (.tup []) => some false
      | _ => none

structure Apart (q r : DR) : Prop where
  wr : ∀ x, x ∈ keysS q.sets → x ∉ r.reads
  ww : ∀ x, x ∈ keysS q.sets → x ∉ keysS r.sets
  rw' : ∀ x, x ∈ keysS r.sets → x ∉ q.reads
  tm : ∀ x, x ∈ q.tn.map (·.1) → x ∉ r.ments
  mt : ∀ x, x ∈ r.tn.map (·.1) → x ∉ q.ments
  tt : ∀ x, x ∈ q.tn.map (·.1) → x ∉ r.tn.map (·.1)
  tr : ∀ x, x ∈ q.tn.map (·.1) → x ∉ r.raw
  rt : ∀ x, x ∈ r.tn.map (·.1) → x ∉ q.raw

/-- what is known of an operation -/
structure FactAt (P : Program) (env : Env) (ops : List Oper) (bs : List Nat) (F0 : Nat → Option U) (L0 : Lk) (rs : List DR) (i : Nat) (o : Oper) (r : DR) : Prop where
  op : ops[i]? = some o
  dr : rs[i]? = some r
  dst : r.dst = o.dst
  run : (wantF ops o (ovF rs F0 (fun _ => true) i) = some true ∧ ∃ e, r = DR.ofEff o r.reads r.raw e ∧ SemD P env ops o (ovF rs F0 (fun _ => true) i) (ovL rs L0 (fun _ => true) i) r.reads e) ∨
    (wantF ops o (ovF rs F0 (fun _ => true) i) = some false ∧ r.v = .tup [] ∧ r.sets = [] ∧ r.tn = [])
  plain : plainTn r.tn = true
  rawF : ∀ t u, t ∈ namesOf ops o → F0 t = some u → ∀ id, id ∈ u.ids → id ∈ r.raw
  rawL : ∀ k x, k ∈ r.reads → L0 k = some x → ∀ id, id ∈ x.ids → id ∈ r.raw
  rawB : ∀ k q, k < i → rs[k]? = some q → (bs.getD i 0).testBit k = true → ∀ id, id ∈ q.ments → id ∈ r.raw
  pairs : ∀ k q, k < i → rs[k]? = some q → (bs.getD i 0).testBit k = true ∨ Apart q r

def DR.log (k : Nat) (q : DR) : Log := ⟨k, q.reads, idsOfSets q.sets, idsOfTn q.tn, q.ments, q.raw⟩

def LogOf (pre : List DR) (log : List Log) : Prop := ∀ (k : Nat) (q : DR), pre[k]? = some q → q = DR.none ∨ q.log k ∈ log

theorem logAll_mem {bj : Nat} {y : Log} : ∀ {l : List Log}, logAll bj y l = true → ∀ x, x ∈ l → bj.testBit x.i = true ∨ apart2 x y = true
  | [], _, x, h => by simp at h
  | z :: r, h, x, hx => by
    simp only [logAll, Bool.and_eq_true, Bool.or_eq_true] at h
    rcases List.mem_cons.1 hx with h1 | h1
    · subst h1; exact h.1
    · exact logAll_mem h.2 x h1

theorem mem_idsAtFr (fr : Fr) {t : Nat} {u : U} (h : look t fr = some u) (id : Nat) (hid : id ∈ u.ids) : ∀ l : List Nat, t ∈ l → id ∈ idsAtFr fr l
  | [], ht => by simp at ht
  | k :: r, ht => by
    simp only [idsAtFr, List.mem_append]
    rcases List.mem_cons.1 ht with h1 | h1
    · subst h1; rw [h]; exact .inl hid
    · exact .inr (mem_idsAtFr fr h id hid r h1)

theorem mem_idsAtSt (st : St) {t : Nat} {u : AObj} (h : look t st = some u) (id : Nat) (hid : id ∈ u.ids) : ∀ l : List Nat, t ∈ l → id ∈ idsAtSt st l
  | [], ht => by simp at ht
  | k :: r, ht => by
    simp only [idsAtSt, List.mem_append]
    rcases List.mem_cons.1 ht with h1 | h1
    · subst h1; rw [h]; exact .inl hid
    · exact .inr (mem_idsAtSt st h id hid r h1)

theorem mem_mentsBefore {bj : Nat} {x : Log} (hb : bj.testBit x.i = true) (id : Nat) (hid : id ∈ x.ments) : ∀ l : List Log, x ∈ l → id ∈ mentsBefore bj l
  | [], h => by simp at h
  | y :: r, h => by
    simp only [mentsBefore]
    rcases List.mem_cons.1 h with h1 | h1
    · subst h1; rw [hb]; simp [hid]
    · have := mem_mentsBefore hb id hid r h1
      cases bj.testBit y.i <;> simp [this]

section
variable {P : Program} {env : Env} (E : EnvOK P env) {c : Ctx} (hc : c.env = env) (hT : TableOK P env c.tab) {ops : List Oper} {bs : List Nat} {fr0 : Fr} {st0 : St}

theorem logOf_snoc {pre : List DR} {log : List Log} (h : LogOf pre log) (r : DR) {log' : List Log} (hsub : ∀ x, x ∈ log → x ∈ log') (hr : r.log pre.length ∈ log') : LogOf (pre ++ [r]) log' := by
  intro k q hk
  by_cases hlt : k < pre.length
  · rw [List.getElem?_append_left hlt] at hk
    exact (h k q hk).imp (fun h => h) (hsub _)
  · rw [List.getElem?_append_right (by omega)] at hk
    have : k - pre.length = 0 := by
      rcases Nat.eq_zero_or_pos (k - pre.length) with h0 | h0
      · exact h0
      · rw [List.getElem?_eq_none (by simp; omega)] at hk; cases hk
    rw [this] at hk
    cases hk
    have hk' : k = pre.length := by omega
    rw [hk']
    exact .inr hr

/-- what a step leaves, by what is looked up -/
structure StepAt (pre : List DR) (fr : Fr) (st : St) (F0 : Nat → Option U) (L0 : Lk) : Prop where
  fr : ∀ t, look t fr = ovF pre F0 (fun _ => true) pre.length t
  st : ∀ i, look i st = ovL pre L0 (fun _ => true) pre.length i

theorem snoc_get {pre : List DR} {r : DR} {k : Nat} (h : k < pre.length) : (pre ++ [r])[k]? = pre[k]? := List.getElem?_append_left h
theorem snoc_last {pre : List DR} {r : DR} : (pre ++ [r])[pre.length]? = some r := by simp

theorem StepAt.eff {F0 : Nat → Option U} {L0 : Lk} {pre : List DR} {fr fr' : Fr} {st : St} (h : StepAt pre fr st F0 L0) (hs : ∀ t, look t fr' = look t fr) (o : Oper) {reads raw : List Nat} {e : Eff} :
    StepAt (pre ++ [DR.ofEff o reads raw e]) (putD o.dst e.v (turnFr' e.tn fr')) (setSt (turnSt' e.tn st) e.sets) F0 L0 := by
  have hlen : (pre ++ [DR.ofEff o reads raw e]).length = pre.length + 1 := by simp
  have hF := ovF_congr (rs := pre ++ [DR.ofEff o reads raw e]) (rs' := pre) (F0 := F0) (lf := fun _ => true) (lf' := fun _ => true) pre.length (fun k hk => snoc_get hk) fun _ _ => rfl
  have hL := ovL_congr (rs := pre ++ [DR.ofEff o reads raw e]) (rs' := pre) (L0 := L0) (lf := fun _ => true) (lf' := fun _ => true) pre.length (fun k hk => snoc_get hk) fun _ _ => rfl
  refine ⟨fun t => ?_, fun i => ?_⟩
  · rw [hlen]
    simp only [ovF, snoc_last, hF, if_true]
    have hturn : look t (turnFr' e.tn fr') = (ovF pre F0 (fun _ => true) pre.length t).map (U.turn (asTo e.tn)) := by
      rw [look_turnFr', hs, h.fr]
    cases hd : o.dst with
    | none => simp [putD, DR.ofEff, hd, hturn]
    | some d =>
      simp only [putD, DR.ofEff, hd, look_put, Option.some.injEq]
      by_cases htd : t = d
      · simp [htd]
      · rw [if_neg htd, if_neg (fun hh => htd hh.symm), hturn]
  · rw [hlen]
    simp only [ovL, snoc_last, hL, if_true]
    have h1 := congrFun (look_eff e.tn e.sets st) i
    rw [h1]
    have h2 : (fun j => look j st) = ovL pre L0 (fun _ => true) pre.length := funext h.st
    rw [h2]
    rfl

include E hc hT in
theorem draws_facts {κ : Fr → St → Out} {out : Out} (hne : out ≠ .fail) :
    ∀ (rest : List Oper) (pre : List DR) (log : List Log) (fr : Fr) (st : St), (∀ k, k < rest.length → ops[pre.length + k]? = rest[k]?) → StepAt pre fr st (fun t => look t fr0) (fun i => look i st0) → LogOf pre log →
      execDrawn c ops bs fr0 st0 rest pre.length log fr st κ = out →
      ∃ rs : List DR, rs.length = pre.length + rest.length ∧ (∀ k, k < pre.length → rs[k]? = pre[k]?) ∧ (∀ i, pre.length ≤ i → i < rs.length → ∃ o r, FactAt P env ops bs (fun t => look t fr0) (fun i => look i st0) rs i o r) ∧
        ∃ fr' st', StepAt rs fr' st' (fun t => look t fr0) (fun i => look i st0) ∧ κ fr' st' = out
  | [], pre, log, fr, st, _, hs, _, h => ⟨pre, by simp, fun _ _ => rfl, fun i h1 h2 => by omega, fr, st, hs, h⟩
  | o :: r, pre, log, fr, st, hops, hs, hlog, h => by
    have hop : ops[pre.length]? = some o := by simpa using hops 0 (by simp)
    have hops' : ∀ (x : DR) (k : Nat), k < r.length → ops[(pre ++ [x]).length + k]? = r[k]? := fun x k hk => by
      have := hops (k + 1) (by simp; omega)
      have he : (pre ++ [x]).length + k = pre.length + (k + 1) := by simp; omega
      rw [he]; simpa using this
    -- an operation's effect
    have take : ∀ fr', (∀ t, look t fr' = look t fr) → ∀ (reads : List Nat) (e : Eff),
        ((wantF ops o (fun t => look t fr) = some true ∧ SemD P env ops o (fun t => look t fr') (fun i => look i st) reads e) ∨ (wantF ops o (fun t => look t fr) = some false ∧ e.v = .tup [] ∧ e.sets = [] ∧ e.tn = [])) →
        takeD o pre.length (bs.getD pre.length 0) fr0 st0 (namesOf ops o) log fr' st (fun log fr st => execDrawn c ops bs fr0 st0 r (pre.length + 1) log fr st κ) reads e = out →
        ∃ rs : List DR, rs.length = pre.length + (o :: r).length ∧ (∀ k, k < pre.length → rs[k]? = pre[k]?) ∧ (∀ i, pre.length ≤ i → i < rs.length → ∃ o r, FactAt P env ops bs (fun t => look t fr0) (fun i => look i st0) rs i o r) ∧
          ∃ fr' st', StepAt rs fr' st' (fun t => look t fr0) (fun i => look i st0) ∧ κ fr' st' = out := fun fr' hsame reads e hrun h' => by
      unfold takeD at h'
      obtain ⟨y, hy⟩ : ∃ y, y = effLog pre.length (bs.getD pre.length 0) fr0 st0 (namesOf ops o) reads log e := ⟨_, rfl⟩
      rw [← hy] at h'
      cases hok : e.ok with
      | false => rw [hok] at h'; exact absurd h'.symm hne
      | true =>
        cases hlg : (plainTn e.tn && logAll (bs.getD pre.length 0) y log) with
        | false => rw [hok, hlg] at h'; exact absurd h'.symm hne
        | true =>
          rw [hok, hlg] at h'
          simp only [cond_true] at h'
          simp only [Bool.and_eq_true] at hlg
          obtain ⟨hplain, hall⟩ := hlg
          obtain ⟨x, hx⟩ : ∃ x, x = DR.ofEff o reads y.raw e := ⟨_, rfl⟩
          have hylog : y = x.log pre.length := by rw [hx, hy]; rfl
          have hlen : (pre ++ [x]).length = pre.length + 1 := by simp
          have hstep := hs.eff hsame o (reads := reads) (raw := y.raw) (e := e)
          rw [← hx] at hstep
          obtain ⟨rs, h1, h2, h3, h4⟩ := draws_facts hne r (pre ++ [x]) (y :: log) _ _ (hops' x) hstep (logOf_snoc hlog x (fun _ h => List.mem_cons_of_mem _ h) (by rw [← hylog]; exact List.mem_cons_self ..)) (by rw [hlen]; exact h')
          rw [hlen] at h1 h2 h3
          refine ⟨rs, by rw [h1, List.length_cons]; omega, fun k hk => by rw [h2 k (by omega), snoc_get hk], fun i hi hlt => ?_, h4⟩
          by_cases he : i = pre.length
          · subst he
            have hlast : rs[pre.length]? = some x := by rw [h2 _ (by omega), snoc_last]
            have preF : ovF rs (fun t => look t fr0) (fun _ => true) pre.length = fun t => look t fr := by
              funext t
              rw [hs.fr t]
              exact congrFun (ovF_congr pre.length (fun k hk => by rw [h2 k (by omega), snoc_get hk]) fun _ _ => rfl) t
            have preL : ovL rs (fun i => look i st0) (fun _ => true) pre.length = fun i => look i st := by
              funext t
              rw [hs.st t]
              exact congrFun (ovL_congr pre.length (fun k hk => by rw [h2 k (by omega), snoc_get hk]) fun _ _ => rfl) t
            have hget : ∀ k q, k < pre.length → rs[k]? = some q → q = DR.none ∨ q.log k ∈ log := fun k q hk hq => hlog k q (by rw [h2 k (by omega), snoc_get hk] at hq; exact hq)
            have hraw : x.raw = idsAtFr fr0 (namesOf ops o) ++ (idsAtSt st0 reads ++ mentsBefore (bs.getD pre.length 0) log) := by rw [hx, hy]; rfl
            have hrd : x.reads = reads := by rw [hx]; rfl
            refine ⟨o, x, hop, hlast, by rw [hx]; rfl, ?_, by rw [hx]; exact hplain, fun t u ht hu id hid => ?_, fun k z hk hz id hid => ?_, fun k q hk hq hb id hid => ?_, fun k q hk hq => ?_⟩
            · rw [preF, preL]
              rcases hrun with ⟨hw, hsem⟩ | ⟨hw, ha, hb, hd⟩
              · exact .inl ⟨hw, e, by rw [hx]; rfl, by rw [hrd]; exact hsem.same (fun t _ => (hsame t).symm) fun _ _ => rfl⟩
              · exact .inr ⟨hw, by rw [hx]; exact ha, by rw [hx]; exact hb, by rw [hx]; exact hd⟩
            · rw [hraw]; exact List.mem_append_left _ (mem_idsAtFr fr0 hu id hid _ ht)
            · rw [hraw]; rw [hrd] at hk; exact List.mem_append_right _ (List.mem_append_left _ (mem_idsAtSt st0 hz id hid _ hk))
            · rw [hraw]
              rcases hget k q hk hq with h5 | h5
              · rw [h5] at hid; simp [DR.none, DR.ments, U.ids, U.idsL, mentsOfSets] at hid
              · exact List.mem_append_right _ (List.mem_append_right _ (mem_mentsBefore (x := q.log k) hb id hid _ h5))
            · rcases hget k q hk hq with h5 | h5
              · right
                rw [h5]
                refine ⟨?_, ?_, ?_, ?_, ?_, ?_, ?_, ?_⟩ <;> intro z hz <;> first
                  | (simp [DR.none, keysS] at hz; done)
                  | (simp [DR.none, keysS, DR.ments, U.ids, U.idsL, mentsOfSets]; done)
              · rcases logAll_mem hall _ h5 with h6 | h6
                · exact .inl h6
                · right
                  rw [hylog] at h6
                  simp only [apart2, Bool.and_eq_true, DR.log, idsOfSets_eq, idsOfTn_eq] at h6
                  obtain ⟨a1, a2, a3, a4, a5, a6, a7, a8⟩ := h6
                  exact ⟨fun z hz => apartN_spec _ _ a1 z hz, fun z hz => apartN_spec _ _ a2 z hz, fun z hz => apartN_spec _ _ a3 z hz, fun z hz => apartN_spec _ _ a4 z hz, fun z hz => apartN_spec _ _ a5 z hz, fun z hz => apartN_spec _ _ a6 z hz, fun z hz => apartN_spec _ _ a7 z hz, fun z hz => apartN_spec _ _ a8 z hz⟩
          · exact h3 i (by omega) hlt
    have skip : ∀ fr', (∀ t, look t fr' = look t fr) → wantF ops o (fun t => look t fr) = some false →
        skipD o pre.length (bs.getD pre.length 0) fr0 st0 (namesOf ops o) log fr' st (fun log fr st => execDrawn c ops bs fr0 st0 r (pre.length + 1) log fr st κ) = out →
        ∃ rs : List DR, rs.length = pre.length + (o :: r).length ∧ (∀ k, k < pre.length → rs[k]? = pre[k]?) ∧ (∀ i, pre.length ≤ i → i < rs.length → ∃ o r, FactAt P env ops bs (fun t => look t fr0) (fun i => look i st0) rs i o r) ∧
          ∃ fr' st', StepAt rs fr' st' (fun t => look t fr0) (fun i => look i st0) ∧ κ fr' st' = out := fun fr' hsame hw h' =>
      take fr' hsame [] ⟨.tup [], true, [], []⟩ (.inr ⟨hw, rfl, rfl, rfl⟩) h'
    have run : ∀ fr', (∀ t, look t fr' = look t fr) → wantF ops o (fun t => look t fr) = some true →
        execOpD c o pre.length (bs.getD pre.length 0) fr0 st0 (namesOf ops o) log fr' st (fun log fr st => execDrawn c ops bs fr0 st0 r (pre.length + 1) log fr st κ) = out →
        ∃ rs : List DR, rs.length = pre.length + (o :: r).length ∧ (∀ k, k < pre.length → rs[k]? = pre[k]?) ∧ (∀ i, pre.length ≤ i → i < rs.length → ∃ o r, FactAt P env ops bs (fun t => look t fr0) (fun i => look i st0) rs i o r) ∧
          ∃ fr' st', StepAt rs fr' st' (fun t => look t fr0) (fun i => look i st0) ∧ κ fr' st' = out := fun fr' hsame hw h' => by
      subst hc
      unfold execOpD at h'
      simp only at h'
      split at h'
      · rename_i x y z hopx
        split at h'
        · rename_i t ht
          cases t with
          | true => exact take fr' hsame [] _ (.inl ⟨hw, semD_pick E hopx ht⟩) h'
          | false => exact take fr' hsame [] _ (.inl ⟨hw, semD_pick E hopx ht⟩) h'
        · exact absurd h'.symm hne
      · exact absurd h'.symm hne
      · rename_i fv args ats hopx
        split at h'
        · rename_i f us hfu
          obtain ⟨p, hp⟩ : ∃ p, p = callPre o.dst (fun i => look i st) none us := ⟨_, rfl⟩
          rw [← hp] at h'
          cases hok : preOK p with
          | false => rw [hok] at h'; exact absurd h'.symm hne
          | true =>
            rw [hok] at h'
            simp only [cond_true] at h'
            rcases hT f p.args p.st with hf | ⟨pan, u, st2, hval, hans⟩
            · rw [hf] at h'; exact absurd h'.symm hne
            · rw [hval] at h'
              cases pan with
              | true => exact absurd h'.symm hne
              | false =>
                simp only [cond_false] at h'
                have hok2 : (callPost o.dst p u st2).ok = true := by
                  cases hh : (callPost o.dst p u st2).ok with
                  | true => rfl
                  | false => unfold takeD at h'; rw [hh] at h'; exact absurd h'.symm hne
                exact take fr' hsame _ _ (.inl ⟨hw, semD_call E hopx hfu hp hok hans hok2⟩) h'
        · exact absurd h'.symm hne
      · exact absurd h'.symm hne
      · split at h'
        · exact absurd h'.symm hne
        · rename_i e he
          have hok : e.ok = true := by
            cases hh : e.ok with
            | true => rfl
            | false => unfold takeD at h'; rw [hh] at h'; exact absurd h'.symm hne
          exact take fr' hsame _ e (.inl ⟨hw, semD_eff E he hok⟩) h'
    unfold execDrawn at h
    simp only at h
    split at h
    · rename_i hg
      exact run fr (fun _ => rfl) (by simp [wantF, hg]) h
    · rename_i g b hg
      split at h
      · exact absurd h.symm hne
      · rename_i s hsl
        split at h
        · rename_i x hx
          have hw : wantF ops o (fun t => look t fr) = some (x == b) := by simp [wantF, hg, hsl, hx]
          cases x <;> cases b <;> simp only [cond_true, cond_false] at h
          · exact run _ (look_reput hx) hw h
          · exact skip _ (look_reput hx) hw h
          · exact skip _ (look_reput hx) hw h
          · exact run _ (look_reput hx) hw h
        · rename_i hx
          exact skip fr (fun _ => rfl) (by simp [wantF, hg, hsl, hx]) h
        · exact absurd h.symm hne

end

end Go.Abs

