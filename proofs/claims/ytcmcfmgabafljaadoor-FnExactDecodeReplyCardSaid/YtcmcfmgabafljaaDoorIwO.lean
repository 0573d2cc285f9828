/- A region that draws its order: any order comes to what the canonical one comes to. -/
import Derived.Test.YtcmcfmgabafljaaDoorIwN
set_option linter.unusedVariables false
set_option linter.unusedSimpArgs false
namespace Go.IW
open Go.RowKit

theorem ahead_split {A R : List Nat} {i j : Nat} (hn : (A ++ i :: R).Nodup) : (ahead (A ++ i :: R) j i = true → j ∈ A) ∧ (ahead (A ++ i :: R) i j = true → j ∈ R) ∧ (j ∈ R → ahead (A ++ i :: R) i j = true) := by
  induction A with
  | nil =>
    simp only [List.nil_append, List.nodup_cons] at hn ⊢
    refine ⟨fun h => ?_, fun h => ?_, fun h => ?_⟩
    · unfold ahead at h
      split at h
      · rename_i hij; simp at hij h; exact absurd h hn.1
      · simp at h
    · unfold ahead at h; simpa using h
    · unfold ahead; simpa using h
  | cons x A ih =>
    simp only [List.cons_append, List.nodup_cons] at hn ⊢
    obtain ⟨ih1, ih2, ih3⟩ := ih hn.2
    have hxi : x ≠ i := fun e => hn.1 (by rw [e]; simp)
    refine ⟨fun h => ?_, fun h => ?_, fun h => ?_⟩
    · unfold ahead at h
      split at h
      · rename_i hxj; simp at hxj; rw [hxj]; exact List.mem_cons_self
      · split at h
        · cases h
        · exact List.mem_cons_of_mem _ (ih1 h)
    · unfold ahead at h
      rw [if_neg (by simpa using hxi)] at h
      split at h
      · cases h
      · exact ih2 h
    · unfold ahead
      rw [if_neg (by simpa using hxi)]
      have hxj : x ≠ j := fun e => hn.1 (by rw [e]; simp [h])
      rw [if_neg (by simpa using hxj)]
      exact ih3 h

theorem put_same {e : Env} {d : Nat} {v : IV} : put e (some d) v d = v := upd_eq e d v
theorem put_other {e : Env} {o : Option Nat} {t : Nat} {v : IV} (h : o ≠ some t) : put e o v t = e t := by
  cases o with
  | none => rfl
  | some d => exact upd_ne e v (fun ht => h (by rw [ht]))

section
variable {P : Program}

/-- What is told again is told. -/
theorem again_vcOp {c : COp} {k : FK} (hk : c.op = .f k) {e : Env} {h : IH} (hg : again c e h) : vcOp P c (fun e' h' => h' = h ∧ ∀ d, c.dst = some d → e' d = e d) e h := by
  obtain ⟨dst, guard, op⟩ := c
  simp only at hk
  subst hk
  cases guard with
  | none =>
    simp only [again] at hg
    simp only [vcOp, vcK]
    cases dst with
    | none =>
      simp only at hg
      obtain ⟨v, hv⟩ := Option.isSome_iff_exists.1 hg
      rw [hv]; exact ⟨trivial, fun d hd => by cases hd⟩
    | some d =>
      simp only at hg
      rw [hg]; exact ⟨trivial, fun d' hd => by cases hd; exact put_same⟩
  | some g =>
    obtain ⟨t, want⟩ := g
    simp only [again] at hg
    simp only [vcOp]
    split at hg
    · rename_i b hb
      split at hg
      · rename_i hbw
        refine ⟨fun _ => ?_, fun h0 => by rw [hbw] at h0; cases want <;> cases h0⟩
        simp only [vcK]
        cases dst with
        | none =>
          simp only at hg
          obtain ⟨v, hv⟩ := Option.isSome_iff_exists.1 hg
          rw [hv]; exact ⟨trivial, fun d hd => by cases hd⟩
        | some d =>
          simp only at hg
          rw [hg]; exact ⟨trivial, fun d' hd => by cases hd; exact put_same⟩
      · rename_i hbw
        refine ⟨fun h => absurd h hbw, fun _ => ?_⟩
        cases dst with
        | none => exact ⟨trivial, fun d hd => by cases hd⟩
        | some d => exact ⟨trivial, fun d' hd => by cases hd; rw [put_same]; exact hg.symm⟩
    · rename_i hb
      cases dst with
      | none => exact ⟨trivial, fun d hd => by cases hd⟩
      | some d => exact ⟨trivial, fun d' hd => by cases hd; rw [put_same]; exact hg.symm⟩
    · exact hg.elim

/-- A float runs, and can be told again. -/
theorem float_run {c : COp} {k : FK} (hk : c.op = .f k) (hs : ∀ d, c.dst = some d → d ∉ c.looks) {K : Env → IH → Prop} {e : Env} {h : IH} (hv : vcOp P c K e h) :
    ∃ e', K e' h ∧ again c e' h ∧ ∀ t, c.dst ≠ some t → e' t = e t := by
  obtain ⟨dst, guard, op⟩ := c
  simp only at hk
  subst hk
  have hlook : ∀ v, ∀ t ∈ (COp.mk dst guard (.f k)).looks, put e dst v t = e t := by
    intro v t ht
    refine put_other (fun hd => ?_)
    exact hs t hd ht
  have hfe : ∀ v, feval (put e dst v) h k = feval e h k := fun v => feval_congr fun t ht => hlook v t (by simp [COp.looks, ht])
  cases guard with
  | none =>
    simp only [vcOp, vcK] at hv
    split at hv
    · rename_i v hfv
      refine ⟨put e dst v, hv, ?_, fun t ht => put_other ht⟩
      simp only [again]
      cases dst with
      | none => simp only [hfe v, hfv]; rfl
      | some d => simp only [hfe v, hfv, put_same]
    · exact hv.elim
  | some g =>
    obtain ⟨t, want⟩ := g
    simp only [vcOp] at hv
    split at hv
    · rename_i b hb
      have hte : ∀ v, put e dst v t = .bool b := fun v => by rw [hlook v t (by simp [COp.looks]), hb]
      by_cases hbw : b = want
      · have hv := hv.1 hbw
        simp only [vcK] at hv
        split at hv
        · rename_i v hfv
          refine ⟨_, hv, ?_, fun t ht => put_other ht⟩
          simp only [again, hte]
          rw [if_pos hbw]
          cases dst with
          | none => simp only [hfe, hfv]; rfl
          | some d => simp only [hfe, hfv, put_same]
        · exact hv.elim
      · refine ⟨_, hv.2 (by cases b <;> cases want <;> simp_all), ?_, fun t ht => put_other ht⟩
        simp only [again, hte]
        rw [if_neg hbw]
        cases dst with
        | none => trivial
        | some d => simp only [put_same]
    · rename_i hb
      refine ⟨_, hv, ?_, fun t ht => put_other ht⟩
      have hte : ∀ v, put e dst v t = .tuple [] := fun v => by rw [hlook v t (by simp [COp.looks]), hb]
      simp only [again, hte]
      cases dst with
      | none => trivial
      | some d => simp only [put_same]
    · exact hv.elim

theorem againAll_get {cs : List COp} {anc : List (List Nat)} {i : Nat} {e : Env} {h : IH} : ∀ {l : List Nat}, againAll cs anc i e h l → ∀ j ∈ l, j ∈ anc.getD i [] ∨ again (cs.getD j default) e h
  | [], _, j, hj => by cases hj
  | x :: l, ha, j, hj => by
    obtain ⟨h1, h2⟩ := ha
    rcases List.mem_cons.1 hj with rfl | hj
    · rcases h1 with h1 | h1
      · exact .inl (by simpa using h1)
      · exact .inr h1
    · exact againAll_get h2 j hj

variable (ops : Array Oper) (cs : List COp) (bar : List Bool) (anc : List (List Nat)) (ord : List Nat) (K : Env → IH → Prop)

structure DInv (P : Program) (L : Nat → Prop) (done todo : List Nat) (ex ec : Env) (h : IH) : Prop where
  split : ord = done.reverse ++ todo
  sub : ∀ i, i < ops.size → L i → i ∈ done
  down : ∀ i, i < ops.size → L i → ∀ j ∈ anc.getD i [], L j
  barl : ∀ i ∈ done, bar.getD i true = true → L i
  env : ∀ t, (∀ i ∈ done, (cs.getD i default).dst = some t → L i) → ex t = ec t
  pend : ∀ i ∈ done, ¬ L i → again (cs.getD i default) ec h
  cond : vcD P cs bar anc done todo K ec h

variable {ops cs bar anc ord K}

/-- All floats up to the next barrier are told. -/
theorem advance (hok : DOk ops cs bar anc ord) {L : Nat → Prop} : ∀ (todo done : List Nat) (ex ec : Env) (h : IH), DInv ops cs bar anc ord K P L done todo ex ec h →
    ∃ done' todo' ec', DInv ops cs bar anc ord K P L done' todo' ex ec' h ∧ (todo' = [] ∨ ∃ b r, todo' = b :: r ∧ bar.getD b true = true)
  | [], done, ex, ec, h, hi => ⟨done, [], ec, hi, .inl rfl⟩
  | i :: r, done, ex, ec, h, hi => by
    by_cases hb : bar.getD i true = true
    · exact ⟨done, i :: r, ec, hi, .inr ⟨i, r, rfl, hb⟩⟩
    · have hbf : bar.getD i true = false := by simpa using hb
      have hmem : i ∈ ord := by rw [hi.split]; simp
      have hin : i < ops.size := (hok.perm i).1 hmem
      have hnd : (done.reverse ++ i :: r).Nodup := by rw [← hi.split]; exact hok.nodup
      have hid : i ∉ done := fun hd => by
        have := (List.nodup_append.1 hnd).2.2 i (by simpa using hd) i (List.mem_cons_self)
        exact this rfl
      have hnl : ¬ L i := fun hl => hid (hi.sub i hin hl)
      obtain ⟨k, hk⟩ := hok.effs i hin hbf
      have hc := hi.cond
      simp only [vcD, hbf, Bool.false_eq_true, if_false] at hc
      obtain ⟨ec', g1, g2, g3⟩ := float_run hk (hok.self i hin hbf) hc
      have hnew : DInv ops cs bar anc ord K P L (i :: done) r ex ec' h := by
        refine ⟨by rw [hi.split]; simp, fun j hj hl => List.mem_cons_of_mem _ (hi.sub j hj hl), hi.down, ?_, ?_, ?_, g1⟩
        · intro j hj hbj
          rcases List.mem_cons.1 hj with rfl | hj
          · rw [hbf] at hbj; cases hbj
          · exact hi.barl j hj hbj
        · intro t ht
          have hdt : (cs.getD i default).dst ≠ some t := fun hd => hnl (ht i (List.mem_cons_self) hd)
          rw [g3 t hdt]
          exact hi.env t fun j hj hd => ht j (List.mem_cons_of_mem _ hj) hd
        · intro j hj hnlj
          rcases List.mem_cons.1 hj with rfl | hj
          · exact g2
          · have hji : j ≠ i := fun e => hid (e ▸ hj)
            have hjn : j < ops.size := (hok.perm j).1 (by rw [hi.split]; simp [hj])
            have := hi.pend j hj hnlj
            refine (again_congr ?_ ?_).mp this
            · intro t ht
              symm
              refine g3 t (fun hd => ?_)
              rcases hok.data j hjn i hin hji t hd ht with h1 | ⟨_, h2⟩
              · have := hok.order j hjn i h1
                rw [hi.split] at this
                have := (ahead_split hnd).2.1 this
                have h3 := (List.nodup_append.1 hnd).2.2 j (by simpa using hj) j (List.mem_cons_of_mem _ this)
                exact h3 rfl
              · rw [hbf] at h2; cases h2
            · intro d hd
              symm
              exact g3 d (hok.dsts i hin j hjn (fun e => hji e.symm) d hd)
      exact advance hok r (i :: done) ex ec' h hnew

variable {ρ0 : List RLoc} {B N : Nat} {w0 : World}

theorem ready_iff {listed : Array Bool} {i : Nat} : i ∈ Region.ready .any ops listed ↔ i < ops.size ∧ listed.getD i true = false ∧ ∃ o, ops[i]? = some o ∧ ∀ k ∈ edgesOf o, listed.getD k false = true := by
  unfold Region.ready
  rw [List.mem_filter, List.mem_range]
  constructor
  · rintro ⟨h1, h2⟩
    simp only [Bool.and_eq_true, Bool.not_eq_true'] at h2
    refine ⟨h1, h2.1, ops[i], Array.getElem?_eq_getElem h1, fun k hk => ?_⟩
    have h3 := h2.2
    rw [Array.getElem?_eq_getElem h1] at h3
    simp only [Option.map_some, Option.getD_some] at h3
    rw [Array.all_eq_true'] at h3
    unfold edgesOf at hk
    rw [List.mem_map] at hk
    obtain ⟨e, he, rfl⟩ := hk
    rw [List.mem_filter] at he
    have := h3 e (by simpa using he.1)
    rw [he.2] at this
    simpa using this
  · rintro ⟨h1, h2, o, ho, h3⟩
    refine ⟨h1, ?_⟩
    simp only [Bool.and_eq_true, Bool.not_eq_true']
    refine ⟨h2, ?_⟩
    rw [ho]
    simp only [Option.map_some, Option.getD_some]
    rw [Array.all_eq_true']
    intro e he
    cases hb : Region.binds .any e with
    | false => rfl
    | true =>
      have := h3 e.on (by unfold edgesOf; exact List.mem_map.2 ⟨e, List.mem_filter.2 ⟨by simpa using he, hb⟩, rfl⟩)
      simp [this]

theorem filter_all {α : Type} (p : α → Bool) (l : List α) (h : (l.filter p).length = l.length) : ∀ x ∈ l, p x = true := by
  rw [List.length_filter_eq_length_iff] at h
  exact h

theorem filter_one {l : List Nat} (hn : l.Nodup) {p q : Nat → Bool} {i : Nat} (hi : i ∈ l) (hp : p i = false) (hq : q i = true) (he : ∀ j, j ≠ i → q j = p j) : (l.filter q).length = (l.filter p).length + 1 := by
  induction l with
  | nil => cases hi
  | cons x l ih =>
    rw [List.nodup_cons] at hn
    rcases List.mem_cons.1 hi with rfl | hi
    · have hsame : l.filter q = l.filter p := List.filter_congr fun j hj => he j (fun e => hn.1 (e ▸ hj))
      rw [List.filter_cons_of_pos hq, List.filter_cons_of_neg (by simp [hp]), hsame]; simp
    · have hx : x ≠ i := fun e => hn.1 (e ▸ hi)
      have ih := ih hn.2 hi
      cases hpx : p x with
      | true => rw [List.filter_cons_of_pos (by rw [he x hx]; exact hpx), List.filter_cons_of_pos hpx]; simp [ih]
      | false => rw [List.filter_cons_of_neg (by rw [he x hx]; simp [hpx]), List.filter_cons_of_neg (by simp [hpx])]; exact ih

theorem draw_any (hcs : ocomps P N ops ops.toList = some cs) (hok : DOk ops cs bar anc ord) {Q : Exit → Act → World → Prop} (hQ : ∀ a w, St ρ0 N B w0 K a w → Q .normal a w) :
    ∀ (fuel : Nat) (listed : Array Bool) (a : Act) (w : World), listed.size = ops.size → (ord.filter fun i => listed.getD i true).length + fuel = ops.size →
    (∃ ρ done todo ex ec h, ρ0 <+: ρ ∧ WRel ρ B w h ∧ ARel ρ N a ex ∧ Below B w0 w ∧ DInv ops cs bar anc ord K P (fun i => listed.getD i true = true) done todo ex ec h) →
    wpAny P .any ops Q fuel listed a w := by
  obtain ⟨hlen, hget⟩ := ocomps_get hcs
  have hl : cs.length = ops.size := by rw [← hlen]; simp
  have hol : ord.length = ops.size := by
    have h1 : ord.Perm (List.range ops.size) := by
      rw [List.perm_ext_iff_of_nodup hok.nodup List.nodup_range]
      intro i; rw [hok.perm, List.mem_range]
    rw [h1.length_eq, List.length_range]
  -- all have come up
  have fin : ∀ (listed : Array Bool) (a : Act) (w : World), (∀ i, i < ops.size → listed.getD i true = true) →
      (∃ ρ done todo ex ec h, ρ0 <+: ρ ∧ WRel ρ B w h ∧ ARel ρ N a ex ∧ Below B w0 w ∧ DInv ops cs bar anc ord K P (fun i => listed.getD i true = true) done todo ex ec h) → Q .normal a w := by
    intro listed a w hall hst
    obtain ⟨ρ, done, todo, ex, ec, h, g1, g2, g3, g4, g5⟩ := hst
    have htodo : todo = [] := by
      cases todo with
      | nil => rfl
      | cons b r =>
        have hb : b ∈ ord := by rw [g5.split]; simp
        have hbn := (hok.perm b).1 hb
        have hbd := g5.sub b hbn (hall b hbn)
        have hnd := hok.nodup
        rw [g5.split] at hnd
        exact absurd rfl ((List.nodup_append.1 hnd).2.2 b (by simpa using hbd) b (List.mem_cons_self))
    subst htodo
    have hee : ex = ec := by
      funext t
      refine g5.env t fun i hi _ => ?_
      exact hall i ((hok.perm i).1 (by rw [g5.split]; simp [hi]))
    have hc := g5.cond
    simp only [vcD] at hc
    rw [← hee] at hc
    exact hQ a w ⟨ρ, ex, h, g1, g2, g3, g4, hc⟩
  have none_left : ∀ listed : Array Bool, listed.size = ops.size → Region.ready .any ops listed = [] → ∀ i, i < ops.size → listed.getD i true = true := by
    intro listed hsz hr i
    induction i using Nat.strongRecOn with
    | _ i ih =>
      intro hi
      cases hx : listed.getD i true with
      | true => rfl
      | false =>
        have : i ∈ Region.ready .any ops listed := by
          rw [ready_iff]
          refine ⟨hi, hx, ops[i], Array.getElem?_eq_getElem hi, fun k hk => ?_⟩
          have hki := (hok.edges i _ (Array.getElem?_eq_getElem hi) k hk).1
          have h1 := ih k hki (by omega)
          have hks : k < listed.size := by omega
          simp [Array.getD, hks] at h1 ⊢; exact h1
        rw [hr] at this; cases this
  intro fuel
  induction fuel with
  | zero =>
    intro listed a w hsz hcount hst
    have hall : ∀ i, i < ops.size → listed.getD i true = true := fun i hi => filter_all (fun i => listed.getD i true) ord (by omega) i ((hok.perm i).2 hi)
    refine ⟨?_, fin listed a w hall hst⟩
    rw [List.eq_nil_iff_forall_not_mem]
    intro i hi
    rw [ready_iff] at hi
    rw [hall i hi.1] at hi
    cases hi.2.1
  | succ fuel ih =>
    intro listed a w hsz hcount hst
    refine ⟨fun hr => fin listed a w (none_left listed hsz hr) hst, fun i hi => ?_⟩
    rw [ready_iff] at hi
    obtain ⟨hin, hil, o, ho, hedge⟩ := hi
    obtain ⟨ρ, done0, todo0, ex, ec0, h, g1, g2, g3, g4, g5⟩ := hst
    obtain ⟨done, todo, ec, inv, hhead⟩ := advance hok todo0 done0 ex ec0 h g5
    have hio : i ∈ ord := (hok.perm i).2 hin
    have hci : cs[i]? = some (cs.getD i default) := by
      rw [List.getD_eq_getElem?_getD, List.getElem?_eq_getElem (by omega)]; rfl
    have hcomp : ocomp P N ops o = some (cs.getD i default) := hget i o _ (by rw [Array.getElem?_toList]; exact ho) hci
    -- what i waits for has come up
    have hanc : ∀ j ∈ anc.getD i [], listed.getD j true = true := by
      intro j hj
      obtain ⟨hji, k, hk, hjk⟩ := hok.ancs i o ho j hj
      have hke := hok.edges i o ho k hk
      have hkl : listed.getD k true = true := by
        have := hedge k hk
        have hks : k < listed.size := by omega
        simp [Array.getD, hks] at this ⊢; exact this
      rcases hjk with rfl | hjk
      · exact hkl
      · exact inv.down k (by omega) hkl j hjk
    have hset : ∀ j, (listed.setIfInBounds i true).getD j true = if j = i then true else listed.getD j true := by
      intro j
      by_cases hji : j = i
      · subst hji; simp [Array.getD, hsz, hin]
      · simp only [if_neg hji, Array.getD_eq_getD_getElem?]
        rw [Array.getElem?_setIfInBounds_ne (fun e => hji e.symm)]
    have hset_i : (listed.setIfInBounds i true).getD i true = true := by rw [hset, if_pos rfl]
    have hset_of : ∀ j, listed.getD j true = true → (listed.setIfInBounds i true).getD j true = true := by
      intro j hj; rw [hset]; split <;> first | rfl | exact hj
    have hset_back : ∀ j, j ≠ i → (listed.setIfInBounds i true).getD j true = true → listed.getD j true = true := by
      intro j hj h; rwa [hset, if_neg hj] at h
    have hcount' : (ord.filter fun j => (listed.setIfInBounds i true).getD j true).length + fuel = ops.size := by
      have := filter_one (p := fun j => listed.getD j true) (q := fun j => (listed.setIfInBounds i true).getD j true) hok.nodup hio hil hset_i (fun j hj => by simp only [hset, if_neg hj])
      omega
    have hdown' : ∀ j, j < ops.size → (listed.setIfInBounds i true).getD j true = true → ∀ m ∈ anc.getD j [], (listed.setIfInBounds i true).getD m true = true := by
      intro j hj hjl m hm
      by_cases hji : j = i
      · subst hji; exact hset_of m (hanc m hm)
      · exact hset_of m (inv.down j hj (hset_back j hji hjl) m hm)
    have hnd := hok.nodup
    by_cases hid : i ∈ done
    · -- it has been told
      have hnl : ¬ (listed.getD i true = true) := by rw [hil]; simp
      have hbar : bar.getD i true = false := by
        cases hb : bar.getD i true with
        | false => rfl
        | true => exact absurd (inv.barl i hid hb) hnl
      obtain ⟨k, hk⟩ := hok.effs i hin hbar
      have hag := again_vcOp (P := P) hk (inv.pend i hid hnl)
      -- the places that it looks at
      have hlooks : ∀ t ∈ (cs.getD i default).looks, ec t = ex t := by
        intro t ht
        symm
        refine inv.env t fun j hj hd => ?_
        have hjn : j < ops.size := (hok.perm j).1 (by rw [inv.split]; simp [hj])
        by_cases hji : j = i
        · subst hji; exact absurd ht (hok.self j hjn hbar t hd)
        · rcases hok.data i hin j hjn (fun e => hji e.symm) t hd ht with h1 | ⟨h1, h2⟩
          · exact hanc j h1
          · exact absurd (inv.down j hjn (inv.barl j hj h2) i h1) hnl
      have hv := vcOp_move (P := P) (K' := fun e' h' => h' = h ∧ (∀ d, (cs.getD i default).dst = some d → e' d = ec d) ∧ (∀ t, (cs.getD i default).dst ≠ some t → e' t = ex t)) (e' := ex) hlooks
        (fun v h' hk' => ⟨hk'.1, fun d hd => by have := hk'.2 d hd; rw [hd] at this ⊢; rw [put_same] at this ⊢; exact this, fun t ht => put_other ht⟩) hag
      refine op_step g2 g3 g1 g4 ho hcomp hv (fun a' w' hs' => ih _ a' w' (by simp [hsz]) hcount' ?_)
      obtain ⟨ρ', e', h', k1, k2, k3, k4, rfl, k5, k6⟩ := hs'
      refine ⟨ρ', done, todo, e', ec, h', k1, k2, k3, k4, inv.split, ?_, hdown', fun j hj hb => hset_of j (inv.barl j hj hb), ?_, ?_, inv.cond⟩
      · intro j hj hjl
        by_cases hji : j = i
        · rw [hji]; exact hid
        · exact inv.sub j hj (hset_back j hji hjl)
      · intro t ht
        by_cases hdt : (cs.getD i default).dst = some t
        · exact k5 t hdt
        · rw [k6 t hdt]
          refine inv.env t fun j hj hd => hset_back j (fun e => hdt (e ▸ hd)) (ht j hj hd)
      · intro j hj hjl
        exact inv.pend j hj (fun hl => hjl (hset_of j hl))
    · -- it is the barrier
      have hit : i ∈ todo := by
        rw [inv.split] at hio
        rcases List.mem_append.1 hio with h1 | h1
        · exact absurd (by simpa using h1) hid
        · exact h1
      have hhd : ∃ r, todo = i :: r ∧ bar.getD i true = true := by
        rcases hhead with h0 | ⟨b, r, h0, hb⟩
        · rw [h0] at hit; cases hit
        · rw [h0] at hit
          rcases List.mem_cons.1 hit with rfl | hir
          · exact ⟨r, h0, hb⟩
          · -- the barrier ahead of it has come up: no
            have hbo : b ∈ ord := by rw [inv.split, h0]; simp
            have hbn := (hok.perm b).1 hbo
            have hnd' : (done.reverse ++ b :: r).Nodup := by rw [← h0, ← inv.split]; exact hnd
            have hah : ahead ord b i = true := by rw [inv.split, h0]; exact (ahead_split hnd').2.2 hir
            have hbl := hanc b (hok.bars b hbn i hin hb hah)
            have hbd := inv.sub b hbn hbl
            exact absurd rfl ((List.nodup_append.1 hnd').2.2 b (by simpa using hbd) b (List.mem_cons_self))
      obtain ⟨r, htodo, hbi⟩ := hhd
      subst htodo
      have hnd' : (done.reverse ++ i :: r).Nodup := by rw [← inv.split]; exact hnd
      have hc := inv.cond
      simp only [vcD, hbi, if_true] at hc
      have hlooks : ∀ t ∈ (cs.getD i default).looks, ec t = ex t := by
        intro t ht
        symm
        refine inv.env t fun j hj hd => ?_
        have hjn : j < ops.size := (hok.perm j).1 (by rw [inv.split]; simp [hj])
        have hji : i ≠ j := fun e => hid (e ▸ hj)
        rcases hok.data i hin j hjn hji t hd ht with h1 | ⟨h1, _⟩
        · exact hanc j h1
        · have hah := hok.order j hjn i h1
          rw [inv.split] at hah
          have := (ahead_split hnd').2.1 hah
          exact absurd rfl ((List.nodup_append.1 hnd').2.2 j (by simpa using hj) j (List.mem_cons_of_mem _ this))
      have hv := vcOp_move (P := P) (K' := fun e' h' => ∃ v, e' = put ex (cs.getD i default).dst v ∧ againAll cs anc i (put ec (cs.getD i default).dst v) h' done ∧ vcD P cs bar anc (i :: done) r K (put ec (cs.getD i default).dst v) h') (e' := ex) hlooks
        (fun v h' hk' => ⟨v, rfl, hk'.1, hk'.2⟩) hc
      refine op_step g2 g3 g1 g4 ho hcomp hv (fun a' w' hs' => ih _ a' w' (by simp [hsz]) hcount' ?_)
      obtain ⟨ρ', e', h', k1, k2, k3, k4, v, rfl, k5, k6⟩ := hs'
      refine ⟨ρ', i :: done, r, _, _, h', k1, k2, k3, k4, by rw [inv.split]; simp, ?_, hdown', ?_, ?_, ?_, k6⟩
      · intro j hj hjl
        by_cases hji : j = i
        · rw [hji]; exact List.mem_cons_self
        · exact List.mem_cons_of_mem _ (inv.sub j hj (hset_back j hji hjl))
      · intro j hj hb
        rcases List.mem_cons.1 hj with rfl | hj
        · exact hset_i
        · exact hset_of j (inv.barl j hj hb)
      · intro t ht
        by_cases hdt : (cs.getD i default).dst = some t
        · rw [hdt, put_same, put_same]
        · rw [put_other hdt, put_other hdt]
          refine inv.env t fun j hj hd => hset_back j (fun e => hdt (e ▸ hd)) (ht j (List.mem_cons_of_mem _ hj) hd)
      · intro j hj hjl
        rcases List.mem_cons.1 hj with rfl | hj
        · exact absurd hset_i hjl
        · rcases againAll_get k5 j hj with h1 | h1
          · exact absurd (hset_of j (hanc j h1)) hjl
          · exact h1


/-! ### Each order of what writes -/

variable (ops cs bar anc K) in
structure TInv (P : Program) (L : Nat → Prop) (f : Nat) (done : List Nat) (ex ec : Env) (h : IH) : Prop where
  len : done.length + f = ops.size
  nodup : done.Nodup
  mem : ∀ i ∈ done, i < ops.size
  clos : ∀ i ∈ done, ∀ j ∈ anc.getD i [], j ∈ done
  sub : ∀ i, i < ops.size → L i → i ∈ done
  down : ∀ i, i < ops.size → L i → ∀ j ∈ anc.getD i [], L j
  barl : ∀ i ∈ done, bar.getD i true = true → L i
  env : ∀ t, (∀ i ∈ done, (cs.getD i default).dst = some t → L i) → ex t = ec t
  pend : ∀ i ∈ done, ¬ L i → again (cs.getD i default) ec h
  cond : vcT P cs anc done (mkT bar anc ops.size f done) K ec h

theorem mem_ready {n : Nat} {done : List Nat} {i : Nat} : i ∈ readyL anc n done ↔ i < n ∧ i ∉ done ∧ ∀ j ∈ anc.getD i [], j ∈ done := by
  unfold readyL
  rw [List.mem_filter, List.mem_range]
  simp only [Bool.and_eq_true, Bool.not_eq_true', List.all_eq_true]
  constructor
  · rintro ⟨h1, h2, h3⟩
    exact ⟨h1, by simpa using h2, fun j hj => by simpa using h3 j hj⟩
  · rintro ⟨h1, h2, h3⟩
    exact ⟨h1, by simpa using h2, fun j hj => by simpa using h3 j hj⟩

theorem kids_get {g : Nat → DT} {done : List Nat} {e : Env} {h : IH} {i : Nat} : ∀ {l : List Nat}, i ∈ l → vcT P cs anc done (kidsT g l) K e h →
    vcOp P (cs.getD i default) (fun e' h' => againAll cs anc i e' h' done ∧ vcT P cs anc (i :: done) (g i) K e' h') e h
  | [], hi, _ => by cases hi
  | x :: l, hi, hv => by
    simp only [kidsT, vcT] at hv
    rcases List.mem_cons.1 hi with rfl | hi
    · exact hv.1
    · exact kids_get hi hv.2

theorem advanceT (hok : TOk ops cs bar anc) {L : Nat → Prop} : ∀ (f : Nat) (done : List Nat) (ex ec : Env) (h : IH), TInv ops cs bar anc K P L f done ex ec h →
    ∃ f' done' ec', TInv ops cs bar anc K P L f' done' ex ec' h ∧ (f' = 0 ∨ ∃ g, f' = g + 1 ∧ (readyL anc ops.size done').find? (fun i => !bar.getD i true) = none)
  | 0, done, ex, ec, h, hi => ⟨0, done, ec, hi, .inl rfl⟩
  | f + 1, done, ex, ec, h, hi => by
    cases hfind : (readyL anc ops.size done).find? (fun i => !bar.getD i true) with
    | none => exact ⟨f + 1, done, ec, hi, .inr ⟨f, rfl, hfind⟩⟩
    | some i =>
      have hp := List.find?_some hfind
      have hbf : bar.getD i true = false := by simpa using hp
      have hrd := mem_ready.1 (List.mem_of_find?_eq_some hfind)
      obtain ⟨hin, hid, hanc⟩ := hrd
      have hnl : ¬ L i := fun hl => hid (hi.sub i hin hl)
      obtain ⟨k, hk⟩ := hok.effs i hin hbf
      have hc := hi.cond
      simp only [mkT, hfind, vcT] at hc
      obtain ⟨ec', g1, g2, g3⟩ := float_run hk (hok.self i hin hbf) hc
      have hnew : TInv ops cs bar anc K P L f (i :: done) ex ec' h := by
        refine ⟨by have := hi.len; simp; omega, List.nodup_cons.2 ⟨hid, hi.nodup⟩, ?_, ?_, fun j hj hl => List.mem_cons_of_mem _ (hi.sub j hj hl), hi.down, ?_, ?_, ?_, g1⟩
        · intro j hj
          rcases List.mem_cons.1 hj with rfl | hj
          · exact hin
          · exact hi.mem j hj
        · intro j hj m hm
          rcases List.mem_cons.1 hj with rfl | hj
          · exact List.mem_cons_of_mem _ (hanc m hm)
          · exact List.mem_cons_of_mem _ (hi.clos j hj m hm)
        · intro j hj hbj
          rcases List.mem_cons.1 hj with rfl | hj
          · rw [hbf] at hbj; cases hbj
          · exact hi.barl j hj hbj
        · intro t ht
          have hdt : (cs.getD i default).dst ≠ some t := fun hd => hnl (ht i (List.mem_cons_self) hd)
          rw [g3 t hdt]
          exact hi.env t fun j hj hd => ht j (List.mem_cons_of_mem _ hj) hd
        · intro j hj hnlj
          rcases List.mem_cons.1 hj with rfl | hj
          · exact g2
          · have hji : j ≠ i := fun e => hid (e ▸ hj)
            have hjn : j < ops.size := hi.mem j hj
            have := hi.pend j hj hnlj
            refine (again_congr ?_ ?_).mp this
            · intro t ht
              symm
              refine g3 t (fun hd => ?_)
              rcases hok.data j hjn i hin hji t hd ht with h1 | ⟨_, h2⟩
              · exact hid (hi.clos j hj i h1)
              · rw [hbf] at h2; cases h2
            · intro d hd
              symm
              exact g3 d (hok.dsts i hin j hjn (fun e => hji e.symm) d hd)
      exact advanceT hok f (i :: done) ex ec' h hnew

theorem full_done {n : Nat} {done : List Nat} (hn : done.Nodup) (hm : ∀ i ∈ done, i < n) (ha : ∀ i, i < n → i ∈ done) : done.length = n := by
  have h1 : done.Perm (List.range n) := by
    rw [List.perm_ext_iff_of_nodup hn List.nodup_range]
    intro i
    rw [List.mem_range]
    exact ⟨hm i, ha i⟩
  rw [h1.length_eq, List.length_range]
theorem nodup_le : ∀ (l m : List Nat), l.Nodup → (∀ x ∈ l, x ∈ m) → l.length ≤ m.length
  | [], m, _, _ => Nat.zero_le _
  | x :: l, m, hn, hm => by
    rw [List.nodup_cons] at hn
    have hx := hm x (List.mem_cons_self)
    have h1 := nodup_le l (m.erase x) hn.2 (fun y hy => (List.mem_erase_of_ne (fun (e : y = x) => hn.1 (by rw [← e]; exact hy))).2 (hm y (List.mem_cons_of_mem _ hy)))
    rw [List.length_erase_of_mem hx] at h1
    have h2 := List.length_pos_of_mem hx
    rw [List.length_cons]
    omega
theorem not_full {n : Nat} {done : List Nat} (hn : done.Nodup) (hm : ∀ i ∈ done, i < n) {i : Nat} (hi : i < n) (hd : i ∉ done) : done.length < n := by
  have h1 := nodup_le (i :: done) (List.range n) (List.nodup_cons.2 ⟨hd, hn⟩) (fun j hj => by
    rw [List.mem_range]
    rcases List.mem_cons.1 hj with rfl | hj
    · exact hi
    · exact hm j hj)
  rw [List.length_range, List.length_cons] at h1
  omega

theorem draw_anyT (hcs : ocomps P N ops ops.toList = some cs) (hok : TOk ops cs bar anc) {Q : Exit → Act → World → Prop} (hQ : ∀ a w, St ρ0 N B w0 K a w → Q .normal a w) :
    ∀ (fuel : Nat) (listed : Array Bool) (a : Act) (w : World), listed.size = ops.size → ((List.range ops.size).filter fun i => listed.getD i true).length + fuel = ops.size →
    (∃ ρ f done ex ec h, ρ0 <+: ρ ∧ WRel ρ B w h ∧ ARel ρ N a ex ∧ Below B w0 w ∧ TInv ops cs bar anc K P (fun i => listed.getD i true = true) f done ex ec h) →
    wpAny P .any ops Q fuel listed a w := by
  obtain ⟨hlen, hget⟩ := ocomps_get hcs
  have hl : cs.length = ops.size := by rw [← hlen]; simp
  -- all have come up
  have fin : ∀ (listed : Array Bool) (a : Act) (w : World), (∀ i, i < ops.size → listed.getD i true = true) →
      (∃ ρ f done ex ec h, ρ0 <+: ρ ∧ WRel ρ B w h ∧ ARel ρ N a ex ∧ Below B w0 w ∧ TInv ops cs bar anc K P (fun i => listed.getD i true = true) f done ex ec h) → Q .normal a w := by
    intro listed a w hall hst
    obtain ⟨ρ, f, done, ex, ec, h, g1, g2, g3, g4, g5⟩ := hst
    have hfull := full_done g5.nodup g5.mem fun i hi => g5.sub i hi (hall i hi)
    have hf : f = 0 := by have := g5.len; omega
    subst hf
    have hee : ex = ec := by
      funext t
      refine g5.env t fun i hi _ => hall i (g5.mem i hi)
    have hc := g5.cond
    simp only [mkT, vcT] at hc
    rw [← hee] at hc
    exact hQ a w ⟨ρ, ex, h, g1, g2, g3, g4, hc⟩
  have none_left : ∀ listed : Array Bool, listed.size = ops.size → Region.ready .any ops listed = [] → ∀ i, i < ops.size → listed.getD i true = true := by
    intro listed hsz hr i
    induction i using Nat.strongRecOn with
    | _ i ih =>
      intro hi
      cases hx : listed.getD i true with
      | true => rfl
      | false =>
        have : i ∈ Region.ready .any ops listed := by
          rw [ready_iff]
          refine ⟨hi, hx, ops[i], Array.getElem?_eq_getElem hi, fun k hk => ?_⟩
          have hki := (hok.edges i _ (Array.getElem?_eq_getElem hi) k hk).1
          have h1 := ih k hki (by omega)
          have hks : k < listed.size := by omega
          simp [Array.getD, hks] at h1 ⊢; exact h1
        rw [hr] at this; cases this
  intro fuel
  induction fuel with
  | zero =>
    intro listed a w hsz hcount hst
    have hall : ∀ i, i < ops.size → listed.getD i true = true := fun i hi => filter_all (fun i => listed.getD i true) (List.range ops.size) (by rw [List.length_range]; omega) i (List.mem_range.2 hi)
    refine ⟨?_, fin listed a w hall hst⟩
    rw [List.eq_nil_iff_forall_not_mem]
    intro i hi
    rw [ready_iff] at hi
    rw [hall i hi.1] at hi
    cases hi.2.1
  | succ fuel ih =>
    intro listed a w hsz hcount hst
    refine ⟨fun hr => fin listed a w (none_left listed hsz hr) hst, fun i hi => ?_⟩
    rw [ready_iff] at hi
    obtain ⟨hin, hil, o, ho, hedge⟩ := hi
    obtain ⟨ρ, f0, done0, ex, ec0, h, g1, g2, g3, g4, g5⟩ := hst
    obtain ⟨f, done, ec, inv, hhead⟩ := advanceT hok f0 done0 ex ec0 h g5
    have hci : cs[i]? = some (cs.getD i default) := by
      rw [List.getD_eq_getElem?_getD, List.getElem?_eq_getElem (by omega)]; rfl
    have hcomp : ocomp P N ops o = some (cs.getD i default) := hget i o _ (by rw [Array.getElem?_toList]; exact ho) hci
    -- what i waits for has come up
    have hanc : ∀ j ∈ anc.getD i [], listed.getD j true = true := by
      intro j hj
      obtain ⟨hji, k, hk, hjk⟩ := hok.ancs i o ho j hj
      have hke := hok.edges i o ho k hk
      have hkl : listed.getD k true = true := by
        have := hedge k hk
        have hks : k < listed.size := by omega
        simp [Array.getD, hks] at this ⊢; exact this
      rcases hjk with rfl | hjk
      · exact hkl
      · exact inv.down k (by omega) hkl j hjk
    have hancd : ∀ j ∈ anc.getD i [], j ∈ done := by
      intro j hj
      obtain ⟨hji, _⟩ := hok.ancs i o ho j hj
      exact inv.sub j (by omega) (hanc j hj)
    have hset : ∀ j, (listed.setIfInBounds i true).getD j true = if j = i then true else listed.getD j true := by
      intro j
      by_cases hji : j = i
      · subst hji; simp [Array.getD, hsz, hin]
      · simp only [if_neg hji, Array.getD_eq_getD_getElem?]
        rw [Array.getElem?_setIfInBounds_ne (fun e => hji e.symm)]
    have hset_i : (listed.setIfInBounds i true).getD i true = true := by rw [hset, if_pos rfl]
    have hset_of : ∀ j, listed.getD j true = true → (listed.setIfInBounds i true).getD j true = true := by
      intro j hj; rw [hset]; split <;> first | rfl | exact hj
    have hset_back : ∀ j, j ≠ i → (listed.setIfInBounds i true).getD j true = true → listed.getD j true = true := by
      intro j hj h; rwa [hset, if_neg hj] at h
    have hcount' : ((List.range ops.size).filter fun j => (listed.setIfInBounds i true).getD j true).length + fuel = ops.size := by
      have := filter_one (p := fun j => listed.getD j true) (q := fun j => (listed.setIfInBounds i true).getD j true) (List.nodup_range (n := ops.size)) (List.mem_range.2 hin) hil hset_i (fun j hj => by simp only [hset, if_neg hj])
      omega
    have hdown' : ∀ j, j < ops.size → (listed.setIfInBounds i true).getD j true = true → ∀ m ∈ anc.getD j [], (listed.setIfInBounds i true).getD m true = true := by
      intro j hj hjl m hm
      by_cases hji : j = i
      · subst hji; exact hset_of m (hanc m hm)
      · exact hset_of m (inv.down j hj (hset_back j hji hjl) m hm)
    by_cases hid : i ∈ done
    · -- it has been told
      have hnl : ¬ (listed.getD i true = true) := by rw [hil]; simp
      have hbar : bar.getD i true = false := by
        cases hb : bar.getD i true with
        | false => rfl
        | true => exact absurd (inv.barl i hid hb) hnl
      obtain ⟨k, hk⟩ := hok.effs i hin hbar
      have hag := again_vcOp (P := P) hk (inv.pend i hid hnl)
      have hlooks : ∀ t ∈ (cs.getD i default).looks, ec t = ex t := by
        intro t ht
        symm
        refine inv.env t fun j hj hd => ?_
        have hjn : j < ops.size := inv.mem j hj
        by_cases hji : j = i
        · subst hji; exact absurd ht (hok.self j hjn hbar t hd)
        · rcases hok.data i hin j hjn (fun e => hji e.symm) t hd ht with h1 | ⟨h1, h2⟩
          · exact hanc j h1
          · exact absurd (inv.down j hjn (inv.barl j hj h2) i h1) hnl
      have hv := vcOp_move (P := P) (K' := fun e' h' => h' = h ∧ (∀ d, (cs.getD i default).dst = some d → e' d = ec d) ∧ (∀ t, (cs.getD i default).dst ≠ some t → e' t = ex t)) (e' := ex) hlooks
        (fun v h' hk' => ⟨hk'.1, fun d hd => by have := hk'.2 d hd; rw [hd] at this ⊢; rw [put_same] at this ⊢; exact this, fun t ht => put_other ht⟩) hag
      refine op_step g2 g3 g1 g4 ho hcomp hv (fun a' w' hs' => ih _ a' w' (by simp [hsz]) hcount' ?_)
      obtain ⟨ρ', e', h', k1, k2, k3, k4, rfl, k5, k6⟩ := hs'
      refine ⟨ρ', f, done, e', ec, h', k1, k2, k3, k4, inv.len, inv.nodup, inv.mem, inv.clos, ?_, hdown', fun j hj hb => hset_of j (inv.barl j hj hb), ?_, ?_, inv.cond⟩
      · intro j hj hjl
        by_cases hji : j = i
        · rw [hji]; exact hid
        · exact inv.sub j hj (hset_back j hji hjl)
      · intro t ht
        by_cases hdt : (cs.getD i default).dst = some t
        · exact k5 t hdt
        · rw [k6 t hdt]
          refine inv.env t fun j hj hd => hset_back j (fun e => hdt (e ▸ hd)) (ht j hj hd)
      · intro j hj hjl
        exact inv.pend j hj (fun hl => hjl (hset_of j hl))
    · -- it writes, and it is its turn
      have hrdy : i ∈ readyL anc ops.size done := mem_ready.2 ⟨hin, hid, hancd⟩
      have hlt := not_full inv.nodup inv.mem hin hid
      obtain ⟨g, hfg, hnone⟩ : ∃ g, f = g + 1 ∧ (readyL anc ops.size done).find? (fun i => !bar.getD i true) = none := by
        rcases hhead with h0 | h0
        · have := inv.len; omega
        · exact h0
      subst hfg
      have hc := inv.cond
      simp only [mkT, hnone] at hc
      have hc := kids_get hrdy hc
      have hlooks : ∀ t ∈ (cs.getD i default).looks, ec t = ex t := by
        intro t ht
        symm
        refine inv.env t fun j hj hd => ?_
        have hjn : j < ops.size := inv.mem j hj
        have hji : i ≠ j := fun e => hid (e ▸ hj)
        rcases hok.data i hin j hjn hji t hd ht with h1 | ⟨h1, _⟩
        · exact hanc j h1
        · exact absurd (inv.clos j hj i h1) hid
      have hv := vcOp_move (P := P) (K' := fun e' h' => ∃ v, e' = put ex (cs.getD i default).dst v ∧ againAll cs anc i (put ec (cs.getD i default).dst v) h' done ∧ vcT P cs anc (i :: done) (mkT bar anc ops.size g (i :: done)) K (put ec (cs.getD i default).dst v) h') (e' := ex) hlooks
        (fun v h' hk' => ⟨v, rfl, hk'.1, hk'.2⟩) hc
      refine op_step g2 g3 g1 g4 ho hcomp hv (fun a' w' hs' => ih _ a' w' (by simp [hsz]) hcount' ?_)
      obtain ⟨ρ', e', h', k1, k2, k3, k4, v, rfl, k5, k6⟩ := hs'
      refine ⟨ρ', g, i :: done, _, _, h', k1, k2, k3, k4, by have := inv.len; simp; omega, List.nodup_cons.2 ⟨hid, inv.nodup⟩, ?_, ?_, ?_, hdown', ?_, ?_, ?_, k6⟩
      · intro j hj
        rcases List.mem_cons.1 hj with rfl | hj
        · exact hin
        · exact inv.mem j hj
      · intro j hj m hm
        rcases List.mem_cons.1 hj with rfl | hj
        · exact List.mem_cons_of_mem _ (hancd m hm)
        · exact List.mem_cons_of_mem _ (inv.clos j hj m hm)
      · intro j hj hjl
        by_cases hji : j = i
        · rw [hji]; exact List.mem_cons_self
        · exact List.mem_cons_of_mem _ (inv.sub j hj (hset_back j hji hjl))
      · intro j hj hb
        rcases List.mem_cons.1 hj with rfl | hj
        · exact hset_i
        · exact hset_of j (inv.barl j hj hb)
      · intro t ht
        by_cases hdt : (cs.getD i default).dst = some t
        · rw [hdt, put_same, put_same]
        · rw [put_other hdt, put_other hdt]
          refine inv.env t fun j hj hd => hset_back j (fun e => hdt (e ▸ hd)) (ht j (List.mem_cons_of_mem _ hj) hd)
      · intro j hj hjl
        rcases List.mem_cons.1 hj with rfl | hj
        · exact absurd hset_i hjl
        · rcases againAll_get k5 j hj with h1 | h1
          · exact absurd (hset_of j (hanc j h1)) hjl
          · exact h1

end
end Go.IW
