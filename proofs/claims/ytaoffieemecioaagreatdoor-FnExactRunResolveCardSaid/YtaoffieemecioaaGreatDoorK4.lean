import Derived.Test.YtaoffieemecioaaGreatDoorK3
import Derived.Shelf.SlicesE.Delete
set_option linter.unusedSimpArgs false
set_option linter.unusedVariables false
namespace Go.IW
open Go Go.RowKit

theorem SpF.lists {h : IH} : ∀ {L : List As} {fs : List Nat}, SpF h L fs ↔ ∃ fss : List (List Nat), fss.length = L.length ∧ fss.flatten = fs ∧ ∀ (i : Nat) (A : As) (f : List Nat), L[i]? = some A → fss[i]? = some f → A.P h f
  | [], fs => by
    constructor
    · intro e; cases e; exact ⟨[], rfl, rfl, by simp⟩
    · rintro ⟨fss, h1, h2, _⟩
      have : fss = [] := List.length_eq_zero_iff.1 h1
      subst this; exact h2.symm
  | A :: L, fs => by
    constructor
    · rintro ⟨f, g, rfl, ha, hl⟩
      obtain ⟨fss, h1, rfl, h3⟩ := SpF.lists.1 hl
      refine ⟨f :: fss, by simp [h1], rfl, fun i B f' hB hf => ?_⟩
      cases i with
      | zero => simp at hB hf; subst hB; subst hf; exact ha
      | succ i => exact h3 i B f' (by simpa using hB) (by simpa using hf)
    · rintro ⟨fss, h1, rfl, h3⟩
      cases fss with
      | nil => simp at h1
      | cons f fss =>
        exact ⟨f, fss.flatten, rfl, h3 0 A f rfl rfl, SpF.lists.2 ⟨fss, by simpa using h1, rfl, fun i B f' hB hf => h3 (i + 1) B f' (by simpa using hB) (by simpa using hf)⟩⟩
theorem Sp.lists {h : IH} {L : List As} : Sp h L ↔ ∃ fss : List (List Nat), fss.length = L.length ∧ fss.flatten.Nodup ∧ ∀ (i : Nat) (A : As) (f : List Nat), L[i]? = some A → fss[i]? = some f → A.P h f := by
  constructor
  · rintro ⟨fs, h1, h2⟩
    obtain ⟨fss, a, rfl, c⟩ := SpF.lists.1 h1
    exact ⟨fss, a, h2, c⟩
  · rintro ⟨fss, a, b, c⟩
    exact ⟨_, SpF.lists.2 ⟨fss, a, rfl, c⟩, b⟩
theorem pairwise_idx {α : Type} {R : α → α → Prop} (hs : ∀ a b, R a b → R b a) {l : List α} (hp : l.Pairwise R) {i j : Nat} {a b : α} (hi : l[i]? = some a) (hj : l[j]? = some b) (hne : i ≠ j) : R a b := by
  rw [List.pairwise_iff_getElem] at hp
  obtain ⟨h1, rfl⟩ := List.getElem?_eq_some_iff.1 hi
  obtain ⟨h2, rfl⟩ := List.getElem?_eq_some_iff.1 hj
  rcases Nat.lt_or_ge i j with h | h
  · exact hp i j h1 h2 h
  · exact hs _ _ (hp j i h2 h1 (by omega))
theorem Sp.sel {h : IH} {L : List As} (hs : Sp h L) (n : Nat) (is : List Nat) (hn : n ≤ L.length) (hd : is.Nodup) (hlt : ∀ i ∈ is, i < n) : Sp h (is.map (fun i => L.getD i IW.emp) ++ L.drop n) := by
  obtain ⟨fss, h1, h2, h3⟩ := Sp.lists.1 hs
  refine Sp.lists.2 ⟨is.map (fun i => fss.getD i []) ++ fss.drop n, by simp [h1], ?_, ?_⟩
  · rw [List.Nodup, List.pairwise_flatten] at h2 ⊢
    obtain ⟨hn1, hp⟩ := h2
    have sym : ∀ a b : List Nat, (∀ x ∈ a, ∀ y ∈ b, x ≠ y) → (∀ x ∈ b, ∀ y ∈ a, x ≠ y) := fun a b h x hx y hy e => h y hy x hx e.symm
    have gd : ∀ i, i < n → fss[i]? = some (fss.getD i []) := fun i hi => by
      rw [List.getD_eq_getElem?_getD, List.getElem?_eq_getElem (by omega)]; rfl
    refine ⟨?_, ?_⟩
    · intro l hl
      rcases List.mem_append.1 hl with hl | hl
      · obtain ⟨i, hi, rfl⟩ := List.mem_map.1 hl
        exact hn1 _ (List.mem_of_getElem? (gd i (hlt i hi)))
      · exact hn1 _ (List.mem_of_mem_drop hl)
    · rw [List.pairwise_append]
      refine ⟨?_, hp.sublist (List.drop_sublist _ _), ?_⟩
      · rw [List.pairwise_map]
        refine List.Pairwise.imp_of_mem (R := fun a b => a ≠ b) ?_ hd
        intro a b ha hb hab
        exact pairwise_idx sym hp (gd a (hlt a ha)) (gd b (hlt b hb)) hab
      · intro a ha b hb
        obtain ⟨i, hi, rfl⟩ := List.mem_map.1 ha
        obtain ⟨j, hj⟩ := List.getElem?_of_mem hb
        rw [List.getElem?_drop] at hj
        have := hlt i hi
        exact pairwise_idx sym hp (gd i this) hj (by omega)
  · intro i A f hA hf
    rcases Nat.lt_or_ge i is.length with hi | hi
    · rw [List.getElem?_append_left (by simpa using hi), List.getElem?_map] at hA hf
      rw [List.getElem?_eq_getElem hi] at hA hf
      simp only [Option.map_some, Option.some.injEq] at hA hf
      have hm := hlt _ (List.getElem_mem hi)
      refine h3 is[i] A f ?_ ?_
      · rw [← hA, List.getD_eq_getElem?_getD, List.getElem?_eq_getElem (by omega)]; rfl
      · rw [← hf, List.getD_eq_getElem?_getD, List.getElem?_eq_getElem (by omega)]; rfl
    · rw [List.getElem?_append_right (by simpa using hi), List.getElem?_drop] at hA hf
      simp only [List.length_map] at hA hf
      exact h3 _ A f hA hf
theorem Sp.part {h : IH} {L : List As} (hs : Sp h L) (k : Nat) {A : As} (hk : L[k]? = some A) : ∃ f, A.P h f := by
  obtain ⟨fss, h1, h2, h3⟩ := Sp.lists.1 hs
  have hl := (List.getElem?_eq_some_iff.1 hk).1
  exact ⟨_, h3 k A _ hk (List.getElem?_eq_getElem (by omega))⟩
theorem Sp.bx {h : IH} {L : List As} (hs : Sp h L) (k : Nat) {p : Nat} {o : IObj} (hk : L[k]? = some (box p o)) : At h p o := by
  obtain ⟨f, _, h1, h2⟩ := hs.part k hk
  exact ⟨h1, h2⟩
theorem Sp.nb {h : IH} {L : List As} (hs : Sp h L) (i j : Nat) {p q : Nat} {o o' : IObj} (hi : L[i]? = some (box p o)) (hj : L[j]? = some (box q o')) (hne : i ≠ j) : p ≠ q := by
  obtain ⟨fss, h1, h2, h3⟩ := Sp.lists.1 hs
  have hl := (List.getElem?_eq_some_iff.1 hi).1
  have hl' := (List.getElem?_eq_some_iff.1 hj).1
  have e1 := List.getElem?_eq_getElem (l := fss) (i := i) (by omega)
  have e2 := List.getElem?_eq_getElem (l := fss) (i := j) (by omega)
  obtain ⟨a1, _⟩ := h3 i _ _ hi e1
  obtain ⟨a2, _⟩ := h3 j _ _ hj e2
  rw [List.Nodup, List.pairwise_flatten] at h2
  have := pairwise_idx (R := fun a b : List Nat => ∀ x ∈ a, ∀ y ∈ b, x ≠ y) (fun a b h x hx y hy e => h y hy x hx e.symm) h2.2 e1 e2 hne
  rw [a1, a2] at this
  exact this p (by simp) q (by simp)
theorem Sp.ol {h h0 : IH} {L : List As} (hs : Sp h L) (k : Nat) (hk : L[k]? = some (old h0)) : Ext h0 h := by
  obtain ⟨f, _, h1, h2⟩ := hs.part k hk
  exact ⟨h1, h2⟩
theorem Sp.oldNot {h h0 : IH} {A : As} {L : List As} (hs : Sp h (A :: old h0 :: L)) : ∃ f, A.P h f ∧ f.Nodup ∧ ∀ l ∈ f, h0.n ≤ l := by
  obtain ⟨fs, ⟨f, g, rfl, ha, f', g', rfl, ⟨rfl, _⟩, _⟩, hd⟩ := hs
  obtain ⟨h1, _, h3⟩ := List.nodup_append.1 hd
  refine ⟨f, ha, h1, fun l hl => ?_⟩
  rcases Nat.lt_or_ge l h0.n with hlt | hge
  · exact absurd rfl (h3 l hl l (by simp [hlt]))
  · exact hge

theorem At.pushed {h g : IH} {o : IObj} (hq : h.push o = g) : At g h.n o := by subst hq; exact At.new _ _
theorem Ext.pushed {h g : IH} {o : IObj} (hq : h.push o = g) : Ext h g := by subst hq; exact (Ext.refl _).push _
theorem n_set {h g : IH} {l : Nat} {o : IObj} (hq : h.set l o = g) : g.n = h.n := by subst hq; rfl
theorem Sp.front {h : IH} {A : As} {L1 L : List As} (hs : Sp h (L1 ++ A :: L)) : Sp h (A :: (L1 ++ L)) := hs.perm List.perm_middle
theorem Sp.unfront {h : IH} {A : As} {L1 L : List As} (hs : Sp h (A :: (L1 ++ L))) : Sp h (L1 ++ A :: L) := hs.perm List.perm_middle.symm
theorem Sp.set0 {h g : IH} {L : List As} {p : Nat} {o o' : IObj} (hs : Sp h (box p o :: L)) (hg : h.set p o' = g) : Sp g (box p o' :: L) := hs.set hg
theorem Sp.set1 {h g : IH} {L : List As} {A0 : As} {p : Nat} {o o' : IObj} (hs : Sp h (A0 :: box p o :: L)) (hg : h.set p o' = g) : Sp g (A0 :: box p o' :: L) :=
  ((Sp.front (hs := hs) (L1 := [A0])).set hg).unfront (L1 := [A0])
theorem Sp.set2 {h g : IH} {L : List As} {A0 A1 : As} {p : Nat} {o o' : IObj} (hs : Sp h (A0 :: A1 :: box p o :: L)) (hg : h.set p o' = g) : Sp g (A0 :: A1 :: box p o' :: L) :=
  ((Sp.front (hs := hs) (L1 := [A0, A1])).set hg).unfront (L1 := [A0, A1])
theorem Sp.set3 {h g : IH} {L : List As} {A0 A1 A2 : As} {p : Nat} {o o' : IObj} (hs : Sp h (A0 :: A1 :: A2 :: box p o :: L)) (hg : h.set p o' = g) : Sp g (A0 :: A1 :: A2 :: box p o' :: L) :=
  ((Sp.front (hs := hs) (L1 := [A0, A1, A2])).set hg).unfront (L1 := [A0, A1, A2])
theorem Sp.set4 {h g : IH} {L : List As} {A0 A1 A2 A3 : As} {p : Nat} {o o' : IObj} (hs : Sp h (A0 :: A1 :: A2 :: A3 :: box p o :: L)) (hg : h.set p o' = g) : Sp g (A0 :: A1 :: A2 :: A3 :: box p o' :: L) :=
  ((Sp.front (hs := hs) (L1 := [A0, A1, A2, A3])).set hg).unfront (L1 := [A0, A1, A2, A3])
theorem Sp.set5 {h g : IH} {L : List As} {A0 A1 A2 A3 A4 : As} {p : Nat} {o o' : IObj} (hs : Sp h (A0 :: A1 :: A2 :: A3 :: A4 :: box p o :: L)) (hg : h.set p o' = g) : Sp g (A0 :: A1 :: A2 :: A3 :: A4 :: box p o' :: L) :=
  ((Sp.front (hs := hs) (L1 := [A0, A1, A2, A3, A4])).set hg).unfront (L1 := [A0, A1, A2, A3, A4])
theorem Sp.set9 {h g : IH} {L : List As} {A0 A1 A2 A3 A4 A5 A6 A7 A8 : As} {p : Nat} {o o' : IObj} (hs : Sp h (A0 :: A1 :: A2 :: A3 :: A4 :: A5 :: A6 :: A7 :: A8 :: box p o :: L)) (hg : h.set p o' = g) : Sp g (A0 :: A1 :: A2 :: A3 :: A4 :: A5 :: A6 :: A7 :: A8 :: box p o' :: L) :=
  ((Sp.front (hs := hs) (L1 := [A0, A1, A2, A3, A4, A5, A6, A7, A8])).set hg).unfront (L1 := [A0, A1, A2, A3, A4, A5, A6, A7, A8])
def sl (x : Bool) (el sz : Nat) (v : IV) (rs : List (List IV)) : As where
  P h fs := (rs = [] ∧ fs = [] ∧ (v = .nilslice ∨ v = .eslice true)) ∨ ∃ l, (x = true ∨ rs ≠ []) ∧ v = .slice l 0 rs.length ∧ fs = [l] ∧ l < h.n ∧ h.obj l = .rows rs el sz false
  same := by
    rintro h h' fs (⟨h1, h2, h3⟩ | ⟨l, h0, h1, rfl, h3, h4⟩) hn ho
    · exact .inl ⟨h1, h2, h3⟩
    · exact .inr ⟨l, h0, h1, rfl, by omega, (ho l (by simp)).trans h4⟩
  lt := by
    rintro h fs (⟨h1, h2, h3⟩ | ⟨l, h0, h1, rfl, h3, h4⟩)
    · subst h2; simp
    · intro m hm
      have : m = l := by simpa using hm
      omega
section
variable {h h' g : IH} {L : List As} {x y : Bool} {el sz b : Nat} {v : IV} {rs ys : List (List IV)}
theorem Sp.slA (hs : Sp h L) (k : Nat) (hk : L[k]? = some (sl x el sz v rs)) : SlR h sz v rs := by
  obtain ⟨f, (⟨rfl, _, rfl | rfl⟩ | ⟨l, h0, rfl, _, h3, h4⟩)⟩ := hs.part k hk
  · exact SlR.nil _ _
  · exact SlR.empty _ _ _
  · exact SlR.whole h4 rfl h3
theorem Sp.slBox (hs : Sp h (sl x el sz v rs :: L)) (hne : rs ≠ []) : ∃ l, v = .slice l 0 rs.length ∧ Sp h (box l (.rows rs el sz false) :: L) := by
  obtain ⟨fs, ⟨f, g, rfl, hf | ⟨l, h0, rfl, rfl, h3, h4⟩, hl⟩, hd⟩ := hs
  · exact absurd hf.1 hne
  · exact ⟨l, rfl, _, ⟨[l], g, rfl, ⟨rfl, h3, h4⟩, hl⟩, hd⟩
theorem Sp.boxSl {l n : Nat} (hs : Sp h (box l (.rows rs el sz false) :: L)) (hn : rs.length = n) (hx : x = true ∨ rs ≠ []) : Sp h (sl x el sz (.slice l 0 n) rs :: L) :=
  hs.imp fun f hf => ⟨f, .inr ⟨l, hx, by rw [hn], hf⟩, List.Sublist.refl _⟩
theorem Sp.slNil (hs : Sp h L) : Sp h (sl x el sz .nilslice [] :: L) := by
  obtain ⟨fs, h1, h2⟩ := hs
  exact ⟨fs, ⟨[], fs, rfl, .inl ⟨rfl, rfl, .inl rfl⟩, h1⟩, h2⟩
theorem Sp.slEmpty (hs : Sp h L) : Sp h (sl x el sz (.eslice true) [] :: L) := by
  obtain ⟨fs, h1, h2⟩ := hs
  exact ⟨fs, ⟨[], fs, rfl, .inl ⟨rfl, rfl, .inr rfl⟩, h1⟩, h2⟩
theorem Sp.own {lo hi : Nat} (hs : Sp h L) (E : Ext h h') (ho : Own lo hi h' el sz v rs) (hlo : h.n ≤ lo) : Sp h' (sl x el sz v rs :: L) := by
  rcases ho with ⟨h1, h2⟩ | ⟨l, h0, rfl, h1, h2, h3, h4⟩
  · exact hs.new E (f := []) (.inl ⟨h1, rfl, h2⟩) (by simp) (by simp)
  · exact hs.new E (f := [l]) (.inr ⟨l, .inr h0, rfl, rfl, by omega, h4⟩) (by simp) (by simp; omega)
theorem Sp.app {K : HoldK} (hs : Sp h (sl x el sz v rs :: L)) (hy : ys ≠ []) (hb : (rs.length + ys.length) * b ≤ 140737488355328)
    (hk : ∀ v' h', Sp h' (sl y el sz v' (rs ++ ys) :: L) → v'.one = true → v'.cells = [v'] → K.k v' h') : @appA h el sz b v (some ys) K := by
  have hne : rs ++ ys ≠ [] := fun hx => hy (List.append_eq_nil_iff.1 hx).2
  have hs0 := hs
  obtain ⟨fs, ⟨f, g, rfl, (⟨rfl, rfl, rfl | rfl⟩ | ⟨l, h0, rfl, rfl, h3, h4⟩), hl⟩, hd⟩ := hs
  · exact appA_new hy (by simpa using hb) (hk _ _ (by simpa using hs0.drop.new ((Ext.refl _).push _) (f := [h.n]) (A := sl y el sz (.slice h.n 0 ys.length) ys) (.inr ⟨h.n, .inr hy, rfl, rfl, Nat.lt_succ_self _, push_new _ _⟩) (by simp) (by simp)) rfl rfl)
  · exact appA_newe hy (by simpa using hb) (hk _ _ (by simpa using hs0.drop.new ((Ext.refl _).push _) (f := [h.n]) (A := sl y el sz (.slice h.n 0 ys.length) ys) (.inr ⟨h.n, .inr hy, rfl, rfl, Nat.lt_succ_self _, push_new _ _⟩) (by simp) (by simp)) rfl rfl)
  · refine appA_own h4 rfl hy hb (hk _ _ ?_ rfl rfl)
    have s1 : Sp (h.set l .dead) L := by
      obtain ⟨f, hf⟩ : ∃ f, f = [l] := ⟨_, rfl⟩
      obtain ⟨hd1, hd2, hd3⟩ := List.nodup_append.1 hd
      exact ⟨g, hl.same (Nat.le_refl _) fun m hm => set_there _ _ _ _ (fun e => hd3 l (by simp) m hm e.symm), hd2⟩
    have s2 := s1.push (o := .rows (rs ++ ys) el sz false) rfl
    have := s2.boxSl (n := rs.length + ys.length) (x := y) (by simp) (.inr hne)
    rwa [set_n] at this
end

theorem stO_row {i k l : Nat} {rs : List (List IV)} {row : List IV} {c : IV} {el sz : Nat} {h : IH} {K : HoldK} (hr : rs[i]? = some row) (hk : k < row.length) (hc : c.one = true) :
    @stO 1 i k [c] l (.rows rs el sz false) h K = K.k (.tuple []) (h.set l (.rows (rs.set i (row.set k c)) el sz false)) := by
  unfold stO
  simp only [hr, List.length_singleton, List.all_cons, List.all_nil, hc, Bool.and_true, true_and, wrt, Nat.succ_le_of_lt hk]
theorem stO_rw {i n l : Nat} {rs : List (List IV)} {row cs : List IV} {el sz : Nat} {h : IH} {K : HoldK} (hr : rs[i]? = some row) (h0 : cs.length = n) (h1 : row.length = n) (h3 : cs.all IV.one = true) :
    @stO n i 0 cs l (.rows rs el sz false) h K = K.k (.tuple []) (h.set l (.rows (rs.set i cs) el sz false)) := by
  have hw : wrt row 0 cs = cs := by
    rw [wrt_eq _ _ _ (by omega), tz0, na0, List.drop_eq_nil_of_le (by omega), List.append_nil]
  unfold stO
  simp only [hr, h0, h3, true_and, hw, Nat.zero_add, h1, Nat.le_refl]
theorem stO_part {n k l : Nat} {row cs : List IV} {el sz : Nat} {h : IH} {K : HoldK} (h0 : cs.length = n) (h1 : k + n ≤ row.length) (h3 : cs.all IV.one = true) :
    @stO n 0 k cs l (.rows [row] el sz false) h K = K.k (.tuple []) (h.set l (.rows [row.take k ++ cs ++ row.drop (k + n)] el sz false)) := by
  unfold stO
  simp only [List.getElem?_cons_zero, h0, h3, true_and, h1, sz0, wrt_eq row k cs (by omega)]

section
variable {α : Type} {R : List IV → α → As} {h : IH} {L : List As}
theorem all2_len : ∀ {rs : List (List IV)} {xs : List α} {fs : List Nat}, (all2 R rs xs).P h fs → rs.length = xs.length
  | [], [], _, _ => rfl
  | r :: rs, x :: xs, _, ⟨f, g, _, _, h2⟩ => by simp [all2_len h2]
  | [], _ :: _, _, h => h.2.elim
  | _ :: _, [], _, h => h.2.elim
theorem Sp.a2len {rs : List (List IV)} {xs : List α} (hs : Sp h (all2 R rs xs :: L)) : rs.length = xs.length := by
  obtain ⟨f, hf, _⟩ := hs.get
  exact all2_len hf
theorem Sp.a2nil (hs : Sp h L) : Sp h (all2 R [] [] :: L) := hs.emp
theorem all2_app : ∀ {as0 bs : List (List IV)} {xs ys : List α} {f g : List Nat}, (all2 R as0 xs).P h f → (all2 R bs ys).P h g → (all2 R (as0 ++ bs) (xs ++ ys)).P h (f ++ g)
  | [], _, [], _, _, _, h1, h2 => by
    rw [h1.1]; exact h2
  | r :: as0, _, x :: xs, _, _, _, ⟨f1, f2, e, ha, hb⟩, h2 => by
    subst e
    exact ⟨f1, _, List.append_assoc _ _ _, ha, all2_app hb h2⟩
  | [], _, _ :: _, _, _, _, h, _ => h.2.elim
  | _ :: _, _, [], _, _, _, h, _ => h.2.elim
theorem all2_unapp : ∀ {as0 bs : List (List IV)} {xs ys : List α} {f : List Nat}, as0.length = xs.length → (all2 R (as0 ++ bs) (xs ++ ys)).P h f → ∃ f1 f2, f = f1 ++ f2 ∧ (all2 R as0 xs).P h f1 ∧ (all2 R bs ys).P h f2
  | [], _, [], _, f, _, h2 => ⟨[], f, rfl, ⟨rfl, trivial⟩, h2⟩
  | r :: as0, _, x :: xs, _, _, hl, ⟨f1, f2, e, ha, hb⟩ => by
    subst e
    obtain ⟨g1, g2, rfl, k1, k2⟩ := all2_unapp (by simpa using hl) hb
    exact ⟨f1 ++ g1, g2, (List.append_assoc _ _ _).symm, ⟨f1, g1, rfl, ha, k1⟩, k2⟩
  | [], _, _ :: _, _, _, hl, _ => by simp at hl
  | _ :: _, _, [], _, _, hl, _ => by simp at hl
theorem Sp.a2join {as0 bs : List (List IV)} {xs ys : List α} (hs : Sp h (all2 R as0 xs :: all2 R bs ys :: L)) : Sp h (all2 R (as0 ++ bs) (xs ++ ys) :: L) := by
  refine hs.unstar.imp fun f hf => ?_
  obtain ⟨f1, f2, rfl, h1, h2⟩ := hf
  exact ⟨_, all2_app h1 h2, List.Sublist.refl _⟩
theorem Sp.a2split {as0 bs : List (List IV)} {xs ys : List α} (hs : Sp h (all2 R (as0 ++ bs) (xs ++ ys) :: L)) (hl : as0.length = xs.length) : Sp h (all2 R as0 xs :: all2 R bs ys :: L) := by
  refine Sp.star (hs.imp fun f hf => ?_)
  obtain ⟨f1, f2, rfl, h1, h2⟩ := all2_unapp hl hf
  exact ⟨_, ⟨f1, f2, rfl, h1, h2⟩, List.Sublist.refl _⟩
theorem Sp.a2one {r : List IV} {x : α} (hs : Sp h (R r x :: L)) : Sp h (all2 R [r] [x] :: L) := Sp.unstar (B := all2 R [] []) hs.emp.p1
theorem all2_at : ∀ {rs : List (List IV)} {xs : List α} {fs : List Nat} {i : Nat} {x : α}, (all2 R rs xs).P h fs → xs[i]? = some x → ∃ r f, rs[i]? = some r ∧ (R r x).P h f
  | r :: rs, x :: xs, _, 0, _, ⟨f, g, _, h1, _⟩, hi => by
    simp at hi; subst hi
    exact ⟨r, f, rfl, h1⟩
  | r :: rs, x :: xs, _, i + 1, _, ⟨f, g, _, _, h2⟩, hi => by
    obtain ⟨r', f', h3, h4⟩ := all2_at h2 (by simpa using hi)
    exact ⟨r', f', by simpa using h3, h4⟩
  | [], [], _, _, _, _, hi => by simp at hi
  | [], _ :: _, _, _, _, h, _ => h.2.elim
  | _ :: _, [], _, _, _, h, _ => h.2.elim
theorem Sp.a2at {rs : List (List IV)} {xs : List α} {i : Nat} {x : α} (hs : Sp h (all2 R rs xs :: L)) (hi : xs[i]? = some x) :
    ∃ as0 r bs xs1 ys, rs = as0 ++ r :: bs ∧ xs = xs1 ++ x :: ys ∧ as0.length = i ∧ xs1.length = i ∧ Sp h (R r x :: all2 R as0 xs1 :: all2 R bs ys :: L) := by
  have hl := hs.a2len
  obtain ⟨hi1, hi2⟩ := List.getElem?_eq_some_iff.1 hi
  have e1 : rs = rs.take i ++ rs[i] :: rs.drop (i + 1) := by rw [List.getElem_cons_drop, List.take_append_drop]
  have e2 : xs = xs.take i ++ x :: xs.drop (i + 1) := by rw [← hi2, List.getElem_cons_drop, List.take_append_drop]
  refine ⟨rs.take i, rs[i], rs.drop (i + 1), xs.take i, xs.drop (i + 1), e1, e2, by simp; omega, by simp; omega, ?_⟩
  have hs' : Sp h (all2 R (rs.take i ++ rs[i] :: rs.drop (i + 1)) (xs.take i ++ x :: xs.drop (i + 1)) :: L) := e2 ▸ e1 ▸ hs
  have h1 := hs'.a2split (by simp; omega)
  exact (Sp.star h1.p1).p2.p1
theorem Sp.a2mid {as0 bs : List (List IV)} {r : List IV} {x : α} {xs ys : List α} (hs : Sp h (R r x :: all2 R as0 xs :: all2 R bs ys :: L)) : Sp h (all2 R (as0 ++ r :: bs) (xs ++ x :: ys) :: L) :=
  Sp.a2join (Sp.unstar (A := R r x) (hs.p2.p1)).p1
theorem Sp.a2imp {β : Type} {R' : List IV → β → As} {t : α → β} (hR : ∀ r x f, (R r x).P h f → (R' r (t x)).P h f) {rs : List (List IV)} {xs : List α} (hs : Sp h (all2 R rs xs :: L)) : Sp h (all2 R' rs (xs.map t) :: L) := by
  refine hs.imp fun f hf => ⟨f, ?_, List.Sublist.refl _⟩
  clear hs
  induction rs generalizing xs f with
  | nil => cases xs with
    | nil => exact hf
    | cons x xs => exact hf.2.elim
  | cons r rs ih => cases xs with
    | nil => exact hf.2.elim
    | cons x xs =>
      obtain ⟨f1, f2, rfl, h1, h2⟩ := hf
      exact ⟨f1, f2, rfl, hR _ _ _ h1, ih _ h2⟩
end

def dat (t : Ty) (cs : List IV) (d : Dat) : As where
  P h fs := Ro h t cs d fs
  same hr hn ho := hr.same hn ho
  lt hr := hr.lt
section
variable {h h' h0 : IH} {L : List As} {t u : Ty} {cs cs' : List IV} {d d' : Dat} {el b : Nat} {v : IV} {ds : List Dat}
theorem Sp.ow {lo hi : Nat} (hs : Sp h L) (E : Ext h h') (ho : Ow lo hi h' t cs d) (hlo : h.n ≤ lo) : Sp h' (dat t cs d :: L) := by
  obtain ⟨⟨fs, h1, h2, h3⟩, h4⟩ := ho
  exact hs.new E (f := fs) h1 h2 (fun l hl => by have := h3 l hl; omega)
theorem Sp.toOw (hs : Sp h (dat t cs d :: old h0 :: L)) : Ow h0.n h.n h t cs d := by
  obtain ⟨f, h1, h2, h3⟩ := hs.oldNot
  exact ⟨⟨f, h1, h2, fun l hl => ⟨h3 l hl, Ro.lt h1 l hl⟩⟩, Nat.le_refl _⟩
theorem Sp.vw (hs : Sp h (dat t cs d :: L)) : Vw 0 h.n h t cs d := by
  obtain ⟨f, h1, h2⟩ := hs.get
  exact Ro.view h1 fun l hl => ⟨Nat.zero_le _, Ro.lt h1 l hl⟩
theorem Sp.dcat (hs : Sp h (dat t cs d :: dat u cs' d' :: L)) : Sp h (dat (.cat t u) (cs ++ cs') (.pair d d') :: L) :=
  hs.unstar.imp fun f hf => by
    obtain ⟨f1, f2, rfl, h1, h2⟩ := hf
    exact ⟨_, ⟨cs, cs', d, d', f1, f2, rfl, rfl, rfl, h1, h2⟩, List.Sublist.refl _⟩
theorem Sp.dunit (hs : Sp h L) : Sp h (dat .nil [] .unit :: L) := hs.new (Ext.refl _) (f := []) ⟨rfl, rfl, rfl⟩ (by simp) (by simp)
theorem Sp.dint (k : IntKind) (n : Int) (hs : Sp h L) : Sp h (dat (.int k) [.int k n] (.int n) :: L) := hs.new (Ext.refl _) (f := []) ⟨n, rfl, rfl, rfl⟩ (by simp) (by simp)
theorem Sp.icat {k : IntKind} {n : Int} (hs : Sp h (dat u cs' d' :: L)) : Sp h (dat (.cat (.int k) u) (.int k n :: cs') (.pair (.int n) d') :: L) := (hs.dint k n).dcat
theorem Sp.slD {xs : List Dat} {rs : List (List IV)} (hs : Sp h (sl false el t.sz v rs :: all2 (dat t) rs xs :: L)) : Sp h (dat (.slice el t) [v] (.list xs) :: L) := by
  have hl := hs.p1.a2len
  refine hs.unstar.imp fun f hf => ?_
  obtain ⟨f1, f2, rfl, h1, h2⟩ := hf
  have key : ∀ {rs : List (List IV)} {xs : List Dat} {f2 : List Nat}, (all2 (dat t) rs xs).P h f2 → All3 (Ro h t) rs xs f2 := by
    intro rs
    induction rs with
    | nil => intro xs f2 h2; cases xs with
      | nil => rw [h2.1]; exact .nil
      | cons x xs => exact h2.2.elim
    | cons r rs ih => intro xs f2 h2; cases xs with
      | nil => exact h2.2.elim
      | cons x xs =>
        obtain ⟨g1, g2, rfl, k1, k2⟩ := h2
        exact .cons k1 (ih k2)
  refine ⟨f1 ++ f2, ⟨v, xs, rfl, rfl, ?_⟩, List.Sublist.refl _⟩
  rcases h1 with ⟨rfl, rfl, hv⟩ | ⟨l, h0, rfl, rfl, h3, h4⟩
  · have : xs = [] := List.length_eq_zero_iff.1 hl.symm
    subst this
    have h2' : f2 = [] := h2.1
    exact .inl ⟨rfl, by rw [h2']; rfl, hv⟩
  · have h0 : rs ≠ [] := by simpa using h0
    refine .inr ⟨l, rs, f2, ?_, by rw [hl], h3, h4, rfl, key h2⟩
    intro e; subst e; exact h0 (List.length_eq_zero_iff.1 hl)
theorem Sp.unslD (hs : Sp h (dat (.slice el t) [v] (.list ds) :: L)) : ∃ rs, Sp h (sl false el t.sz v rs :: all2 (dat t) rs ds :: L) := by
  have key : ∀ {rs : List (List IV)} {xs : List Dat} {f2 : List Nat}, All3 (Ro h t) rs xs f2 → (all2 (dat t) rs xs).P h f2 := by
    intro rs xs f2 h2
    induction h2 with
    | nil => exact ⟨rfl, trivial⟩
    | cons h1 _ ih => exact ⟨_, _, rfl, h1, ih⟩
  obtain ⟨fs, ⟨f, g, rfl, hr, hl⟩, hd⟩ := hs
  obtain ⟨v1, ds1, e1, e2, hc⟩ := hr
  obtain rfl := (List.cons.inj e1).1
  simp only [Dat.list.injEq] at e2
  subst e2
  rcases hc with ⟨rfl, rfl, hv⟩ | ⟨l, rs, gs, h0, rfl, h3, h4, rfl, h5⟩
  · exact ⟨[], g, ⟨[], g, rfl, .inl ⟨rfl, rfl, hv⟩, [], g, rfl, ⟨rfl, trivial⟩, hl⟩, hd⟩
  · have hne : rs ≠ [] := by
      intro e; subst e
      exact h0 (List.length_eq_zero_iff.1 h5.len.symm)
    exact ⟨rs, l :: gs ++ g, ⟨[l], gs ++ g, rfl, .inr ⟨l, .inr hne, by rw [h5.len], rfl, h3, h4⟩, gs, g, rfl, key h5, hl⟩, hd⟩
theorem Sp.dapp {K : HoldK} (hs : Sp h (dat (.slice el t) [v] (.list ds) :: dat t cs d :: L)) (hb : (ds.length + 1) * b ≤ 140737488355328)
    (hk : ∀ v' h', Sp h' (dat (.slice el t) [v'] (.list (ds ++ [d])) :: L) → v'.one = true → v'.cells = [v'] → K.k v' h') : @appA h el t.sz b v (some [cs]) K := by
  obtain ⟨rs, hs⟩ := hs.unslD
  have hl := hs.p1.a2len
  refine hs.app (y := false) (by simp) (by simpa [hl] using hb) fun v' h' S h1 h2 => hk v' h' (Sp.slD (rs := rs ++ [cs]) ?_) h1 h2
  exact (Sp.a2join (S.p2.a2one).p2).p1
end
end Go.IW

namespace Go.IW
open Go Go.RowKit

theorem one_as {v : IV} (h : v.one = true) : v.one = true := h
theorem lay_p {z cs : List IV} {off n : Nat} {r : List (Nat × Nat × IV)} (h1 : cs.length = n) (h2 : off + n ≤ z.length) : lay z ((off, n, .agg cs) :: r) = lay (z.take off ++ cs ++ z.drop (off + n)) r := by
  have hc : (IV.agg cs).cells = cs := rfl
  rw [lay, hc, if_pos ⟨h1, h2⟩]
section
variable {P : Program} {h : IH} {L : List As} {e : Env} {el sz : Nat}
theorem Sp.zero {cs : List IV} {K : IV → IH → Prop} (S : Sp h L) (hk : ∀ p g, Sp g (box p (.rows [cs] el sz false) :: L) → Ext h g → g.n = h.n + 1 → K (.ptr p 0 0) g) : act P h e K (.zero el sz cs) :=
  hk h.n _ (S.push rfl) (Ext.pushed rfl) rfl
theorem Sp.bxA {cs : List IV} {K : HoldK} (S : Sp h L) (h0 : cs.length = sz) (h1 : cs.all IV.one = true) (hk : ∀ p g, Sp g (box p (.rows [cs] el sz false) :: L) → Ext h g → g.n = h.n + 1 → K.k (.ptr p 0 0) g) : @boxA cs el sz h K :=
  ⟨h0, h1, hk h.n _ (S.push rfl) (Ext.pushed rfl) rfl⟩
theorem Sp.bsl1 {z : List IV} {v : IV} {K : HoldK} (S : Sp h L) (h0 : v.cells.length = sz) (h1 : v.cells.all IV.one = true) (hk : ∀ p g, Sp g (box p (.rows [v.cells] el sz false) :: L) → Ext h g → g.n = h.n + 1 → K.k (.slice p 0 1) g) : @bslA el sz z 1 [(0, v)] h K := by
  rw [bslA_1]
  exact ⟨h0, h1, hk h.n _ (S.push rfl) (Ext.pushed rfl) rfl⟩
theorem Sp.mks {z : List IV} {b : Nat} {k j : IntKind} {n : Nat} {K : HoldK} (S : Sp h L) (hb : b * n ≤ 140737488355328) (h63 : n ≤ 9223372036854775807) (hk : ∀ v g, Sp g (sl false el sz v (List.replicate n z) :: L) → Ext h g → v.one = true → K.k v g) : @mksA el sz b z (.int k n) (.int j n) h K := by
  by_cases h0 : n = 0
  · subst h0
    exact mksA_0 (hk _ _ S.slEmpty (Ext.refl _) rfl)
  · exact mksA_of h0 hb h63 (hk _ _ (by
      have := (S.push (o := .rows (List.replicate n z) el sz false) rfl).boxSl (x := false) (n := n) (by simp) (.inr (by intro e; have := congrArg List.length e; simp at this; omega))
      exact this) (Ext.pushed rfl) rfl)
theorem st1_of {p k : Nat} {row : List IV} {c : IV} {K : HoldK} (hk : k < row.length) (hc : c.one = true) (hK : ∀ g, h.set p (.rows [row.set k c] el sz false) = g → K.k (.tuple []) g) : @stO 1 0 k [c] p (.rows [row] el sz false) h K :=
  stO_box hk hc (hK _ rfl)
theorem stw_of {p n : Nat} {row cs : List IV} {K : HoldK} (h0 : cs.length = n) (h1 : row.length = n) (h2 : cs.all IV.one = true) (hK : ∀ g, h.set p (.rows [cs] el sz false) = g → K.k (.tuple []) g) : @stO n 0 0 cs p (.rows [row] el sz false) h K := by
  rw [stO_ws h0 h1 h2]
  exact hK _ rfl
theorem stp_of {p n k : Nat} {row cs : List IV} {K : HoldK} (h0 : cs.length = n) (h1 : k + n ≤ row.length) (h2 : cs.all IV.one = true) (hK : ∀ g, h.set p (.rows [row.take k ++ cs ++ row.drop (k + n)] el sz false) = g → K.k (.tuple []) g) : @stO n 0 k cs p (.rows [row] el sz false) h K := by
  rw [stO_part h0 h1 h2]
  exact hK _ rfl
theorem str_of {p i n : Nat} {rs : List (List IV)} {row cs : List IV} {K : HoldK} (hr : rs[i]? = some row) (h0 : cs.length = n) (h1 : row.length = n) (h2 : cs.all IV.one = true) (hK : ∀ g, h.set p (.rows (rs.set i cs) el sz false) = g → K.k (.tuple []) g) : @stO n i 0 cs p (.rows rs el sz false) h K := by
  rw [stO_rw hr h0 h1 h2]
  exact hK _ rfl
theorem stc_of {p i k : Nat} {rs : List (List IV)} {row : List IV} {c : IV} {K : HoldK} (hr : rs[i]? = some row) (hk : k < row.length) (hc : c.one = true) (hK : ∀ g, h.set p (.rows (rs.set i (row.set k c)) el sz false) = g → K.k (.tuple []) g) : @stO 1 i k [c] p (.rows rs el sz false) h K := by
  rw [stO_row hr hk hc]
  exact hK _ rfl
theorem Sp.app1 {x y : Bool} {b p : Nat} {v : IV} {rs : List (List IV)} {cs : List IV} {K : HoldK} (S : Sp h (box p (.rows [cs] el sz false) :: sl x el sz v rs :: L)) (hb : (rs.length + 1) * b ≤ 140737488355328)
    (hk : ∀ v' h', Sp h' (sl y el sz v' (rs ++ [cs]) :: L) → v'.one = true → K.k v' h') : @appA h el sz b v (some [cs]) K :=
  S.drop.app (by simp) (by simpa using hb) fun v' h' S' h1 _ => hk v' h' S' h1
end
end Go.IW

namespace Go.IW
open Go Go.RowKit

abbrev V1 := { v : Value // v.oneCell' = true }
instance : Inhabited V1 := ⟨⟨.pointer none, rfl⟩⟩
def V1.enc (x : V1) : Value := x.1
end Go.IW

namespace Go.IW
open Go Go.RowKit

def Shr (g g' : IH) : Prop := ∃ l rs e sz k, g.obj l = .rows rs e sz false ∧ g' = g.set l (.rows (rs.take k) e sz false)
theorem WRel.shr {ρ : List RLoc} {B : Nat} {w : World} {g g' : IH} (hw : WRel ρ B w g) (hs : Shr g g') : WRel ρ B w g' := by
  obtain ⟨l, rs, e, sz, k, ho, rfl⟩ := hs
  cases hr : ρ[l]? with
  | none =>
    refine ⟨hw.len, hw.base, ?_, ?_⟩
    · intro l' r' hr'
      have hne : l' ≠ l := fun e => by rw [e, hr] at hr'; cases hr'
      simp only [IH.set, if_neg hne]
      exact hw.obj l' r' hr'
    · intro l1 l2 r1 r2 h1 h2 hne
      have hn1 : l1 ≠ l := fun e => by rw [e, hr] at h1; cases h1
      have hn2 : l2 ≠ l := fun e => by rw [e, hr] at h2; cases h2
      simp only [IH.set, if_neg hn1, if_neg hn2]
      exact hw.excl l1 l2 r1 r2 h1 h2 hne
  | some r =>
    have h1 := hw.obj l r hr
    rw [ho] at h1
    obtain ⟨c, t, fz, hg, hrel⟩ := h1
    refine hw.set hr (by rw [ho]; rfl) (fun _ _ => rfl) (Nat.le_refl _) ⟨c, t, fz, hg, hrel.hsz, hrel.size, Nat.le_trans (by rw [List.length_take]; omega) hrel.len, fun row hrow => hrel.each row (List.mem_of_mem_take hrow), fun row hrow => hrel.one row (List.mem_of_mem_take hrow), fun i row hi => ?_, hrel.own⟩
    rw [List.getElem?_take] at hi
    split at hi
    · exact hrel.cells i row hi
    · cases hi
theorem ICalls.shr {P : Program} {f : Nat} {args : List IV} {h : IH} {Q Q' : IV → IH → Prop} (hc : ICalls P f args h Q) (hq : ∀ r g, Q r g → ∃ g', (g' = g ∨ Shr g g') ∧ Q' r g') : ICalls P f args h Q' :=
  fun ρ B w args' hg hw hl => (hc ρ B w args' hg hw hl).mono fun v w' ⟨ρ', x, g, h1, h2, h3, h4, h5⟩ => by
    obtain ⟨g', hs, hq'⟩ := hq _ _ h5
    refine ⟨ρ', x, g', h1, ?_, h3, h4, hq'⟩
    rcases hs with rfl | hs
    · exact h2
    · exact h2.shr hs
def clrA (sz : Nat) (z : List IV) (x : IV) (h : IH) [K : HoldK] : Prop := match ilen x with
  | some n => copyK h sz x (List.replicate n z) fun _ h' => K.k (.tuple []) h'
  | none => False
@[go_sem ↓] theorem act_clr {P : Program} (sz : Nat) (z : List IV) (x : CX) (e : Env) (h : IH) (K : IV → IH → Prop) : act P h e K (.ux (.clr sz z) [x]) = @clrA sz z (x.ev e) h ⟨K⟩ := by rfl
theorem clrA_of {sz l i n e : Nat} {z : List IV} {rs : List (List IV)} {h : IH} {K : HoldK} (ho : h.obj l = .rows rs e sz false) (hn : i + n = rs.length)
    (h0 : n = 0 → K.k (.tuple []) h) (hk : n ≠ 0 → K.k (.tuple []) (h.set l (.rows (rs.take i ++ List.replicate n z) e sz false))) : @clrA sz z (.slice l i n) h K := by
  unfold clrA
  simp only [ilen]
  unfold copyK
  simp only [List.length_replicate, Nat.min_self]
  by_cases hz : n = 0
  · rw [if_pos hz]; exact h0 hz
  · rw [if_neg hz]
    simp only [ho]
    refine ⟨trivial, by omega, ?_⟩
    have e1 : (List.replicate n z).take n = List.replicate n z := List.take_of_length_le (by simp)
    have e2 : rs.drop (i + n) = [] := List.drop_eq_nil_of_le (by omega)
    rw [e1, e2, List.append_nil]
    exact hk hz
end Go.IW
