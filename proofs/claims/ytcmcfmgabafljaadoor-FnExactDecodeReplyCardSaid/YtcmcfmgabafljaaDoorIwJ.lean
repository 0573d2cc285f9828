/- What makes memory or writes it does so as the ideal says. -/
import Derived.Test.YtcmcfmgabafljaaDoorIwI
set_option linter.unusedVariables false
set_option linter.unusedSimpArgs false
namespace Go.IW
open Go.RowKit

section
variable {P : Program} {ρ : List RLoc} {B : Nat} {w : World} {h : IH} {N : Nat} {a : Act} {e : Env}

def Does (P : Program) (o : Oper) (a : Act) (w : World) (ρ : List RLoc) (B : Nat) (K : IV → IH → Prop) : Prop :=
  ∀ (next : Act → World → Prop) (Q : Exit → Act → World → Prop), (∀ v' w', Out ρ B w K v' w' → next (a.put o.dst v') w') → o.wp P a w next Q

theorem does_value {o : Oper} {K : IV → IH → Prop} (hr : ∃ v' w', (execOp a.eval o).run P w = .ok (.value v') w' ∧ Out ρ B w K v' w') : Does P o a w ρ B K := by
  intro next Q hn
  obtain ⟨v', w', h1, h2⟩ := hr
  unfold Oper.wp
  rw [h1]
  exact hn v' w' h2
theorem does_skip {o : Oper} {K : IV → IH → Prop} (hr : ∃ w', (execOp a.eval o).run P w = .ok .skip w' ∧ Out ρ B w K undef w') : Does P o a w ρ B K := by
  intro next Q hn
  obtain ⟨w', h1, h2⟩ := hr
  unfold Oper.wp
  rw [h1]
  exact hn undef w' h2
theorem does_upon {o : Oper} {K : IV → IH → Prop} (hr : UponF P ((execOp a.eval o).run P w) (Out ρ B w K)) : Does P o a w ρ B K := by
  intro next Q hn
  unfold Oper.wp
  unfold UponF at hr
  split at hr
  · rename_i v w' h1; rw [h1]; exact hn v w' hr
  · rename_i f args w' h1
    rw [h1]
    exact Calls.mono hr (fun en w'' he => by cases en <;> first | exact hn _ _ he | exact he.elim)
  · exact hr.elim

theorem all_one {l : List IV} (h : l.all IV.one = true) : ∀ x ∈ l, x.one = true := List.all_eq_true.1 h

theorem run_zeroValue {t : TypeId} {z' : List IV} (h : zeroOf P t = some z') (ρ : List RLoc) : ∃ z, (∀ w, (zeroValue t).run P w = .ok z w) ∧ LRel ρ z.cells.toList z' ∧ (P.info? t).bind (·.zero) = some z := by
  unfold zeroOf at h
  split at h
  · rename_i z hz
    refine ⟨z, fun w => ?_, cvs_rel h ρ, hz⟩
    cases hi : P.info? t with
    | none => rw [hi] at hz; cases hz
    | some i => rw [hi] at hz; simp at hz; simp [zeroValue, typeInfo, hi, hz]
  · cases h

theorem bparts_rel (ha : ARel ρ N a e) : ∀ {l : List (Nat × Operand)} {l' : List (Nat × CX)}, bparts l = some l' →
    l.length = l'.length ∧ ∀ (i : Nat) p q, l[i]? = some p → l'[i]? = some q → q.1 = p.1 ∧ VRel ρ (a.eval p.2) (q.2.ev e)
  | [], l', h => by simp [bparts] at h; subst h; simp
  | (i, x) :: r, l', h => by
    simp only [bparts] at h
    split at h
    · rename_i x' r' h2 h3
      obtain rfl := Option.some.inj h
      obtain ⟨hl, ih⟩ := bparts_rel ha h3
      refine ⟨by simp [hl], fun j p q hp hq => ?_⟩
      cases j with
      | zero => simp at hp hq; subst hp; subst hq; exact ⟨rfl, cx_rel h2 ha⟩
      | succ j => simp at hp hq; exact ih j p q hp hq
    · cases h

theorem madeCells_at (z : Array Value) (n i k : Nat) (hk : k < z.size) (hi : i * z.size + k < n) : (madeCells z n)[i * z.size + k]? = z[k]? := by
  unfold madeCells
  have : (i * z.size + k) % z.size = k := by rw [Nat.mul_comm, Nat.mul_add_mod]; exact Nat.mod_eq_of_lt hk
  simp [hi, this, hk]

theorem made_rows {z : Array Value} {z' : List IV} (hz : LRel ρ z.toList z') {n m : Nat} (hm : n ≤ m) :
    ∀ (i : Nat) row, (List.replicate n z')[i]? = some row → RowAt ρ (madeCells z (m * z.size)) (i * z.size) row := by
  intro i row hi k v hk
  rw [List.getElem?_replicate] at hi
  split at hi
  · rename_i hin
    obtain rfl := Option.some.inj hi
    obtain ⟨u, hu, hr⟩ := hz.of_get' hk
    have hkz : k < z.size := by have := (List.getElem?_eq_some_iff.1 hu).1; simpa using this
    refine ⟨u, ?_, hr⟩
    have hlt : (i + 1) * z.size ≤ m * z.size := Nat.mul_le_mul_right _ (by omega)
    rw [Nat.add_mul, Nat.one_mul] at hlt
    rw [madeCells_at z _ i k hkz (by omega)]
    simpa using hu
  · cases hi

theorem madeCells_flat {z : Array Value} {z' : List IV} (hz : LRel ρ z.toList z') (n : Nat) (hpos : 0 < z.size) : LRel ρ (madeCells z (n * z.size)).toList (List.replicate n z').flatten := by
  have hzl : z'.length = z.size := by have := hz.1; simp at this; omega
  have hfl : (List.replicate n z').flatten.length = n * z.size := by simp [hzl]
  refine ⟨by simp [size_madeCells, hfl], fun i v v' hv hv' => ?_⟩
  have hi : i < n * z.size := by have := (List.getElem?_eq_some_iff.1 hv).1; simpa [size_madeCells] using this
  have hq : i = (i / z.size) * z.size + i % z.size := by rw [Nat.mul_comm]; exact (Nat.div_add_mod i z.size).symm
  have hk : i % z.size < z.size := Nat.mod_lt _ hpos
  have h1 := madeCells_at z (n * z.size) (i / z.size) (i % z.size) hk (by omega)
  rw [← hq] at h1
  rw [Array.getElem?_toList, h1] at hv
  have h2 : (List.replicate n z').flatten[i]? = z'[i % z.size]? := by
    clear hv hv' h1
    induction n generalizing i with
    | zero => simp at hi
    | succ n ih =>
      rw [List.replicate_succ, List.flatten_cons]
      rcases Nat.lt_or_ge i z'.length with hlt | hge
      · rw [List.getElem?_append_left hlt, Nat.mod_eq_of_lt (by omega)]
      · rw [List.getElem?_append_right hge]
        have e1 : (i - z'.length) % z.size = i % z.size := by
          rw [hzl] at hge ⊢
          exact (Nat.mod_eq_sub_mod hge).symm
        have hi' : i - z'.length < n * z.size := by rw [Nat.add_mul, Nat.one_mul] at hi; omega
        have := ih (by simp [hzl]) (i - z'.length) hi' (by rw [Nat.mul_comm]; exact (Nat.div_add_mod _ _).symm) (by rw [e1]; exact hk)
        rw [this, e1]
  rw [h2] at hv'
  exact hz.2 _ v v' (by rw [Array.getElem?_toList]; exact hv) hv'

theorem take_flatten {sz : Nat} : ∀ (ys : List (List IV)) (k : Nat), (∀ r ∈ ys, r.length = sz) → ys.flatten.take (k * sz) = (ys.take k).flatten
  | [], k, _ => by simp
  | r :: ys, 0, _ => by simp
  | r :: ys, k + 1, he => by
    have hr : r.length = sz := he r (List.mem_cons_self)
    rw [List.flatten_cons, List.take_succ_cons, List.flatten_cons, ← take_flatten ys k (fun x hx => he x (List.mem_cons_of_mem _ hx))]
    rw [show (k + 1) * sz = r.length + k * sz by rw [hr, Nat.add_mul]; omega, List.take_length_add_append]

/-- copy. -/
theorem copy_out (hw : WRel ρ B w h) {t u ty el : TypeId} {sz : Nat} (ht : P.underlying t = some (.slice el)) (hsz : tsz P el = some sz)
    {x y : Value} {x' : IV} {ys : List (List IV)} {news : List Value} (hx : VRel ρ x x') (hlen : ∀ w', (Builtin.lenOf y).run P w' = .ok ys.length w')
    (hcell : ∀ k, k ≤ ys.length → (Builtin.firstCells sz k y).run P w = .ok (news.take (k * sz)).toArray w) (hl : LRel ρ news ys.flatten) (hok : RowsOk sz ys) {K : IV → IH → Prop}
    (hk : copyK h sz x' ys K) : ∃ v' w', (Builtin.copy_ #[t, u] ty #[x, y]).run P w = .ok v' w' ∧ Out ρ B w K v' w' := by
  have zero : ∀ (b : Option Addr) (n c : Nat), min ys.length n = 0 → K (.int .i64 0) h → ∃ v' w', (Builtin.copy_ #[t, u] ty #[.slice b n c, y]).run P w = .ok v' w' ∧ Out ρ B w K v' w' := by
    intro b n c hm hk
    have h0 := hcell 0 (Nat.zero_le _)
    simp only [Nat.zero_mul, List.take_zero] at h0
    refine ⟨.int .i64 0, w, ?_, ρ, _, h, List.prefix_refl _, hw, .int _ _, Below.refl _ _, hk⟩
    have hm' : ys.length.min n = 0 := hm
    cases b <;> simp [Builtin.copy_, run_underlying ht, hlen, run_sizeOf' hsz, hm', h0, storeCells, goInt]
  unfold copyK at hk
  split at hk
  · cases hx; exact zero none 0 0 (by simp) hk
  · cases hx; exact zero _ _ _ (by simp) hk
  · rename_i l i n
    cases hx with
    | @slice l i n c r hr hn hc hm =>
      split at hk
      · rename_i h0; exact zero _ _ _ h0 hk
      · rename_i h0
        split at hk
        · rename_i rs el' sz' ho
          obtain ⟨rfl, hin, hk⟩ := hk
          obtain ⟨cs, t', fz, hg, hrel⟩ := hw.rows hr ho
          obtain ⟨hb, hB, hfz, ht', hcap, hcs⟩ := hrel.own rfl
          generalize hkk : min ys.length n = k at *
          have hkle : k ≤ ys.length := by omega
          have hcell' := hcell k hkle
          have htk : LRel ρ (news.take (k * sz')) (ys.take k).flatten := by rw [← take_flatten ys k hok.each]; exact hl.take _
          have hytake : ∀ row ∈ ys.take k, row ∈ ys := fun row hrow => List.mem_of_mem_take hrow
          have htlen : (news.take (k * sz')).length = k * sz' := by
            rw [htk.1, flatten_length _ (fun row hrow => hok.each row (hytake row hrow)), List.length_take, Nat.min_eq_left hkle]
          generalize news.take (k * sz') = nw at hcell' htk htlen
          have hfit : i * sz' + nw.length ≤ cs.size := by
            rw [htlen, ← Nat.add_mul, hcs]; exact Nat.mul_le_mul_right _ (by omega)
          have hone : ∀ v ∈ nw, v.oneCell' = true := htk.ones (flatten_one ⟨fun row hrow => hok.each row (hytake row hrow), fun row hrow => hok.one row (hytake row hrow)⟩)
          have hst := run_storeCells_fz (P := P) r.block (i * sz') t' fz (nw) 0 cs w hg hfz (by simpa using hfit) hone
          simp only [Nat.add_zero] at hst
          rw [hb, hrel.hsz, Nat.zero_add]
          have hrun : (Builtin.copy_ #[t, u] ty #[.slice (some ⟨r.block, i * sz', none⟩) n c, y]).run P w = .ok (.int .i64 (k : Nat)) (w.setRow r.block (cs.toList.take (i * sz') ++ nw ++ cs.toList.drop (i * sz' + nw.length)).toArray) := by
            have hkk' : ys.length.min n = k := hkk
            simp [Builtin.copy_, run_underlying ht, hlen, run_sizeOf' hsz, hkk', hcell', hst, goInt]
          refine ⟨_, _, hrun, ?_⟩
          have hcells := hrel.cells
          rw [hb] at hcells
          obtain ⟨olds, ho1, ho2, ho3⟩ := rows_vals (ρ := ρ) (c := cs) (sz := sz') rs 0 hcells hrel.each
          have hmem : ∀ row ∈ rs.take i ++ ys.take n ++ rs.drop (i + k), row ∈ rs ∨ row ∈ ys := by
            intro row hrow
            simp only [List.mem_append] at hrow
            rcases hrow with (h | h) | h
            · exact .inl (List.mem_of_mem_take h)
            · exact .inr (List.mem_of_mem_take h)
            · exact .inl (List.mem_of_mem_drop h)
          have htakeeq : ys.take n = ys.take k := by
            rcases Nat.le_total ys.length n with h | h
            · have : k = ys.length := by omega
              rw [this, List.take_of_length_le h, List.take_length]
            · have : k = n := by omega
              rw [this]
          obtain ⟨g1, g2⟩ := set_rows (rs' := rs.take i ++ ys.take n ++ rs.drop (i + k)) hw hr ho (cs.toList.take (i * sz') ++ nw ++ cs.toList.drop (i * sz' + nw.length)).toArray
            (by simp only [List.size_toArray, List.length_append, List.length_take, List.length_drop, Array.length_toList]; omega)
            (by have := hrel.len; simp only [List.length_append, List.length_take, List.length_drop]; omega)
            (fun row hrow => by rcases hmem row hrow with h | h; exact hrel.each row h; exact hok.each row h)
            (fun row hrow => by rcases hmem row hrow with h | h; exact hrel.one row h; exact hok.one row h)
            (by
              have hfl : LRel ρ (olds.take (i * sz') ++ nw ++ olds.drop ((i + k) * sz')) (rs.take i ++ ys.take n ++ rs.drop (i + k)).flatten := by
                rw [List.flatten_append, List.flatten_append, htakeeq]
                refine ((?_ : LRel ρ _ _).append htk).append ?_
                · rw [← take_flatten rs i hrel.each]; exact ho1.take _
                · have e1 : (rs.drop (i + k)).flatten = rs.flatten.drop ((i + k) * sz') := by
                    have h1 : rs.flatten = (rs.take (i + k)).flatten ++ (rs.drop (i + k)).flatten := by rw [← List.flatten_append, List.take_append_drop]
                    have h2 : (rs.take (i + k)).flatten.length = (i + k) * sz' := by
                      rw [flatten_length _ (fun row hrow => hrel.each row (List.mem_of_mem_take hrow))]; rw [List.length_take, Nat.min_eq_left (by omega)]
                    rw [h1, ← h2, List.drop_left]
                  rw [e1]; exact ho1.drop _
              have := rowAt_flat (c := (cs.toList.take (i * sz') ++ nw ++ cs.toList.drop (i * sz' + nw.length)).toArray) (rs.take i ++ ys.take n ++ rs.drop (i + k)) 0 _ hfl
                (fun row hrow => by rcases hmem row hrow with h | h; exact hrel.each row h; exact hok.each row h)
                (fun m v hv => by
                  rw [Nat.zero_add, List.getElem?_toArray]
                  have ho2' : olds.length = rs.length * sz' := ho2
                  have hle : (i + k) * sz' ≤ rs.length * sz' := Nat.mul_le_mul_right _ (by omega)
                  have hcap2 : rs.length * sz' ≤ cs.size := by rw [hcs]; exact Nat.mul_le_mul_right _ hrel.len
                  rw [Nat.add_mul] at hle
                  simp only [List.getElem?_append, List.length_append, List.length_take, Array.length_toList, List.getElem?_take, List.getElem?_drop, htlen] at hv ⊢
                  have e1 : min (i * sz') cs.size = i * sz' := by omega
                  have e2 : min (i * sz') olds.length = i * sz' := by omega
                  rw [e1]
                  rw [e2] at hv
                  by_cases a1 : m < i * sz'
                  · rw [if_pos (by omega), if_pos a1, if_pos a1] at hv
                    rw [if_pos (by omega), if_pos a1, if_pos a1]
                    have := ho3 m v hv
                    rw [Nat.zero_add] at this
                    simpa using this
                  · by_cases a2 : m < i * sz' + k * sz'
                    · rw [if_pos a2, if_neg a1] at hv
                      rw [if_pos a2, if_neg a1]
                      exact hv
                    · rw [if_neg a2] at hv
                      rw [if_neg a2]
                      rw [Nat.add_mul] at hv
                      have := ho3 _ v hv
                      rw [Nat.zero_add] at this
                      simpa using this)
              intro q row hq
              have := this q row hq
              rwa [Nat.zero_add] at this)
          exact ⟨ρ, _, _, List.prefix_refl _, g1, .int _ _, g2, hk⟩
        · cases hk
  · cases hk

end
end Go.IW
