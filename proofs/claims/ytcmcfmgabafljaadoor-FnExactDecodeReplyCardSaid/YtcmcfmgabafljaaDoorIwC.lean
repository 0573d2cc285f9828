/- What writes nothing answers as the ideal says. -/
import Derived.Test.YtcmcfmgabafljaaDoorIwB
set_option linter.unusedVariables false
set_option linter.unusedSimpArgs false
namespace Go.IW
open Go.RowKit

/-- The machine's answer to an operation that writes nothing. -/
def Answers (P : Program) (s : Sem Value) (w : World) (ρ : List RLoc) (v : IV) : Prop := ∃ v', s.run P w = .ok v' w ∧ VRel ρ v' v

section
variable {P : Program} {ρ : List RLoc} {B : Nat} {w : World} {h : IH}

theorem Answers.pure {v' : Value} {v : IV} (hv : VRel ρ v' v) : Answers P (Pure.pure v') w ρ v := ⟨v', rfl, hv⟩

theorem barr_inj {s t : ByteArray} : s.data.toList = t.data.toList → s = t := by
  intro h
  cases s; cases t
  simp at h
  simp [h]

theorem beq_dec (s t : List UInt8) : (s == t) = decide (s = t) := by rw [Bool.eq_iff_iff]; simp

theorem size_list (s : ByteArray) : s.data.toList.length = s.size := Array.length_toList

theorem ibin_sound {op : BinOp} {t : TypeId} {x y : Value} {x' y' v : IV} (hx : VRel ρ x x') (hy : VRel ρ y y') (hv : ibin op x' y' = some v) : Answers P (binOp op t x y) w ρ v := by
  unfold ibin at hv
  split at hv
  · rename_i k a k' b
    cases hx; cases hy
    cases op <;> simp only at hv <;>
      (try split at hv) <;> (try split at hv) <;> (first | (obtain rfl := Option.some.inj hv) | cases hv) <;>
      first
        | (refine ⟨_, ?_, VRel.int _ _⟩; simp [binOp, Op.shift, Op.intArith, Op.intDiv, Op.intBits, wr, bits, *]; done)
        | (refine ⟨_, ?_, VRel.bool _⟩; simp [binOp, Op.intCmp, *]; done)
        | (refine ⟨_, ?_, VRel.bool _⟩; simp [binOp, Op.intCmp, *]; rfl)
  · rename_i s t'
    generalize hs : IV.str s = s' at hx
    cases hx <;> cases hs
    rename_i s
    generalize ht : IV.str t' = t'' at hy
    cases hy <;> cases ht
    rename_i t1
    cases op <;> simp only at hv <;>
      (try split at hv) <;> (first | (obtain rfl := Option.some.inj hv) | cases hv) <;>
      first
        | exact ⟨_, by simp only [binOp, Op.stringOp, ByteArray.toList_eq, bless, beq_dec]; rfl, VRel.bool _⟩
        | skip
    rename_i hlen
    have e : s.data.toList ++ t1.data.toList = (s ++ t1).data.toList := by simp
    rw [e]
    refine ⟨_, ?_, VRel.str _⟩
    rw [size_list, size_list] at hlen
    exact run_string_add_sum w s t1 hlen
  · cases hv

theorem ibinB_sound {op : BinOp} {g : Bool} {t : TypeId} {x y : Value} {x' y' v : IV} (hx : VRel ρ x x') (hy : VRel ρ y y') (hg : negOf op = some g) (hv : ibinB g x' y' = some v)
    (ht : P.underlying t = some .bool) : Answers P (binOp op t x y) w ρ v := by
  unfold ibinB at hv
  split at hv
  · cases hx; cases hy
    obtain rfl := Option.some.inj hv
    refine ⟨_, ?_, VRel.bool _⟩
    unfold negOf at hg
    split at hg <;> simp at hg <;> subst hg <;> simp [binOp, run_equal_bool _ _ _ _ ht]
  · cases hv

theorem isNil_cases {k : NK} {v : Value} {v' : IV} {b : Bool} (hr : VRel ρ v v') (hn : isNil k v' = some b) :
    (k = .ptr ∧ ∃ a, v = .pointer a ∧ a.isNone = b) ∨ (k = .slice ∧ ∃ a n c, v = .slice a n c ∧ a.isNone = b) ∨ (k = .map ∧ ∃ a, v = .map a ∧ a.isNone = b) ∨
    (k = .func ∧ ((v = .nilFunc ∧ b = true) ∨ ∃ f x y, v = .func f x y ∧ b = false)) ∨ (k = .iface ∧ ((v = .nilIface ∧ b = true) ∨ ∃ t x, v = .iface t x ∧ b = false)) := by
  cases hr <;> cases k <;> simp [isNil] at hn <;> subst hn <;> simp

theorem run_equal_of {t : TypeId} {x y : Value} {b : Bool} (h : ∀ d, (Op.equalIn (d + 1) t x y).run P w = .ok b w) : (Op.equal t x y).run P w = .ok b w := h 9999

theorem run_equal_nils {k : NK} {t : TypeId} {d : TypeDesc} {x y : Value} {x' y' : IV} {a b : Bool} (hx : VRel ρ x x') (hy : VRel ρ y y')
    (ht : P.underlying t = some d) (hd : nkOf d = some k) (ha : isNil k x' = some a) (hb : isNil k y' = some b) (hab : a = true ∨ b = true) :
    (Op.equal t x y).run P w = .ok (a && b) w := by
  refine run_equal_of (fun m => ?_)
  rcases isNil_cases hx ha with ⟨rfl, a1, rfl, e1⟩ | ⟨rfl, a1, n1, c1, rfl, e1⟩ | ⟨rfl, a1, rfl, e1⟩ | ⟨rfl, h1⟩ | ⟨rfl, h1⟩ <;>
  rcases isNil_cases hy hb with ⟨h2, a2, rfl, e2⟩ | ⟨h2, a2, n2, c2, rfl, e2⟩ | ⟨h2, a2, rfl, e2⟩ | ⟨h2, h3⟩ | ⟨h2, h3⟩ <;> (try cases h2) <;>
  (unfold nkOf at hd; split at hd <;> try (simp at hd; done))
  · cases a1 <;> cases a2 <;> simp at e1 e2 <;> subst e1 <;> subst e2 <;> simp at hab <;> (unfold Op.equalIn; simp [run_underlying ht])
  · cases a1 <;> cases a2 <;> simp at e1 e2 <;> subst e1 <;> subst e2 <;> simp at hab <;> (unfold Op.equalIn; simp [run_underlying ht])
  · cases a1 <;> cases a2 <;> simp at e1 e2 <;> subst e1 <;> subst e2 <;> simp at hab <;> (unfold Op.equalIn; simp [run_underlying ht])
  · rcases h1 with ⟨rfl, rfl⟩ | ⟨_, _, _, rfl, rfl⟩ <;> rcases h3 with ⟨rfl, rfl⟩ | ⟨_, _, _, rfl, rfl⟩ <;> simp at hab <;> (unfold Op.equalIn; simp [run_underlying ht])
  · rcases h1 with ⟨rfl, rfl⟩ | ⟨_, _, rfl, rfl⟩ <;> rcases h3 with ⟨rfl, rfl⟩ | ⟨_, _, rfl, rfl⟩ <;> simp at hab <;> (unfold Op.equalIn; simp [run_underlying ht])

theorem binOp_equal {op : BinOp} {g : Bool} {t : TypeId} {x y : Value} {b : Bool} (hg : negOf op = some g) (hs : ∀ k n, x ≠ .int k n) (hs1 : ∀ k n, x ≠ .float k n) (hs2 : ∀ k n m, x ≠ .complex k n m) (hs3 : ∀ s, x ≠ .string s)
    (h : (Op.equal t x y).run P w = .ok b w) : (binOp op t x y).run P w = .ok (.bool (b != g)) w := by
  unfold negOf at hg
  split at hg <;> first | (cases hg; done) | (obtain rfl := Option.some.inj hg; unfold binOp; split <;> simp_all)

theorem eqn_sound {op : BinOp} {k : NK} {g : Bool} {t : TypeId} {d : TypeDesc} {x y : Value} {x' y' : IV} {a b : Bool} (hx : VRel ρ x x') (hy : VRel ρ y y') (hg : negOf op = some g)
    (ht : P.underlying t = some d) (hd : nkOf d = some k) (ha : isNil k x' = some a) (hb : isNil k y' = some b) (hab : a = true ∨ b = true) :
    Answers P (binOp op t x y) w ρ (.bool ((a && b) != g)) := by
  refine ⟨_, binOp_equal hg ?_ ?_ ?_ ?_ (run_equal_nils hx hy ht hd ha hb hab), VRel.bool _⟩ <;>
    (intros; rintro rfl; cases hx <;> simp [isNil] at ha)

theorem iun_sound {op : UnOp} {x : Value} {x' v : IV} (hx : VRel ρ x x') (hv : iun op x' = some v) : Answers P (Op.unary op x) w ρ v := by
  unfold iun at hv
  split at hv
  · cases hx
    split at hv
    · obtain rfl := Option.some.inj hv; exact ⟨_, by simp [Op.unary], VRel.bool _⟩
    · cases hv
  · cases hx
    split at hv
    · obtain rfl := Option.some.inj hv; exact ⟨_, by simp [Op.unary, Op.intArith, wr], VRel.int _ _⟩
    · obtain rfl := Option.some.inj hv; exact ⟨_, by simp [Op.unary, Op.intBits, bits, wr], VRel.int _ _⟩
    · cases hv
  · cases hv

/-- A cell of an object, in the machine. -/
theorem cell_sound (hw : WRel ρ B w h) {l i k : Nat} {r : RLoc} {v : IV} (hr : ρ[l]? = some r) (hc : h.cell l i k = some v) :
    ∃ v', w.cell? ⟨r.block, r.base + i * r.sz + k, none⟩ = some v' ∧ VRel ρ v' v := by
  unfold IH.cell IH.row at hc
  have ho := hw.obj l r hr
  cases hobj : h.obj l with
  | dead => rw [hobj] at hc; simp at hc
  | rows rs e sz ro =>
    rw [hobj] at hc ho
    obtain ⟨c, t, fz, hg, hrel⟩ := ho
    simp only at hc
    cases hrow : rs[i]? with
    | none => rw [hrow] at hc; simp at hc
    | some row =>
      rw [hrow] at hc
      simp only [Option.bind_some] at hc
      obtain ⟨v', h1, h2⟩ := hrel.cells i row hrow k v hc
      refine ⟨v', ?_, h2⟩
      rw [cell_of_row w r.block _ c t fz hg, hrel.hsz]; exact h1

theorem row_sound (hw : WRel ρ B w h) {l i : Nat} {r : RLoc} {row : List IV} (hr : ρ[l]? = some r) (hc : h.row l i = some row) :
    ∃ vs : List Value, LRel ρ vs row ∧ ∀ (j : Nat) v, vs[j]? = some v → w.cell? ⟨r.block, r.base + i * r.sz + j, none⟩ = some v := by
  have key : ∀ (k : Nat) v, row[k]? = some v → ∃ v', w.cell? ⟨r.block, r.base + i * r.sz + k, none⟩ = some v' ∧ VRel ρ v' v := fun k v hk =>
    cell_sound hw hr (by unfold IH.cell; rw [hc]; exact hk)
  clear hc
  generalize r.base + i * r.sz = at_ at key ⊢
  induction row generalizing at_ with
  | nil => exact ⟨[], LRel.nil ρ, fun j v hv => by simp at hv⟩
  | cons x row ih =>
    obtain ⟨v0, hv0, hr0⟩ := key 0 x rfl
    obtain ⟨vs, hvs, hcell⟩ := ih (at_ + 1) (fun k v hk => by
      have := key (k + 1) v hk
      rwa [Nat.add_assoc, Nat.add_comm 1 k])
    refine ⟨v0 :: vs, LRel.cons hr0 hvs, fun j v hv => ?_⟩
    cases j with
    | zero => simp at hv; subst hv; simpa using hv0
    | succ j => simp at hv; have := hcell j v hv; rwa [Nat.add_assoc, Nat.add_comm 1 j] at this

theorem addr_add (b o n : Nat) : (⟨b, o, none⟩ : Addr).add n = ⟨b, o + n, none⟩ := by
  unfold Addr.add; split <;> simp_all

theorem run_isAgg {t : TypeId} {d : TypeDesc} (hd : P.underlying t = some d) : (isAgg t).run P w = .ok (isAggD d) w := by
  unfold isAgg
  cases d <;> simp [run_underlying hd, isAggD]

theorem run_sizeOf' {t : TypeId} {n : Nat} (hn : tsz P t = some n) : (sizeOf t).run P w = .ok n w := by
  unfold tsz at hn
  rw [Option.map_eq_some_iff] at hn
  obtain ⟨i, hi, rfl⟩ := hn
  simp [sizeOf, typeInfo, hi]

end
end Go.IW
