/- Every operation that makes memory, writes it or calls: its small form is good. -/
import Derived.Test.YtcmcfmgabafljaaDoorIwJ
set_option linter.unusedVariables false
set_option linter.unusedSimpArgs false
namespace Go.IW
open Go.RowKit

section
variable {P : Program} {ρ : List RLoc} {B : Nat} {w : World} {h : IH} {N : Nat} {a : Act} {e : Env}

theorem info_size {t : TypeId} {z : Value} {z' : List IV} {i : TypeInfo} (hz : (P.info? t).bind (·.zero) = some z) (hi : P.info? t = some i) (hl : LRel ρ z.cells.toList z') (hn : z'.length = i.size) : i.zero = some z ∧ z.cells.size = i.size := by
  rw [hi] at hz
  refine ⟨hz, ?_⟩
  have := hl.1
  simp at this
  omega

theorem undef_rel (ρ : List RLoc) : VRel ρ undef (.tuple []) := .tuple (cs := #[]) rfl (fun i v v' h => by simp at h)

theorem all_rows {rows : List (List IV)} (h : (rows.all fun r => r.all IV.one) = true) : ∀ row ∈ rows, row.all IV.one = true := List.all_eq_true.1 h

theorem madeBuild (z : Array Value) (n : Nat) : (Array.range n).map (z[· % z.size]!) = madeCells z n := rfl

theorem ek_sound (hw : WRel ρ B w h) (ha : ARel ρ N a e) {o : Oper} {ck : EK} {K : IV → IH → Prop} (hc : ecomp P o.op = some ck) (hk : act P h e K ck) : Does P o a w ρ B K := by
  generalize hop : o.op = op at hc
  unfold ecomp at hc
  split at hc
  · -- alloc
    rename_i t
    split at hc
    · rename_i z n hz hn
      split at hc
      · rename_i hcond
        obtain ⟨hl, hone⟩ := hcond
        obtain rfl := Option.some.inj hc
        obtain ⟨zv, hz1, hz2, hz3⟩ := run_zeroValue hz ρ
        refine does_value ⟨_, _, ?_, box_list hw hz2 hl (all_one hone) hk⟩
        simp [execOp, hop, Instr.alloc, hz1, newVar, newRow]
      · cases hc
    · cases hc
  · -- box
    rename_i t x
    split at hc
    · rename_i x' n hx hn
      obtain rfl := Option.some.inj hc
      obtain ⟨h1, h2, h3⟩ := hk
      have hr := cx_rel hx ha
      refine does_value ⟨_, _, ?_, box_out hw hr h1 (all_one h2) h3⟩
      simp [execOp, hop, Instr.box, newVar, newRow]
    · cases hc
  · -- buildSlice
    rename_i t len parts
    split at hc
    · rename_i el ht
      split at hc
      · rename_i z n ps hz hn hps
        split at hc
        · rename_i hcond
          obtain ⟨hzl, hpos, hlim, hps0⟩ := hcond
          obtain rfl := Option.some.inj hc
          obtain ⟨zv, hz1, hz2, hz3⟩ := run_zeroValue hz ρ
          have hzs : zv.cells.size = n := by have := hz2.1; simp at this; omega
          have hlim' : ¬ (16777216 < len * n) := by omega
          simp only [act] at hk
          split at hk
          · rename_i hlen0
            subst hlen0
            obtain ⟨hpl, hpp⟩ := bparts_rel ha hps
            have hp0 : parts.toList = [] := List.eq_nil_of_length_eq_zero (by rw [hpl]; omega)
            have hp1 : parts = #[] := by cases parts; simp_all
            subst hp1
            have hrun : (execOp a.eval o).run P w = .ok (.value (.slice (some ⟨w.heap.size, 0, none⟩) 0 0)) (w.alloc (.cells #[] el)) := by
              simp [execOp, hop, Instr.buildSlice, run_underlying ht, run_sizeOf' hn, Instr.fill, newRow, Array.range_zero']
            exact does_value ⟨_, _, hrun, ρ, _, h, List.prefix_refl _, hw.grown (heap_alloc_lt w _) (by simp), .eslice (fun _ => rfl) (Nat.zero_le _), (Below.refl B w).alloc hw.base _, hk⟩
          · rename_i hlen0
            split at hk
            · rename_i rows hrows
              obtain ⟨hone, hk⟩ := hk
              have hzlen : ∀ r ∈ List.replicate len z, r.length = n := fun r hr => by rw [List.eq_of_mem_replicate hr]; exact hzl
              obtain ⟨g1, g2, g3⟩ := layR_ok _ _ _ hzlen hrows
              rw [List.length_replicate] at g1
              obtain ⟨hpl, hpp⟩ := bparts_rel ha hps
              have hmade := madeCells_flat (ρ := ρ) hz2 len (by omega)
              rw [hzs] at hmade
              obtain ⟨cells, hc1, hc2⟩ := fill_sound (ρ := ρ) (fun i => some (i * n, n)) (parts.toList.map fun p => (p.1, a.eval p.2)) ((ps.map fun p => (p.1, p.2.ev e)).map fun p => (p.1 * n, n, p.2)) (madeCells zv.cells (len * n)).toList _ _
                (by simp [hpl]) (fun i p q h1 h2 => by
                  rw [List.getElem?_map, Option.map_eq_some_iff] at h1 h2
                  obtain ⟨p0, hp0, rfl⟩ := h1
                  obtain ⟨q0, hq0, rfl⟩ := h2
                  rw [List.getElem?_map, Option.map_eq_some_iff] at hq0
                  obtain ⟨q1, hq1, rfl⟩ := hq0
                  obtain ⟨hf, hr⟩ := hpp i p0 q1 hp0 hq1
                  exact ⟨by simp [hf], hr⟩) hmade g3
              have hparts : (parts.map fun p => (p.1, a.eval p.2)).toList = parts.toList.map fun p => (p.1, a.eval p.2) := by simp
              have hmt : (madeCells zv.cells (len * n)).toList.toArray = madeCells zv.cells (len * n) := by simp
              rw [hmt] at hc1
              have hne : ¬ (len * n = 0) := by
                intro h0
                rcases Nat.mul_eq_zero.1 h0 with h0 | h0 <;> omega
              have hrun : (execOp a.eval o).run P w = .ok (.value (.slice (some ⟨w.heap.size, 0, none⟩) len len)) (w.alloc (.cells cells.toArray el)) := by
                simp only [execOp, hop, Instr.buildSlice, Sem.run_bind, run_underlying ht, Result.andThen_ok, run_sizeOf' hn, if_neg (show ¬ (len * n > 2 ^ 24) from hlim'), Sem.run_pure, if_neg hne, hz1, madeBuild, hparts, hc1, newRow, run_newObj]
                rfl
              have hcl : cells.length = len * n := by rw [hc2.1, flatten_length rows g2, g1]
              obtain ⟨k1, k2⟩ := new_rows hw cells.toArray el n len (0, 0) rows (by simpa using hcl) (by omega) g2 (fun row hrow => all_one (all_rows hone row hrow))
                (by
                  have := rowAt_flat (ρ := ρ) (c := cells.toArray) rows 0 cells hc2 g2 (fun j u hu => by simpa using hu)
                  intro j row hj
                  have := this j row hj
                  rwa [Nat.zero_add] at this) (by simp only [maxLen]; have : len ≤ len * n := Nat.le_mul_of_pos_right _ hpos; omega) (by simp)
              refine does_value ⟨_, _, hrun, _, _, _, List.prefix_append _ _, k1, ?_, k2, hk⟩
              have hlast := getlast_new ρ ⟨w.heap.size, 0, n, len⟩ h hw.len
              have := VRel.slice (i := 0) (n := len) (c := len) hlast (Nat.le_refl _) (by simp) (by simp only [maxLen]; have : len ≤ len * n := Nat.le_mul_of_pos_right _ hpos; omega)
              simpa using this
            · cases hk
        · cases hc
      · cases hc
    · cases hc
  · -- store
    rename_i t x y
    split at hc
    · rename_i n x' y' hn hx hy
      obtain rfl := Option.some.inj hc
      have hrx := cx_rel hx ha
      have hry := cx_rel hy ha
      simp only [act] at hk
      split at hk
      · rename_i l i k hp
        rw [hp] at hrx
        split at hk
        · rename_i rs el sz ho
          split at hk
          · rename_i row hrow
            obtain ⟨h1, h2, h3, h4⟩ := hk
            generalize hax : a.eval x = xv at hrx
            cases hrx with
            | @ptr l i k r hr =>
              obtain ⟨w', g1, g2, g3⟩ := st_out (P := P) hw hr ho hrow (k := k) hry.cells (by omega) (all_one h3)
              have hvs : (a.eval y).cells.size = n := by have := hry.cells.1; simp at this; omega
              refine does_skip ⟨w', ?_, ρ, _, _, List.prefix_refl _, g2, undef_rel ρ, g3, h4⟩
              simp [execOp, hop, Instr.storeAt, hax, Instr.sureAddr, storeVar, run_sizeOf' hn, hvs, g1]
          · cases hk
        · cases hk
      · cases hk
    · cases hc
  · -- makeSlice
    rename_i t l c
    split at hc
    · rename_i el ht
      split at hc
      · rename_i z i l' c' hz hi hl hcc
        split at hc
        · rename_i hcond
          obtain ⟨hzl, hpos, hbpos, hone⟩ := hcond
          obtain rfl := Option.some.inj hc
          have hrl := cx_rel hl ha
          have hrc := cx_rel hcc ha
          simp only [act] at hk
          split at hk
          · rename_i kl lv kc cv hp hq
            rw [hp] at hrl
            rw [hq] at hrc
            obtain ⟨h0, h1, h2, h3, hk⟩ := hk
            obtain ⟨zv, hz1, hz2, hz3⟩ := run_zeroValue hz ρ
            obtain ⟨hiz, hzs⟩ := info_size hz3 hi hz2 hzl
            generalize hal : a.eval l = lx at hrl
            generalize hac : a.eval c = cx' at hrc
            cases hrl
            cases hrc
            have hrun := run_make (P := P) w t el i zv ht hi hiz kl kc lv cv h0 h1 (by omega) h3
            have hex : (execOp a.eval o).run P w = .ok (.value (.slice (some ⟨w.heap.size, 0, none⟩) lv.toNat cv.toNat)) (w.alloc (.cells (madeCells zv.cells (cv.toNat * i.size)) el)) := by
              simp [execOp, hop, hal, hac, hrun]
            split at hk
            · rename_i hc0
              subst hc0
              refine does_value ⟨_, _, hex, ρ, _, h, List.prefix_refl _, hw.grown (heap_alloc_lt w _) (by simp), ?_, (Below.refl B w).alloc hw.base _, hk⟩
              have : lv.toNat = 0 := by omega
              rw [this]
              exact .eslice (fun _ => rfl) (Nat.zero_le _)
            · rename_i hc0
              obtain ⟨k1, k2⟩ := new_rows hw (madeCells zv.cells (cv.toNat * i.size)) el i.size cv.toNat (0, 0) (List.replicate lv.toNat z) (size_madeCells _ _) (by simp; omega)
                (fun r hr => by rw [List.eq_of_mem_replicate hr]; exact hzl) (fun r hr => by rw [List.eq_of_mem_replicate hr]; exact all_one hone)
                (by have := made_rows (ρ := ρ) hz2 (n := lv.toNat) (m := cv.toNat) (by omega); rw [hzs] at this; exact this) (by simp only [maxLen]; omega) (by simp)
              refine does_value ⟨_, _, hex, _, _, _, List.prefix_append _ _, k1, ?_, k2, hk⟩
              have hlast := getlast_new ρ ⟨w.heap.size, 0, i.size, cv.toNat⟩ h hw.len
              have := VRel.slice (i := 0) (n := lv.toNat) (c := cv.toNat) hlast (by omega) (by simp) (by simp only [maxLen]; omega)
              simpa using this
          · cases hk
        · cases hc
      · cases hc
    · cases hc
  · -- convert
    rename_i s d x
    split at hc
    · rename_i el x' hs hd hx
      split at hc
      · rename_i he hn
        obtain rfl := Option.some.inj hc
        have hr := cx_rel hx ha
        simp only [act] at hk
        split at hk
        · rename_i str hp
          rw [hp] at hr
          generalize hax : a.eval x = xv at hr
          generalize hsv : IV.str str = sv at hr
          cases hr <;> cases hsv
          rename_i str
          have hrun := run_bytes_of_string (P := P) w s d el str hs hd he
          have hsz : str.data.toList.length = str.size := size_list str
          generalize hcap : grownCap w str.size 0 el = cap at hrun
          have hge : str.size ≤ cap := by rw [← hcap]; exact grownCap_ge _ _ _ _
          have hbl : (bytesRow str cap).size = cap := by
            have e0 : str.data.size = str.size := rfl
            simp only [bytesRow, Array.size_append, Array.size_map, Array.size_replicate, e0]; omega
          have hex : (execOp a.eval o).run P w = .ok (.value (.slice (some ⟨w.heap.size, 0, none⟩) str.size cap)) (w.drew.alloc (.cells (bytesRow str cap) el ((bytesRow str cap).size, (bytesRow str cap).size + 1))) := by
            simp [execOp, hop, hax, hrun]
          have hcm : str.size ≤ maxLen → cap ≤ maxLen := fun hm => by rw [← hcap]; exact grownCap_le_maxLen w _ _ _ hm
          split at hk
          · rename_i h0
            have h0' : str.size = 0 := by rw [← hsz, h0]; rfl
            refine does_value ⟨_, _, hex, ρ, _, h, List.prefix_refl _, (hw.same (w' := w.drew) rfl).grown (heap_alloc_lt w.drew _) (by simp), ?_, (Below.refl B w).drew.alloc hw.base _, hk⟩
            rw [h0']
            exact .eslice (fun h => by cases h) (hcm (by omega))
          · obtain ⟨h1, hk⟩ := hk
            rw [hsz] at h1 hk
            have hcm' := hcm h1
            obtain ⟨k1, k2⟩ := new_rows (hw.same (w' := w.drew) rfl) (bytesRow str cap) el 1 cap ((bytesRow str cap).size, (bytesRow str cap).size + 1) (strRows str.data.toList) (by rw [hbl]; omega) (by simp only [strRows, List.length_map, hsz]; exact hge)
              (strRows_ok _).each (strRows_ok _).one
              (by
                have := rowAt_flat (ρ := ρ) (c := bytesRow str cap) (strRows str.data.toList) 0 _ (strRows_rel _ ρ) (strRows_ok _).each (fun j u hu => by
                  rw [Nat.zero_add]
                  rw [List.getElem?_map, Option.map_eq_some_iff] at hu
                  obtain ⟨b, hb, rfl⟩ := hu
                  have hj : j < str.data.size := by have := (List.getElem?_eq_some_iff.1 hb).1; simpa using this
                  rw [bytesRow_at str cap j hj]
                  rw [Array.getElem?_toList, Array.getElem?_eq_getElem hj] at hb
                  obtain rfl := Option.some.inj hb
                  rfl)
                intro j row hj
                have := this j row hj
                rwa [Nat.zero_add] at this) hcm' (by intro j hj; simp only; omega)
            refine does_value ⟨_, _, hex, _, _, _, List.prefix_append _ _, k1, ?_, (Below.refl B w).drew.trans k2, hk⟩
            have hlast := getlast_new ρ ⟨w.heap.size, 0, 1, cap⟩ h hw.len
            have := VRel.slice (i := 0) (n := str.size) (c := cap) hlast hge (by simp) hcm'
            simpa using this
        · cases hk
      · cases hc
    · cases hc
  · -- append
    rename_i args argTypes
    split at hc
    · rename_i x y t u hargs htys
      have e1 : args = #[x, y] := by cases args; simp_all
      have e2 : argTypes = #[t, u] := by cases argTypes; simp_all
      subst e1; subst e2
      split at hc
      · rename_i el el' x' y' ht hu hx hy
        split at hc
        · rename_i i z hi hz
          split at hc
          · rename_i hcond
            obtain ⟨rfl, hzl, hbpos⟩ := hcond
            obtain rfl := Option.some.inj hc
            obtain ⟨zv, hz1, hz2, hz3⟩ := run_zeroValue hz ρ
            obtain ⟨hiz, hzs⟩ := info_size hz3 hi hz2 hzl
            simp only [act] at hk
            split at hk
            · rename_i ys hys
              obtain ⟨news, g1, g2, g3⟩ := src_slice (P := P) hw hu (i := i) (cx_rel hy ha) hys
              obtain ⟨v', w', k1, k2⟩ := app_out (P := P) (ty := o.type) hw ht hi hiz hzs hbpos (cx_rel hx ha) g1 g2 g3 hk
              exact does_value ⟨v', w', by simp [execOp, hop, resolve, invoke, builtin, k1], k2⟩
            · cases hk
          · cases hc
        · cases hc
      · rename_i el x' y' ht hu hx hy
        split at hc
        · rename_i i z hi hz
          split at hc
          · rename_i hcond
            obtain ⟨hsz1, hzl, hbpos⟩ := hcond
            obtain rfl := Option.some.inj hc
            obtain ⟨zv, hz1, hz2, hz3⟩ := run_zeroValue hz ρ
            obtain ⟨hiz, hzs⟩ := info_size hz3 hi hz2 (by omega)
            simp only [act] at hk
            split at hk
            · rename_i s hp
              have hry := cx_rel hy ha
              rw [hp] at hry
              obtain ⟨news, g1, g2⟩ := src_string (P := P) (w := w) hu hry
              rw [← hsz1] at g1 hk
              obtain ⟨v', w', k1, k2⟩ := app_out (P := P) (ty := o.type) hw ht hi hiz hzs hbpos (cx_rel hx ha) g1 g2 (by rw [hsz1]; exact strRows_ok s) hk
              exact does_value ⟨v', w', by simp [execOp, hop, resolve, invoke, builtin, k1], k2⟩
            · cases hk
          · cases hc
        · cases hc
      · cases hc
    · cases hc
  · -- copy
    rename_i args argTypes
    split at hc
    · rename_i x y t u hargs htys
      have e1 : args = #[x, y] := by cases args; simp_all
      have e2 : argTypes = #[t, u] := by cases argTypes; simp_all
      subst e1; subst e2
      split at hc
      · rename_i el el' x' y' ht hu hx hy
        rw [Option.map_eq_some_iff] at hc; obtain ⟨n, hn, rfl⟩ := hc
        simp only [act] at hk
        split at hk
        · rename_i ys hys
          obtain ⟨ad, c, news, hyv, hlc, hl, hlen, hok, hnil, hcell⟩ := src_rows hw (cx_rel hy ha) hys
          obtain ⟨v', w', k1, k2⟩ := copy_out (P := P) (u := u) (ty := o.type) (y := a.eval y) hw ht hn (cx_rel hx ha) (fun w' => by rw [hyv]; simp [Builtin.lenOf]) (fun k hk' => by
            rw [hyv]
            cases ad with
            | none =>
              have := hnil rfl; subst this
              have : k = 0 := by simpa using hk'
              subst this
              simp [run_firstCells_none]
            | some ad =>
              refine run_firstCells_some (P := P) w n k ad _ c (news.take (k * n)) ?_ (fun j v hv => ?_)
              · rw [List.length_take, hlen, Nat.min_eq_left (Nat.mul_le_mul_right _ hk')]
              · rw [List.getElem?_take] at hv
                split at hv
                · exact hcell ad rfl j v hv
                · cases hv) hl hok hk
          exact does_value ⟨v', w', by simp [execOp, hop, resolve, invoke, builtin, k1], k2⟩
        · cases hk
      · rename_i el x' y' ht hu hx hy
        split at hc
        · rename_i hn
          obtain rfl := Option.some.inj hc
          simp only [act] at hk
          split at hk
          · rename_i s hp
            have hry := cx_rel hy ha
            rw [hp] at hry
            generalize hay : a.eval y = yv at hry
            generalize hsv : IV.str s = sv at hry
            cases hry <;> cases hsv
            rename_i s
            have hlen : (strRows s.data.toList).length = s.size := by simp only [strRows, List.length_map]; exact size_list s
            obtain ⟨v', w', k1, k2⟩ := copy_out (P := P) (u := u) (ty := o.type) (y := .string s) hw ht hn (cx_rel hx ha) (fun w' => by rw [hlen]; rfl) (fun k hk' => by
              obtain ⟨⟨l⟩⟩ := s
              have hex := ByteArray.extract_mk l 0 k
              simp only [List.drop_zero, Nat.sub_zero] at hex
              have hex' : (ByteArray.mk ⟨l⟩).extract 0 k = ByteArray.mk (l.take k).toArray := hex
              simp only [Builtin.firstCells, hex', Sem.run_pure, Nat.mul_one]
              simp) (strRows_rel _ ρ) (strRows_ok _) hk
            exact does_value ⟨v', w', by simp [execOp, hop, resolve, invoke, builtin, hay, k1], k2⟩
          · cases hk
        · cases hc
      · cases hc
    · cases hc
  · -- call
    rename_i f args _
    rw [Option.map_eq_some_iff] at hc; obtain ⟨args', hargs, rfl⟩ := hc
    have hl := cxs_rel ha hargs
    have := hk ρ B w (args.map a.eval) hw (by simpa using hl)
    refine does_upon ?_
    simpa [execOp, hop, resolve, Act.eval, Deferred.ofValue, invoke] using this
  · -- a call of a value
    rename_i f args _ _
    split at hc
    · rename_i f' args' hf hargs
      obtain rfl := Option.some.inj hc
      have hl := cxs_rel ha hargs
      have hrf := cx_rel hf ha
      simp only [act] at hk
      split at hk
      · rename_i g first caps hp
        rw [hp] at hrf
        generalize haf : a.eval f = fv at hrf
        cases hrf with
        | @func _ as cs _ _ h1 h2 h3 h4 =>
          have l1 : LRel ρ as.toList first := ⟨by simpa using h1, fun i v v' x y => h3 i v v' (by simpa using x) y⟩
          have l2 : LRel ρ cs.toList caps := ⟨by simpa using h2, fun i v v' x y => h4 i v v' (by simpa using x) y⟩
          have := hk ρ B w (as ++ args.map a.eval ++ cs) hw (by simpa using (l1.append hl).append l2)
          refine does_upon ?_
          simpa [execOp, hop, resolve, haf, Deferred.ofValue, invoke] using this
      · cases hk
    · cases hc
  · cases hc

end
end Go.IW
