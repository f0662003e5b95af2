/- Our texts for this statement, merged: what its theorem leads to. -/
import Derived.Laws.Entries
import Derived.Test.YtpiabgfedgddeaaDoorQStore1
namespace Go.Ab
open Go
set_option linter.unusedSimpArgs false
set_option linter.unusedVariables false
theorem toList_data_go (s : ByteArray) (n : Nat) : ∀ (i : Nat) (r : List UInt8), s.size - i = n → ByteArray.toList.loop s i r = r.reverse ++ s.data.toList.drop i := by
  induction n with
  | zero =>
    intro i r h
    unfold ByteArray.toList.loop
    have hs : s.size = s.data.toList.length := (Array.length_toList (xs := s.data)).symm
    rw [if_neg (by omega), List.drop_eq_nil_of_le (by omega)]; simp
  | succ n ih =>
    intro i r h
    unfold ByteArray.toList.loop
    have hs : s.size = s.data.toList.length := (Array.length_toList (xs := s.data)).symm
    rw [if_pos (by omega), ih (i + 1) _ (by omega)]
    have hi : i < s.data.toList.length := by omega
    have : s.data.toList.drop i = s.data.toList[i] :: s.data.toList.drop (i + 1) := List.drop_eq_getElem_cons hi
    rw [this, List.reverse_cons, List.append_assoc]
    congr 1
    have hg : s.get! i = s.data.toList[i] := by
      simp only [ByteArray.get!]
      rw [getElem!_pos s.data i (show i < s.size by omega)]
      simp
    rw [hg]; rfl
theorem toList_data (s : ByteArray) : s.toList = s.data.toList := by
  unfold ByteArray.toList
  rw [toList_data_go s (s.size - 0) 0 [] rfl]; simp
section
variable {P : Program} {w : World}
theorem int_bin {op : BinOp} {t : TypeId} {k : IntKind} {a b : Int} {v : Value} (h1 : op ≠ .shl) (h2 : op ≠ .shr) (h : intBin Ops.std op k a b = some v) : (binOp op t (.int k a) (.int k b)).run P w = .ok v w ∧ plainSc v = true := by
  cases op <;> simp only [intBin, Ops.std, ne_eq, not_true_eq_false] at h h1 h2
  case quo =>
    split at h
    · cases h
    · rename_i hb
      have hb' : b ≠ 0 := by simpa using hb
      cases h; simp [binOp, Op.intDiv, hb', plainSc]
  case rem =>
    split at h
    · cases h
    · rename_i hb
      have hb' : b ≠ 0 := by simpa using hb
      cases h; simp [binOp, Op.intDiv, hb', plainSc]
  all_goals first
    | (cases h; done)
    | (cases h; simp [binOp, Op.intArith, Op.intBits, Op.intCmp, plainSc, Go.bits]; done)
    | (cases h; simp [binOp, Op.intArith, Op.intBits, Op.intCmp, plainSc, Go.bits]; rw [Bool.eq_iff_iff]; simp; done)
    | (exact absurd rfl h1)
    | (exact absurd rfl h2)
theorem str_lt (a b : List UInt8) : (Op.bytesLess a b || a == b) = !Op.bytesLess b a := by
  induction a generalizing b with
  | nil => cases b <;> simp [Op.bytesLess]
  | cons x a ih =>
    cases b with
    | nil => simp [Op.bytesLess]
    | cons y b =>
      simp only [Op.bytesLess]
      have := ih b
      rcases Nat.lt_trichotomy x.toNat y.toNat with h | h | h
      · have h1 : x < y := UInt8.lt_iff_toNat_lt.2 h
        have h2 : ¬ y < x := fun h' => by have := UInt8.lt_iff_toNat_lt.1 h'; omega
        have h3 : (y == x) = false := by rw [beq_eq_false_iff_ne]; rintro rfl; omega
        simp [h1, h2, h3]
      · have : x = y := UInt8.toNat_inj.1 h
        subst this
        have h2 : ¬ x < x := fun h' => by have := UInt8.lt_iff_toNat_lt.1 h'; omega
        simp only [h2, decide_false, Bool.false_or, beq_self_eq_true, Bool.true_and, List.cons_beq_cons]
        exact ih b
      · have h1 : y < x := UInt8.lt_iff_toNat_lt.2 h
        have h2 : ¬ x < y := fun h' => by have := UInt8.lt_iff_toNat_lt.1 h'; omega
        have h3 : (x == y) = false := by rw [beq_eq_false_iff_ne]; rintro rfl; omega
        simp [h1, h2, h3]
theorem str_bin {op : BinOp} {t : TypeId} {a b : ByteArray} {v : Value} (h : strBin Ops.std op a b = some v) : (binOp op t (.string a) (.string b)).run P w = .ok v w ∧ plainSc v = true := by
  have e1 : (a.toList == b.toList) = decide (a.data.toList = b.data.toList) := by rw [toList_data, toList_data, Bool.eq_iff_iff]; simp
  have e2 := str_lt a.data.toList b.data.toList
  cases op <;> simp only [strBin, Ops.std] at h
  case add =>
    split at h
    · rename_i s hs
      cases h
      split at hs
      · rename_i hle
        cases hs
        have : ¬ (((a.size + b.size : Nat) : Int) > IntKind.i64.max) := by simp [IntKind.max, IntKind.signed, IntKind.bits]; omega
        simp only [binOp, Op.stringOp, this, if_false]
        simp [plainSc]
      · cases hs
    · cases h
  all_goals first
    | (cases h; done)
    | (cases h; simp [binOp, Op.stringOp, plainSc, toList_data]; done)
    | (cases h; simp [binOp, Op.stringOp, plainSc, toList_data]; rw [Bool.eq_iff_iff]; simp; done)
    | (cases h; simp only [binOp, Op.stringOp, plainSc, toList_data, e2]; simp)
theorem sh_bin {t : TypeId} {k k' : IntKind} {a b : Int} (hb : Ops.std.ilt b 0 = false) :
    (binOp .shl t (.int k a) (.int k' b)).run P w = .ok (.int k (Ops.std.ishl k a b)) w ∧ (binOp .shr t (.int k a) (.int k' b)).run P w = .ok (.int k (Ops.std.ishr k a b)) w := by
  have hb' : ¬ b < 0 := by simpa [Ops.std] using hb
  simp [binOp, Op.shift, hb', Ops.std]
theorem guard_sc {op : BinOp} {t : TypeId} {x y : Operand} {a b : Value} (ha : plainSc a = true) (hn : a ≠ .nilIface) : (eqGuard op t x y a b).run P w = .ok () w := by
  unfold eqGuard
  cases op <;> first | rfl | (cases a <;> first | (simp [plainSc] at ha; done) | rfl | exact absurd rfl hn)
theorem equalIn_bool (d : Nat) {t : TypeId} {a b : Bool} (ht : P.underlying t = some .bool) : (Op.equalIn (d + 1) t (.bool a) (.bool b)).run P w = .ok (a == b) w := by
  simp [Op.equalIn, run_underlying ht]
theorem bool_eq {t : TypeId} {a b : Bool} (ht : P.underlying t = some .bool) : (binOp .eql t (.bool a) (.bool b)).run P w = .ok (.bool (a == b)) w ∧ (binOp .neq t (.bool a) (.bool b)).run P w = .ok (.bool (!(a == b))) w := by
  have h : (Op.equal t (.bool a) (.bool b)).run P w = .ok (a == b) w := equalIn_bool 9999 ht
  constructor
  · show (do pure (Value.bool (← Op.equal t (.bool a) (.bool b))) : Sem Value).run P w = _
    simp only [Sem.run_bind, h, Result.andThen_ok, Sem.run_pure]
  · show (do pure (Value.bool (!(← Op.equal t (.bool a) (.bool b)))) : Sem Value).run P w = _
    simp only [Sem.run_bind, h, Result.andThen_ok, Sem.run_pure]
theorem cls_bool {t : TypeId} (h : clsOf P t = some .bool) : P.underlying t = some .bool := by
  unfold clsOf at h
  split at h <;> first | (cases h; done) | assumption
theorem scBin_run {op : BinOp} {c : Cls} {t : TypeId} (hc : clsOf P t = some c) {x y : AV} {xv yv : Value} {v : AV} (hx : x = .sc xv) (hy : y = .sc yv) (px : plainSc xv = true) (h : scBin Ops.std op c x y = some v) (X Y : Operand) :
    ∃ v', v = .sc v' ∧ plainSc v' = true ∧ (do eqGuard op t X Y xv yv; binOp op t xv yv : Sem Value).run P w = .ok v' w := by
  subst hx hy
  unfold scBin at h
  split at h
  · rename_i k a k' b e1 e2
    cases e1; cases e2
    have hg := guard_sc (P := P) (w := w) (op := op) (t := t) (x := X) (y := Y) (a := .int k a) (b := .int k' b) px (by intro h; cases h)
    split at h
    · split at h
      · cases h
      · cases h; rename_i hb
        exact ⟨_, rfl, rfl, by simp only [Sem.run_bind, hg, Result.andThen_ok]; exact (sh_bin hb).1⟩
    · split at h
      · cases h
      · cases h; rename_i hb
        exact ⟨_, rfl, rfl, by simp only [Sem.run_bind, hg, Result.andThen_ok]; exact (sh_bin hb).2⟩
    · split at h
      · rename_i hk
        subst hk
        split at h
        · cases h
          rename_i n1 n2 _ v' hv
          obtain ⟨h1, h2⟩ := int_bin (P := P) (w := w) (t := t) n1 n2 hv
          exact ⟨_, rfl, h2, by simp only [Sem.run_bind, hg, Result.andThen_ok]; exact h1⟩
        · cases h
      · cases h
  · rename_i a b e1 e2
    cases e1; cases e2
    have hg := guard_sc (P := P) (w := w) (op := op) (t := t) (x := X) (y := Y) (a := .string a) (b := .string b) px (by intro h; cases h)
    split at h
    · cases h
      rename_i v' hv
      obtain ⟨h1, h2⟩ := str_bin (P := P) (w := w) (t := t) hv
      exact ⟨_, rfl, h2, by simp only [Sem.run_bind, hg, Result.andThen_ok]; exact h1⟩
    · cases h
  · rename_i a b e1 e2
    cases e1; cases e2
    have hg := guard_sc (P := P) (w := w) (op := op) (t := t) (x := X) (y := Y) (a := .bool a) (b := .bool b) px (by intro h; cases h)
    have hb := bool_eq (P := P) (w := w) (a := a) (b := b) (cls_bool hc)
    split at h
    · cases h
      exact ⟨_, rfl, rfl, by simp only [Sem.run_bind, hg, Result.andThen_ok]; exact hb.1⟩
    · cases h
      exact ⟨_, rfl, rfl, by simp only [Sem.run_bind, hg, Result.andThen_ok]; exact hb.2⟩
    · cases h
  · cases h
theorem scBin_args {o : Ops} {op : BinOp} {c : Cls} {x y v : AV} (h : scBin o op c x y = some v) : ∃ a b, x = .sc a ∧ y = .sc b := by
  unfold scBin at h
  split at h
  · exact ⟨_, _, rfl, rfl⟩
  · exact ⟨_, _, rfl, rfl⟩
  · exact ⟨_, _, rfl, rfl⟩
  · cases h
theorem scBin_sound {E : Env} {op : BinOp} {c : Cls} {t : TypeId} (hc : clsOf P t = some c) {x y v : AV} {xv yv : Value} (hx : VL E [x] [xv]) (hy : VL E [y] [yv]) (h : scBin Ops.std op c x y = some v) (X Y : Operand) :
    ∃ v', v = .sc v' ∧ (do eqGuard op t X Y xv yv; binOp op t xv yv : Sem Value).run P w = .ok v' w ∧ VL E [v] [v'] := by
  obtain ⟨a, b, rfl, rfl⟩ := scBin_args h
  obtain ⟨rfl, hp⟩ := hx.sc_inv
  obtain ⟨rfl, _⟩ := hy.sc_inv
  obtain ⟨v', rfl, h1, h2⟩ := scBin_run hc rfl rfl hp h X Y
  exact ⟨v', rfl, h2, .data (.sc h1 .nil) .nil⟩
theorem bytes_beq (a b : ByteArray) : (a == b) = decide (a.data.toList = b.data.toList) := by
  cases a with | mk a => cases b with | mk b =>
  show (a == b) = _
  rw [Bool.eq_iff_iff]; simp
theorem equalIn_sc (d : Nat) {c : Cls} {t : TypeId} (hc : clsOf P t = some c) {x y : AV} {xv yv : Value} {r : Bool} (hx : x = .sc xv) (hy : y = .sc yv) (h : scBin Ops.std .eql c x y = some (.sc (.bool r))) :
    (Op.equalIn (d + 1) t xv yv).run P w = .ok r w := by
  subst hx hy
  unfold clsOf at hc
  unfold scBin at h
  split at h
  · rename_i k a k' b e1 e2
    cases e1; cases e2
    split at hc <;> cases hc
    rename_i k2 hu
    simp only [intBin, Ops.std] at h
    split at h
    · cases h; subst_vars
      simp [Op.equalIn, run_underlying hu]; rw [Bool.eq_iff_iff]; simp
    · cases h
  · rename_i a b e1 e2
    cases e1; cases e2
    split at hc <;> cases hc
    rename_i hu
    simp only [strBin, Ops.std] at h
    cases h
    simp [Op.equalIn, run_underlying hu]; rw [bytes_beq]; simp
  · rename_i a b e1 e2
    cases e1; cases e2
    split at hc <;> cases hc
    rename_i hu
    simp only [Ops.std] at h
    cases h
    exact equalIn_bool d hu
  · cases h
end
end Go.Ab
