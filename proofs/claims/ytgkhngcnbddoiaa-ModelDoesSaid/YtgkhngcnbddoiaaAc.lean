/- Part of the proof. -/
import Derived.Test.YtgkhngcnbddoiaaAb
import Derived.Below
import Derived.ChangeSame
import Derived.OpenShut
import Derived.JoinedCond
import Derived.ChangeSlices
import Derived.Test.YtgkhngcnbddoiaaChecked
import Derived.KernelRfl
set_option linter.unusedSimpArgs false
set_option linter.unusedVariables false
set_option maxHeartbeats 4000000
set_option maxRecDepth 100000
namespace Go.Ax
theorem wrap_i64_id (x : Int) (h : -9223372036854775808 ≤ x ∧ x < 9223372036854775808) : IntKind.i64.wrap x = x := by
  unfold IntKind.wrap
  simp only [IntKind.bits, IntKind.signed]
  simp
  omega
theorem wrap_u64' (x : Int) : IntKind.u64.wrap x = x % 18446744073709551616 := by
  unfold IntKind.wrap
  simp [IntKind.bits, IntKind.signed]
theorem wrap_u32' (x : Int) : IntKind.u32.wrap x = x % 4294967296 := by
  unfold IntKind.wrap
  simp [IntKind.bits, IntKind.signed]
theorem wrap_u8' (x : Int) : IntKind.u8.wrap x = x % 256 := by
  unfold IntKind.wrap
  simp [IntKind.bits, IntKind.signed]
theorem ar_nat (n : Nat) (h : n < 9223372036854775808) : IntKind.i64.wrap (n : Int) = (n : Int) := wrap_i64_id _ (by omega)
theorem ar_u64 (n : Nat) (h : n < 18446744073709551616) : IntKind.u64.wrap (n : Int) = (n : Int) := by rw [wrap_u64']; omega
theorem ar_add (x y : Int) (h : 0 ≤ x ∧ 0 ≤ y ∧ x + y < 9223372036854775808) : IntKind.i64.wrap (x + y) = ((x.toNat + y.toNat : Nat) : Int) := by rw [wrap_i64_id _ (by omega)]; omega
theorem ar_addu (x y : Int) (h : 0 ≤ x ∧ 0 ≤ y ∧ x + y < 18446744073709551616) : IntKind.u64.wrap (x + y) = ((x.toNat + y.toNat : Nat) : Int) := by rw [wrap_u64']; omega
theorem ar_sub (x y : Int) (h : 0 ≤ y ∧ y ≤ x ∧ x < 9223372036854775808) : IntKind.i64.wrap (x - y) = ((x.toNat - y.toNat : Nat) : Int) := by rw [wrap_i64_id _ (by omega)]; omega
theorem ar_mul (x y : Int) (h0 : 0 ≤ x ∧ 0 ≤ y) (h : x * y < 9223372036854775808) : IntKind.i64.wrap (x * y) = ((x.toNat * y.toNat : Nat) : Int) := by
  have h2 := Int.mul_nonneg h0.1 h0.2
  rw [wrap_i64_id _ (by omega), Int.natCast_mul, Int.toNat_of_nonneg h0.1, Int.toNat_of_nonneg h0.2]
theorem ar_div (x y : Int) (h : 0 ≤ x ∧ 0 ≤ y) : x.tdiv y = ((x.toNat / y.toNat : Nat) : Int) := by
  obtain ⟨a, rfl⟩ := Int.eq_ofNat_of_zero_le h.1
  obtain ⟨b, rfl⟩ := Int.eq_ofNat_of_zero_le h.2
  rfl
theorem ar_mod (x y : Int) (h : 0 ≤ x ∧ 0 ≤ y) : x.tmod y = ((x.toNat % y.toNat : Nat) : Int) := by
  obtain ⟨a, rfl⟩ := Int.eq_ofNat_of_zero_le h.1
  obtain ⟨b, rfl⟩ := Int.eq_ofNat_of_zero_le h.2
  rfl
theorem ar_dec_t {p : Prop} [Decidable p] (h : p) : decide p = true := decide_eq_true h
theorem ar_dec_f {p : Prop} [Decidable p] (h : ¬ p) : decide p = false := decide_eq_false h
theorem ar_beq_t {a b : Int} (h : a = b) : (a == b) = true := by simp [h]
theorem ar_beq_f {a b : Int} (h : a ≠ b) : (a == b) = false := by simp [h]
theorem ar_bne_t {a b : Int} (h : a ≠ b) : (a != b) = true := by simp [h]
theorem ar_bne_f {a b : Int} (h : a = b) : (a != b) = false := by simp [h]
theorem ar_guard {α : Type} {c : Prop} [Decidable c] {x : Option α} (h : c) : oguard c x = x := by unfold oguard; exact if_pos h
theorem ar_take {α : Type} {l : List α} {n : Nat} (h : l.length ≤ n) : l.take n = l := List.take_of_length_le h
theorem ar_take_drop {α : Type} {l : List α} {a b : Nat} (h : l.length ≤ a + b) : (l.drop a).take b = l.drop a := List.take_of_length_le (by rw [List.length_drop]; omega)
theorem ar_drop {α : Type} {l : List α} {n : Nat} (h : l.length ≤ n) : l.drop n = [] := List.drop_eq_nil_of_le h
theorem ar_toNat (n : Nat) : (n : Int).toNat = n := rfl
theorem ar_cast (n : Nat) : (Int.ofNat n) = (n : Int) := rfl

def fillAt (f : Nat → Int) (l : List Int) : Nat → List Int
  | 0 => l
  | i + 1 => (fillAt f l i).set i (f i)
theorem fillAt_len (f : Nat → Int) (l : List Int) : ∀ i, (fillAt f l i).length = l.length
  | 0 => rfl
  | i + 1 => by simp only [fillAt, List.length_set, fillAt_len f l i]
theorem fillAt_eq (f : Nat → Int) (l : List Int) : ∀ i, i ≤ l.length → fillAt f l i = (List.range i).map f ++ l.drop i
  | 0, _ => by simp [fillAt]
  | i + 1, h => by
    rw [fillAt, fillAt_eq f l i (by omega), List.range_succ, List.map_append, List.set_append]
    simp only [List.length_map, List.length_range, Nat.lt_irrefl, if_false, Nat.sub_self]
    rw [List.drop_eq_getElem_cons (show i < l.length by omega), List.set_cons_zero]
    simp
theorem fillAt_all (f : Nat → Int) (l : List Int) (n : Nat) (h : l.length = n) : fillAt f l n = (List.range n).map f := by
  rw [fillAt_eq f l n (by omega), List.drop_eq_nil_of_le (by omega), List.append_nil]

section
variable {C : Cfg} {k : List KI} {σ : St} {Q : Exit → St → Prop}
theorem execOps_mono {ops : Array Oper} : ∀ (l : List Oper) {σ : St} {κ κ' : St → Prop}, (∀ σ, κ σ → κ' σ) → execOps C ops l σ κ → execOps C ops l σ κ'
  | [], σ, κ, κ', hk, h => hk σ h
  | o :: l, σ, κ, κ', hk, h => by
    rw [execOps_cons] at h ⊢
    exact stepW_mono (fun σ' h' => execOps_mono l hk h') h
theorem exec_mono : ∀ (c : Code) {σ : St} {κ κ' : Exit → St → Prop}, (∀ ex σ, κ ex σ → κ' ex σ) → exec C c σ κ → exec C c σ κ'
  | .skip, σ, κ, κ', hk, h => hk _ _ h
  | .region id ops d, σ, κ, κ', hk, h => by
    unfold exec at h ⊢
    split at h
    · rename_i hc; rw [if_pos hc]; exact h.mono hk
    · rename_i hc; rw [if_neg hc]; exact execOps_mono _ (hk .normal) h
  | .seq a b, σ, κ, κ', hk, h => by
    unfold exec at h ⊢
    refine exec_mono a ?_ h
    intro ex σ' h'
    cases ex with
    | normal => exact exec_mono b hk h'
    | _ => exact hk _ _ h'
  | .cond c x y, σ, κ, κ', hk, h => by
    unfold exec condK at h ⊢
    split at h
    · rename_i t ht
      cases t
      · exact exec_mono y hk h
      · exact exec_mono x hk h
    · exact h.elim
  | .block id b, σ, κ, κ', hk, h => by
    unfold exec at h ⊢
    refine exec_mono b ?_ h
    intro ex σ' h'
    unfold blockK at h' ⊢
    cases ex with
    | exit i =>
      simp only at h' ⊢
      by_cases hi : i = id
      · rw [if_pos hi] at h' ⊢; exact hk _ _ h'
      · rw [if_neg hi] at h' ⊢; exact hk _ _ h'
    | _ => exact hk _ _ h'
  | .loop b, σ, κ, κ', hk, h => by unfold exec at h ⊢; exact h.mono hk
  | .exit id, σ, κ, κ', hk, h => hk _ _ h
  | .ret, σ, κ, κ', hk, h => hk _ _ h
  | .scope b, σ, κ, κ', hk, h => by unfold exec at h; exact h.elim
  | .rangeFunc .., σ, κ, κ', hk, h => by unfold exec at h ⊢; exact h.mono hk
  | .label l, σ, κ, κ', hk, h => by unfold exec at h; exact h.elim
  | .goto l, σ, κ, κ', hk, h => by unfold exec at h; exact h.elim
  | .refuse w, σ, κ, κ', hk, h => by unfold exec at h; exact h.elim
theorem contK_mono : ∀ (k : List KI) {Q Q' : Exit → St → Prop}, (∀ ex σ, Q ex σ → Q' ex σ) → ∀ ex σ, contK C k Q ex σ → contK C k Q' ex σ
  | [], Q, Q', h, ex, σ, hq => h ex σ hq
  | .code c :: k, Q, Q', h, ex, σ, hq => by
    unfold contK at hq ⊢
    cases ex with
    | normal => exact exec_mono c (contK_mono k h) hq
    | _ => exact contK_mono k h _ _ hq
  | .blk id :: k, Q, Q', h, ex, σ, hq => by
    unfold contK blockK at hq ⊢
    cases ex with
    | exit i =>
      simp only at hq ⊢
      by_cases hi : i = id
      · rw [if_pos hi] at hq ⊢; exact contK_mono k h _ _ hq
      · rw [if_neg hi] at hq ⊢; exact contK_mono k h _ _ hq
    | _ => exact contK_mono k h _ _ hq
  | .plan ops p :: k, Q, Q', h, ex, σ, hq => by
    unfold contK at hq ⊢
    cases ex with
    | normal =>
      have : ∀ (p : Plan) σ, goPlan C ops (contK C k Q .normal) p σ → goPlan C ops (contK C k Q' .normal) p σ := by
        intro p
        induction p with
        | done => exact fun σ h2 => contK_mono k h _ _ h2
        | stop => exact fun _ _ => trivial
        | first i p ih =>
          intro σ h2
          unfold goPlan opR at h2 ⊢
          cases hop : ops[i]? with
          | none => rw [hop] at h2; exact h2
          | some o => rw [hop] at h2; exact stepW_mono ih h2
        | fork i p q ihp ihq =>
          intro σ h2
          unfold goPlan at h2 ⊢
          refine ⟨?_, ihq σ h2.2⟩
          have h3 := h2.1
          unfold opR at h3 ⊢
          cases hop : ops[i]? with
          | none => rw [hop] at h3; exact h3
          | some o => rw [hop] at h3; exact stepW_mono ihp h3
      exact this p σ hq
    | _ => exact contK_mono k h _ _ hq
theorem run_mono {c : Code} {Q' : Exit → St → Prop} (hk : ∀ ex σ, Q ex σ → Q' ex σ) (h : run C c k σ Q) : run C c k σ Q' :=
  exec_mono c (contK_mono k hk) h
theorem loop_count (hC : C.Good) {b : Code} (S : Nat → St) (n : Nat) (hb : drawOk C b = true) (h0 : Weak C σ (S 0))
    (round : ∀ i, i < n → run C b [] (S i) (fun ex σ' => thenK (fun σ' => Weak C σ' (S (i + 1))) (fun ex σ' => cont C ex k σ' Q) ex σ'))
    (last : run C b [] (S n) (fun ex σ' => thenK (fun _ => False) (fun ex σ' => cont C ex k σ' Q) ex σ')) : loopR C b k σ Q := by
  refine loopR_of hC (α := {i : Nat // i ≤ n}) (fun i => S i.val) (fun i => n - i.val) ⟨0, by omega⟩ hb h0 ?_
  rintro ⟨i, hi⟩
  by_cases h : i < n
  · refine run_mono (k := []) ?_ (round i h)
    intro ex σ' hq
    cases ex with
    | normal => exact ⟨⟨i + 1, by omega⟩, by simp only; omega, hq⟩
    | _ => exact hq
  · obtain rfl : i = n := by omega
    refine run_mono (k := []) ?_ last
    intro ex σ' hq
    cases ex with
    | normal => exact hq.elim
    | _ => exact hq
end
end Go.Ax
namespace Go.Ax
section
variable {C : Cfg} {k : List KI} {σ : St} {Q : Exit → St → Prop} {all : Array Oper} {l : List Oper}
theorem condR_t (x y : Code) : condR C (.v (.bool true)) x y k σ Q = run C x k σ Q := by rw [condR_bool]; rfl
theorem condR_f (x y : Code) : condR C (.v (.bool false)) x y k σ Q = run C y k σ Q := by rw [condR_bool]; rfl
theorem wantR_tt (o : Oper) : wantR C (.v (.bool true)) true o all l k σ Q = stepV C o all l k σ Q := by rw [wantR_bool]; rfl
theorem wantR_ff (o : Oper) : wantR C (.v (.bool false)) false o all l k σ Q = stepV C o all l k σ Q := by rw [wantR_bool]; rfl
theorem wantR_tf (o : Oper) : wantR C (.v (.bool true)) false o all l k σ Q = opsR C all l k ⟨put σ.e o.dst (.tup []), σ.h⟩ Q := by rw [wantR_bool]; rfl
theorem wantR_ft (o : Oper) : wantR C (.v (.bool false)) true o all l k σ Q = opsR C all l k ⟨put σ.e o.dst (.tup []), σ.h⟩ Q := by rw [wantR_bool]; rfl
end
end Go.Ax
namespace Go.Ax
theorem weak_of {C : Cfg} {e : Env} {h h' : List Blk} {L : List (Nat × AV)} (hh : h = h') (hL : envAll e L) : Weak C ⟨e, h⟩ ⟨envL L, h'⟩ := hh ▸ weak_all hL
end Go.Ax
namespace Go.Ax
def nilK (kt : Kd) (n : Option Nat) (q : Bool) (y : AV) : Option (Nat × Bool) :=
  match kt, n, y with
  | .slice _, some n, .v (.slice none 0 0) => some (n, q)
  | _, _, _ => none
theorem nilCmp_eql {P : Program} {e : Env} (t t' : TypeId) (x y : Operand) : nilCmp P e (.binOp .eql t x y t') = nilK (kindT P t) (lenA (ev e x)) true (ev e y) := by
  unfold nilCmp nilK; rfl
theorem nilCmp_neq {P : Program} {e : Env} (t t' : TypeId) (x y : Operand) : nilCmp P e (.binOp .neq t x y t') = nilK (kindT P t) (lenA (ev e x)) false (ev e y) := by
  unfold nilCmp nilK; rfl
theorem nilK_some (b : Bool) (n : Nat) (q : Bool) : nilK (.slice b) (some n) q (.v (.slice none 0 0)) = some (n, q) := rfl
end Go.Ax
namespace Go.Ax
def bsK (h : List Blk) (n : Nat) (parts : List (Nat × AV)) : Option (List AV) → Option Nat → Option Out
  | some [.arr n' k l], some 1 => if n = n' ∧ n ≤ 16777216 then (layInts k parts l).map fun l' => .one (.sl h.length 0 1 0 n n) (h ++ [some [.arr n k l']]) else none
  | some [.lst 1 es], some 1 => if n ≤ 16777216 then (layOnes parts es).map fun es' => .one (.sl h.length 0 1 0 n n) (h ++ [some es']) else none
  | _, _ => none
theorem bsK_of {P : Program} {h : List Blk} {t : TypeId} {n : Nat} {parts : List (Nat × AV)} : buildSliceA P h t n parts = bsK h n parts (elemZero P t n) (elemSize P t) := rfl
theorem bsK_ints (h : List Blk) (n : Nat) (parts : List (Nat × AV)) (k : IntKind) (l : List Int) : bsK h n parts (some [.arr n k l]) (some 1) =
    if n ≤ 16777216 then (layInts k parts l).map fun l' => .one (.sl h.length 0 1 0 n n) (h ++ [some [.arr n k l']]) else none := by simp [bsK]
theorem bsK_ones (h : List Blk) (n : Nat) (parts : List (Nat × AV)) (es : List AV) : bsK h n parts (some [.lst 1 es]) (some 1) =
    if n ≤ 16777216 then (layOnes parts es).map fun es' => .one (.sl h.length 0 1 0 n n) (h ++ [some es']) else none := rfl
def moK (h : List Blk) (kt : Kd) (z : Option (IntKind × Int)) (x : AV) : Option (IntKind × List Int) :=
  match kt with
  | .slice _ => intsOf h x
  | .int _ => match x, z with
    | .v (.int .i64 n), some (k, z) => oguard (0 ≤ n ∧ n ≤ 1073741824) (some (k, List.replicate n.toNat z))
    | _, _ => none
  | _ => none
theorem moK_of {P : Program} {h : List Blk} {kt : Kd} {t : TypeId} {x : AV} : moreA P h kt t x = moK h kt (elemZ P t) x := rfl
theorem moK_slice (h : List Blk) (b : Bool) (z : Option (IntKind × Int)) (x : AV) : moK h (.slice b) z x = intsOf h x := rfl
theorem moK_int (h : List Blk) (i : IntKind) (k : IntKind) (z n : Int) : moK h (.int i) (some (k, z)) (.v (.int .i64 n)) = oguard (0 ≤ n ∧ n ≤ 1073741824) (some (k, List.replicate n.toNat z)) := rfl
def apK (h : List Blk) (s : AV) (ok : Option IntKind) (ob : Option Nat) (om : Option (IntKind × List Int)) : Option Out :=
  match ok, ob, om with
  | some k, some bytes, some (k', m) =>
    if k = k' then
      match s with
      | .v (.slice none 0 0) => oguard (m.length * bytes ≤ 140737488355328 ∧ m.length ≤ 9223372036854775807) (some (.cap m.length fun c => (.sl h.length 0 1 0 m.length c, h ++ [some [.arr m.length k m]])))
      | .sl b base sz off len cap =>
        match row h b with
        | some (.arr n kk l :: _) =>
          if sz = 1 ∧ base = 0 ∧ kk = k then
            if off = 0 then
              oguard (len ≤ n ∧ (len + m.length) * bytes ≤ 140737488355328 ∧ len + m.length ≤ 9223372036854775807)
                (some (.cap (len + m.length) fun c => (.sl h.length 0 1 0 (len + m.length) c, h.set b none ++ [some [.arr (len + m.length) k (l.take len ++ m)]])))
            else
              oguard (off + len ≤ n ∧ cap < len + m.length ∧ (len + m.length) * bytes ≤ 140737488355328 ∧ len + m.length ≤ 9223372036854775807)
                (some (.cap (len + m.length) fun c => (.sl h.length 0 1 0 (len + m.length) c, h ++ [some [.arr (len + m.length) k ((l.drop off).take len ++ m)]])))
          else none
        | _ => none
      | _ => none
    else none
  | _, _, _ => none
theorem apK_of {P : Program} {h : List Blk} {t xT : TypeId} {s x : AV} : appendA P h t xT s x = apK h s (intElem P t) (elemBytes P t) (moreA P h (kindT P xT) t x) := by
  unfold appendA apK
  rfl
def apR (h : List Blk) (b off len cap : Nat) (k : IntKind) (bytes : Nat) (m : List Int) : Option (List AV) → Option Out
  | some (.arr n kk l :: _) =>
    if kk = k then
      if off = 0 then
        oguard (len ≤ n ∧ (len + m.length) * bytes ≤ 140737488355328 ∧ len + m.length ≤ 9223372036854775807)
          (some (.cap (len + m.length) fun c => (.sl h.length 0 1 0 (len + m.length) c, h.set b none ++ [some [.arr (len + m.length) k (l.take len ++ m)]])))
      else
        oguard (off + len ≤ n ∧ cap < len + m.length ∧ (len + m.length) * bytes ≤ 140737488355328 ∧ len + m.length ≤ 9223372036854775807)
          (some (.cap (len + m.length) fun c => (.sl h.length 0 1 0 (len + m.length) c, h ++ [some [.arr (len + m.length) k ((l.drop off).take len ++ m)]])))
    else none
  | _ => none
theorem apK_nil (h : List Blk) (k : IntKind) (bytes : Nat) (m : List Int) : apK h (.v (.slice none 0 0)) (some k) (some bytes) (some (k, m)) =
    oguard (m.length * bytes ≤ 140737488355328 ∧ m.length ≤ 9223372036854775807) (some (.cap m.length fun c => (.sl h.length 0 1 0 m.length c, h ++ [some [.arr m.length k m]]))) := by simp [apK]
theorem apK_sl (h : List Blk) (b off len cap : Nat) (k : IntKind) (bytes : Nat) (m : List Int) : apK h (.sl b 0 1 off len cap) (some k) (some bytes) (some (k, m)) = apR h b off len cap k bytes m (row h b) := by
  unfold apK apR
  simp only [if_true, true_and]
theorem apR_0 (h : List Blk) (b len cap : Nat) (k : IntKind) (bytes : Nat) (m : List Int) (n : Nat) (l : List Int) (r : List AV) : apR h b 0 len cap k bytes m (some (.arr n k l :: r)) =
    oguard (len ≤ n ∧ (len + m.length) * bytes ≤ 140737488355328 ∧ len + m.length ≤ 9223372036854775807)
          (some (.cap (len + m.length) fun c => (.sl h.length 0 1 0 (len + m.length) c, h.set b none ++ [some [.arr (len + m.length) k (l.take len ++ m)]]))) := by simp [apR]
theorem apK_no (h : List Blk) (s : AV) (ob : Option Nat) (om : Option (IntKind × List Int)) : apK h s none ob om = none := rfl
theorem akeep_no {P : Program} {h : List Blk} {t xT : TypeId} {s x : AV} (hi : intElem P t = none) : appendKeepA P h t xT s x = none := by unfold appendKeepA; rw [hi]
def alK (h : List Blk) (s : AV) (ob : Option Nat) (kd : Kd) (om ol : Option (List AV)) : Option Out :=
  match ob, kd, om, ol, s with
  | some bytes, .slice _, some m, some l, .sl b _ _ _ _ _ =>
    oguard ((l.length + m.length) * bytes ≤ 140737488355328 ∧ l.length + m.length ≤ 9223372036854775807)
      (some (.cap (l.length + m.length) fun c => (.sl h.length 0 1 0 (l.length + m.length) c, h.set b none ++ [some (l ++ m)])))
  | some bytes, .slice _, some m, some _, .v (.slice none 0 0) =>
    oguard (m.length * bytes ≤ 140737488355328 ∧ m.length ≤ 9223372036854775807)
      (some (.cap m.length fun c => (.sl h.length 0 1 0 m.length c, h ++ [some m])))
  | _, _, _, _, _ => none
theorem alK_of {P : Program} {h : List Blk} {t xT : TypeId} {s x : AV} : appendLA P h t xT s x = alK h s (listB P t) (kindT P xT) (listOf h x) (listOf h s) := rfl
theorem alK_sl (h : List Blk) (b b1 b2 b3 b4 b5 bytes : Nat) (f : Bool) (m l : List AV) : alK h (.sl b b1 b2 b3 b4 b5) (some bytes) (.slice f) (some m) (some l) =
    oguard ((l.length + m.length) * bytes ≤ 140737488355328 ∧ l.length + m.length ≤ 9223372036854775807)
      (some (.cap (l.length + m.length) fun c => (.sl h.length 0 1 0 (l.length + m.length) c, h.set b none ++ [some (l ++ m)]))) := rfl
theorem alK_nil (h : List Blk) (bytes : Nat) (f : Bool) (m l : List AV) : alK h (.v (.slice none 0 0)) (some bytes) (.slice f) (some m) (some l) =
    oguard (m.length * bytes ≤ 140737488355328 ∧ m.length ≤ 9223372036854775807)
      (some (.cap m.length fun c => (.sl h.length 0 1 0 m.length c, h ++ [some m]))) := rfl
def loK (len : Nat) (o : Option (List AV)) : Option (List AV) := o.bind fun ps => oguard (ps.all (fun p => p.one) = true ∧ len ≤ ps.length) (some (ps.take len))
theorem loK_some (len : Nat) (ps : List AV) : loK len (some ps) = oguard (ps.all (fun p => p.one) = true ∧ len ≤ ps.length) (some (ps.take len)) := rfl
theorem listOf_roL (h : List Blk) (es : List AV) : listOf h (.roL 1 es) = some es := rfl
theorem listOf_nil (h : List Blk) : listOf h (.v (.slice none 0 0)) = some [] := rfl
theorem listOf_sl (h : List Blk) (b len cap : Nat) : listOf h (.sl b 0 1 0 len cap) = loK len (row h b) := rfl
theorem or_guard {α : Type} {c : Prop} [Decidable c] {x : α} {y : Option α} (h : c) : (oguard c (some x)).or y = some x := by rw [ar_guard h]; rfl
end Go.Ax
namespace Go.Ax
theorem intsOf_arr {h : List Blk} {b n off len cap : Nat} {k : IntKind} {l : List Int} {r : List AV} (hrow : row h b = some (.arr n k l :: r)) (h1 : off + len ≤ n) :
    intsOf h (.sl b 0 1 off len cap) = some (k, (l.drop off).take len) := by
  unfold intsOf
  simp only [if_true, hrow, Option.bind_some, rowDrop]
  exact ar_guard h1
theorem Frz.arr {h : List Blk} {B : List Nat} {b n off len cap : Nat} {k : IntKind} {l l' : List Int} {r : List AV} (hb : b ∈ B) (hrow : row h b = some (.arr n k l :: r)) (h1 : off + len ≤ n)
    (h2 : (l.drop off).take len = l') : Frz h B (.sl b 0 1 off len cap) (.roI k l') := Frz.ints hb (by rw [intsOf_arr hrow h1, h2])
end Go.Ax
namespace Go.Ax
section
variable {C : Cfg} {k : List KI} {σ : St} {Q : Exit → St → Prop}
theorem loop_countE (hC : C.Good) {α : Type} {b : Code} (S : Nat → α → St) (n : Nat) (hb : drawOk C b = true) (h0 : ∃ a, Weak C σ (S 0 a))
    (round : ∀ i a, i < n → run C b [] (S i a) (fun ex σ' => thenK (fun σ' => ∃ a', Weak C σ' (S (i + 1) a')) (fun ex σ' => cont C ex k σ' Q) ex σ'))
    (last : ∀ a, run C b [] (S n a) (fun ex σ' => thenK (fun _ => False) (fun ex σ' => cont C ex k σ' Q) ex σ')) : loopR C b k σ Q := by
  obtain ⟨a0, h0⟩ := h0
  refine loopR_of hC (α := {i : Nat // i ≤ n} × α) (fun i => S i.1.val i.2) (fun i => n - i.1.val) (⟨0, by omega⟩, a0) hb h0 ?_
  rintro ⟨⟨i, hi⟩, a⟩
  by_cases h : i < n
  · refine run_mono (k := []) ?_ (round i a h)
    intro ex σ' hq
    cases ex with
    | normal =>
      obtain ⟨a', hq⟩ := hq
      exact ⟨(⟨i + 1, by omega⟩, a'), by simp only; omega, hq⟩
    | _ => exact hq
  · obtain rfl : i = n := by omega
    refine run_mono (k := []) ?_ (last a)
    intro ex σ' hq
    cases ex with
    | normal => exact hq.elim
    | _ => exact hq
end
theorem roL_get (k : IntKind) (ms : List (List Int)) (i : Nat) (h : i < ms.length) : (ms.map (AV.roI k)).getD i AV.any = .roI k (ms.getD i []) := by
  simp [List.getD_eq_getElem?_getD, h]
theorem callC_fr {C : Cfg} {k : List KI} {Q : Exit → St → Prop} {all : Array Oper} {l : List Oper} {e : Env} {h : List Blk} {d : Option Tmp} {f : FuncId} {argsC : List AV} {hc : List Blk} {R : AV → List Blk → Prop}
    (π : List Nat) (spec : ACall C.P f argsC hc R) {args : List AV}
    (hargs : args = renL (frameMap π h.length) argsC) (hblk : π.map (fun p => h[p]?) = hc.map (fun x => some (renB (frameMap π h.length) x))) (hπ : π.Nodup)
    (hκ : ∀ av h', R av h' → opsR C all l k ⟨put e d (av.ren (frameMap π h.length)), overwrite h π (h'.map (renB (frameMap π h.length)))⟩ Q) : callC C f args d all l k e h Q := by
  have hlen : hc.length = π.length := by simpa using (congrArg List.length hblk).symm
  have hat : ∀ j, j < π.length → h[π.getD j 0]? = (hc[j]?).map (renB (frameMap π h.length)) := by
    intro j hj
    have := congrArg (fun l : List (Option Blk) => l[j]?) hblk
    simp only [List.getElem?_map, List.getElem?_eq_getElem hj, List.getElem?_eq_getElem (hlen ▸ hj : j < hc.length), Option.map_some, Option.some.injEq] at this
    rw [List.getD_eq_getElem?_getD, List.getElem?_eq_getElem hj, Option.getD_some, this, List.getElem?_eq_getElem (hlen ▸ hj : j < hc.length)]
    rfl
  refine callC_frame spec π hargs hlen hπ ?_ hat hκ
  intro p hp
  obtain ⟨j, hj, rfl⟩ := List.mem_iff_getElem.1 hp
  have := hat j hj
  rw [List.getD_eq_getElem?_getD, List.getElem?_eq_getElem hj, Option.getD_some, List.getElem?_eq_getElem (hlen ▸ hj : j < hc.length)] at this
  exact (List.getElem?_eq_some_iff.1 this).1
end Go.Ax
namespace Go.Ax
theorem take_range (f : Nat → Int) (i : Nat) : ((List.range i).map f).take i = (List.range i).map f := List.take_of_length_le (by simp)
theorem rep_one {α : Type} (a : α) : List.replicate 1 a = [a] := rfl
theorem take_one {α : Type} (a : α) : [a].take 1 = [a] := rfl
theorem range_snoc (f : Nat → Int) (i : Nat) : (List.range (i + 1)).map f = (List.range i).map f ++ [f i] := by rw [List.range_succ, List.map_append]; rfl
end Go.Ax

namespace Go.Ax

def rotL (x n : Int) : Int :=
  IntKind.u64.wrap ((BitVec.ofInt IntKind.u64.bits (shl IntKind.u64 x (IntKind.u64.wrap ↑(BitVec.ofInt IntKind.u64.bits (IntKind.u64.wrap n) &&& BitVec.ofInt IntKind.u64.bits 63).toNat)) |||
    BitVec.ofInt IntKind.u64.bits (shr IntKind.u64 x (IntKind.u64.wrap (64 - IntKind.u64.wrap ↑(BitVec.ofInt IntKind.u64.bits (IntKind.u64.wrap n) &&& BitVec.ofInt IntKind.u64.bits 63).toNat)))).toNat : Int)

def rotR (n x : Int) : Int :=
  IntKind.u64.wrap ((BitVec.ofInt IntKind.u64.bits (shr IntKind.u64 x n) ||| BitVec.ofInt IntKind.u64.bits (shl IntKind.u64 x (IntKind.i64.wrap (64 - n)))).toNat : Int)

theorem rot_eq (x n m s : Int) (h1 : IntKind.u64.wrap ↑(BitVec.ofInt IntKind.u64.bits (IntKind.u64.wrap m) &&& BitVec.ofInt IntKind.u64.bits 63).toNat = s)
    (h2 : IntKind.u64.wrap (64 - s) = n) (h3 : IntKind.i64.wrap (64 - n) = s) : rotL x m = rotR n x := by
  unfold rotL rotR
  rw [h1, h2, h3, BitVec.or_comm]

theorem rot32 (x : Int) : rotL x (IntKind.i64.wrap (-32)) = rotR 32 x := rot_eq x 32 _ 32 (by decide) (by decide) (by decide)
theorem rot24 (x : Int) : rotL x (IntKind.i64.wrap (-24)) = rotR 24 x := rot_eq x 24 _ 40 (by decide) (by decide) (by decide)
theorem rot16 (x : Int) : rotL x (IntKind.i64.wrap (-16)) = rotR 16 x := rot_eq x 16 _ 48 (by decide) (by decide) (by decide)
theorem rot63 (x : Int) : rotL x (IntKind.i64.wrap (-63)) = rotR 63 x := rot_eq x 63 _ 1 (by decide) (by decide) (by decide)

theorem wrap_u64 (x : Int) : IntKind.u64.wrap x = x % 18446744073709551616 := by
  unfold IntKind.wrap
  simp [IntKind.bits, IntKind.signed]
theorem u64_nonneg (x : Int) : 0 ≤ IntKind.u64.wrap x := by rw [wrap_u64]; omega
theorem u64_add_l (x y : Int) : IntKind.u64.wrap (IntKind.u64.wrap x + y) = IntKind.u64.wrap (x + y) := by simp only [wrap_u64]; omega
theorem u64_add_r (x y : Int) : IntKind.u64.wrap (x + IntKind.u64.wrap y) = IntKind.u64.wrap (x + y) := by simp only [wrap_u64]; omega

def xorU (x y : Int) : Int := IntKind.u64.wrap ((BitVec.ofInt IntKind.u64.bits x ^^^ BitVec.ofInt IntKind.u64.bits y).toNat : Int)
def orU (x y : Int) : Int := IntKind.u64.wrap ((BitVec.ofInt IntKind.u64.bits x ||| BitVec.ofInt IntKind.u64.bits y).toNat : Int)

def addx (v : List Int) (a b : Nat) (x : Int) : List Int := v.set a (IntKind.u64.wrap (v.getD a 0 + (v.getD b 0 + x)))
def addp (v : List Int) (c d : Nat) : List Int := v.set c (IntKind.u64.wrap (v.getD c 0 + v.getD d 0))
def rotp (n : Int) (v : List Int) (d a : Nat) : List Int := v.set d (rotR n (xorU (v.getD d 0) (v.getD a 0)))
theorem addx_eq (v : List Int) (a b : Nat) (x : Int) : v.set a (IntKind.u64.wrap (v.getD a 0 + (v.getD b 0 + x))) = addx v a b x := rfl
theorem addp_eq (v : List Int) (c d : Nat) : v.set c (IntKind.u64.wrap (v.getD c 0 + v.getD d 0)) = addp v c d := rfl
theorem rotp_eq (n : Int) (v : List Int) (d a : Nat) : v.set d (rotR n (xorU (v.getD d 0) (v.getD a 0))) = rotp n v d a := rfl
theorem xorU_eq (x y : Int) : IntKind.u64.wrap ((BitVec.ofInt IntKind.u64.bits x ^^^ BitVec.ofInt IntKind.u64.bits y).toNat : Int) = xorU x y := rfl
theorem orU_eq (x y : Int) : IntKind.u64.wrap ((BitVec.ofInt IntKind.u64.bits x ||| BitVec.ofInt IntKind.u64.bits y).toNat : Int) = orU x y := rfl

def mixL (v : List Int) (a b c d : Nat) (x y : Int) : List Int :=
  rotp 63 (addp (rotp 16 (addx (rotp 24 (addp (rotp 32 (addx v a b x) d a) c d) b c) a b y) d a) c d) b c
theorem mixL_length (v : List Int) (a b c d : Nat) (x y : Int) : (mixL v a b c d x y).length = v.length := by simp [mixL, rotp, addp, addx]

def digitI (c : Int) : Int := if c ≥ 97 then IntKind.i64.wrap (IntKind.i64.wrap (IntKind.i64.wrap c - 97) + 10) else IntKind.i64.wrap (IntKind.i64.wrap c - 48)

theorem i64_id (x : Int) (h : -9223372036854775808 ≤ x ∧ x < 9223372036854775808) : IntKind.i64.wrap x = x := by
  unfold IntKind.wrap
  simp only [IntKind.bits, IntKind.signed]
  simp
  omega

def sigma : List Nat := [0,1,2,3,4,5,6,7,8,9,10,11,12,13,14,15, 14,10,4,8,9,15,13,6,1,12,0,2,11,7,5,3, 11,8,12,0,5,2,15,13,10,14,3,6,7,1,9,4, 7,9,3,1,13,12,11,14,2,6,5,10,4,0,15,8,
  9,0,5,7,2,4,10,15,14,1,11,12,6,8,3,13, 2,12,6,10,0,11,8,3,4,13,7,5,15,14,1,9, 12,5,1,15,14,13,4,10,0,7,6,3,9,2,8,11, 13,11,7,14,12,1,3,9,5,0,15,4,8,6,2,10, 6,15,14,9,11,3,0,8,12,2,13,7,1,4,10,5,
  10,2,8,4,7,6,1,5,15,11,9,14,3,12,13,0]

theorem tdiv_nat (a b : Nat) : (a : Int).tdiv (b : Int) = ((a / b : Nat) : Int) := rfl
theorem tdiv8 (a : Nat) : (a : Int).tdiv 8 = ((a / 8 : Nat) : Int) := rfl
theorem tmod8 (a : Nat) : (a : Int).tmod 8 = ((a % 8 : Nat) : Int) := rfl
theorem tmod10 (a : Nat) : (a : Int).tmod 10 = ((a % 10 : Nat) : Int) := rfl
theorem tmod4 (a : Nat) : (a : Int).tmod 4 = ((a % 4 : Nat) : Int) := rfl
theorem tdiv4 (a : Nat) : (a : Int).tdiv 4 = ((a / 4 : Nat) : Int) := rfl
theorem i64_nat (n : Nat) (h : n < 9223372036854775808) : IntKind.i64.wrap (n : Int) = (n : Int) := i64_id _ (by omega)
def wordsAt (p : List Int) : Nat → List Int
  | 0 => List.replicate 16 0
  | i + 1 => (wordsAt p i).set (i / 8) (orU ((wordsAt p i).getD (i / 8) 0) (shl IntKind.u64 (IntKind.u64.wrap (p.getD i 0)) (8 * (i % 8) : Nat)))

def firstL : List Int := [7640891576956012808, 13503953896175478587, 4354685564936845355, 11912009170470909681, 5840696475078001361, 11170449401992604703, 2270897969802886507, 6620516959819538809]

def vInit (h : List Int) (t : Int) (last : Bool) : List Int :=
  if last = true then ((h ++ firstL).set 12 (xorU ((h ++ firstL).getD 12 0) t)).set 14 (xorU IntKind.u64.max (((h ++ firstL).set 12 (xorU ((h ++ firstL).getD 12 0) t)).getD 14 0))
  else (h ++ firstL).set 12 (xorU ((h ++ firstL).getD 12 0) t)
def roundK (w v : List Int) (r k : Nat) : List Int :=
  mixL v (k % 4) (4 + (k + k / 4) % 4) (8 + (k + 2 * (k / 4)) % 4) (12 + (k + 3 * (k / 4)) % 4)
    (w.getD (sigma.getD (16 * (r % 10) + 2 * k) 0) 0) (w.getD (sigma.getD (16 * (r % 10) + (2 * k + 1)) 0) 0)
def roundAt (w v : List Int) (r : Nat) : Nat → List Int
  | 0 => v
  | k + 1 => roundK w (roundAt w v r k) r k
def allAt (w v : List Int) : Nat → List Int
  | 0 => v
  | r + 1 => roundAt w (allAt w v r) r 8
def outAt (h v : List Int) : Nat → List Int
  | 0 => h
  | i + 1 => (outAt h v i).set i (xorU ((outAt h v i).getD i 0) (xorU (v.getD i 0) (v.getD (8 + i) 0)))
def pieceL (h p : List Int) (t : Int) (last : Bool) : List Int := outAt h (allAt (wordsAt p 128) (vInit h t last) 12) 8

theorem roundAt_length (w v : List Int) (r : Nat) : ∀ k, (roundAt w v r k).length = v.length
  | 0 => rfl
  | k + 1 => by simp only [roundAt, roundK, mixL_length, roundAt_length w v r k]
theorem allAt_length (w v : List Int) : ∀ r, (allAt w v r).length = v.length
  | 0 => rfl
  | r + 1 => by simp only [allAt, roundAt_length, allAt_length w v r]
theorem outAt_length (h v : List Int) : ∀ i, (outAt h v i).length = h.length
  | 0 => rfl
  | i + 1 => by simp only [outAt, List.length_set, outAt_length h v i]
theorem wordsAt_length (p : List Int) : ∀ i, (wordsAt p i).length = 16
  | 0 => rfl
  | i + 1 => by simp only [wordsAt, List.length_set, wordsAt_length p i]
theorem vInit_length (h : List Int) (t : Int) (last : Bool) (hh : h.length = 8) : (vInit h t last).length = 16 := by
  unfold vInit; split <;> simp [hh, firstL]
theorem pieceL_length (h p : List Int) (t : Int) (last : Bool) : (pieceL h p t last).length = h.length := outAt_length _ _ _

theorem ofInt_wrap (b : BitVec IntKind.u64.bits) : BitVec.ofInt IntKind.u64.bits (IntKind.u64.wrap (b.toNat : Int)) = b := by
  rw [wrap_u64]
  have h : b.toNat < 2 ^ 64 := b.isLt
  apply BitVec.eq_of_toNat_eq
  rw [BitVec.toNat_ofInt]
  show ((b.toNat : Int) % 18446744073709551616 % ((2 ^ 64 : Nat) : Int)).toNat = b.toNat
  omega
theorem xorU_assoc (x y z : Int) : xorU (xorU x y) z = xorU x (xorU y z) := by
  unfold xorU
  rw [ofInt_wrap, ofInt_wrap, BitVec.xor_assoc]
def layAt (h : List Int) : Nat → List Int
  | 0 => List.replicate 16 0
  | i + 1 => ((layAt h i).set i (h.getD i 0)).set (8 + i) (firstL.getD i 0)
theorem layAt_eq (h : List Int) (hh : h.length = 8) : layAt h 8 = h ++ firstL := by
  match h, hh with
  | [a, b, c, d, e, f, g, i], _ => rfl
end Go.Ax

namespace Go.Ax
def qOf (n : Nat) : Nat := (n - 1) / 128
def pieces (h : List Int) (all : List Int) : Nat → List Int
  | 0 => h
  | i + 1 => pieceL (pieces h all i) ((all.drop (128 * i)).take 128) ((128 * i + 128 : Nat) : Int) false
theorem pieces_len (h all : List Int) : ∀ i, (pieces h all i).length = h.length
  | 0 => rfl
  | i + 1 => by simp only [pieces, pieceL_length, pieces_len h all i]
theorem pieces_app (h all m : List Int) : ∀ i, 128 * i ≤ all.length → pieces h (all ++ m) i = pieces h all i
  | 0, _ => rfl
  | i + 1, hi => by
    simp only [pieces]
    rw [pieces_app h all m i (by omega), List.drop_append_of_le_length (by omega), List.take_append_of_le_length (by rw [List.length_drop]; omega)]
def hState (h0 : List Int) (size : Nat) (all : List Int) (c b : Nat) : List AV :=
  [.arr 8 .u64 (pieces h0 all (qOf all.length)), .v (.int .i64 size), .sl b 0 1 0 (all.length - 128 * qOf all.length) c, .v (.int .u64 ((128 * qOf all.length : Nat) : Int))]
def hRest (all : List Int) : List AV := [.arr (all.length - 128 * qOf all.length) .u8 (all.drop (128 * qOf all.length))]
theorem qOf_le (n : Nat) : 128 * qOf n ≤ n := by unfold qOf; omega
end Go.Ax
namespace Go.Ax
def padL (r : List Int) : List Int := r ++ List.replicate (128 - r.length) 0
def byteAt (s : List Int) (i : Nat) : Int := IntKind.u8.wrap (shr IntKind.u64 (s.getD (i / 8) 0) ((8 * (i % 8) : Nat) : Int))
def paramL (n : Nat) (key : List Int) : List Int := firstL.set 0 (xorU (firstL.getD 0 0) (xorU (xorU 16842752 (shl IntKind.u64 (key.length : Nat) 8)) n))
theorem paramL_len (n : Nat) (key : List Int) : (paramL n key).length = 8 := rfl
theorem padL_len (r : List Int) (h : r.length ≤ 128) : (padL r).length = 128 := by simp [padL, h]
def keyB (key : List Int) : List Int := if key.length = 0 then [] else padL key
def digestL (h0 : List Int) (n : Nat) (all : List Int) : List Int := (List.range n).map (byteAt (pieceL (pieces h0 all (qOf all.length)) (padL (all.drop (128 * qOf all.length))) (all.length : Nat) true))
def blakeL (n : Nat) (key msg : List Int) : List Int := digestL (paramL n key) n (keyB key ++ msg)
theorem digestL_len (h0 : List Int) (n : Nat) (all : List Int) : (digestL h0 n all).length = n := by simp [digestL]
theorem keyB_len (key : List Int) (h : key.length ≤ 64) : (keyB key).length ≤ 128 := by
  unfold keyB; split
  · simp
  · rw [padL_len key (by omega)]; omega
end Go.Ax
namespace Go.Ax
theorem hState_ren (f : Nat → Nat) (h0 : List Int) (size : Nat) (all : List Int) (c b : Nat) : renL f (hState h0 size all c b) = hState h0 size all c (f b) := rfl
theorem hRest_ren (f : Nat → Nat) (all : List Int) : renL f (hRest all) = hRest all := rfl
theorem flat_take (ms : List (List Int)) (i : Nat) (h : i < ms.length) : (ms.take (i + 1)).flatten = (ms.take i).flatten ++ ms.getD i [] := by
  rw [List.take_succ_eq_append_getElem h, List.flatten_append]
  simp [List.getD_eq_getElem?_getD, h]
theorem flat_le (ms : List (List Int)) (i : Nat) : (ms.take i).flatten.length ≤ ms.flatten.length := by
  have h := congrArg (fun l : List (List Int) => l.flatten.length) (List.take_append_drop i ms)
  simp only [List.flatten_append, List.length_append] at h
  omega
end Go.Ax
namespace Go.Ax
theorem param_eq (n : Nat) (key : List Int) (x : Int) (hx : x = shl IntKind.u64 (key.length : Nat) 8) : firstL.set 0 (xorU (xorU (xorU (firstL.getD 0 0) 16842752) x) n) = paramL n key := by
  subst hx; unfold paramL; rw [xorU_assoc, xorU_assoc, xorU_assoc]
theorem range_getD (l : List Int) : ∀ (a m : Nat), a + m ≤ l.length → (List.range m).map (fun j => l.getD (a + j) 0) = (l.drop a).take m
  | a, 0, _ => by simp
  | a, m + 1, h => by
    rw [List.range_succ, List.map_append, range_getD l a m (by omega), List.take_succ_eq_append_getElem (by rw [List.length_drop]; omega)]
    simp [List.getD_eq_getElem?_getD, show a + m < l.length by omega]
theorem fill_piece (l : List Int) (a m : Nat) (hm : m = min 128 (l.length - a)) (ha : a ≤ l.length) : fillAt (fun j => l.getD (a + j) 0) (List.replicate 128 0) m = padL ((l.drop a).take 128) := by
  rw [fillAt_eq _ _ _ (by simp; omega), range_getD l a m (by omega), List.drop_replicate]
  unfold padL
  have h1 : (l.drop a).take m = (l.drop a).take 128 := by
    rw [hm]
    rcases Nat.le_total 128 (l.length - a) with h | h
    · rw [Nat.min_eq_left h]
    · rw [Nat.min_eq_right h, List.take_of_length_le (by simp), List.take_of_length_le (by rw [List.length_drop]; omega)]
  rw [h1]
  congr 2
  simp; omega
theorem padL_full (r : List Int) (h : r.length = 128) : padL r = r := by simp [padL, h]
def refAt (h0 all : List Int) (i : Nat) : List Int :=
  if qOf all.length < i then pieceL (pieces h0 all (qOf all.length)) (padL (all.drop (128 * qOf all.length))) (all.length : Nat) true else pieces h0 all i
theorem refAt_len (h0 all : List Int) (i : Nat) : (refAt h0 all i).length = h0.length := by unfold refAt; split <;> simp [pieceL_length, pieces_len]
theorem refAt_lo (h0 all : List Int) (i : Nat) (h : i ≤ qOf all.length) : refAt h0 all i = pieces h0 all i := by unfold refAt; rw [if_neg (by omega)]
theorem refAt_hi (h0 all : List Int) : refAt h0 all (qOf all.length + 1) = pieceL (pieces h0 all (qOf all.length)) (padL (all.drop (128 * qOf all.length))) (all.length : Nat) true := by unfold refAt; rw [if_pos (by omega)]
end Go.Ax

namespace Go.Ax
def u8Of (h : List Blk) (x : AV) : Option (List Int) :=
  match x with
  | .roI .u8 l => some l
  | .v (.slice none 0 0) => some []
  | .sl b base sz off len cap =>
    if sz = 1 then
      match intsOf h (.sl b base 1 off len cap) with
      | some (.u8, l) => some l
      | _ => none
    else none
  | _ => none
def allOf (f : AV → Option (List Int)) : List AV → Option (List (List Int))
  | [] => some []
  | x :: xs => (f x).bind fun a => (allOf f xs).map fun l => a :: l
def u8sOf (h : List Blk) (x : AV) : Option (List (List Int)) :=
  match x with
  | .roL 1 es => allOf (u8Of []) es
  | .v (.slice none 0 0) => some []
  | .sl b base sz off len _ =>
    if base = 0 ∧ sz = 1 then
      (row h b).bind fun ps => oguard (off + len ≤ ps.length ∧ ps.all AV.solid = true) (allOf (u8Of h) ((ps.drop off).take len))
    else none
  | _ => none
theorem row_lt {h : List Blk} {b : Nat} {ps : List AV} (e : row h b = some ps) : b < h.length := (List.getElem?_eq_some_iff.1 (row_some e)).1
theorem u8Of_frz {h : List Blk} {x : AV} {l : List Int} (e : u8Of h x = some l) : Frz h (List.range h.length) x (.roI .u8 l) := by
  unfold u8Of at e
  split at e
  · cases e; exact Frz.same _
  · cases e; exact Frz.nil _
  · rename_i b base sz off len cap
    split at e
    · rename_i hs
      subst hs
      split at e
      · rename_i l' hi
        cases e
        refine Frz.ints ?_ hi
        unfold intsOf at hi
        simp only [if_true] at hi
        obtain ⟨ps, hr, _⟩ := Option.bind_eq_some_iff.1 hi
        exact List.mem_range.2 (row_lt hr)
      · cases e
    · cases e
  · cases e
theorem allOf_frz {h : List Blk} {f : AV → Option (List Int)} (hf : ∀ x l, f x = some l → Frz h (List.range h.length) x (.roI .u8 l)) : ∀ {es : List AV} {ms : List (List Int)}, allOf f es = some ms → FrzL h (List.range h.length) es (ms.map (AV.roI .u8))
  | [], ms, e => by cases e; exact trivial
  | x :: xs, ms, e => by
    unfold allOf at e
    obtain ⟨a, ha, e⟩ := Option.bind_eq_some_iff.1 e
    obtain ⟨l, hl, e⟩ := Option.map_eq_some_iff.1 e
    subst e
    exact ⟨hf x a ha, allOf_frz hf hl⟩
theorem allOf_ro (ms : List (List Int)) (h : List Blk) : allOf (u8Of h) (ms.map (AV.roI .u8)) = some ms := by
  induction ms with
  | nil => rfl
  | cons m ms ih => simp only [List.map_cons, allOf, ih, u8Of, Option.bind_some, Option.map_some]
theorem u8Of_ro {e : AV} {l : List Int} (h : u8Of [] e = some l) : e = .roI .u8 l ∨ (l = [] ∧ e = .v (.slice none 0 0)) := by
  unfold u8Of at h
  split at h
  · cases h; exact .inl rfl
  · cases h; exact .inr ⟨rfl, rfl⟩
  · split at h
    · simp [intsOf, row] at h
    · cases h
  · cases h
theorem u8sOf_frz {h : List Blk} {x : AV} {ms : List (List Int)} (e : u8sOf h x = some ms) : Frz h (List.range h.length) x (.roL 1 (ms.map (AV.roI .u8))) := by
  unfold u8sOf at e
  split at e
  · rename_i es
    intro X X' w ρ v hh hx hv
    have hk := (Frz.same (h := h) (B := List.range h.length) (.roL 1 es)) X X' w ρ v hh hx hv
    simp only [AV.relV, AV.rel] at hk ⊢
    obtain ⟨vs, h1, h2, h3⟩ := hk
    have key : ∀ (es : List AV) (ms : List (List Int)) (vs : List Value), allOf (u8Of []) es = some ms → relAll X' w [] es vs → relAll X' w [] (ms.map (AV.roI .u8)) vs ∧ ms.length = es.length := by
      intro es
      induction es with
      | nil => intro ms vs e h; cases e; exact ⟨h, rfl⟩
      | cons x xs ih =>
        intro ms vs e h
        unfold allOf at e
        obtain ⟨a, ha, e⟩ := Option.bind_eq_some_iff.1 e
        obtain ⟨l, hl, e⟩ := Option.map_eq_some_iff.1 e
        subst e
        simp only [relAll, List.map_cons] at h ⊢
        obtain ⟨c, d, h0, h4, h5⟩ := h
        obtain ⟨h6, h7⟩ := ih l d hl h5
        refine ⟨⟨c, d, h0, ?_, h6⟩, by simp [h7]⟩
        rcases u8Of_ro ha with rfl | ⟨rfl, rfl⟩
        · exact h4
        · simp only [AV.rel, roAt] at h4 ⊢
          exact .inr ⟨rfl, none, h4.1⟩
    obtain ⟨h4, h5⟩ := key es ms vs e h1
    refine ⟨vs, h4, by simpa [h5] using h2, ?_⟩
    intro y hy
    obtain ⟨m, _, rfl⟩ := List.mem_map.1 hy
    exact ⟨rfl, fun _ => rfl⟩
  · cases e
    intro X X' w ρ v _ _ hv
    simp only [AV.relV, AV.rel] at hv ⊢
    exact ⟨[], by simp [relAll], .inr ⟨rfl, none, by rw [show v = .slice none 0 0 by simpa using hv.1]⟩, by intro y hy; simp at hy⟩
  · rename_i b base sz off len cap
    split at e
    · rename_i hs
      obtain ⟨rfl, rfl⟩ := hs
      obtain ⟨ps, hr, e⟩ := Option.bind_eq_some_iff.1 e
      obtain ⟨⟨h1, h2⟩, e⟩ := oguard_some e
      refine Frz.list (es := (ps.drop off).take len) (List.mem_range.2 (row_lt hr)) hr (by simpa using h2) h1 rfl (allOf_frz (fun x l hx => u8Of_frz hx) e) ?_
      intro y hy
      obtain ⟨m, _, rfl⟩ := List.mem_map.1 hy
      rfl
    · cases e
  · cases e

theorem news_ok {P : Program} {f : FuncId} {args args0 : List AV} {h : List Blk} {R : AV → List Blk → Prop} (spec : ACall P f args0 [] R) (hn : ∀ v h', R v h' → v.noRo = true ∧ noRoH h' = true)
    (ha0 : ∀ g, renL g args0 = args0) (hargs : FrzL h (List.range h.length) args args0) {out : Out}
    (hR : ∀ v h', R v h' → match out with
      | .one u h2 => u = v.ren (fun b => h.length + b) ∧ h2 = h ++ h'.map (renB fun b => h.length + b)
      | .cap m g => ∃ c, m ≤ c ∧ g c = (v.ren (fun b => h.length + b), h ++ h'.map (renB fun b => h.length + b)))
    {κ : AV → List Blk → Prop} (hκ : out.all κ) : ACall P f args h κ := by
  refine (ACall.ro spec hn ha0 _ hargs).mono ?_
  rintro v h' ⟨v0, h0, hR0, rfl, rfl⟩
  have := hR v0 h0 hR0
  cases out with
  | one u h2 => obtain ⟨rfl, rfl⟩ := this; exact hκ
  | cap m g => obtain ⟨c, hc, he⟩ := this; have := hκ c hc; rw [he] at this; exact this
theorem u8Of_arr {h : List Blk} {b base off len cap : Nat} : u8Of h (.sl b base 1 off len cap) = match intsOf h (.sl b base 1 off len cap) with
      | some (.u8, l) => some l
      | _ => none := rfl
theorem u8Of_roI (h : List Blk) (l : List Int) : u8Of h (.roI .u8 l) = some l := rfl
theorem u8Of_nil (h : List Blk) : u8Of h (.v (.slice none 0 0)) = some [] := rfl
def isU8 : Option (IntKind × List Int) → Option (List Int)
  | some (.u8, l) => some l
  | _ => none
theorem isU8_some (l : List Int) : isU8 (some (.u8, l)) = some l := rfl
theorem isU8_guard (c : Prop) [Decidable c] (x : Option (IntKind × List Int)) : isU8 (oguard c x) = oguard c (isU8 x) := by
  unfold oguard; split <;> rfl
theorem u8Of_sl (h : List Blk) (b base off len cap : Nat) : u8Of h (.sl b base 1 off len cap) = isU8 (intsOf h (.sl b base 1 off len cap)) := rfl
theorem u8sOf_roL (h : List Blk) (es : List AV) : u8sOf h (.roL 1 es) = allOf (u8Of []) es := rfl
theorem u8sOf_nil (h : List Blk) : u8sOf h (.v (.slice none 0 0)) = some [] := rfl
theorem u8sOf_sl (h : List Blk) (b off len cap : Nat) : u8sOf h (.sl b 0 1 off len cap) = (row h b).bind fun ps => oguard (off + len ≤ ps.length ∧ ps.all AV.solid = true) (allOf (u8Of h) ((ps.drop off).take len)) := rfl
def osel {α : Type} (c : Bool) (x y : α) : α := if c = true then x else y
theorem osel_t {α : Type} (x y : α) : osel true x y = x := rfl
theorem osel_f {α : Type} (x y : α) : osel false x y = y := rfl
theorem osel_pos {α : Type} {c : Bool} (h : c = true) (x y : α) : osel c x y = x := by rw [h]; rfl
theorem osel_neg {α : Type} {c : Bool} (h : c = false) (x y : α) : osel c x y = y := by rw [h]; rfl
end Go.Ax
namespace Go.Ax
def cvK (a b : Kd) (o : Option (List Int)) : Option AV :=
  match a, b with
  | .slice true, .string => o.map fun l => .v (.string (bytesOf l))
  | _, _ => none
theorem cv_ro {P : Program} {h : List Blk} (s d : TypeId) (l : List Int) : convA P h s d (.roI .u8 l) = cvK (kindT P s) (kindT P d) (some l) := by
  unfold convA cvK; cases kindT P s <;> rfl
theorem cv_nil {P : Program} {h : List Blk} (s d : TypeId) : convA P h s d (.v (.slice none 0 0)) = cvK (kindT P s) (kindT P d) (some []) := by
  unfold convA cvK; cases kindT P s <;> rfl
theorem cv_sl {P : Program} {h : List Blk} (s d : TypeId) (b base off len cap : Nat) : convA P h s d (.sl b base 1 off len cap) = cvK (kindT P s) (kindT P d) (isU8 (intsOf h (.sl b base 1 off len cap))) := by
  unfold convA cvK; cases kindT P s <;> try rfl
  rename_i c; cases c <;> cases kindT P d <;> try rfl
  simp only
  cases intsOf h (.sl b base 1 off len cap) with
  | none => rfl
  | some p =>
    obtain ⟨k, l⟩ := p
    cases k <;> rfl
theorem cvK_str (o : Option (List Int)) : cvK (.slice true) .string o = o.map fun l => .v (.string (bytesOf l)) := rfl
def sbK (h : List Blk) (s : ByteArray) (a b : Kd) : Option Out :=
  match a, b with
  | .string, .slice true => some (.cap s.size fun c => (.sl h.length 0 1 0 s.size c, h ++ [some [.arr s.size .u8 (strOf s)]]))
  | _, _ => none
theorem sb_str {P : Program} {h : List Blk} (s d : TypeId) (x : ByteArray) : strBytesA P h s d (.v (.string x)) = sbK h x (kindT P s) (kindT P d) := by
  unfold strBytesA sbK; cases kindT P s <;> cases kindT P d <;> try rfl
  rename_i b; cases b <;> rfl
theorem sb_sl {P : Program} {h : List Blk} (s d : TypeId) (b base sz off len cap : Nat) : strBytesA P h s d (.sl b base sz off len cap) = none := rfl
theorem sbK_str (h : List Blk) (s : ByteArray) : sbK h s .string (.slice true) = some (.cap s.size fun c => (.sl h.length 0 1 0 s.size c, h ++ [some [.arr s.size .u8 (strOf s)]])) := rfl
def mkK (h : List Blk) (x : AV) (same : Bool) (len : Nat) (r : Option (List AV)) (a : Kd) : Option Out :=
  match a with
  | .slice true => if same = true ∧ 0 < len ∧ r.isSome = true then some (.one x h) else none
  | _ => none
theorem mk_sl {P : Program} {h : List Blk} (s d : TypeId) (b base sz off len cap : Nat) : markA P h s d (.sl b base sz off len cap) = mkK h (.sl b base sz off len cap) (decide (s = d)) len (row h b) (kindT P s) := by
  unfold markA mkK
  cases kindT P s <;> try rfl
  rename_i c; cases c <;> simp
theorem mkK_bytes (h : List Blk) (x : AV) (len : Nat) (ps : List AV) : mkK h x true len (some ps) (.slice true) = oguard (0 < len) (some (.one x h)) := by
  unfold mkK oguard; simp
theorem bytesOf_beq (a b : List Int) (h : a = b) : ((bytesOf a).toList == (bytesOf b).toList) = true := by subst h; simp
end Go.Ax
namespace Go.Ax
theorem rep_2 {α : Type} (a : α) : List.replicate 2 a = [a, a] := rfl
theorem rep_3 {α : Type} (a : α) : List.replicate 3 a = [a, a, a] := rfl
theorem rep_4 {α : Type} (a : α) : List.replicate 4 a = [a, a, a, a] := rfl
theorem rep_5 {α : Type} (a : α) : List.replicate 5 a = [a, a, a, a, a] := rfl
theorem rep_6 {α : Type} (a : α) : List.replicate 6 a = [a, a, a, a, a, a] := rfl
end Go.Ax

namespace Go.Ax
section
variable {C : Cfg} {k : List KI} {σ : St} {Q : Exit → St → Prop}
def roundsA (C : Cfg) (b : Code) (k : List KI) (Q : Exit → St → Prop) : Nat → St → Prop
  | 0, _ => False
  | m + 1, σ => run C b [] σ (fun ex σ' => thenK (roundsA C b k Q m) (fun ex σ' => cont C ex k σ' Q) ex σ')
theorem roundsA_succ (b : Code) (m : Nat) (σ : St) : roundsA C b k Q (m + 1) σ = run C b [] σ (fun ex σ' => thenK (roundsA C b k Q m) (fun ex σ' => cont C ex k σ' Q) ex σ') := rfl
theorem loop_rounds (hC : C.Good) {b : Code} (m : Nat) (hb : drawOk C b = true) (h : roundsA C b k Q m σ) : loopR C b k σ Q := by
  refine loopR_of hC (α := { x : Nat × St // roundsA C b k Q x.1 x.2 }) (fun x => x.1.2) (fun x => x.1.1) ⟨(m, σ), h⟩ hb (Weak.refl _ _) ?_
  rintro ⟨⟨m, σ⟩, h⟩
  cases m with
  | zero => exact h.elim
  | succ m =>
    refine run_mono ?_ h
    intro ex σ' h'
    cases ex with
    | normal => exact ⟨⟨(m, σ'), h'⟩, Nat.lt_succ_self m, Weak.refl _ _⟩
    | _ => exact h'
theorem loop_times (hC : C.Good) {b : Code} (m : Nat) (hb : drawOk C b = true)
    (h : ∀ R : Nat → St → Prop, (∀ m σ, R (m + 1) σ = run C b [] σ (fun ex σ' => thenK (R m) (fun ex σ' => cont C ex k σ' Q) ex σ')) → R m σ) : loopR C b k σ Q :=
  loop_rounds hC m hb (h (roundsA C b k Q) (fun m σ => roundsA_succ b m σ))
end
end Go.Ax

namespace Go.Ax
theorem weak_pad {C : Cfg} {e : Env} {h : List Blk} (k : IntKind) : Weak C ⟨e, h⟩ ⟨e, h ++ [some [.arr 0 k []]]⟩ := by
  rintro E w0 F n r0 a w _ ⟨ρ, hr⟩
  have hlen := hr.hp.len
  simp only at hlen
  have hext : ∀ (c : Nat) o, ρ[c]? = some o → (ρ ++ [none])[c]? = some o := fun c o h => get_snoc_old h
  have hown : ∀ r, own (ρ ++ [none]) (h ++ [some [.arr 0 k []]]) r → own ρ h r := by
    intro r ho
    rcases own_snoc hr.hp ho with h1 | h1
    · exact h1
    · cases h1
  have hX : ∀ r, r < w.heap.size → XOf E (ρ ++ [none]) (h ++ [some [.arr 0 k []]]) r → XOf E ρ h r := fun r _ h1 => h1.imp id (hown r)
  have hh : HRel (XOf E (ρ ++ [none]) (h ++ [some [.arr 0 k []]])) (ρ ++ [none]) (h ++ [some [.arr 0 k []]]) w := by
    have h0 := hr.hp.virtual (ps := [.arr 0 k []]) (by simp [relAll, AV.rel])
    exact ⟨h0.len, fun b ps hb => (h0.blk b ps hb).keep Keep.refl hX (fun _ _ h => h) (fun _ _ => rfl), h0.inj⟩
  exact ⟨ρ ++ [none], ⟨fun j => relV_keep Keep.refl hX _ ρ _ _ hext (hr.tm j), hr.sz, hr.df, hh, hr.fr, fun r h1 => hr.ow r (hown r h1), fun r h1 => ⟨(hr.el r h1).1, fun h2 => (hr.el r h1).2 (hown r h2)⟩, fun c o h => hext c o (hr.ex c o h)⟩⟩
theorem AWP.merge {C : Cfg} {c : Code} {κ : Exit → St → Prop} {σ : St} (σ' : St) (h : AWP C c (fun ex s => ex = .normal ∧ Weak C s σ') σ) (hk : κ .normal σ') : AWP C c κ σ :=
  fun E w0 F n r0 a w hk0 hd hr => wpIn_mono (h E w0 F n r0 a w hk0 hd hr) fun ex a' w' ⟨s, ⟨e, hw⟩, h2⟩ => ⟨σ', by rw [e]; exact hk, hw E w0 F n r0 a' w' hk0 h2⟩
section
variable {C : Cfg} {k : List KI} {σ : St} {Q : Exit → St → Prop}
theorem odd_merge (hC : C.Good) {id : Nat} {ops : Array Oper} (p : Plan) (σ' : St) (hok : planOk C ops false p (Array.replicate ops.size false) = true)
    (hs : planR C ops p [] σ (fun ex s => ex = .normal ∧ Weak C s σ')) (hq : cont C .normal k σ' Q) (hrd : C.rd = none := by rfl) : oddR C id ops true k σ Q :=
  AWP.merge σ' (oddR_of (k := []) (Q := fun ex s => ex = .normal ∧ Weak C s σ') hC p hok hs hrd) hq
theorem loop_merge {b : Code} (σ' : St) (h : loopR C b [] σ (fun ex s => ex = .normal ∧ Weak C s σ')) (hq : cont C .normal k σ' Q) : loopR C b k σ Q :=
  AWP.merge σ' h hq
end
end Go.Ax

namespace Go.Ax
open Go.MapKept
section
variable {X X' : Nat → Prop} {w w' : World} {ρ ρ' : List (Option Nat)}
theorem get_shrink (hr : ∀ (b : Nat) o, ρ[b]? = some o → ρ'[b]? = some o) {b : Nat} {o o' : Option Nat} (h : ρ[b]? = some o) (g : ρ'[b]? = some o') : ρ[b]? = some o' := by
  have := hr b o h; rw [g] at this; rw [h, this]
mutual
theorem rel_shrink (hr : ∀ (b : Nat) o, ρ[b]? = some o → ρ'[b]? = some o) : ∀ (p : AV) (cs cs' : List Value), AV.rel X w ρ p cs → AV.rel X' w' ρ' p cs' → AV.rel X' w' ρ p cs'
  | .v x, cs, cs', h, g => by simpa only [AV.rel] using g
  | .arr n k l, cs, cs', h, g => by simpa only [AV.rel] using g
  | .agg ps, cs, cs', h, g => by simp only [AV.rel] at h g ⊢; exact relAll_shrink hr ps cs cs' h g
  | .tup ps, cs, cs', h, g => by simp only [AV.rel] at h
  | .ptr b base i, cs, cs', h, g => by
    simp only [AV.rel] at h g ⊢
    obtain ⟨r, h1, _⟩ := h; obtain ⟨r', g1, g2⟩ := g
    exact ⟨r', get_shrink hr h1 g1, g2⟩
  | .mp b, cs, cs', h, g => by
    simp only [AV.rel] at h g ⊢
    obtain ⟨r, h1, _⟩ := h; obtain ⟨r', g1, g2⟩ := g
    exact ⟨r', get_shrink hr h1 g1, g2⟩
  | .sl b base sz off len cap, cs, cs', h, g => by
    simp only [AV.rel] at h g ⊢
    have hb : ∃ o, ρ[b]? = some o := by rcases h with ⟨r, o, h1, _⟩ | ⟨h1, _⟩ <;> exact ⟨_, h1⟩
    obtain ⟨q, hb⟩ := hb
    rcases g with ⟨r, o, g1, g2⟩ | ⟨g1, g2⟩
    · exact .inl ⟨r, o, get_shrink hr hb g1, g2⟩
    · exact .inr ⟨get_shrink hr hb g1, g2⟩
  | .roI k l, cs, cs', h, g => by simpa only [AV.rel] using g
  | .roL sz es, cs, cs', h, g => by simpa only [AV.rel] using g
  | .rop x, cs, cs', h, g => by simpa only [AV.rel] using g
  | .lst sz es, cs, cs', h, g => by simpa only [AV.rel] using g
  | .mobj .., cs, cs', h, g => by simp only [AV.rel] at h
  | .fn f a b, cs, cs', h, g => by
    simp only [AV.rel] at h g ⊢
    obtain ⟨f1, c1, _, h2, h3⟩ := h
    obtain ⟨f2, c2, g1, g2, g3⟩ := g
    exact ⟨f2, c2, g1, relVs_shrink hr a _ _ h2 g2, relVs_shrink hr b _ _ h3 g3⟩
  | .any, cs, cs', h, g => by simpa only [AV.rel] using g
theorem relAll_shrink (hr : ∀ (b : Nat) o, ρ[b]? = some o → ρ'[b]? = some o) : ∀ (ps : List AV) (cs cs' : List Value), relAll X w ρ ps cs → relAll X' w' ρ' ps cs' → relAll X' w' ρ ps cs'
  | [], cs, cs', h, g => by simpa only [relAll] using g
  | p :: ps, cs, cs', h, g => by
    simp only [relAll] at h g ⊢
    obtain ⟨a, b, _, h1, h2⟩ := h
    obtain ⟨a', b', g0, g1, g2⟩ := g
    exact ⟨a', b', g0, rel_shrink hr p a a' h1 g1, relAll_shrink hr ps b b' h2 g2⟩
theorem relV_shrink (hr : ∀ (b : Nat) o, ρ[b]? = some o → ρ'[b]? = some o) : ∀ (p : AV) (v v' : Value), AV.relV X w ρ p v → AV.relV X' w' ρ' p v' → AV.relV X' w' ρ p v'
  | .any, v, v', h, g => by simp only [AV.relV]
  | .arr n k l, v, v', h, g => by simpa only [AV.relV] using g
  | .agg ps, v, v', h, g => by
    simp only [AV.relV] at h g ⊢
    obtain ⟨cs, _, h2⟩ := h
    obtain ⟨cs', g1, g2⟩ := g
    exact ⟨cs', g1, relAll_shrink hr ps _ _ h2 g2⟩
  | .tup ps, v, v', h, g => by
    simp only [AV.relV] at h g ⊢
    obtain ⟨cs, _, h2⟩ := h
    obtain ⟨cs', g1, g2⟩ := g
    exact ⟨cs', g1, relVs_shrink hr ps _ _ h2 g2⟩
  | .v x, v, v', h, g => by simp only [AV.relV] at h g ⊢; exact rel_shrink hr (.v x) _ _ h g
  | .ptr b base i, v, v', h, g => by simp only [AV.relV] at h g ⊢; exact rel_shrink hr (.ptr b base i) _ _ h g
  | .mp b, v, v', h, g => by simp only [AV.relV] at h g ⊢; exact rel_shrink hr (.mp b) _ _ h g
  | .sl b base sz off len cap, v, v', h, g => by simp only [AV.relV] at h g ⊢; exact rel_shrink hr (.sl b base sz off len cap) _ _ h g
  | .roI k l, v, v', h, g => by simp only [AV.relV] at h g ⊢; exact rel_shrink hr (.roI k l) _ _ h g
  | .roL sz es, v, v', h, g => by simp only [AV.relV] at h g ⊢; exact rel_shrink hr (.roL sz es) _ _ h g
  | .rop x, v, v', h, g => by simp only [AV.relV] at h g ⊢; exact rel_shrink hr (.rop x) _ _ h g
  | .lst sz es, v, v', h, g => by simp only [AV.relV] at h g ⊢; exact rel_shrink hr (.lst sz es) _ _ h g
  | .mobj .., v, v', h, g => by simp only [AV.relV, AV.rel] at h
  | .fn f a b, v, v', h, g => by simp only [AV.relV] at h g ⊢; exact rel_shrink hr (.fn f a b) _ _ h g
theorem relVs_shrink (hr : ∀ (b : Nat) o, ρ[b]? = some o → ρ'[b]? = some o) : ∀ (ps : List AV) (cs cs' : List Value), relVs X w ρ ps cs → relVs X' w' ρ' ps cs' → relVs X' w' ρ ps cs'
  | [], cs, cs', h, g => by simpa only [relVs] using g
  | p :: ps, cs, cs', h, g => by
    simp only [relVs] at h g ⊢
    obtain ⟨a, b, _, h1, h2⟩ := h
    obtain ⟨a', b', g0, g1, g2⟩ := g
    exact ⟨a', b', g0, relV_shrink hr p a a' h1 g1, relVs_shrink hr ps b b' h2 g2⟩
end
theorem BRel.shrink (hr : ∀ (b : Nat) o, ρ[b]? = some o → ρ'[b]? = some o) {o : Option Nat} {ps : List AV} (h : BRel X w ρ (some o) ps) (g : BRel X' w' ρ' (some o) ps) : BRel X' w' ρ (some o) ps := by
  cases o with
  | none => exact relAll_shrink hr ps _ _ h g
  | some r =>
    rcases g with ⟨c, e, fz, g1, g2, cs, post, g3, g4⟩ | g
    · rcases h with ⟨c', e', fz', h1, h2, cs', post', h3, h4⟩ | ⟨ks, vs, rfl, _⟩
      · exact .inl ⟨c, e, fz, g1, g2, cs, post, g3, relAll_shrink hr ps _ _ h4 g4⟩
      · simp [relAll, AV.rel] at g4
    · exact .inr g
end

theorem ACall.shed {P : Program} {f : FuncId} {args : List AV} {h : List Blk} {κ κ' : AV → List Blk → Prop} (hc : ACall P f args h κ)
    (hk : ∀ v h', κ v h' → ∃ y ext, h' = h ++ ext ∧ (∀ x ∈ ext, ∃ ps, x = some ps) ∧ closedV y = true ∧ Frz h' (List.range' h.length ext.length) v y ∧ κ' y h) : ACall P f args h κ' := by
  refine ⟨hc.1, fun E w ρ vs h1 h2 h3 => (hc.2 E w ρ vs h1 h2 h3).mono ?_⟩
  rintro en w' ⟨av, v, ρ', h', rfl, h4, h5, h6, h7, h8, h9⟩
  obtain ⟨y, ext, rfl, h10, h11, h12, h13⟩ := hk _ _ h4
  have hlen := h2.len
  have hown : ∀ r, own ρ h r → own ρ' (h ++ ext) r := by
    rintro r ⟨b, hb, ps, hp⟩
    refine ⟨b, h7 _ _ hb, ps, ?_⟩
    rw [List.getElem?_append_left (List.getElem?_eq_some_iff.1 hp).1]; exact hp
  have hX : ∀ r, XOf E ρ h r → XOf E ρ' (h ++ ext) r := fun r hr => hr.imp id (hown r)
  have hfz : ∀ r, XOf E ρ h r → XOf E ρ' (h ++ ext) r ∧ ∀ b ∈ List.range' h.length ext.length, ρ'[b]? ≠ some (some r) := by
    intro r hr
    refine ⟨hX r hr, fun b hb hbr => ?_⟩
    rw [List.mem_range'_1] at hb
    have hl : live (h ++ ext) b := by
      have hlt : b - h.length < ext.length := by omega
      obtain ⟨ps, hp⟩ := h10 ext[b - h.length] (List.getElem_mem hlt)
      exact ⟨ps, by rw [List.getElem?_append_right hb.1, List.getElem?_eq_getElem hlt, hp]⟩
    have ho : own ρ' (h ++ ext) r := ⟨b, hbr, hl⟩
    rcases hr with hr | ⟨b0, hb0, ps0, hp0⟩
    · rcases h8 r ho with h | h
      · exact (h3 r hr).2 h
      · have := (h3 r hr).1; omega
    · have hlt : b0 < h.length := (List.getElem?_eq_some_iff.1 hp0).1
      have := h6.inj b0 b r (h7 _ _ hb0) hbr ⟨ps0, by rw [List.getElem?_append_left hlt]; exact hp0⟩ hl
      omega
  refine ⟨y, v, ρ, h, rfl, h13, ?_, ?_, fun _ _ h => h, fun r hr => .inl hr, h9⟩
  · have := h12 (XOf E ρ' (h ++ ext)) (XOf E ρ h) w' ρ' v h6 hfz h5
    exact relV_of_rel (closed_rel h11 this).2.2 (rel_nil_lift (closed_rel h11 this).1)
  · refine ⟨hlen, ?_, ?_⟩
    · intro b ps hp
      have hlt : b < h.length := (List.getElem?_eq_some_iff.1 hp).1
      have g1 := h2.blk b ps hp
      have g2 := h6.blk b ps (by rw [List.getElem?_append_left hlt]; exact hp)
      have hb : ∃ o, ρ[b]? = some o := ⟨_, List.getElem?_eq_getElem (by omega)⟩
      obtain ⟨o, ho⟩ := hb
      rw [ho] at g1 ⊢
      rw [h7 _ _ ho] at g2
      exact (BRel.shrink h7 g1 g2).keep Keep.refl (fun r _ hr => hX r hr) (fun _ _ h => h) (fun _ _ => rfl)
    · intro b b' r hb hb' l1 l2
      have up : ∀ {b : Nat}, live h b → live (h ++ ext) b := by
        rintro b ⟨ps, hp⟩
        exact ⟨ps, by rw [List.getElem?_append_left (List.getElem?_eq_some_iff.1 hp).1]; exact hp⟩
      exact h6.inj b b' r (h7 _ _ hb) (h7 _ _ hb') (up l1) (up l2)
end Go.Ax

namespace Go.Ax
open Go.MapKept
theorem HRel.addB {X X' : Nat → Prop} {ρ : List (Option Nat)} {h : List Blk} {w w' : World} (hh : HRel X ρ h w) {ps : List AV} {q : Nat} (hq : w.heap.size ≤ q)
    (hfr : Frame X w w') (hsame : ∀ r, r < w.heap.size → w'.heap[r]? = w.heap[r]?)
    (hX : ∀ r, r < w.heap.size → X' r → X r) (hB : BRel X' w' (ρ ++ [some q]) (some (some q)) ps) : HRel X' (ρ ++ [some q]) (h ++ [some ps]) w' := by
  have k : Keep X w w' := hfr.keep
  refine ⟨by simp [hh.len], ?_, ?_⟩
  · intro b ps' hb
    rcases Nat.lt_or_ge b h.length with hlt | hge
    · rw [List.getElem?_append_left hlt] at hb
      rw [List.getElem?_append_left (by rw [hh.len]; exact hlt)]
      have h1 := hh.blk b ps' hb
      refine h1.keep k hX (fun _ _ h => get_snoc_old h) ?_
      intro r hr
      rw [hr] at h1
      exact hsame r h1.lt
    · rw [List.getElem?_append_right hge] at hb
      rcases Nat.eq_zero_or_pos (b - h.length) with h0 | h0
      · rw [h0] at hb; simp at hb; subst hb
        rw [List.getElem?_append_right (by rw [hh.len]; exact hge), hh.len, h0]
        exact hB
      · rw [List.getElem?_eq_none (by simp; omega)] at hb; cases hb
  · have hlt : ∀ b, live (h ++ [some ps]) b → b < h.length ∨ b = h.length := by
      rintro b ⟨q, hq⟩
      obtain ⟨hb, _⟩ := List.getElem?_eq_some_iff.1 hq
      simp at hb; omega
    have hat : ∀ b r, (ρ ++ [some q])[b]? = some (some r) → live (h ++ [some ps]) b → (b < h.length ∧ own ρ h r ∧ ρ[b]? = some (some r) ∧ live h b) ∨ (b = h.length ∧ r = q) := by
      intro b r hb hl
      rcases hlt b hl with h1 | h1
      · rw [List.getElem?_append_left (by rw [hh.len]; exact h1)] at hb
        have := (live_snoc h1).1 hl
        exact .inl ⟨h1, ⟨b, hb, this⟩, hb, this⟩
      · subst h1
        rw [← hh.len] at hb
        simp at hb
        exact .inr ⟨rfl, hb.symm⟩
    intro b b' r h1 h2 l1 l2
    rcases hat b r h1 l1 with ⟨_, o1, r1, m1⟩ | ⟨e1, e2⟩ <;> rcases hat b' r h2 l2 with ⟨_, o3, r3, m3⟩ | ⟨e3, e4⟩
    · exact hh.inj b b' r r1 r3 m1 m3
    · have := hh.own_lt o1; omega
    · have := hh.own_lt o3; omega
    · omega

end Go.Ax

namespace Go.Ax
def aget {α : Type} : List (Int × α) → Int → Option α
  | [], _ => none
  | p :: S, n => if p.1 = n then some p.2 else aget S n
def aput {α : Type} : List (Int × α) → Int → α → List (Int × α)
  | [], n, v => [(n, v)]
  | p :: S, n, v => if p.1 = n then (p.1, v) :: S else p :: aput S n v
def adel {α : Type} : List (Int × α) → Int → List (Int × α)
  | [], _ => []
  | p :: S, n => if p.1 = n then S else p :: adel S n
def aK {α : Type} (S : List (Int × α)) : List Int := S.map (·.1)
def aV {α : Type} (f : α → AV) (S : List (Int × α)) : List AV := S.map fun p => f p.2
section
variable {α : Type} {f : α → AV}
theorem mfind_a : ∀ (S : List (Int × α)) (n : Int), mfind (aK S) (aV f S) n = (aget S n).map f
  | [], _ => rfl
  | p :: S, n => by
    simp only [aK, aV, List.map_cons, mfind, aget]
    split
    · rfl
    · exact mfind_a S n
theorem aget_mem : ∀ {S : List (Int × α)} {n : Int}, (aget S n).isSome = true ↔ n ∈ aK S
  | [], _ => by simp [aget, aK]
  | p :: S, n => by
    have ih := aget_mem (S := S) (n := n)
    simp only [aget, aK, List.map_cons, List.mem_cons]
    split
    · rename_i h; simp [h]
    · rename_i h
      rw [ih]
      constructor
      · exact .inr
      · rintro (h1 | h1)
        · exact absurd h1.symm h
        · exact h1
theorem mputK_a : ∀ (S : List (Int × α)) (n : Int) (v : α), mputK (aK S) n = aK (aput S n v)
  | [], n, v => by simp [mputK, aK, aput]
  | p :: S, n, v => by
    have ih := mputK_a S n v
    simp only [aK, List.map_cons, aput, mputK, List.mem_cons] at ih ⊢
    by_cases h : p.1 = n
    · simp [h]
    · rw [if_neg h]
      simp only [List.map_cons]
      rw [← ih]
      have h4 : ¬ n = p.1 := fun h4 => h h4.symm
      by_cases h2 : n ∈ S.map (·.1)
      · simp [h2]
      · simp [h2, h4]
theorem mputV_a : ∀ (S : List (Int × α)) (n : Int) (v : α), mputV (aK S) (aV f S) n (f v) = aV f (aput S n v)
  | [], n, v => rfl
  | p :: S, n, v => by
    have ih := mputV_a S n v
    simp only [aK, aV, List.map_cons, mputV, aput] at ih ⊢
    split
    · rfl
    · rw [ih]; rfl
theorem mdelK_a : ∀ (S : List (Int × α)) (n : Int), (aK S).erase n = aK (adel S n)
  | [], n => rfl
  | p :: S, n => by
    have ih := mdelK_a S n
    simp only [aK, List.map_cons, adel] at ih ⊢
    by_cases h : p.1 = n
    · rw [if_pos h, h, List.erase_cons_head]
    · rw [if_neg h, List.erase_cons_tail (by simpa using h), ih]; rfl
theorem mdelV_a : ∀ (S : List (Int × α)) (n : Int), mdelV (aK S) (aV f S) n = aV f (adel S n)
  | [], n => rfl
  | p :: S, n => by
    have ih := mdelV_a S n
    simp only [aK, aV, List.map_cons, mdelV, adel] at ih ⊢
    split
    · rfl
    · rw [ih]; rfl
theorem aget_put : ∀ (S : List (Int × α)) (n : Int) (v : α) (x : Int), aget (aput S n v) x = if n = x then some v else aget S x
  | [], n, v, x => rfl
  | p :: S, n, v, x => by
    have ih := aget_put S n v x
    simp only [aput]
    by_cases h : p.1 = n
    · rw [if_pos h]
      simp only [aget, h]
      split <;> rfl
    · rw [if_neg h]
      simp only [aget, ih]
      by_cases h2 : p.1 = x
      · rw [if_pos h2, if_pos h2, if_neg (fun h3 => h (h2.trans h3.symm))]
      · rw [if_neg h2, if_neg h2]
theorem aK_put_nodup : ∀ {S : List (Int × α)} {n : Int} {v : α}, (aK S).Nodup → (aK (aput S n v)).Nodup
  | S, n, v, h => by
    rw [← mputK_a]
    unfold mputK
    split
    · exact h
    · rename_i hn
      refine List.nodup_append.2 ⟨h, by simp, ?_⟩
      intro a ha b hb
      simp only [List.mem_cons, List.not_mem_nil, or_false] at hb
      subst hb
      rintro rfl
      exact hn ha
theorem aget_del : ∀ (S : List (Int × α)) (n : Int) (x : Int), (aK S).Nodup → aget (adel S n) x = if n = x then none else aget S x
  | [], n, x, _ => by simp [adel, aget]
  | p :: S, n, x, hn => by
    simp only [aK, List.map_cons, List.nodup_cons] at hn
    have ih := aget_del S n x hn.2
    simp only [adel]
    by_cases h : p.1 = n
    · rw [if_pos h]
      simp only [aget]
      by_cases h2 : n = x
      · rw [if_pos h2]
        have : ¬ (aget S x).isSome = true := by
          rw [aget_mem]; intro h3; exact hn.1 (by rw [h, h2]; exact h3)
        simpa using this
      · rw [if_neg h2, if_neg (fun h3 => h2 (h.symm.trans h3))]
    · rw [if_neg h]
      simp only [aget, ih]
      by_cases h2 : p.1 = x
      · rw [if_pos h2, if_pos h2, if_neg (fun h3 => h (h2.trans h3.symm))]
      · rw [if_neg h2, if_neg h2]
theorem aK_del_nodup {S : List (Int × α)} {n : Int} (h : (aK S).Nodup) : (aK (adel S n)).Nodup := by
  rw [← mdelK_a]; exact h.erase n
theorem aK_len (S : List (Int × α)) : (aK S).length = S.length := by simp [aK]
end
def firstAt (f : Nat → Bool) : Nat → Nat
  | 0 => 0
  | n + 1 => if firstAt f n < n then firstAt f n else if f n = true then n else n + 1
theorem firstAt_le (f : Nat → Bool) : ∀ n, firstAt f n ≤ n
  | 0 => Nat.le_refl _
  | n + 1 => by
    have := firstAt_le f n
    unfold firstAt
    split
    · omega
    · split <;> omega
theorem firstAt_no (f : Nat → Bool) : ∀ n j, j < firstAt f n → f j = false
  | 0, j, h => by simp [firstAt] at h
  | n + 1, j, h => by
    have h0 := firstAt_le f n
    unfold firstAt at h
    split at h
    · exact firstAt_no f n j h
    · rename_i h1
      split at h
      · exact firstAt_no f n j (by omega)
      · rename_i h2
        by_cases hj : j = n
        · subst hj; simpa using h2
        · exact firstAt_no f n j (by omega)
theorem firstAt_yes (f : Nat → Bool) : ∀ n, firstAt f n < n → f (firstAt f n) = true
  | 0, h => by simp at h
  | n + 1, h => by
    unfold firstAt at h ⊢
    split
    · rename_i h1; exact firstAt_yes f n h1
    · rename_i h1
      rw [if_neg h1] at h
      split
      · assumption
      · rename_i h2; rw [if_neg h2] at h; omega
end Go.Ax

namespace Go.Ax
def vsL {α : Type} (f : α → Value) (l : List α) : List AV := l.map fun x => .v (f x)
section
variable {α : Type} {f : α → Value}
theorem rowS_vs (l : List α) : rowS (vsL f l) = some (vsL f l) := by cases l <;> rfl
theorem vsL_len (l : List α) : (vsL f l).length = l.length := by simp [vsL]
theorem vsL_ones (l : List α) : (vsL f l).all (fun p => p.one) = true := by simp [vsL, AV.one]
theorem vsL_take (l : List α) {n : Nat} (h : l.length = n) : (vsL f l).take n = vsL f l := List.take_of_length_le (by simp [vsL, h])
theorem vsL_snoc (l : List α) (x : α) : vsL f l ++ [.v (f x)] = vsL f (l ++ [x]) := by simp [vsL]
theorem renL_vs (g : Nat → Nat) (l : List α) : renL g (vsL f l) = vsL f l := by
  induction l with
  | nil => rfl
  | cons b l ih => simp only [vsL, List.map_cons, renL, AV.ren] at ih ⊢; rw [ih]
theorem rowCell_vs (d : α) : ∀ (l : List α) (i : Nat), rowCell (vsL f l) i = oguard (i < l.length) (some (.v (f (l.getD i d))))
  | [], i => by simp [vsL, rowCell, oguard]
  | x :: l, 0 => by simp [vsL, rowCell, AV.one, oguard]
  | x :: l, i + 1 => by
    have ih := rowCell_vs d l i
    simp only [vsL, List.map_cons, rowCell, AV.one, if_true] at ih ⊢
    rw [ih]
    simp [oguard]
theorem rowSet_vs (y : α) : ∀ (l : List α) (i : Nat), rowSet (vsL f l) i (.v (f y)) = oguard (i < l.length) (some (vsL f (l.set i y)))
  | [], i => by simp [vsL, rowSet, oguard]
  | x :: l, 0 => by simp [vsL, rowSet, AV.one, oguard]
  | x :: l, i + 1 => by
    have ih := rowSet_vs y l i
    simp only [vsL, List.map_cons, rowSet, AV.one, if_true] at ih ⊢
    rw [ih]
    unfold oguard
    by_cases hi : i < l.length <;> simp [hi]
end
theorem drop_v (a : Value) (ps : List AV) (n : Nat) : rowDrop (.v a :: ps) (n + 1) = rowDrop ps n := by
  have h1 : 1 ≤ n + 1 := by omega
  simp [rowDrop, AV.size, h1]
theorem take_v (a : Value) (ps : List AV) (n : Nat) : rowTake (.v a :: ps) (n + 1) = (rowTake ps n).map (AV.v a :: ·) := by
  have h1 : 1 ≤ n + 1 := by omega
  simp [rowTake, AV.size, h1]
def prL {α : Type} (f g : α → Value) : List α → List AV
  | [] => []
  | x :: l => .v (f x) :: .v (g x) :: prL f g l
section
variable {α : Type} {f g : α → Value}
theorem rowS_pr (l : List α) : rowS (prL f g l) = some (prL f g l) := by cases l <;> rfl
theorem renL_pr (q : Nat → Nat) (l : List α) : renL q (prL f g l) = prL f g l := by
  induction l with
  | nil => rfl
  | cons b l ih => simp only [prL, renL, AV.ren, ih]
theorem drop_pr (d : α) : ∀ (l : List α) (i : Nat), i < l.length → rowDrop (prL f g l) (i * 2) = some (.v (f (l.getD i d)) :: .v (g (l.getD i d)) :: prL f g (l.drop (i + 1)))
  | [], i, h => by simp at h
  | x :: l, 0, _ => by simp [prL, rowDrop]
  | x :: l, i + 1, h => by
    have ih := drop_pr d l i (by simpa using h)
    have e : (i + 1) * 2 = i * 2 + 1 + 1 := by omega
    rw [e]
    rw [show prL f g (x :: l) = .v (f x) :: .v (g x) :: prL f g l from rfl, drop_v, drop_v, ih]
    simp
theorem drop_pr1 (d : α) : ∀ (l : List α) (i : Nat), i < l.length → rowDrop (prL f g l) (i * 2 + 1) = some (.v (g (l.getD i d)) :: prL f g (l.drop (i + 1)))
  | [], i, h => by simp at h
  | x :: l, 0, _ => by simp [prL, rowDrop, AV.size]
  | x :: l, i + 1, h => by
    have ih := drop_pr1 d l i (by simpa using h)
    have e : (i + 1) * 2 + 1 = i * 2 + 1 + 1 + 1 := by omega
    rw [e]
    rw [show prL f g (x :: l) = .v (f x) :: .v (g x) :: prL f g l from rfl, drop_v, drop_v, ih]
    simp
theorem dropN_pr : ∀ (l : List α) (i : Nat), i ≤ l.length → rowDrop (prL f g l) (i * 2) = some (prL f g (l.drop i))
  | l, 0, _ => by cases l <;> simp [rowDrop]
  | [], i + 1, h => by simp at h
  | x :: l, i + 1, h => by
    have ih := dropN_pr l i (by simpa using h)
    have e : (i + 1) * 2 = i * 2 + 1 + 1 := by omega
    rw [e]
    rw [show prL f g (x :: l) = .v (f x) :: .v (g x) :: prL f g l from rfl, drop_v, drop_v, ih]
    simp
theorem take_pr : ∀ (l : List α) (i : Nat), i ≤ l.length → rowTake (prL f g l) (i * 2) = some (prL f g (l.take i))
  | l, 0, _ => by cases l <;> simp [rowTake, prL]
  | [], i + 1, h => by simp at h
  | x :: l, i + 1, h => by
    have ih := take_pr l i (by simpa using h)
    have e : (i + 1) * 2 = i * 2 + 1 + 1 := by omega
    rw [e]
    rw [show prL f g (x :: l) = .v (f x) :: .v (g x) :: prL f g l from rfl, take_v, take_v, ih]
    simp [prL]
theorem prL_app (l k : List α) : prL f g (l ++ k) = prL f g l ++ prL f g k := by
  induction l with
  | nil => rfl
  | cons x l ih => simp [prL, ih]
theorem put_pr (y : α) (l : List α) (i : Nat) (h : i < l.length) : rowPut (prL f g l) (i * 2) (.agg [.v (f y), .v (g y)]) = some (prL f g (l.set i y)) := by
  have hs : (AV.agg [.v (f y), .v (g y)]).size = 2 := rfl
  unfold rowPut
  simp only [AV.isAggV, if_true, hs]
  have hh : ¬ (i * 2 = 0 ∧ headSize (prL f g l) = 2 ∧ prL f g l ≠ []) := by
    rintro ⟨_, h2, _⟩
    cases l with
    | nil => simp at h
    | cons x l => simp [prL, headSize, AV.size] at h2
  rw [if_neg hh]
  have e : i * 2 + 2 = (i + 1) * 2 := by omega
  have key : (rowTake (prL f g l) (i * 2)).bind (fun a => (rowDrop (prL f g l) (i * 2 + 2)).map fun b => a ++ (AV.agg [.v (f y), .v (g y)]).parts ++ b) = some (prL f g (l.set i y)) := by
    rw [take_pr l i (by omega), e, dropN_pr l (i + 1) (by omega)]
    simp only [Option.bind_some, Option.map_some, AV.parts, Option.some.injEq]
    rw [List.set_eq_take_append_cons_drop, if_pos h, prL_app]
    simp [prL]
  cases l with
  | nil => simp at h
  | cons x l => exact key
end
theorem weak_row {C : Cfg} {e : Env} {h : List Blk} {L : List (Nat × AV)} {b : Nat} {ps qs : List AV} (hb : h[b]? = some (some ps)) (hn : noMap ps = true) (hr : ∀ X w ρ cs, relAll X w ρ ps cs → relAll X w ρ qs cs) (hL : envAll e L) : Weak C ⟨e, h⟩ ⟨envL L, h.set b (some qs)⟩ := by
  intro E w0 F n r0 a w hk0 hr0
  obtain ⟨ρ, hr0⟩ := weak_all (C := C) hL E w0 F n r0 a w hk0 hr0
  have ho : ∀ r, own ρ (h.set b (some qs)) r ↔ own ρ h r := own_set hb
  have hX : XOf E ρ (h.set b (some qs)) = XOf E ρ h := by
    funext r; exact propext (or_congr Iff.rfl (ho r))
  have hbl : b < h.length := (List.getElem?_eq_some_iff.1 hb).1
  refine ⟨ρ, ⟨fun i => by simp only [hX]; exact hr0.tm i, hr0.sz, hr0.df, ⟨by simpa using hr0.hp.len, ?_, ?_⟩, hr0.fr, fun r hh => hr0.ow r ((ho r).1 hh), fun r hh => ⟨(hr0.el r hh).1, fun h2 => (hr0.el r hh).2 ((ho r).1 h2)⟩, hr0.ex⟩⟩
  · intro b' ps' hb'
    simp only [hX]
    by_cases he : b = b'
    · subst he
      simp [hbl] at hb'
      subst hb'
      have h1 := hr0.hp.blk b ps hb
      generalize ρ[b]? = o at h1
      unfold BRel at h1 ⊢
      split at h1
      · rcases h1 with ⟨c, te, fz, h2, h3, cs, post, h4, h5⟩ | ⟨ks, vs, rfl, _⟩
        · exact .inl ⟨c, te, fz, h2, h3, cs, post, h4, hr _ _ _ _ h5⟩
        · cases hn
      · exact hr _ _ _ _ h1
      · exact h1
    · rw [List.getElem?_set_ne he] at hb'
      exact hr0.hp.blk b' ps' hb'
  · intro b1 b2 r h1 h2 l1 l2
    exact hr0.hp.inj b1 b2 r h1 h2 ((live_set hb _).1 l1) ((live_set hb _).1 l2)
theorem lst_ones {X : Nat → Prop} {w : World} {ρ : List (Option Nat)} {cs : List Value} {α : Type} {f : α → Value} (n : Nat) (x : α) (h : relAll X w ρ [.lst 1 (List.replicate n (.v (f x)))] cs) : relAll X w ρ (vsL f (List.replicate n x)) cs := by
  rw [relAll_one] at h
  simp only [AV.rel] at h
  rw [vsL, List.map_replicate]
  exact relAll_keep Keep.refl (fun _ _ h => h) _ [] ρ _ (by simp) h.1
theorem lst_prs {X : Nat → Prop} {w : World} {ρ : List (Option Nat)} {cs : List Value} {α : Type} {f g : α → Value} (n : Nat) (x : α) (h : relAll X w ρ [.lst 2 (List.replicate n (.agg [.v (f x), .v (g x)]))] cs) : relAll X w ρ (prL f g (List.replicate n x)) cs := by
  rw [relAll_one] at h
  simp only [AV.rel] at h
  have h1 := h.1
  clear h
  induction n generalizing cs with
  | zero => simpa [prL, relAll] using h1
  | succ n ih =>
    rw [List.replicate_succ] at h1 ⊢
    simp only [relAll, AV.rel] at h1
    obtain ⟨a, b, rfl, ⟨a1, a2, rfl, h2, a3, a4, rfl, h3, rfl⟩, h4⟩ := h1
    simp only [prL]
    refine relAll_mk (a := a1) (b := a3 ++ b) (by simp) (by simpa only [AV.rel] using h2) (relAll_mk (a := a3) (b := b) rfl (by simpa only [AV.rel] using h3) (ih h4))
end Go.Ax

namespace Go.Ax
open Go.RowKit Go.WideShapes Go.ChangeShapes
section
variable {H : Type} {enc : TypeId × Value → H} {P : Program}
theorem post_below {f : Func} {s : ChangeSpec} {apart fresh handsOn again : Bool} {W W' : World} {args : Array Value} {v : Value} {ds gs : List (DataW H)} {before pa pv : List MemPlace}
    (hW : DataW.Whole enc P f.params.toList s.vars apart W args.toList ds gs before)
    (hres : ∀ (b : Nat) (sp : Nat → Bool) (hd : Bool), DataW.TrodAll enc P W' b sp hd f.resultTypes.toList (v.resultList f.resultTypes.size) (s.fn H (ds ++ gs)).results [])
    (hargs : ∀ sp : Nat → Bool, (∀ p ∈ before, sp p.block = true) → DataW.TrodAll enc P W' 0 sp true f.params.toList args.toList (s.fn H (ds ++ gs)).args pa)
    (hvars : ∀ sp : Nat → Bool, (∀ p ∈ before, sp p.block = true) → DataW.TrodVars enc P W' sp s.vars (s.fn H (ds ++ gs)).vars pv)
    (hps : before = pa ++ pv) (hb : Below W.heap.size W W')
    (hok : ∀ (j : Nat) (t : TypeId) (r : Value), f.resultTypes[j]? = some t → (v.resultList f.resultTypes.size)[j]? = some r → Value.okWide P W' .any 0 t r) :
    s.post enc P f apart fresh handsOn again W args v W' := by
  have hlt : ∀ p ∈ before, p.block < W.heap.size := fun p hp => hW.lt p hp
  have hold : ∀ p ∈ before, (fun b => decide (b < W.heap.size)) p.block = true := fun p hp => by simpa using hlt p hp
  refine ⟨ds, gs, before, [], pa, pv, hW, hres _ _ _, hargs _ hold, hvars _ hold, World.keptBut_mono (fun p hp => ⟨hp, ?_⟩) (hb.frame (· ∈ before)), fun _ => ?_⟩
  · rw [hps, List.mem_append] at hp
    exact Or.inr hp
  · obtain ⟨_, _, _, _, _, hz, hn⟩ := hW
    refine ⟨hok, _, _, ([] ++ pa) ++ pv, ⟨[] ++ pa, pv, trodAll_append (hargs _ (fun _ _ => rfl)) (hres _ _ _), hvars _ (fun _ _ => rfl), rfl, ?_, ?_⟩, ?_⟩
    · intro b off hp
      have hin : MemPlace.cell b off ∈ before := by rw [hps]; simpa using hp
      rw [hb.frozen (hlt _ hin)]
      exact hz b off hin
    · intro ha
      have := hn ha
      rw [hps] at this
      simpa using this
    · intro p hp _
      rw [hps]
      simpa using hp

theorem cell_below {B : Nat} {W W' : World} (hb : Below B W W') {a : Addr} {x : Value} (hB : W.heap.size ≤ B) (h : W.cell? a = some x) : W'.cell? a = some x := by
  have hl : a.block < W.heap.size := by
    unfold World.cell? at h
    rcases Nat.lt_or_ge a.block W.heap.size with h1 | h1
    · exact h1
    · rw [Array.getElem?_eq_none h1] at h; cases h
  unfold World.cell? at h ⊢
  rw [hb.block _ (by omega)]
  exact h

theorem mapM_imp {α β : Type} {f g : α → Option β} : ∀ {l : List α} {ys : List β}, (∀ x ∈ l, ∀ y ∈ ys, f x = some y → g x = some y) → l.mapM f = some ys → l.mapM g = some ys
  | [], ys, _, h => by simpa using h
  | x :: l, ys, hfg, h => by
    rw [List.mapM_cons] at h ⊢
    cases hx : f x with
    | none => rw [hx] at h; cases h
    | some y =>
      rw [hx] at h
      cases hl : l.mapM f with
      | none => rw [hl] at h; cases h
      | some zs =>
        rw [hl] at h
        cases h
        rw [hfg x (by simp) y (by simp) hx, mapM_imp (fun x hx y hy => hfg x (by simp [hx]) y (by simp [hy])) hl]
        rfl

theorem cells_below {B : Nat} {W W' : World} (hb : Below B W W') (hB : W.heap.size ≤ B) {base : Nat} {a : Addr} {n : Nat} {cs : List Value} (h : W.cells? base a n = some cs) : W'.cells? base a n = some cs := by
  unfold World.cells? at h ⊢
  split at h
  · rename_i h1
    rw [if_pos h1]
    exact mapM_imp (fun x _ y _ hy => cell_below hb hB hy) h
  · cases h

def closedL (P : Program) (L : List TypeId) : Bool := L.all fun t => match P.underlying t with
  | some (.pointer e) => L.contains e
  | some (.slice e) => L.contains e && decide (0 < P.cellsOf e)
  | some (.struct fs) => fs.toList.all fun f => L.contains f.type
  | some (.array _ e) => L.contains e
  | some (.map _ e) => L.contains e
  | _ => true
theorem trod_below {B : Nat} {W W' : World} (hb : Below B W W') (hB : W.heap.size ≤ B) {L : List TypeId} (hL : closedL P L = true) {base : Nat} {sp : Nat → Bool} :
    ∀ (fuel : Nat) (t : TypeId) (cs : List Value) (x : DataW H × List MemPlace), t ∈ L → DataW.trod enc P W base (fun _ => true) true fuel t cs = some x → (∀ p ∈ x.2, sp p.block = true) → DataW.trod enc P W' base sp true fuel t cs = some x := by
  intro fuel
  induction fuel with
  | zero => intro t cs x _ h; simp [DataW.trod] at h
  | succ fuel ih =>
    intro t cs x ht h hp
    have hc := (List.all_eq_true.1 hL) t ht
    have elem : ∀ (e : TypeId) (a : Addr) (n : Nat) y, e ∈ L → (W.cells? base a n).bind (DataW.trod enc P W base (fun _ => true) true fuel e) = some y → (∀ p ∈ y.2, sp p.block = true) →
        (W'.cells? base a n).bind (DataW.trod enc P W' base sp true fuel e) = some y := by
      intro e a n y he hy hp
      obtain ⟨cs, h1, h2⟩ := Option.bind_eq_some_iff.1 hy
      rw [cells_below hb hB h1]
      exact ih _ _ _ he h2 hp
    unfold DataW.trod at h ⊢
    split at h <;> try (first | exact h | (cases h; done))
    · obtain ⟨y, hy, rfl⟩ := Option.map_eq_some_iff.1 h
      rename_i e a hu
      rw [hu] at hc
      have he : e ∈ L := by simpa using hc
      rw [elem e a _ y he hy (fun p h1 => hp p (by simp [h1]))]
      rfl
    · rename_i e a len cap hu
      rw [hu] at hc
      have hce : e ∈ L ∧ 0 < P.cellsOf e := by simpa using hc
      simp only at h ⊢
      split at h
      · rename_i hcc
        rw [if_pos hcc]
        obtain ⟨elems, h1, h⟩ := Option.bind_eq_some_iff.1 h
        obtain ⟨rest, h2, rfl⟩ := Option.map_eq_some_iff.1 h
        simp only [if_true] at h2
        rw [mapM_imp (fun i _ y hy h3 => elem e _ _ y hce.1 h3 (fun p h4 => hp p (by simp only [List.mem_append, List.mem_flatMap]; exact .inr ⟨y, .inl hy, h4⟩))) h1]
        simp only [Option.bind_some]
        have hrl := mapM_some_length h2
        simp only [List.length_range] at hrl
        by_cases hsp : sp a.block = true
        · rw [if_pos hsp, mapM_imp (fun i _ y hy h3 => elem e _ _ y hce.1 h3 (fun p h4 => hp p (by simp only [List.mem_append, List.mem_flatMap]; exact .inr ⟨y, .inr hy, h4⟩))) h2]
          rfl
        · rw [if_neg hsp]
          have h0 : cap - len = 0 := by
            rcases Nat.eq_zero_or_pos (cap - len) with h0 | h0
            · exact h0
            · exfalso
              apply hsp
              have hpos : 0 < (elems.length + rest.length) * P.cellsOf e := Nat.mul_pos (by omega) hce.2
              exact hp (.cell a.block (a.off + 0)) (by simp only [List.mem_append]; left; unfold MemPlace.row; exact List.mem_map.2 ⟨0, List.mem_range.2 hpos, rfl⟩)
          have : rest = [] := List.eq_nil_of_length_eq_zero (by omega)
          subst this
          rfl
      · cases h
    · rename_i fs hu
      rw [hu] at hc
      have hce : ∀ f ∈ fs.toList, f.type ∈ L := fun f hf => by simpa using (List.all_eq_true.1 hc) f hf
      split at h
      · rename_i hcc
        rw [if_pos hcc]
        obtain ⟨xs, h1, rfl⟩ := Option.map_eq_some_iff.1 h
        rw [mapM_imp (fun f hf y hy h3 => ih _ _ _ (hce f hf) h3 (fun p h4 => hp p (by simp only [List.mem_flatMap]; exact ⟨y, hy, h4⟩))) h1]
        rfl
      · cases h
    · rename_i n e hu
      rw [hu] at hc
      have he : e ∈ L := by simpa using hc
      split at h
      · rename_i hcc
        rw [if_pos hcc]
        obtain ⟨xs, h1, rfl⟩ := Option.map_eq_some_iff.1 h
        rw [mapM_imp (fun f _ y hy h3 => ih _ _ _ he h3 (fun p h4 => hp p (by simp only [List.mem_flatMap]; exact ⟨y, hy, h4⟩))) h1]
        rfl
      · cases h
    · rename_i k e b hu
      rw [hu] at hc
      have he : e ∈ L := by simpa using hc
      split at h
      · rename_i es clock hes
        have hl : b < W.heap.size := by
          rcases Nat.lt_or_ge b W.heap.size with h1 | h1
          · exact h1
          · rw [Array.getElem?_eq_none h1] at hes; cases hes
        rw [hb.block b (by omega), hes]
        simp only at h ⊢
        split at h
        · rename_i hcc
          rw [if_pos hcc]
          obtain ⟨entries, h1, h2⟩ := Option.bind_eq_some_iff.1 h
          split at h2
          · rename_i hr
            cases h2
            have := mapM_imp (g := fun x => (keyOf P k x.key).bind fun key => if x.val.formed P e then (DataW.trod enc P W' base sp true fuel e x.val.cells.toList).map fun y => ((key, y.1), y.2) else none) (fun x _ y hy h3 => by
              obtain ⟨key, h4, h5⟩ := Option.bind_eq_some_iff.1 h3
              rw [h4]
              simp only [Option.bind_some]
              split at h5
              · rename_i hf
                rw [if_pos hf]
                obtain ⟨z, hz, rfl⟩ := Option.map_eq_some_iff.1 h5
                rw [ih _ _ _ he hz (fun p h6 => hp p (by simp only [List.mem_cons, List.mem_flatMap]; exact .inr ⟨_, hy, h6⟩))]
                rfl
              · cases h5) h1
            rw [this]
            simp only [Option.bind_some]
            rw [if_pos hr]
          · cases h2
        · cases h
      · cases h
theorem trodAll_below {W W' : World} (hb : Below W.heap.size W W') {L : List TypeId} (hL : closedL P L = true) {base : Nat} {sp : Nat → Bool} : ∀ {ts : List TypeId} {vs : List Value} {ds : List (DataW H)} {ps : List MemPlace},
    (∀ t ∈ ts, t ∈ L) → DataW.TrodAll enc P W base (fun _ => true) true ts vs ds ps → (∀ p ∈ ps, sp p.block = true) → DataW.TrodAll enc P W' base sp true ts vs ds ps
  | [], [], [], ps, _, h, _ => h
  | t :: ts, v :: vs, d :: ds, ps, ht, h, hp => by
    obtain ⟨p, q, ⟨fuel, h1⟩, h2, rfl⟩ := h
    exact ⟨p, q, ⟨fuel, trod_below hb (Nat.le_refl _) hL fuel t _ _ (ht t (by simp)) h1 (fun x hx => hp x (by simp [hx]))⟩, trodAll_below hb hL (fun t h => ht t (by simp [h])) h2 (fun x hx => hp x (by simp [hx])), rfl⟩
  | [], [], _ :: _, _, _, h, _ => h.elim
  | [], _ :: _, _, _, _, h, _ => h.elim
  | _ :: _, [], _, _, _, h, _ => h.elim
  | _ :: _, _ :: _, [], _, _, h, _ => h.elim
end
end Go.Ax

namespace Go.Ax
open Go.RowKit Go.WideShapes Go.ChangeShapes
section
variable {H : Type} {enc : TypeId × Value → H} {P : Program} {W : World} {X : Nat → Prop}
theorem cells_ro {k : IntKind} {a : Addr} {zs : List Int} {len cap : Nat} (hlen : len ≤ cap) (hz : zs.length = cap) (hX : ∀ r, ¬ X r)
    (hc : ∀ i, i < zs.length → W.cell? (a.add i) = some (.int k (zs.getD i 0))) : roAt X W len ((zs.take len).map (Value.int k)) [.slice (some a) len cap] := by
  rcases Nat.eq_zero_or_pos cap with h0 | h0
  · subst h0
    obtain rfl : len = 0 := by omega
    exact .inr ⟨rfl, some a, rfl⟩
  · left
    have hsp0 : a.spot = none := by
      have h1 := hc 0 (by omega)
      have h2 : a.add 0 = a := by unfold Addr.add; rfl
      rw [h2] at h1
      unfold World.cell? at h1
      split at h1
      · by_cases hs : a.spot.isSome = true
        · rw [if_pos hs] at h1; cases h1
        · simpa using hs
      · cases h1
    have hget : ∀ i, i < zs.length → a.spot = none ∧ ∃ c e fz, W.heap[a.block]? = some (.cells c e fz) ∧ c[a.off + i]? = some (.int k (zs.getD i 0)) := by
      intro i hi
      have h1 := hc i hi
      obtain ⟨r, o, s⟩ := a
      simp only at hsp0
      subst hsp0
      rw [addr_add] at h1
      unfold World.cell? at h1
      simp only [Option.isSome_none, Bool.false_eq_true, if_false] at h1
      split at h1
      · rename_i c e fz hh
        exact ⟨rfl, c, e, fz, hh, h1⟩
      · cases h1
    obtain ⟨hsp, c, e, fz, hh, _⟩ := hget 0 (by omega)
    refine ⟨a, cap, rfl, hsp, hX _, ⟨c, e, fz, hh, c.toList.take a.off, c.toList.drop (a.off + len), ?_, ?_⟩, hlen⟩
    · have hv : (c.toList.drop a.off).take len = (zs.take len).map (Value.int k) := by
        apply List.ext_getElem?
        intro i
        rw [List.getElem?_take]
        split
        · rename_i hi
          obtain ⟨_, c', e', fz', hh', h2⟩ := hget i (by omega)
          rw [hh] at hh'
          cases hh'
          rw [List.getElem?_drop, Array.getElem?_toList, h2, List.getElem?_map, List.getElem?_take, if_pos hi]
          simp [List.getD_eq_getElem?_getD, show i < zs.length by omega]
        · rename_i hi
          rw [List.getElem?_eq_none (by simp; omega)]
      rw [← hv, List.append_assoc, ← List.drop_drop, List.take_append_drop, List.take_append_drop]
    · obtain ⟨_, c', e', fz', hh', h2⟩ := hget 0 (by omega)
      rw [hh] at hh'
      cases hh'
      have := (Array.getElem?_eq_some_iff.1 h2).1
      simp; omega

theorem okWide_slice {t e : TypeId} {v : Value} (ht : P.underlying t = some (.slice e)) (h : Value.okWide P W .any 0 t v) : (∃ a n c, v = .slice a n c) := by
  unfold Value.okWide at h
  rw [ht] at h
  simp only at h
  unfold Cell.okWide at h
  rw [ht] at h
  simp only at h
  unfold Cell.ok at h
  rw [ht] at h
  cases v <;> simp only at h <;> first | exact ⟨_, _, _, rfl⟩ | cases h

theorem trod_ints {t e : TypeId} {k : IntKind} {fuel : Nat} {cs : List Value} {x : DataW H × List MemPlace} (ht : P.underlying t = some (.slice e)) (he : P.underlying e = some (.int k)) (hc : P.cellsOf e = 1)
    (hX : ∀ r, ¬ X r) (h : DataW.trod enc P W 0 (fun _ => true) true fuel t cs = some x) :
    ∃ l, AV.rel X W [] (.roI k l) cs ∧ ((l = [] ∧ x.1 = .nil) ∨ ∃ sp, x.1 = .slice (lits k l) sp) ∧ ∀ n ∈ l, (Lit.int k n).wf = true := by
  rcases open_ints ht he hc h with ⟨rfl, rfl⟩ | ⟨a, len, cap, zs, rfl, _, hlen, _, hz, rfl, hcell, hwf⟩
  · refine ⟨[], ?_, .inl ⟨rfl, rfl⟩, by simp⟩
    simp only [AV.rel, roAt]
    exact .inr ⟨rfl, none, rfl⟩
  · simp only [if_true] at hz
    refine ⟨zs.take len, ?_, .inr ⟨_, rfl⟩, fun n hn => hwf n (List.mem_of_mem_take hn)⟩
    simp only [AV.rel]
    have h1 : (zs.take len).length = len := by simp; omega
    have := cells_ro (W := W) (X := X) (k := k) hlen hz hX hcell
    rw [h1]
    exact this
theorem open_ints' {t e : TypeId} {k : IntKind} {v : Value} {d : DataW H} {ps : List MemPlace} (ht : P.underlying t = some (.slice e)) (he : P.underlying e = some (.int k)) (hc : P.cellsOf e = 1)
    (hX : ∀ r, ¬ X r) (hval : Value.okWide P W .any 0 t v) (hd : DataW.Trod enc P W 0 (fun _ => true) true t v d ps) :
    ∃ l, AV.relV X W [] (.roI k l) v ∧ ((l = [] ∧ d = .nil) ∨ ∃ sp, d = .slice (lits k l) sp) ∧ ∀ n ∈ l, (Lit.int k n).wf = true := by
  obtain ⟨fuel, hd⟩ := hd
  obtain ⟨l, h1, h2, h3⟩ := trod_ints ht he hc hX hd
  refine ⟨l, ?_, h2, h3⟩
  obtain ⟨a, n, c, rfl⟩ := okWide_slice ht hval
  simp only [AV.relV]
  exact h1

theorem trod_arr {t e : TypeId} {k : IntKind} {n fuel : Nat} {cs : List Value} {x : DataW H × List MemPlace} {base : Nat} {sp : Nat → Bool} {held : Bool} (ht : P.underlying t = some (.array n e)) (he : P.underlying e = some (.int k)) (hc : P.cellsOf e = 1) (hct : P.cellsOf t = n)
    (h : DataW.trod enc P W base sp held fuel t cs = some x) : ∃ l : List Int, cs = l.map (Value.int k) ∧ l.length = n ∧ ∀ m ∈ l, (Lit.int k m).wf = true := by
  cases fuel with
  | zero => simp [DataW.trod] at h
  | succ fuel =>
    unfold DataW.trod at h
    rw [ht] at h
    simp only at h
    split at h
    · rename_i hl
      rw [hct] at hl
      obtain ⟨xs, h1, _⟩ := Option.map_eq_some_iff.1 h
      have hg := fun i hi => mapM_some_get h1 i i hi
      have each : ∀ i, i < n → ∃ m, cs[i]? = some (.int k m) ∧ (Lit.int k m).wf = true := by
        intro i hi
        have h2 := hg i (by simp [hi])
        rw [hc, Nat.mul_one] at h2
        have hxl := mapM_some_length h1
        simp only [List.length_range] at hxl
        rw [List.getElem?_eq_getElem (by omega)] at h2
        obtain ⟨m, h3, _, h4⟩ := DataW.trod_int he h2
        refine ⟨m, ?_, h4⟩
        have hd : cs.drop i = cs[i] :: cs.drop (i + 1) := List.drop_eq_getElem_cons (by omega)
        have h5 : cs[i] = .int k m := by
          have h6 : [cs[i]] = [Value.int k m] := by rw [← h3, hd]; rfl
          simpa using h6
        rw [List.getElem?_eq_getElem (by omega), h5]
      let val : Value → Int := fun v => match v with | .int _ m => m | _ => 0
      refine ⟨cs.map val, ?_, by simp [hl], ?_⟩
      · apply List.ext_getElem?
        intro i
        rcases Nat.lt_or_ge i n with hi | hi
        · obtain ⟨m, h2, _⟩ := each i hi
          simp only [List.getElem?_map, h2, Option.map_some, val]
        · rw [List.getElem?_eq_none (by omega), List.getElem?_eq_none (by simp; omega)]
      · intro m hm
        obtain ⟨v, hv, rfl⟩ := List.mem_map.1 hm
        obtain ⟨i, hi⟩ := List.getElem?_of_mem hv
        obtain ⟨m, h2, h3⟩ := each i (by have := (List.getElem?_eq_some_iff.1 hi).1; omega)
        rw [hi] at h2
        cases h2
        exact h3
    · cases h
theorem open_arr' {t e : TypeId} {k : IntKind} {n : Nat} {v : Value} {d : DataW H} {ps : List MemPlace} (ht : P.underlying t = some (.array n e)) (he : P.underlying e = some (.int k)) (hc : P.cellsOf e = 1) (hct : P.cellsOf t = n)
    (hval : Value.okWide P W .any 0 t v) (hd : DataW.Trod enc P W 0 (fun _ => true) true t v d ps) : ∃ l, AV.relV X W [] (.arr n k l) v ∧ l.length = n ∧ ∀ m ∈ l, (Lit.int k m).wf = true := by
  obtain ⟨fuel, hd⟩ := hd
  obtain ⟨l, h1, h2, h3⟩ := trod_arr ht he hc hct hd
  refine ⟨l, ?_, h2, h3⟩
  unfold Value.okWide at hval
  rw [ht] at hval
  simp only at hval
  obtain ⟨cs, rfl, _⟩ := hval
  simp only [AV.relV]
  refine ⟨?_, h2⟩
  have : cs.toList = l.map (Value.int k) := h1
  rw [← this]

theorem law_post {f : FuncId} {fn : Func} {s : ChangeSpec} {tb : TypeId} {args : Array Value} {ds gs : List (DataW H)} {before : List MemPlace} {L : List TypeId} (hz : closedL P L = true) (hL : ∀ t ∈ fn.params.toList, t ∈ L) (hres : fn.resultTypes = #[tb]) (htb : P.underlying tb = some .bool)
    (hvars : s.vars = []) (hfn : (s.fn H (ds ++ gs)) = { results := [.lit (.bool true)], args := ds })
    (hW : DataW.Whole enc P fn.params.toList s.vars false W args.toList ds gs before)
    {avs : List AV} (hargs : relVs (XOf (fun _ => False) [] []) W [] avs args.toList) (hcall : ACall P f avs [] fun v _ => v = .v (.bool true)) :
    Calls P f args W fun e W' => ∃ v, e = .returned v ∧ s.post enc P fn false true false false W args v W' := by
  refine (hcall.2 (fun _ => False) W [] args hargs ⟨rfl, by simp, by simp⟩ (fun r h => h.elim)).mono ?_
  rintro en W' ⟨av, v, ρ', h', rfl, rfl, hv, _, _, _, hfr⟩
  simp only [AV.relV, AV.rel] at hv
  obtain ⟨hv, _⟩ := hv
  have hv : v = .bool true := by simpa using hv
  subst hv
  have hno : ∀ r, ¬ own ([] : List (Option Nat)) [] r := by rintro r ⟨b, hb, _⟩; simp at hb
  have hb : Below W.heap.size W W' := ⟨hfr.os, hfr.tape, hfr.out, hfr.size, fun k hk => hfr.same k hk (hno k)⟩
  have hW' := hW
  obtain ⟨p, q, hA, hV, rfl, _, _⟩ := hW
  rw [hvars] at hV
  obtain ⟨rfl, rfl⟩ := trodVars_none hV
  refine ⟨_, rfl, post_below (pa := p) (pv := []) hW' ?_ ?_ ?_ rfl hb ?_⟩
  · intro b sp hd
    rw [hfn, hres]
    exact trodAll_cons_mk (shut_bool htb _) trodAll_mk0
  · intro sp hsp
    rw [hfn]
    exact trodAll_below hb hz hL hA (fun x hx => hsp x (by simp [hx]))
  · intro sp hsp
    rw [hvars]
    simp only [hfn]
    rfl
  · rw [hres]
    have := ok_one (P := P) (W' := W') (f := fn) (v := .bool true) hres rfl (okWide_bool_mk htb true)
    rw [hres] at this
    exact this
end
end Go.Ax

namespace Go.Ax
open Go.RowKit Go.WideShapes Go.ChangeShapes
section
variable {H : Type} {enc : TypeId × Value → H} {P : Program} {W : World} {X : Nat → Prop}
theorem trod_struct {t : TypeId} {fuel n : Nat} {fs : Array Field} {cs : List Value} {x : DataW H × List MemPlace} (ht : P.underlying t = some (.struct fs)) (hct : P.cellsOf t = n)
    (h : DataW.trod enc P W 0 (fun _ => true) true fuel t cs = some x) : ∃ fuel', ∃ xs : List (DataW H × List MemPlace), cs.length = n ∧ x.1 = .agg (xs.map (·.1)) ∧
      fs.toList.mapM (fun f => DataW.trod enc P W 0 (fun _ => true) true fuel' f.type ((cs.drop f.offset).take (P.cellsOf f.type))) = some xs := by
  cases fuel with
  | zero => simp [DataW.trod] at h
  | succ fuel =>
    unfold DataW.trod at h
    rw [ht] at h
    simp only at h
    split at h
    · rename_i hl
      obtain ⟨xs, h1, h2⟩ := Option.map_eq_some_iff.1 h
      exact ⟨fuel, xs, by rw [hl, hct], by rw [← h2], h1⟩
    · cases h
theorem okWide_struct {t : TypeId} {fs : Array Field} {v : Value} (ht : P.underlying t = some (.struct fs)) (h : Value.okWide P W .any 0 t v) : ∃ cs, v = .agg cs := by
  unfold Value.okWide at h
  rw [ht] at h
  simp only at h
  obtain ⟨cs, rfl, _⟩ := h
  exact ⟨cs, rfl⟩
theorem open_prm {t e : TypeId} {k : IntKind} {f0 f1 f2 : Field} {v : Value} {d : DataW H} {ps : List MemPlace} (ht : P.underlying t = some (.struct #[f0, f1, f2])) (h0 : f0.type = e ∧ f0.offset = 0) (h1 : f1.type = e ∧ f1.offset = 1) (h2 : f2.type = e ∧ f2.offset = 2)
    (he : P.underlying e = some (.int k)) (hce : P.cellsOf e = 1) (hct : P.cellsOf t = 3) (hval : Value.okWide P W .any 0 t v) (hd : DataW.Trod enc P W 0 (fun _ => true) true t v d ps) :
    ∃ a b c, AV.relV X W [] (.agg [.v (.int k a), .v (.int k b), .v (.int k c)]) v ∧ ((Lit.int k a).wf = true ∧ (Lit.int k b).wf = true ∧ (Lit.int k c).wf = true) := by
  obtain ⟨cs, rfl⟩ := okWide_struct ht hval
  obtain ⟨fuel, hd⟩ := hd
  obtain ⟨fuel', xs, hl, _, hm⟩ := trod_struct ht hct hd
  have hl : cs.toList.length = 3 := hl
  obtain ⟨cs⟩ := cs
  match cs, hl with
  | [x, y, z], _ =>
    simp only [List.mapM_cons, List.mapM_nil, h0.1, h0.2, h1.1, h1.2, h2.1, h2.2, hce] at hm
    rw [show (Value.agg ⟨[x, y, z]⟩).cells.toList = [x, y, z] from rfl] at hm
    simp only [List.drop_zero, List.drop_succ_cons, List.take_succ_cons, List.take_zero, Option.bind_eq_bind, Option.pure_def, Option.bind_some, Option.bind_assoc] at hm
    obtain ⟨a, ha, hm⟩ := Option.bind_eq_some_iff.1 hm
    obtain ⟨b, hb, hm⟩ := Option.bind_eq_some_iff.1 hm
    obtain ⟨c, hc, hm⟩ := Option.bind_eq_some_iff.1 hm
    obtain ⟨m0, e0, _, w0⟩ := DataW.trod_int he ha
    obtain ⟨m1, e1, _, w1⟩ := DataW.trod_int he hb
    obtain ⟨m2, e2, _, w2⟩ := DataW.trod_int he hc
    simp only [List.cons.injEq, and_true] at e0 e1 e2
    subst e0 e1 e2
    refine ⟨m0, m1, m2, ?_, w0, w1, w2⟩
    simp only [AV.relV]
    refine ⟨_, rfl, ?_⟩
    simp only [relAll, AV.rel]
    exact ⟨_, _, rfl, ⟨rfl, rfl⟩, _, _, rfl, ⟨rfl, rfl⟩, _, _, rfl, ⟨rfl, rfl⟩, rfl⟩
theorem open_sec {t e u : TypeId} {k : IntKind} {f0 f1 f2 f3 : Field} {v : Value} {d : DataW H} {ps : List MemPlace} (ht : P.underlying t = some (.struct #[f0, f1, f2, f3])) (h0 : f0.type = e ∧ f0.offset = 0) (h1 : f1.type = e ∧ f1.offset = 1) (h2 : f2.type = e ∧ f2.offset = 2) (h3 : f3.type = e ∧ f3.offset = 3)
    (he : P.underlying e = some (.slice u)) (hce : P.cellsOf e = 1) (hu : P.underlying u = some (.int k)) (hcu : P.cellsOf u = 1) (hct : P.cellsOf t = 4) (hX : ∀ r, ¬ X r) (hval : Value.okWide P W .any 0 t v) (hd : DataW.Trod enc P W 0 (fun _ => true) true t v d ps) :
    ∃ a b c g d0 d1 d2 d3, AV.relV X W [] (.agg [.roI k a, .roI k b, .roI k c, .roI k g]) v ∧ d = .agg [d0, d1, d2, d3] ∧
      ((a = [] ∧ d0 = .nil) ∨ ∃ sp, d0 = .slice (lits k a) sp) ∧ ((b = [] ∧ d1 = .nil) ∨ ∃ sp, d1 = .slice (lits k b) sp) ∧ ((c = [] ∧ d2 = .nil) ∨ ∃ sp, d2 = .slice (lits k c) sp) ∧ ((g = [] ∧ d3 = .nil) ∨ ∃ sp, d3 = .slice (lits k g) sp) := by
  obtain ⟨cs, rfl⟩ := okWide_struct ht hval
  obtain ⟨fuel, hd⟩ := hd
  obtain ⟨fuel', xs, hl, hx, hm⟩ := trod_struct ht hct hd
  have hl : cs.toList.length = 4 := hl
  obtain ⟨cs⟩ := cs
  match cs, hl with
  | [x, y, z, w], _ =>
    simp only [List.mapM_cons, List.mapM_nil, h0.1, h0.2, h1.1, h1.2, h2.1, h2.2, h3.1, h3.2, hce] at hm
    rw [show (Value.agg ⟨[x, y, z, w]⟩).cells.toList = [x, y, z, w] from rfl] at hm
    simp only [List.drop_zero, List.drop_succ_cons, List.take_succ_cons, List.take_zero, Option.bind_eq_bind, Option.pure_def, Option.bind_some, Option.bind_assoc] at hm
    obtain ⟨a, ha, hm⟩ := Option.bind_eq_some_iff.1 hm
    obtain ⟨b, hb, hm⟩ := Option.bind_eq_some_iff.1 hm
    obtain ⟨c, hc, hm⟩ := Option.bind_eq_some_iff.1 hm
    obtain ⟨g, hg, hm⟩ := Option.bind_eq_some_iff.1 hm
    obtain ⟨l0, r0, s0, _⟩ := trod_ints he hu hcu hX ha
    obtain ⟨l1, r1, s1, _⟩ := trod_ints he hu hcu hX hb
    obtain ⟨l2, r2, s2, _⟩ := trod_ints he hu hcu hX hc
    obtain ⟨l3, r3, s3, _⟩ := trod_ints he hu hcu hX hg
    cases hm
    refine ⟨l0, l1, l2, l3, a.1, b.1, c.1, g.1, ?_, hx, s0, s1, s2, s3⟩
    simp only [AV.relV]
    refine ⟨_, rfl, ?_⟩
    simp only [relAll]
    exact ⟨[x], [y, z, w], rfl, r0, [y], [z, w], rfl, r1, [z], [w], rfl, r2, [w], [], rfl, r3, rfl⟩
end
end Go.Ax

namespace Go.Ax
open Go.RowKit Go.WideShapes Go.ChangeShapes
section
variable {H : Type} {enc : TypeId × Value → H} {P : Program} {W : World} {X : Nat → Prop}
theorem trod_slice_one {t e : TypeId} {fuel : Nat} {cs : List Value} {x : DataW H × List MemPlace} (ht : P.underlying t = some (.slice e)) (h : DataW.trod enc P W 0 (fun _ => true) true fuel t cs = some x) : ∃ a n c, cs = [.slice a n c] := by
  cases fuel with
  | zero => simp [DataW.trod] at h
  | succ fuel =>
    unfold DataW.trod at h
    rw [ht] at h
    simp only at h
    split at h <;> first | exact ⟨_, _, _, rfl⟩ | simp_all
theorem roI_len {k : IntKind} {l : List Int} {a : Option Addr} {n c : Nat} (h : AV.rel X W [] (.roI k l) [.slice a n c]) : l.length = n ∨ l = [] := by
  simp only [AV.rel, roAt] at h
  rcases h with ⟨a', c', h1, _⟩ | ⟨h1, _⟩
  · left
    simp only [List.cons.injEq, Value.slice.injEq, and_true] at h1
    exact h1.2.1.symm
  · right
    exact List.length_eq_zero_iff.1 h1
theorem trod_ints_le {t e : TypeId} {k : IntKind} {fuel : Nat} {cs : List Value} {x : DataW H × List MemPlace} {l : List Int} (ht : P.underlying t = some (.slice e)) (h : DataW.trod enc P W 0 (fun _ => true) true fuel t cs = some x) (hl : AV.rel X W [] (.roI k l) cs) : l.length ≤ 9223372036854775807 := by
  rcases DataW.trod_slice ht h with ⟨rfl, _⟩ | ⟨a, len, cap, elems, rest, n, _, rfl, _, _, hlen, hcap, _⟩
  · rcases roI_len hl with h1 | h1
    · omega
    · rw [h1]; decide
  · have hm : maxLen = 9223372036854775807 := rfl
    rcases roI_len hl with h1 | h1
    · omega
    · rw [h1]; decide
structure OpV where
  kd : Int
  n : Int
  b : List Int
  p : List Int
def opL (o : OpV) : List AV := [.v (.int .i64 o.kd), .v (.int .i64 o.n), .roI .u8 o.b, .roI .u8 o.p, .any]
structure OpT (P : Program) (t : TypeId) : Prop where
  ex : ∃ ti tu ue tk ke f0 f1 f2 f3 f4, P.underlying t = some (.struct #[f0, f1, f2, f3, f4]) ∧ (f0.type = ti ∧ f0.offset = 0) ∧ (f1.type = ti ∧ f1.offset = 1) ∧ (f2.type = tu ∧ f2.offset = 2) ∧ (f3.type = tu ∧ f3.offset = 3) ∧ (f4.type = tk ∧ f4.offset = 4) ∧
    P.underlying ti = some (.int .i64) ∧ P.cellsOf ti = 1 ∧ P.underlying tu = some (.slice ue) ∧ P.cellsOf tu = 1 ∧ P.underlying ue = some (.int .u8) ∧ P.cellsOf ue = 1 ∧ P.underlying tk = some (.slice ke) ∧ P.cellsOf tk = 1 ∧ P.cellsOf t = 5
theorem trod_op {t : TypeId} {fuel : Nat} {cs : List Value} {x : DataW H × List MemPlace} (hT : OpT P t) (hX : ∀ r, ¬ X r) (h : DataW.trod enc P W 0 (fun _ => true) true fuel t cs = some x) : ∃ o : OpV, relAll X W [] (opL o) cs ∧ cs.length = 5 ∧ o.b.length ≤ 9223372036854775807 ∧ o.p.length ≤ 9223372036854775807 := by
  obtain ⟨ti, tu, ue, tk, ke, f0, f1, f2, f3, f4, ht, h0, h1, h2, h3, h4, hi, hci, hu, hcu, he, hce, hk, hck, hct⟩ := hT.ex
  obtain ⟨fuel', xs, hl, _, hm⟩ := trod_struct ht hct h
  match cs, hl with
  | [x0, x1, x2, x3, x4], _ =>
    simp only [List.mapM_cons, List.mapM_nil, h0.1, h0.2, h1.1, h1.2, h2.1, h2.2, h3.1, h3.2, h4.1, h4.2, hci, hcu, hck] at hm
    simp only [List.drop_zero, List.drop_succ_cons, List.take_succ_cons, List.take_zero, Option.bind_eq_bind, Option.pure_def, Option.bind_some, Option.bind_assoc] at hm
    obtain ⟨a, ha, hm⟩ := Option.bind_eq_some_iff.1 hm
    obtain ⟨b, hb, hm⟩ := Option.bind_eq_some_iff.1 hm
    obtain ⟨c, hc, hm⟩ := Option.bind_eq_some_iff.1 hm
    obtain ⟨g, hg, hm⟩ := Option.bind_eq_some_iff.1 hm
    obtain ⟨q, hq, hm⟩ := Option.bind_eq_some_iff.1 hm
    obtain ⟨m0, e0, _, w0⟩ := DataW.trod_int hi ha
    obtain ⟨m1, e1, _, w1⟩ := DataW.trod_int hi hb
    obtain ⟨l2, r2, s2, _⟩ := trod_ints hu he hce hX hc
    obtain ⟨l3, r3, s3, _⟩ := trod_ints hu he hce hX hg
    obtain ⟨sa, sn, sc, e4⟩ := trod_slice_one hk hq
    simp only [List.cons.injEq, and_true] at e0 e1 e4
    subst e0 e1 e4
    refine ⟨⟨m0, m1, l2, l3⟩, ?_, rfl, trod_ints_le hu hc r2, trod_ints_le hu hg r3⟩
    simp only [opL, relAll]
    refine ⟨[_], _, rfl, ?_, [_], _, rfl, ?_, [x2], _, rfl, r2, [x3], _, rfl, r3, [_], [], rfl, ?_, rfl⟩
    · simp [AV.rel, flat]
    · simp [AV.rel, flat]
    · simp [AV.rel, flat]
theorem open_op {t : TypeId} {v : Value} {d : DataW H} {ps : List MemPlace} (hT : OpT P t) (hX : ∀ r, ¬ X r) (hval : Value.okWide P W .any 0 t v) (hd : DataW.Trod enc P W 0 (fun _ => true) true t v d ps) :
    ∃ o : OpV, AV.relV X W [] (.agg (opL o)) v ∧ o.b.length ≤ 9223372036854775807 ∧ o.p.length ≤ 9223372036854775807 := by
  obtain ⟨ti, tu, ue, tk, ke, f0, f1, f2, f3, f4, ht, _⟩ := hT.ex
  obtain ⟨cs, rfl⟩ := okWide_struct ht hval
  obtain ⟨fuel, hd⟩ := hd
  obtain ⟨o, h1, _, h2⟩ := trod_op hT hX hd
  refine ⟨o, ?_, h2⟩
  simp only [AV.relV]
  exact ⟨_, rfl, h1⟩
end
end Go.Ax

namespace Go.Ax
theorem run_join {C : Cfg} {b : Code} {k : List KI} {σ : St} {Q : Exit → St → Prop} (I : St → Prop) (h1 : run C b [] σ (fun ex σ' => ex = .normal ∧ I σ')) (h2 : ∀ σ', I σ' → cont C .normal k σ' Q) : run C b k σ Q :=
  exec_mono b (by rintro ex σ' ⟨rfl, h⟩; exact h2 σ' h) h1
theorem cond_join {C : Cfg} {t : Bool} {x y : Code} {k : List KI} {σ : St} {Q : Exit → St → Prop} (I : St → Prop) (h1 : condR C (.v (.bool t)) x y [] σ (fun ex σ' => ex = .normal ∧ I σ')) (h2 : ∀ σ', I σ' → cont C .normal k σ' Q) : condR C (.v (.bool t)) x y k σ Q := by
  cases t
  · exact run_join I h1 h2
  · exact run_join I h1 h2
theorem last_join {C : Cfg} {b : Code} {k : List KI} {σ : St} {Q : Exit → St → Prop} (i : Nat) (I : St → Prop) (h1 : run C b [] σ (fun ex σ' => ex = .exit i ∧ I σ')) (h2 : ∀ σ', I σ' → cont C (.exit i) k σ' Q) :
    run C b [] σ (fun ex σ' => thenK (fun _ => False) (fun ex σ' => cont C ex k σ' Q) ex σ') :=
  run_mono (k := []) (by rintro ex σ' ⟨rfl, h⟩; exact h2 σ' h) h1
end Go.Ax

namespace Go.Ax
open Go.RowKit Go.WideShapes Go.ChangeShapes
section
variable {H : Type} {enc : TypeId × Value → H} {P : Program} {W : World} {X : Nat → Prop}
theorem cells_roS {a : Addr} {zs : List Value} {len cap sz : Nat} (hlen : len ≤ cap) (hz : zs.length = cap * sz) (hs : 0 < sz) (hX : ∀ r, ¬ X r)
    (hc : ∀ i v, zs[i]? = some v → W.cell? (a.add i) = some v) : roAt X W len (zs.take (len * sz)) [.slice (some a) len cap] := by
  rcases Nat.eq_zero_or_pos cap with h0 | h0
  · subst h0
    obtain rfl : len = 0 := by omega
    exact .inr ⟨rfl, some a, rfl⟩
  · left
    have hpos : 0 < zs.length := by rw [hz]; exact Nat.mul_pos h0 hs
    have hc' : ∀ i (hi : i < zs.length), W.cell? (a.add i) = some zs[i] := fun i hi => hc i _ (List.getElem?_eq_getElem hi)
    have hsp0 : a.spot = none := by
      have h1 := hc' 0 hpos
      have h2 : a.add 0 = a := by unfold Addr.add; rfl
      rw [h2] at h1
      unfold World.cell? at h1
      split at h1
      · by_cases hs : a.spot.isSome = true
        · rw [if_pos hs] at h1; cases h1
        · simpa using hs
      · cases h1
    have hget : ∀ i (hi : i < zs.length), a.spot = none ∧ ∃ c e fz, W.heap[a.block]? = some (.cells c e fz) ∧ c[a.off + i]? = some zs[i] := by
      intro i hi
      have h1 := hc' i hi
      obtain ⟨r, o, s⟩ := a
      simp only at hsp0
      subst hsp0
      rw [addr_add] at h1
      unfold World.cell? at h1
      simp only [Option.isSome_none, Bool.false_eq_true, if_false] at h1
      split at h1
      · rename_i c e fz hh
        exact ⟨rfl, c, e, fz, hh, h1⟩
      · cases h1
    obtain ⟨hsp, c, e, fz, hh, _⟩ := hget 0 hpos
    have hle : len * sz ≤ zs.length := by rw [hz]; exact Nat.mul_le_mul_right _ hlen
    refine ⟨a, cap, rfl, hsp, hX _, ⟨c, e, fz, hh, c.toList.take a.off, c.toList.drop (a.off + len * sz), ?_, ?_⟩, hlen⟩
    · have hv : (c.toList.drop a.off).take (len * sz) = zs.take (len * sz) := by
        apply List.ext_getElem?
        intro i
        rw [List.getElem?_take, List.getElem?_take]
        split
        · rename_i hi
          obtain ⟨_, c', e', fz', hh', h2⟩ := hget i (by omega)
          rw [hh] at hh'
          cases hh'
          rw [List.getElem?_drop, Array.getElem?_toList, h2, List.getElem?_eq_getElem (by omega)]
        · rfl
      rw [← hv, List.append_assoc, ← List.drop_drop, List.take_append_drop, List.take_append_drop]
    · obtain ⟨_, c', e', fz', hh', h2⟩ := hget 0 hpos
      rw [hh] at hh'
      cases hh'
      have := (Array.getElem?_eq_some_iff.1 h2).1
      simp; omega
def OpB (o : OpV) : Prop := o.b.length ≤ 9223372036854775807 ∧ o.p.length ≤ 9223372036854775807
theorem ops_of {a : Addr} : ∀ (ys : List (DataW H × List MemPlace)) (k : Nat),
    (∀ i y, ys[i]? = some y → ∃ c o, c.length = 5 ∧ (∀ j v, c[j]? = some v → W.cell? (a.add ((k + i) * 5 + j)) = some v) ∧ relAll X W [] (opL o) c ∧ OpB o) →
    ∃ (cs : List Value) (ls : List OpV), cs.length = ys.length * 5 ∧ (∀ i v, cs[i]? = some v → W.cell? (a.add (k * 5 + i)) = some v) ∧
      relAll X W [] (ls.map fun o => .agg (opL o)) cs ∧ ls.length = ys.length ∧ ∀ o ∈ ls, OpB o
  | [], k, h => ⟨[], [], rfl, by simp, by simp only [List.map_nil, relAll], rfl, by simp⟩
  | y :: ys, k, h => by
    obtain ⟨c, o, h1, h2, h3, h4⟩ := h 0 y rfl
    obtain ⟨cs, ls, i1, i2, i3, i4, i5⟩ := ops_of (a := a) ys (k + 1) (fun i y hy => by
      have := h (i + 1) y (by simpa using hy)
      rwa [show k + (i + 1) = k + 1 + i by omega] at this)
    refine ⟨c ++ cs, o :: ls, by simp [i1, h1]; omega, ?_, ?_, by simp [i4], ?_⟩
    · intro i v hv
      by_cases hi : i < 5
      · rw [List.getElem?_append_left (by omega)] at hv
        simpa using h2 i v hv
      · rw [List.getElem?_append_right (by omega), h1] at hv
        have := i2 _ v hv
        rwa [show (k + 1) * 5 + (i - 5) = k * 5 + i by omega] at this
    · simp only [List.map_cons, relAll, AV.rel]
      exact ⟨c, cs, rfl, h3, i3⟩
    · intro x hx
      rcases List.mem_cons.1 hx with rfl | hx
      · exact h4
      · exact i5 x hx
theorem sizes_op (ls : List OpV) : sizes (ls.map fun o => AV.agg (opL o)) 5 := by
  intro e he
  obtain ⟨l, _, rfl⟩ := List.mem_map.1 he
  exact ⟨by simp [AV.size, opL, psize], fun h => by simp at h⟩
theorem open_ops {t u : TypeId} {v : Value} {d : DataW H} {ps : List MemPlace} (ht : P.underlying t = some (.slice u)) (hT : OpT P u) (hX : ∀ r, ¬ X r) (hval : Value.okWide P W .any 0 t v) (hd : DataW.Trod enc P W 0 (fun _ => true) true t v d ps) :
    ∃ ls : List OpV, AV.relV X W [] (.roL 5 (ls.map fun o => .agg (opL o))) v ∧ ∀ o ∈ ls, OpB o := by
  obtain ⟨fuel, hd⟩ := hd
  obtain ⟨a0, n0, c0, rfl⟩ := okWide_slice ht hval
  have hcu : P.cellsOf u = 5 := by
    obtain ⟨_, _, _, _, _, _, _, _, _, _, _, _, _, _, _, _, _, _, _, _, _, _, _, _, h⟩ := hT.ex
    exact h
  simp only [AV.relV]
  rcases DataW.trod_slice ht hd with ⟨h1, h2⟩ | ⟨a, len, cap, elems, rest, n, _, h1, h2, _, hlen, _, hel, hE, hR, _⟩
  · refine ⟨[], ?_, by simp⟩
    change [Value.slice a0 n0 c0] = _ at h1
    simp only [AV.rel, roAt, List.map_nil, relAll, h1]
    exact ⟨[], rfl, .inr ⟨rfl, none, rfl⟩, sizes_op []⟩
  · have each : ∀ i y, (elems ++ rest)[i]? = some y → ∃ c o, c.length = 5 ∧ (∀ j v, c[j]? = some v → W.cell? (a.add (i * 5 + j)) = some v) ∧ relAll X W [] (opL o) c ∧ OpB o := by
      intro i y hy
      have hb : (W.cells? 0 (a.add (i * P.cellsOf u)) (P.cellsOf u)).bind (DataW.trod enc P W 0 (fun _ => true) true n u) = some y := by
        by_cases hi : i < len
        · rw [hE i hi, ← hy, List.getElem?_append_left (by omega)]
        · obtain ⟨hrl, hr⟩ := hR rfl
          have hi' : i - len < rest.length := by
            have := (List.getElem?_eq_some_iff.1 hy).1
            simp at this
            omega
          have := hr (i - len) (by omega)
          rw [show len + (i - len) = i by omega] at this
          rw [this, ← hy, List.getElem?_append_right (by omega), hel]
      rw [hcu, Option.bind_eq_some_iff] at hb
      obtain ⟨cs, hcs, hy'⟩ := hb
      obtain ⟨o, g1, g2, g3⟩ := trod_op (X := X) hT hX hy'
      refine ⟨cs, o, g2, ?_, g1, g3⟩
      intro j v hv
      have hj := (List.getElem?_eq_some_iff.1 hv).1
      have := (World.cells?_some hcs).2.2 j (by omega)
      rw [hv] at this
      rw [← this]
      rw [Addr.add_add]
    obtain ⟨hrl, _⟩ := hR rfl
    obtain ⟨cs, ls, i1, i2, i3, i4, i5⟩ := ops_of (a := a) (X := X) elems 0 (fun i y hy => by
      have := each i y (by rw [List.getElem?_append_left (List.getElem?_eq_some_iff.1 hy).1]; exact hy)
      simpa using this)
    obtain ⟨cs', ls', j1, j2, _⟩ := ops_of (a := a) (X := X) rest len (fun i y hy => by
      have := each (len + i) y (by rw [List.getElem?_append_right (by omega), hel, show len + i - len = i by omega]; exact hy)
      exact this)
    have hro := cells_roS (W := W) (X := X) (a := a) (zs := cs ++ cs') (len := len) (cap := cap) (sz := 5) hlen (by simp; omega) (by omega) hX (by
      intro i v hv
      by_cases hi : i < cs.length
      · rw [List.getElem?_append_left hi] at hv
        simpa using i2 i v hv
      · rw [List.getElem?_append_right (by omega)] at hv
        have := j2 _ v hv
        rwa [show len * 5 + (i - cs.length) = i by omega] at this)
    rw [List.take_append_of_le_length (by omega), List.take_of_length_le (by omega)] at hro
    refine ⟨ls, ?_, i5⟩
    change [Value.slice a0 n0 c0] = _ at h1
    simp only [AV.rel, List.length_map]
    rw [h1, i4, hel]
    exact ⟨cs, i3, hro, sizes_op ls⟩
end
end Go.Ax

namespace Go.Ax
theorem exA :
  (type_of% @v_eqR_int) ∧
  (type_of% @v_eqR_bool) ∧
  (type_of% @v_eqR_string) ∧
  (type_of% @v_eqR_pointer) ∧
  (type_of% @v_eqR_array) ∧
  (type_of% @v_eqR_struct) ∧
  (type_of% @v_eqR_slice) ∧
  (type_of% @v_eqR_map) ∧
  (type_of% @v_lenR_map) ∧
  (type_of% @v_lenR_slice) ∧
  (type_of% @v_lenR_string) ∧
  (type_of% @v_convR_int) ∧
  (type_of% @v_convR_string) ∧
  (type_of% @v_convR_bytes) ∧
  (type_of% @v_convR_same) ∧
  (type_of% @v_convR_slice) ∧
  (type_of% @v_move) ∧
  (type_of% @v_assign) ∧
  (type_of% @v_pick) ∧
  (type_of% @v_load) ∧
  (type_of% @v_nilCheck) ∧
  (type_of% @v_add) ∧
  (type_of% @v_sub) ∧
  (type_of% @v_mul) ∧
  (type_of% @v_quo) ∧
  (type_of% @v_rem) ∧
  (type_of% @v_and) ∧
  (type_of% @v_or) ∧
  (type_of% @v_xor) ∧
  (type_of% @v_andNot) ∧
  (type_of% @v_shl) ∧
  (type_of% @v_shr) ∧
  (type_of% @v_lss) ∧
  (type_of% @v_leq) ∧
  (type_of% @v_gtr) ∧
  (type_of% @v_geq) ∧
  (type_of% @v_eql) ∧
  (type_of% @v_neq) ∧
  (type_of% @v_un) ∧
  (type_of% @v_conv) ∧
  (type_of% @v_arrayAt) ∧
  (type_of% @v_makeFunc) ∧
  (type_of% @v_slice) ∧
  (type_of% @v_fieldAddr) ∧
  (type_of% @v_field) ∧
  (type_of% @v_indexAddr) ∧
  (type_of% @v_index) ∧
  (type_of% @v_extract) ∧
  (type_of% @v_build) ∧
  (type_of% @v_len) ∧
  (type_of% @v_lookup) ∧
  (type_of% @v_mapUpdate) ∧
  (type_of% @v_insert) ∧
  (type_of% @v_makeMap) ∧
  (type_of% @v_delete) ∧
  (type_of% @v_min) ∧
  (type_of% @v_max) ∧
  (type_of% @v_call) ∧
  (type_of% @v_alloc) ∧
  (type_of% @v_box) ∧
  (type_of% @v_store) ∧
  (type_of% @v_makeSlice) ∧
  (type_of% @v_buildSlice) ∧
  (type_of% @v_append) ∧
  (type_of% @v_copy) ∧
  (type_of% @lkR_two) ∧
  (type_of% @lkR_val) ∧
  (type_of% @nilA_ptr) ∧
  (type_of% @nilA_rop) ∧
  (type_of% @nilA_fn) ∧
  (type_of% @ldI_t) ∧
  (type_of% @ldI_f) ∧
  (type_of% @ldH_tmp) ∧
  (type_of% @ixAddrA_int) ∧
  (type_of% @ixA_int) ∧
  (type_of% @extA_tup) ∧
  (type_of% @calA_fn) ∧
  (type_of% @ev_tmp) ∧
  (type_of% @ev_const) ∧
  (type_of% @ev_func) ∧
  (type_of% @constAV_int) ∧
  (type_of% @constAV_bool) ∧
  (type_of% @constAV_string) ∧
  (type_of% @constAV_pointer) ∧
  (type_of% @constAV_slice) ∧
  (type_of% @optA_none) ∧
  (type_of% @optA_some) ∧
  (type_of% @b_add) ∧
  (type_of% @b_sub) ∧
  (type_of% @b_mul) ∧
  (type_of% @b_quo) ∧
  (type_of% @b_rem) ∧
  (type_of% @b_and) ∧
  (type_of% @b_or) ∧
  (type_of% @b_xor) ∧
  (type_of% @b_eql) ∧
  (type_of% @b_neq) ∧
  (type_of% @b_lss) ∧
  (type_of% @b_leq) ∧
  (type_of% @b_gtr) ∧
  (type_of% @b_geq) ∧
  (type_of% @b_shl) ∧
  (type_of% @b_shr) ∧
  (type_of% @b_seq) ∧
  (type_of% @b_sne) ∧
  (type_of% @b_beq) ∧
  (type_of% @b_bne) ∧
  (type_of% @b_peq) ∧
  (type_of% @b_pne) ∧
  (type_of% @b_qeq) ∧
  (type_of% @b_qne) ∧
  (type_of% @b_aeq) ∧
  (type_of% @b_ane) ∧
  (type_of% @u_neg) ∧
  (type_of% @u_xor) ∧
  (type_of% @u_not) ∧
  (type_of% @i_xor) ∧
  (type_of% @v_int_conv) ∧
  (type_of% @retK_ret) ∧
  (type_of% @retK_normal) ∧
  (type_of% @resList_nil) ∧
  (type_of% @resList_tmp) ∧
  (type_of% @packA_one) ∧
  (type_of% @packA_nil) ∧
  (type_of% @packA_two) ∧
  (type_of% @holds_some) ∧
  (type_of% @holds_none) ∧
  (type_of% @holds_guard) ∧
  (type_of% @rowS_nil) ∧
  (type_of% @rowS_v) ∧
  (type_of% @rowS_arr) ∧
  (type_of% @rowS_agg) ∧
  (type_of% @rowS_ptr) ∧
  (type_of% @rowS_sl) ∧
  (type_of% @rowS_roI) ∧
  (type_of% @rowS_roL) ∧
  (type_of% @rowS_rop) ∧
  (type_of% @rowS_lst) ∧
  (type_of% @rowS_fn) ∧
  (type_of% @rowS_mp) ∧
  (type_of% @rowS_any) ∧
  (type_of% @mrow_def) ∧
  (type_of% @mrowS_mk) ∧
  (type_of% @b_meq) ∧
  (type_of% @b_mne) ∧
  (type_of% @b_nmeq) ∧
  (type_of% @b_nmne) ∧
  (type_of% @b_seq2) ∧
  (type_of% @b_sne2) ∧
  (type_of% @eqSt_def) ∧
  (type_of% @eqsE_some) ∧
  (type_of% @rk_nil) ∧
  (type_of% @rk_int) ∧
  (type_of% @rk_bool) ∧
  (type_of% @rk_arr) ∧
  (type_of% @re_nil) ∧
  (type_of% @re_int) ∧
  (type_of% @re_bool) ∧
  (type_of% @re_arr) ∧
  (type_of% @constAV_map) ∧
  (type_of% @lkL_mp) ∧
  (type_of% @lkL_nil) ∧
  (type_of% @lkN_mp) ∧
  (type_of% @lkN_nil) ∧
  (type_of% @muA_mp) ∧
  (type_of% @mdA_mp) ∧
  (type_of% @mmA_none) ∧
  (type_of% @mmA_some) ∧
  (type_of% @cl_v) ∧
  (type_of% @cl_roI) ∧
  (type_of% @cl_roL) ∧
  (type_of% @cl_rop) ∧
  (type_of% @s_builtin_len) ∧
  (type_of% @s_builtin_min) ∧
  (type_of% @s_builtin_max) ∧
  (type_of% @opsR_cons_g) ∧
  (type_of% @resList_cell) ∧
  (type_of% @run_skip) ∧
  (type_of% @run_seq) ∧
  (type_of% @run_block) ∧
  (type_of% @run_exit) ∧
  (type_of% @run_ret) ∧
  (type_of% @run_loop) ∧
  (type_of% @run_cond) ∧
  (type_of% @run_region) ∧
  (type_of% @regionR_true) ∧
  (type_of% @regionR_false) ∧
  (type_of% @planR_done) ∧
  (type_of% @planR_stop) ∧
  (type_of% @planR_first) ∧
  (type_of% @planR_fork) ∧
  (type_of% @someR_some) ∧
  (type_of% @cont_plan) ∧
  (type_of% @cont_nil) ∧
  (type_of% @cont_code) ∧
  (type_of% @cont_blk) ∧
  (type_of% @cont_ret_code) ∧
  (type_of% @cont_ret_blk) ∧
  (type_of% @cont_exit_code) ∧
  (type_of% @cont_exit_blk) ∧
  (type_of% @opsR_nil) ∧
  (type_of% @opsR_cons) ∧
  (type_of% @wantR_skip) ∧
  (type_of% @valR_some) ∧
  (type_of% @valR_none) ∧
  (type_of% @valR_guard) ∧
  (type_of% @valR_ite) ∧
  (type_of% @outR_one) ∧
  (type_of% @outR_cap) ∧
  (type_of% @outR_none) ∧
  (type_of% @outR_guard) ∧
  (type_of% @nilR_some) ∧
  (type_of% @callA_some) ∧
  (type_of% @callB_some) ∧
  (type_of% @callB_none) ∧
  (type_of% @callN_some) ∧
  (type_of% @callN_none) ∧
  (type_of% @guard_bind) ∧
  (type_of% @guard_map) ∧
  (type_of% @guard_true) ∧
  (type_of% @guard_false) ∧
  (type_of% @get_put) ∧
  (type_of% @get_envOf) ∧
  (type_of% @put_none) ∧
  (type_of% @condR_t) ∧
  (type_of% @condR_f) ∧
  (type_of% @nilCmp_eql) ∧
  (type_of% @nilCmp_neq) ∧
  (type_of% @nilK_some) ∧
  (type_of% @bsK_of) ∧
  (type_of% @bsK_ints) ∧
  (type_of% @bsK_ones) ∧
  (type_of% @moK_of) ∧
  (type_of% @moK_slice) ∧
  (type_of% @moK_int) ∧
  (type_of% @apK_of) ∧
  (type_of% @apK_nil) ∧
  (type_of% @apK_sl) ∧
  (type_of% @apR_0) ∧
  (type_of% @apK_no) ∧
  (type_of% @akeep_no) ∧
  (type_of% @alK_of) ∧
  (type_of% @alK_sl) ∧
  (type_of% @alK_nil) ∧
  (type_of% @loK_some) ∧
  (type_of% @listOf_roL) ∧
  (type_of% @listOf_nil) ∧
  (type_of% @listOf_sl) ∧
  (type_of% @xorU_eq) ∧
  (type_of% @orU_eq) ∧
  (type_of% @take_range) ∧
  (type_of% @rep_one) ∧
  (type_of% @take_one) ∧
  (type_of% @wantR_tt) ∧
  (type_of% @wantR_ff) ∧
  (type_of% @wantR_tf) ∧
  (type_of% @wantR_ft) ∧
  (type_of% @envAll_nil) ∧
  (type_of% @envAll_cons) ∧
  (type_of% @get_envL_nil) ∧
  (type_of% @get_envL_cons) ∧
  (type_of% @thenK_normal) ∧
  (type_of% @thenK_exit) ∧
  (type_of% @thenK_ret) ∧
  (type_of% @storeA_ptr) ∧
  (type_of% @stK_some) ∧
  (type_of% @stC_some) ∧
  (type_of% @stD_cell) ∧
  (type_of% @stD_agg) ∧
  (type_of% @stE_some) ∧
  (type_of% @stE_guard) ∧
  (type_of% @loadA_ptr) ∧
  (type_of% @loadA_rop) ∧
  (type_of% @ldK_cell) ∧
  (type_of% @ldK_agg) ∧
  (type_of% @ldC_some) ∧
  (type_of% @ldD_some) ∧
  (type_of% @laC_some) ∧
  (type_of% @laD_some) ∧
  (type_of% @row_def) ∧
  (type_of% @rep_2) ∧
  (type_of% @rep_3) ∧
  (type_of% @rep_4) ∧
  (type_of% @rep_5) ∧
  (type_of% @rep_6) ∧
  (type_of% @cv_ro) ∧
  (type_of% @cv_nil) ∧
  (type_of% @cv_sl) ∧
  (type_of% @cvK_str) ∧
  (type_of% @sb_str) ∧
  (type_of% @sb_sl) ∧
  (type_of% @sbK_str) ∧
  (type_of% @mk_sl) ∧
  (type_of% @mkK_bytes) ∧
  (type_of% @u8Of_roI) ∧
  (type_of% @u8Of_nil) ∧
  (type_of% @u8Of_sl) ∧
  (type_of% @isU8_some) ∧
  (type_of% @isU8_guard) ∧
  (type_of% @u8sOf_roL) ∧
  (type_of% @u8sOf_nil) ∧
  (type_of% @u8sOf_sl) ∧
  (type_of% @allOf_ro) ∧
  (type_of% @osel_t) ∧
  (type_of% @osel_f) :=
  ⟨@v_eqR_int, @v_eqR_bool, @v_eqR_string, @v_eqR_pointer, @v_eqR_array, @v_eqR_struct, @v_eqR_slice, @v_eqR_map, @v_lenR_map, @v_lenR_slice, @v_lenR_string, @v_convR_int, @v_convR_string, @v_convR_bytes, @v_convR_same, @v_convR_slice, @v_move, @v_assign, @v_pick, @v_load, @v_nilCheck, @v_add, @v_sub, @v_mul, @v_quo, @v_rem, @v_and, @v_or, @v_xor, @v_andNot, @v_shl, @v_shr, @v_lss, @v_leq, @v_gtr, @v_geq, @v_eql, @v_neq, @v_un, @v_conv, @v_arrayAt, @v_makeFunc, @v_slice, @v_fieldAddr, @v_field, @v_indexAddr, @v_index, @v_extract, @v_build, @v_len, @v_lookup, @v_mapUpdate, @v_insert, @v_makeMap, @v_delete, @v_min, @v_max, @v_call, @v_alloc, @v_box, @v_store, @v_makeSlice, @v_buildSlice, @v_append, @v_copy, @lkR_two, @lkR_val, @nilA_ptr, @nilA_rop, @nilA_fn, @ldI_t, @ldI_f, @ldH_tmp, @ixAddrA_int, @ixA_int, @extA_tup, @calA_fn, @ev_tmp, @ev_const, @ev_func, @constAV_int, @constAV_bool, @constAV_string, @constAV_pointer, @constAV_slice, @optA_none, @optA_some, @b_add, @b_sub, @b_mul, @b_quo, @b_rem, @b_and, @b_or, @b_xor, @b_eql, @b_neq, @b_lss, @b_leq, @b_gtr, @b_geq, @b_shl, @b_shr, @b_seq, @b_sne, @b_beq, @b_bne, @b_peq, @b_pne, @b_qeq, @b_qne, @b_aeq, @b_ane, @u_neg, @u_xor, @u_not, @i_xor, @v_int_conv, @retK_ret, @retK_normal, @resList_nil, @resList_tmp, @packA_one, @packA_nil, @packA_two, @holds_some, @holds_none, @holds_guard, @rowS_nil, @rowS_v, @rowS_arr, @rowS_agg, @rowS_ptr, @rowS_sl, @rowS_roI, @rowS_roL, @rowS_rop, @rowS_lst, @rowS_fn, @rowS_mp, @rowS_any, @mrow_def, @mrowS_mk, @b_meq, @b_mne, @b_nmeq, @b_nmne, @b_seq2, @b_sne2, @eqSt_def, @eqsE_some, @rk_nil, @rk_int, @rk_bool, @rk_arr, @re_nil, @re_int, @re_bool, @re_arr, @constAV_map, @lkL_mp, @lkL_nil, @lkN_mp, @lkN_nil, @muA_mp, @mdA_mp, @mmA_none, @mmA_some, @cl_v, @cl_roI, @cl_roL, @cl_rop, @s_builtin_len, @s_builtin_min, @s_builtin_max, @opsR_cons_g, @resList_cell, @run_skip, @run_seq, @run_block, @run_exit, @run_ret, @run_loop, @run_cond, @run_region, @regionR_true, @regionR_false, @planR_done, @planR_stop, @planR_first, @planR_fork, @someR_some, @cont_plan, @cont_nil, @cont_code, @cont_blk, @cont_ret_code, @cont_ret_blk, @cont_exit_code, @cont_exit_blk, @opsR_nil, @opsR_cons, @wantR_skip, @valR_some, @valR_none, @valR_guard, @valR_ite, @outR_one, @outR_cap, @outR_none, @outR_guard, @nilR_some, @callA_some, @callB_some, @callB_none, @callN_some, @callN_none, @guard_bind, @guard_map, @guard_true, @guard_false, @get_put, @get_envOf, @put_none, @condR_t, @condR_f, @nilCmp_eql, @nilCmp_neq, @nilK_some, @bsK_of, @bsK_ints, @bsK_ones, @moK_of, @moK_slice, @moK_int, @apK_of, @apK_nil, @apK_sl, @apR_0, @apK_no, @akeep_no, @alK_of, @alK_sl, @alK_nil, @loK_some, @listOf_roL, @listOf_nil, @listOf_sl, @xorU_eq, @orU_eq, @take_range, @rep_one, @take_one, @wantR_tt, @wantR_ff, @wantR_tf, @wantR_ft, @envAll_nil, @envAll_cons, @get_envL_nil, @get_envL_cons, @thenK_normal, @thenK_exit, @thenK_ret, @storeA_ptr, @stK_some, @stC_some, @stD_cell, @stD_agg, @stE_some, @stE_guard, @loadA_ptr, @loadA_rop, @ldK_cell, @ldK_agg, @ldC_some, @ldD_some, @laC_some, @laD_some, @row_def, @rep_2, @rep_3, @rep_4, @rep_5, @rep_6, @cv_ro, @cv_nil, @cv_sl, @cvK_str, @sb_str, @sb_sl, @sbK_str, @mk_sl, @mkK_bytes, @u8Of_roI, @u8Of_nil, @u8Of_sl, @isU8_some, @isU8_guard, @u8sOf_roL, @u8sOf_nil, @u8sOf_sl, @allOf_ro, @osel_t, @osel_f⟩
theorem exB :
  (type_of% @List.contains_nil.{0}) ∧
  (type_of% @List.contains_cons.{0}) ∧
  (type_of% @Bool.or_false) ∧
  (type_of% @Bool.false_or) ∧
  (type_of% @List.getElem?_toArray.{0}) ∧
  (type_of% @List.getD_cons_zero.{0}) ∧
  (type_of% @List.getD_cons_succ.{0}) ∧
  (type_of% @Option.map_some.{0,0}) ∧
  (type_of% @Option.bind_some.{0,0}) ∧
  (type_of% @Option.map_none.{0,0}) ∧
  (type_of% @Option.bind_none.{0,0}) ∧
  (type_of% @Option.some_or.{0}) ∧
  (type_of% @Option.or_none.{0}) ∧
  (type_of% @Option.none_or.{0}) ∧
  (type_of% @List.map_cons.{0,0}) ∧
  (type_of% @List.map_nil.{0,0}) ∧
  (type_of% @List.append_nil.{0}) ∧
  (type_of% @List.nil_append.{0}) ∧
  (type_of% @List.cons_append.{0}) ∧
  (type_of% @List.toList_toArray.{0}) ∧
  (type_of% @Option.some.injEq.{0}) ∧
  (type_of% @Bool.true_eq_false) ∧
  (type_of% @Bool.false_eq_true) ∧
  (type_of% @List.take_length.{0}) ∧
  (type_of% @List.drop_length.{0}) ∧
  (type_of% @Nat.min_self) ∧
  (type_of% @List.length_replicate.{0}) ∧
  (type_of% @List.length_append.{0}) ∧
  (type_of% @List.length_set.{0}) ∧
  (type_of% @List.length_map.{0,0}) ∧
  (type_of% @List.length_range) ∧
  (type_of% @List.length_take.{0}) ∧
  (type_of% @List.length_drop.{0}) ∧
  (type_of% @List.getElem?_cons_zero.{0}) ∧
  (type_of% @List.getElem?_cons_succ.{0}) ∧
  (type_of% @List.length_cons.{0}) ∧
  (type_of% @List.length_nil.{0}) ∧
  (type_of% @List.set_cons_zero.{0}) ∧
  (type_of% @List.set_cons_succ.{0}) ∧
  (type_of% @Nat.zero_add) ∧
  (type_of% @Nat.add_zero) ∧
  (type_of% @Nat.mul_one) ∧
  (type_of% @Nat.one_mul) ∧
  (type_of% @Nat.zero_mul) ∧
  (type_of% @Nat.mul_zero) ∧
  (type_of% @Nat.sub_zero) ∧
  (type_of% @Nat.le_refl) ∧
  (type_of% @Option.isSome_none.{0}) ∧
  (type_of% @Option.isSome_some.{0}) ∧
  (type_of% @Bool.not_true) ∧
  (type_of% @Bool.not_false) ∧
  (type_of% @Bool.not_not) ∧
  (type_of% @List.take_zero.{0}) ∧
  (type_of% @List.drop_zero.{0}) ∧
  (type_of% @List.tail_cons.{0}) ∧
  (type_of% @Int.ofNat_eq_natCast) ∧
  (type_of% @Int.cast_ofNat_Int) ∧
  (type_of% @List.take_succ_cons.{0}) ∧
  (type_of% @List.drop_succ_cons.{0}) ∧
  (type_of% @List.take_nil.{0}) ∧
  (type_of% @List.drop_nil.{0}) ∧
  (type_of% @List.flatten_cons.{0}) ∧
  (type_of% @List.flatten_nil.{0}) ∧
  (type_of% @List.all_cons.{0}) ∧
  (type_of% @List.all_nil.{0}) ∧
  (type_of% @Bool.and_true) ∧
  (type_of% @Bool.and_self) ∧
  (type_of% @Bool.true_and) :=
  ⟨@List.contains_nil, @List.contains_cons, @Bool.or_false, @Bool.false_or, @List.getElem?_toArray, @List.getD_cons_zero, @List.getD_cons_succ, @Option.map_some, @Option.bind_some, @Option.map_none, @Option.bind_none, @Option.some_or, @Option.or_none, @Option.none_or, @List.map_cons, @List.map_nil, @List.append_nil, @List.nil_append, @List.cons_append, @List.toList_toArray, @Option.some.injEq, @Bool.true_eq_false, @Bool.false_eq_true, @List.take_length, @List.drop_length, @Nat.min_self, @List.length_replicate, @List.length_append, @List.length_set, @List.length_map, @List.length_range, @List.length_take, @List.length_drop, @List.getElem?_cons_zero, @List.getElem?_cons_succ, @List.length_cons, @List.length_nil, @List.set_cons_zero, @List.set_cons_succ, @Nat.zero_add, @Nat.add_zero, @Nat.mul_one, @Nat.one_mul, @Nat.zero_mul, @Nat.mul_zero, @Nat.sub_zero, @Nat.le_refl, @Option.isSome_none, @Option.isSome_some, @Bool.not_true, @Bool.not_false, @Bool.not_not, @List.take_zero, @List.drop_zero, @List.tail_cons, @Int.ofNat_eq_natCast, @Int.cast_ofNat_Int, @List.take_succ_cons, @List.drop_succ_cons, @List.take_nil, @List.drop_nil, @List.flatten_cons, @List.flatten_nil, @List.all_cons, @List.all_nil, @Bool.and_true, @Bool.and_self, @Bool.true_and⟩
end Go.Ax
namespace Go.Ax
theorem exD :
  (type_of% @Go.Ax.layInts.eq_1) ∧
  (type_of% @Go.Ax.layInts.eq_2) ∧
  (type_of% @Go.Ax.layInts.eq_3) ∧
  (type_of% @Go.Ax.layOnes.eq_1) ∧
  (type_of% @Go.Ax.layOnes.eq_2) ∧
  (type_of% @beq_self_eq_true.{0}) ∧
  (type_of% @bne_self_eq_false.{0}) ∧
  (type_of% @Go.Ax.addPure.eq_1) ∧
  (type_of% @not_false_eq_true) ∧
  (type_of% @not_true_eq_false) ∧
  (type_of% @and_true) ∧
  (type_of% @true_and) ∧
  (type_of% @and_self) ∧
  (type_of% @decide_true) ∧
  (type_of% @decide_false) ∧
  (type_of% @decide_eq_true_eq) ∧
  (type_of% @Go.Ax.layA.eq_1) ∧
  (type_of% @Go.Ax.layA.eq_2) ∧
  (type_of% @Go.Ax.rowPut.eq_1) ∧
  (type_of% @Go.Ax.rowPut.eq_2) ∧
  (type_of% @Go.Ax.rowSet.eq_1) ∧
  (type_of% @Go.Ax.rowSet.eq_2) ∧
  (type_of% @Go.Ax.rowSet.eq_3) ∧
  (type_of% @Go.Ax.rowSet.eq_4) ∧
  (type_of% @Go.Ax.rowSet.eq_5) ∧
  (type_of% @Go.Ax.rowSet.eq_6) ∧
  (type_of% @Go.Ax.rowTake.eq_1) ∧
  (type_of% @Go.Ax.rowTake.eq_2) ∧
  (type_of% @Go.Ax.rowTake.eq_3) ∧
  (type_of% @Go.Ax.rowTake.eq_4) ∧
  (type_of% @Go.Ax.rowDrop.eq_1) ∧
  (type_of% @Go.Ax.rowDrop.eq_2) ∧
  (type_of% @Go.Ax.rowDrop.eq_3) ∧
  (type_of% @Go.Ax.rowDrop.eq_4) ∧
  (type_of% @Go.Ax.rowCell.eq_1) ∧
  (type_of% @Go.Ax.rowCell.eq_2) ∧
  (type_of% @Go.Ax.rowCell.eq_3) ∧
  (type_of% @Go.Ax.rowCell.eq_4) ∧
  (type_of% @Go.Ax.rowCell.eq_5) ∧
  (type_of% @Go.Ax.AV.size.eq_1) ∧
  (type_of% @Go.Ax.AV.size.eq_2) ∧
  (type_of% @Go.Ax.AV.size.eq_3) ∧
  (type_of% @Go.Ax.AV.size.eq_4) ∧
  (type_of% @Go.Ax.AV.size.eq_5) ∧
  (type_of% @Go.Ax.AV.size.eq_6) ∧
  (type_of% @Go.Ax.AV.size.eq_7) ∧
  (type_of% @Go.Ax.AV.size.eq_8) ∧
  (type_of% @Go.Ax.AV.size.eq_9) ∧
  (type_of% @Go.Ax.AV.size.eq_10) ∧
  (type_of% @Go.Ax.AV.size.eq_11) ∧
  (type_of% @Go.Ax.AV.size.eq_12) ∧
  (type_of% @Go.Ax.AV.size.eq_13) ∧
  (type_of% @Go.Ax.AV.size.eq_14) ∧
  (type_of% @Go.Ax.psize.eq_1) ∧
  (type_of% @Go.Ax.psize.eq_2) ∧
  (type_of% @ge_iff_le.{0}) ∧
  (type_of% @gt_iff_lt.{0}) ∧
  (type_of% @or_true) ∧
  (type_of% @true_or) ∧
  (type_of% @or_false) ∧
  (type_of% @false_or) ∧
  (type_of% @not_true) ∧
  (type_of% @not_false_iff) ∧
  (type_of% @Go.Ax.addNews.eq_1) ∧
  (type_of% @Go.Ax.allOf.eq_1) ∧
  (type_of% @Go.Ax.allOf.eq_2) :=
  ⟨@Go.Ax.layInts.eq_1, @Go.Ax.layInts.eq_2, @Go.Ax.layInts.eq_3, @Go.Ax.layOnes.eq_1, @Go.Ax.layOnes.eq_2, @beq_self_eq_true.{0}, @bne_self_eq_false.{0}, @Go.Ax.addPure.eq_1, @not_false_eq_true, @not_true_eq_false, @and_true, @true_and, @and_self, @decide_true, @decide_false, @decide_eq_true_eq, @Go.Ax.layA.eq_1, @Go.Ax.layA.eq_2, @Go.Ax.rowPut.eq_1, @Go.Ax.rowPut.eq_2, @Go.Ax.rowSet.eq_1, @Go.Ax.rowSet.eq_2, @Go.Ax.rowSet.eq_3, @Go.Ax.rowSet.eq_4, @Go.Ax.rowSet.eq_5, @Go.Ax.rowSet.eq_6, @Go.Ax.rowTake.eq_1, @Go.Ax.rowTake.eq_2, @Go.Ax.rowTake.eq_3, @Go.Ax.rowTake.eq_4, @Go.Ax.rowDrop.eq_1, @Go.Ax.rowDrop.eq_2, @Go.Ax.rowDrop.eq_3, @Go.Ax.rowDrop.eq_4, @Go.Ax.rowCell.eq_1, @Go.Ax.rowCell.eq_2, @Go.Ax.rowCell.eq_3, @Go.Ax.rowCell.eq_4, @Go.Ax.rowCell.eq_5, @Go.Ax.AV.size.eq_1, @Go.Ax.AV.size.eq_2, @Go.Ax.AV.size.eq_3, @Go.Ax.AV.size.eq_4, @Go.Ax.AV.size.eq_5, @Go.Ax.AV.size.eq_6, @Go.Ax.AV.size.eq_7, @Go.Ax.AV.size.eq_8, @Go.Ax.AV.size.eq_9, @Go.Ax.AV.size.eq_10, @Go.Ax.AV.size.eq_11, @Go.Ax.AV.size.eq_12, @Go.Ax.AV.size.eq_13, @Go.Ax.AV.size.eq_14, @Go.Ax.psize.eq_1, @Go.Ax.psize.eq_2, @ge_iff_le.{0}, @gt_iff_lt.{0}, @or_true, @true_or, @or_false, @false_or, @not_true, @not_false_iff, @Go.Ax.addNews.eq_1, @Go.Ax.allOf.eq_1, @Go.Ax.allOf.eq_2⟩
theorem exE :
  (type_of% @ar_nat) ∧
  (type_of% @ar_u64) ∧
  (type_of% @ar_add) ∧
  (type_of% @ar_sub) ∧
  (type_of% @ar_mul) ∧
  (type_of% @ar_div) ∧
  (type_of% @ar_mod) ∧
  (type_of% @ar_dec_t) ∧
  (type_of% @ar_dec_f) ∧
  (type_of% @ar_beq_t) ∧
  (type_of% @ar_beq_f) ∧
  (type_of% @ar_bne_t) ∧
  (type_of% @ar_bne_f) ∧
  (type_of% @ar_guard) ∧
  (type_of% @or_guard) ∧
  (type_of% @ar_take) ∧
  (type_of% @ar_take_drop) ∧
  (type_of% @ar_drop) :=
  ⟨@ar_nat, @ar_u64, @ar_add, @ar_sub, @ar_mul, @ar_div, @ar_mod, @ar_dec_t, @ar_dec_f, @ar_beq_t, @ar_beq_f, @ar_bne_t, @ar_bne_f, @ar_guard, @or_guard, @ar_take, @ar_take_drop, @ar_drop⟩
theorem exF :
  (type_of% @envAll_cons) ∧
  (type_of% @envAll_nil) ∧
  (type_of% @get_put) ∧
  (type_of% @get_envOf) ∧
  (type_of% @get_envL_cons) ∧
  (type_of% @get_envL_nil) ∧
  (type_of% @and_self) ∧
  (type_of% @List.getD_cons_zero.{0}) ∧
  (type_of% @List.getD_cons_succ.{0}) ∧
  (type_of% @and_true) ∧
  (type_of% @true_and) :=
  ⟨@envAll_cons, @envAll_nil, @get_put, @get_envOf, @get_envL_cons, @get_envL_nil, @and_self, @List.getD_cons_zero.{0}, @List.getD_cons_succ.{0}, @and_true, @true_and⟩
end Go.Ax

namespace Go.Proofs.Ytgkhngcnbddoiaa
open Go.Ax
theorem tb0 : szT Try.prog 3 = some 1 := by kernel_rfl
theorem tb1 : aggT Try.prog 3 = some false := by kernel_rfl
theorem tb2 : kindT Try.prog 3 = .int .i64 := by kernel_rfl
theorem tb3 : zeroT Try.prog 3 = some [.v (.int .i64 0)] := by kernel_rfl
theorem tb4 : szT Try.prog 4 = some 1 := by kernel_rfl
theorem tb5 : aggT Try.prog 4 = some false := by kernel_rfl
theorem tb6 : kindT Try.prog 4 = .bool := by kernel_rfl
theorem tb7 : zeroT Try.prog 4 = some [.v (.bool false)] := by kernel_rfl
theorem tb8 : szT Try.prog 5 = some 1 := by kernel_rfl
theorem tb9 : aggT Try.prog 5 = some false := by kernel_rfl
theorem tb10 : kindT Try.prog 5 = .int .u8 := by kernel_rfl
theorem tb11 : zeroT Try.prog 5 = some [.v (.int .u8 0)] := by kernel_rfl
theorem tb12 : szT Try.prog 9 = some 1 := by kernel_rfl
theorem tb13 : aggT Try.prog 9 = some false := by kernel_rfl
theorem tb14 : kindT Try.prog 9 = .string := by kernel_rfl
theorem tb15 : zeroT Try.prog 9 = some [.v (.string ⟨#[]⟩)] := by kernel_rfl
theorem tb16 : elemT Try.prog 9 = .str := by kernel_rfl
theorem tb17 : szT Try.prog 22 = some 1 := by kernel_rfl
theorem tb18 : aggT Try.prog 22 = some false := by kernel_rfl
theorem tb19 : kindT Try.prog 22 = .slice false := by kernel_rfl
theorem tb20 : zeroT Try.prog 22 = some [.v (.slice none 0 0)] := by kernel_rfl
theorem tb21 : elemT Try.prog 22 = .sl 5 true false := by kernel_rfl
theorem tb22 : elemSize Try.prog 22 = some 5 := by kernel_rfl
theorem tb23 : elemBytes Try.prog 22 = some 88 := by kernel_rfl
theorem tb24 : intElem Try.prog 22 = none := by kernel_rfl
theorem tb25 : szT Try.prog 23 = some 1 := by kernel_rfl
theorem tb26 : aggT Try.prog 23 = some false := by kernel_rfl
theorem tb27 : kindT Try.prog 23 = .slice true := by kernel_rfl
theorem tb28 : zeroT Try.prog 23 = some [.v (.slice none 0 0)] := by kernel_rfl
theorem tb29 : elemT Try.prog 23 = .sl 1 false false := by kernel_rfl
theorem tb30 : elemSize Try.prog 23 = some 1 := by kernel_rfl
theorem tb31 : elemBytes Try.prog 23 = some 1 := by kernel_rfl
theorem tb32 : listB Try.prog 23 = some 1 := by kernel_rfl
theorem tb33 : elemZ Try.prog 23 = some (.u8, 0) := by kernel_rfl
theorem tb34 : intElem Try.prog 23 = some .u8 := by kernel_rfl
theorem tb35 : szT Try.prog 24 = some 1 := by kernel_rfl
theorem tb36 : aggT Try.prog 24 = some false := by kernel_rfl
theorem tb37 : kindT Try.prog 24 = .slice false := by kernel_rfl
theorem tb38 : zeroT Try.prog 24 = some [.v (.slice none 0 0)] := by kernel_rfl
theorem tb39 : elemT Try.prog 24 = .sl 2 true false := by kernel_rfl
theorem tb40 : elemSize Try.prog 24 = some 2 := by kernel_rfl
theorem tb41 : elemBytes Try.prog 24 = some 16 := by kernel_rfl
theorem tb42 : intElem Try.prog 24 = none := by kernel_rfl
theorem tb43 : szT Try.prog 26 = some 5 := by kernel_rfl
theorem tb44 : aggT Try.prog 26 = some true := by kernel_rfl
theorem tb45 : kindT Try.prog 26 = .struct := by kernel_rfl
theorem tb46 : zeroT Try.prog 26 = some [.v (.int .i64 0), .v (.int .i64 0), .v (.slice none 0 0), .v (.slice none 0 0), .v (.slice none 0 0)] := by kernel_rfl
theorem tb47 : sizedT Try.prog 26 = true := by kernel_rfl
theorem tb48 : intsT Try.prog 26 = false := by kernel_rfl
theorem tb49 : placeA Try.prog 26 0 = some (0, 1, false) := by kernel_rfl
theorem tb50 : fieldT Try.prog 26 0 = some (0, 1, false, false) := by kernel_rfl
theorem tb51 : placeA Try.prog 26 1 = some (1, 1, false) := by kernel_rfl
theorem tb52 : fieldT Try.prog 26 1 = some (1, 1, false, false) := by kernel_rfl
theorem tb53 : placeA Try.prog 26 2 = some (2, 1, false) := by kernel_rfl
theorem tb54 : fieldT Try.prog 26 2 = some (2, 1, false, false) := by kernel_rfl
theorem tb55 : placeA Try.prog 26 3 = some (3, 1, false) := by kernel_rfl
theorem tb56 : fieldT Try.prog 26 3 = some (3, 1, false, false) := by kernel_rfl
theorem tb57 : placeA Try.prog 26 4 = some (4, 1, false) := by kernel_rfl
theorem tb58 : fieldT Try.prog 26 4 = some (4, 1, false, false) := by kernel_rfl
theorem tb59 : szT Try.prog 27 = some 1 := by kernel_rfl
theorem tb60 : aggT Try.prog 27 = some false := by kernel_rfl
theorem tb61 : kindT Try.prog 27 = .pointer := by kernel_rfl
theorem tb62 : zeroT Try.prog 27 = some [.v (.pointer none)] := by kernel_rfl
theorem tb63 : szT Try.prog 28 = some 1 := by kernel_rfl
theorem tb64 : aggT Try.prog 28 = some false := by kernel_rfl
theorem tb65 : kindT Try.prog 28 = .int .i64 := by kernel_rfl
theorem tb66 : zeroT Try.prog 28 = some [.v (.int .i64 0)] := by kernel_rfl
theorem tb67 : szT Try.prog 31 = some 1 := by kernel_rfl
theorem tb68 : aggT Try.prog 31 = some false := by kernel_rfl
theorem tb69 : kindT Try.prog 31 = .int .u64 := by kernel_rfl
theorem tb70 : zeroT Try.prog 31 = some [.v (.int .u64 0)] := by kernel_rfl
theorem tb71 : szT Try.prog 33 = some 3 := by kernel_rfl
theorem tb72 : aggT Try.prog 33 = some true := by kernel_rfl
theorem tb73 : kindT Try.prog 33 = .struct := by kernel_rfl
theorem tb74 : zeroT Try.prog 33 = some [.v (.int .i64 0), .v (.int .i64 0), .v (.int .i64 0)] := by kernel_rfl
theorem tb75 : sizedT Try.prog 33 = true := by kernel_rfl
theorem tb76 : intsT Try.prog 33 = false := by kernel_rfl
theorem tb77 : placeA Try.prog 33 0 = some (0, 1, false) := by kernel_rfl
theorem tb78 : fieldT Try.prog 33 0 = some (0, 1, false, false) := by kernel_rfl
theorem tb79 : placeA Try.prog 33 1 = some (1, 1, false) := by kernel_rfl
theorem tb80 : fieldT Try.prog 33 1 = some (1, 1, false, false) := by kernel_rfl
theorem tb81 : placeA Try.prog 33 2 = some (2, 1, false) := by kernel_rfl
theorem tb82 : fieldT Try.prog 33 2 = some (2, 1, false, false) := by kernel_rfl
theorem tb83 : szT Try.prog 34 = some 16 := by kernel_rfl
theorem tb84 : aggT Try.prog 34 = some true := by kernel_rfl
theorem tb85 : kindT Try.prog 34 = .array := by kernel_rfl
theorem tb86 : zeroT Try.prog 34 = some [.arr 16 .u8 (List.replicate 16 0)] := by kernel_rfl
theorem tb87 : intsT Try.prog 34 = true := by kernel_rfl
theorem tb88 : elemT Try.prog 34 = .arr 16 1 false false := by kernel_rfl
theorem tb89 : eqArrT Try.prog 34 = some (16, .u8) := by kernel_rfl
theorem tb90 : sizedT Try.prog 34 = true := by kernel_rfl
theorem tb91 : ∀ i, placeA Try.prog 34 i = some (i * 1, 1, false) := by (intro i; kernel_rfl)
theorem tb92 : szT Try.prog 36 = some 24 := by kernel_rfl
theorem tb93 : aggT Try.prog 36 = some true := by kernel_rfl
theorem tb94 : kindT Try.prog 36 = .struct := by kernel_rfl
theorem tb95 : zeroT Try.prog 36 = some [.v (.int .u64 0), .v (.int .i64 0), .v (.int .i64 0), .v (.int .i64 0), .v (.int .i64 0), .v (.int .i64 0), .v (.int .i64 0), .v (.int .i64 0), .arr 16 .u8 (List.replicate 16 0)] := by kernel_rfl
theorem tb96 : eqsK Try.prog 36 = some [(.int .u64, 0), (.int .i64, 0), (.int .i64, 0), (.int .i64, 0), (.int .i64, 0), (.int .i64, 0), (.int .i64, 0), (.int .i64, 0), (.int .u8, 17)] := by kernel_rfl
theorem tb97 : sizedT Try.prog 36 = true := by kernel_rfl
theorem tb98 : intsT Try.prog 36 = false := by kernel_rfl
theorem tb99 : placeA Try.prog 36 0 = some (0, 1, false) := by kernel_rfl
theorem tb100 : fieldT Try.prog 36 0 = some (0, 1, false, false) := by kernel_rfl
theorem tb101 : placeA Try.prog 36 1 = some (1, 1, false) := by kernel_rfl
theorem tb102 : fieldT Try.prog 36 1 = some (1, 1, false, false) := by kernel_rfl
theorem tb103 : placeA Try.prog 36 2 = some (2, 1, false) := by kernel_rfl
theorem tb104 : fieldT Try.prog 36 2 = some (2, 1, false, false) := by kernel_rfl
theorem tb105 : placeA Try.prog 36 3 = some (3, 1, false) := by kernel_rfl
theorem tb106 : fieldT Try.prog 36 3 = some (3, 1, false, false) := by kernel_rfl
theorem tb107 : placeA Try.prog 36 4 = some (4, 1, false) := by kernel_rfl
theorem tb108 : fieldT Try.prog 36 4 = some (4, 1, false, false) := by kernel_rfl
theorem tb109 : placeA Try.prog 36 5 = some (5, 3, true) := by kernel_rfl
theorem tb110 : fieldT Try.prog 36 5 = some (5, 3, true, false) := by kernel_rfl
theorem tb111 : placeA Try.prog 36 6 = some (8, 16, true) := by kernel_rfl
theorem tb112 : fieldT Try.prog 36 6 = some (8, 16, true, true) := by kernel_rfl
theorem tb113 : szT Try.prog 47 = some 1 := by kernel_rfl
theorem tb114 : aggT Try.prog 47 = some false := by kernel_rfl
theorem tb115 : kindT Try.prog 47 = .slice false := by kernel_rfl
theorem tb116 : zeroT Try.prog 47 = some [.v (.slice none 0 0)] := by kernel_rfl
theorem tb117 : elemT Try.prog 47 = .sl 1 false false := by kernel_rfl
theorem tb118 : elemSize Try.prog 47 = some 1 := by kernel_rfl
theorem tb119 : elemBytes Try.prog 47 = some 1 := by kernel_rfl
theorem tb120 : listB Try.prog 47 = some 1 := by kernel_rfl
theorem tb121 : intElem Try.prog 47 = none := by kernel_rfl
theorem tb122 : szT Try.prog 49 = some 29 := by kernel_rfl
theorem tb123 : aggT Try.prog 49 = some true := by kernel_rfl
theorem tb124 : kindT Try.prog 49 = .struct := by kernel_rfl
theorem tb125 : zeroT Try.prog 49 = some [.v (.int .u64 0), .v (.int .i64 0), .v (.int .i64 0), .v (.int .i64 0), .v (.int .i64 0), .v (.int .i64 0), .v (.int .i64 0), .v (.int .i64 0), .arr 16 .u8 (List.replicate 16 0), .v (.int .i64 0), .v (.slice none 0 0), .v (.int .i64 0), .v (.int .i64 0), .v (.int .u64 0)] := by kernel_rfl
theorem tb126 : sizedT Try.prog 49 = true := by kernel_rfl
theorem tb127 : intsT Try.prog 49 = false := by kernel_rfl
theorem tb128 : placeA Try.prog 49 0 = some (0, 24, true) := by kernel_rfl
theorem tb129 : fieldT Try.prog 49 0 = some (0, 24, true, false) := by kernel_rfl
theorem tb130 : placeA Try.prog 49 1 = some (24, 1, false) := by kernel_rfl
theorem tb131 : fieldT Try.prog 49 1 = some (24, 1, false, false) := by kernel_rfl
theorem tb132 : placeA Try.prog 49 2 = some (25, 1, false) := by kernel_rfl
theorem tb133 : fieldT Try.prog 49 2 = some (25, 1, false, false) := by kernel_rfl
theorem tb134 : placeA Try.prog 49 3 = some (26, 1, false) := by kernel_rfl
theorem tb135 : fieldT Try.prog 49 3 = some (26, 1, false, false) := by kernel_rfl
theorem tb136 : placeA Try.prog 49 4 = some (27, 1, false) := by kernel_rfl
theorem tb137 : fieldT Try.prog 49 4 = some (27, 1, false, false) := by kernel_rfl
theorem tb138 : placeA Try.prog 49 5 = some (28, 1, false) := by kernel_rfl
theorem tb139 : fieldT Try.prog 49 5 = some (28, 1, false, false) := by kernel_rfl
theorem tb140 : szT Try.prog 52 = some 1 := by kernel_rfl
theorem tb141 : aggT Try.prog 52 = some false := by kernel_rfl
theorem tb142 : kindT Try.prog 52 = .slice false := by kernel_rfl
theorem tb143 : zeroT Try.prog 52 = some [.v (.slice none 0 0)] := by kernel_rfl
theorem tb144 : elemT Try.prog 52 = .sl 1 false false := by kernel_rfl
theorem tb145 : elemSize Try.prog 52 = some 1 := by kernel_rfl
theorem tb146 : elemBytes Try.prog 52 = some 8 := by kernel_rfl
theorem tb147 : listB Try.prog 52 = some 8 := by kernel_rfl
theorem tb148 : elemZ Try.prog 52 = some (.i64, 0) := by kernel_rfl
theorem tb149 : intElem Try.prog 52 = some .i64 := by kernel_rfl
theorem tb150 : szT Try.prog 57 = some 1 := by kernel_rfl
theorem tb151 : aggT Try.prog 57 = some false := by kernel_rfl
theorem tb152 : kindT Try.prog 57 = .pointer := by kernel_rfl
theorem tb153 : zeroT Try.prog 57 = some [.v (.pointer none)] := by kernel_rfl
theorem tb154 : szT Try.prog 66 = some 1 := by kernel_rfl
theorem tb155 : aggT Try.prog 66 = some false := by kernel_rfl
theorem tb156 : kindT Try.prog 66 = .map := by kernel_rfl
theorem tb157 : zeroT Try.prog 66 = some [.v (.map none)] := by kernel_rfl
theorem tb158 : mapT Try.prog 66 = some (.v (.slice none 0 0)) := by kernel_rfl
theorem tb159 : szT Try.prog 67 = some 1 := by kernel_rfl
theorem tb160 : aggT Try.prog 67 = some false := by kernel_rfl
theorem tb161 : kindT Try.prog 67 = .map := by kernel_rfl
theorem tb162 : zeroT Try.prog 67 = some [.v (.map none)] := by kernel_rfl
theorem tb163 : mapT Try.prog 67 = some (.v (.string ⟨#[]⟩)) := by kernel_rfl
theorem tb164 : szT Try.prog 68 = some 32 := by kernel_rfl
theorem tb165 : aggT Try.prog 68 = some true := by kernel_rfl
theorem tb166 : kindT Try.prog 68 = .array := by kernel_rfl
theorem tb167 : zeroT Try.prog 68 = some [.arr 32 .u8 (List.replicate 32 0)] := by kernel_rfl
theorem tb168 : intsT Try.prog 68 = true := by kernel_rfl
theorem tb169 : elemT Try.prog 68 = .arr 32 1 false false := by kernel_rfl
theorem tb170 : eqArrT Try.prog 68 = some (32, .u8) := by kernel_rfl
theorem tb171 : sizedT Try.prog 68 = true := by kernel_rfl
theorem tb172 : ∀ i, placeA Try.prog 68 i = some (i * 1, 1, false) := by (intro i; kernel_rfl)
theorem tb173 : szT Try.prog 70 = some 35 := by kernel_rfl
theorem tb174 : aggT Try.prog 70 = some true := by kernel_rfl
theorem tb175 : kindT Try.prog 70 = .struct := by kernel_rfl
theorem tb176 : zeroT Try.prog 70 = some [.v (.int .u64 0), .v (.bool false), .v (.int .i64 0), .arr 32 .u8 (List.replicate 32 0)] := by kernel_rfl
theorem tb177 : eqsK Try.prog 70 = some [(.int .u64, 0), (.bool, 0), (.int .i64, 0), (.int .u8, 33)] := by kernel_rfl
theorem tb178 : sizedT Try.prog 70 = true := by kernel_rfl
theorem tb179 : intsT Try.prog 70 = false := by kernel_rfl
theorem tb180 : placeA Try.prog 70 0 = some (0, 1, false) := by kernel_rfl
theorem tb181 : fieldT Try.prog 70 0 = some (0, 1, false, false) := by kernel_rfl
theorem tb182 : placeA Try.prog 70 1 = some (1, 1, false) := by kernel_rfl
theorem tb183 : fieldT Try.prog 70 1 = some (1, 1, false, false) := by kernel_rfl
theorem tb184 : placeA Try.prog 70 2 = some (2, 1, false) := by kernel_rfl
theorem tb185 : fieldT Try.prog 70 2 = some (2, 1, false, false) := by kernel_rfl
theorem tb186 : placeA Try.prog 70 3 = some (3, 32, true) := by kernel_rfl
theorem tb187 : fieldT Try.prog 70 3 = some (3, 32, true, true) := by kernel_rfl
theorem tb188 : szT Try.prog 72 = some 64 := by kernel_rfl
theorem tb189 : aggT Try.prog 72 = some true := by kernel_rfl
theorem tb190 : kindT Try.prog 72 = .struct := by kernel_rfl
theorem tb191 : zeroT Try.prog 72 = some [.v (.int .u64 0), .v (.int .i64 0), .v (.int .i64 0), .v (.int .i64 0), .v (.int .i64 0), .v (.int .i64 0), .v (.int .i64 0), .v (.int .i64 0), .arr 16 .u8 (List.replicate 16 0), .v (.map none), .v (.map none), .v (.int .i64 0), .v (.int .u64 0), .v (.bool false), .v (.int .i64 0), .arr 32 .u8 (List.replicate 32 0), .v (.bool false), .v (.int .i64 0)] := by kernel_rfl
theorem tb192 : sizedT Try.prog 72 = true := by kernel_rfl
theorem tb193 : intsT Try.prog 72 = false := by kernel_rfl
theorem tb194 : placeA Try.prog 72 0 = some (0, 24, true) := by kernel_rfl
theorem tb195 : fieldT Try.prog 72 0 = some (0, 24, true, false) := by kernel_rfl
theorem tb196 : placeA Try.prog 72 1 = some (24, 1, false) := by kernel_rfl
theorem tb197 : fieldT Try.prog 72 1 = some (24, 1, false, false) := by kernel_rfl
theorem tb198 : placeA Try.prog 72 2 = some (25, 1, false) := by kernel_rfl
theorem tb199 : fieldT Try.prog 72 2 = some (25, 1, false, false) := by kernel_rfl
theorem tb200 : placeA Try.prog 72 3 = some (26, 1, false) := by kernel_rfl
theorem tb201 : fieldT Try.prog 72 3 = some (26, 1, false, false) := by kernel_rfl
theorem tb202 : placeA Try.prog 72 4 = some (27, 35, true) := by kernel_rfl
theorem tb203 : fieldT Try.prog 72 4 = some (27, 35, true, false) := by kernel_rfl
theorem tb204 : placeA Try.prog 72 5 = some (62, 1, false) := by kernel_rfl
theorem tb205 : fieldT Try.prog 72 5 = some (62, 1, false, false) := by kernel_rfl
theorem tb206 : placeA Try.prog 72 6 = some (63, 1, false) := by kernel_rfl
theorem tb207 : fieldT Try.prog 72 6 = some (63, 1, false, false) := by kernel_rfl
theorem tb208 : szT Try.prog 84 = some 1 := by kernel_rfl
theorem tb209 : aggT Try.prog 84 = some false := by kernel_rfl
theorem tb210 : kindT Try.prog 84 = .slice false := by kernel_rfl
theorem tb211 : zeroT Try.prog 84 = some [.v (.slice none 0 0)] := by kernel_rfl
theorem tb212 : elemT Try.prog 84 = .sl 2 true false := by kernel_rfl
theorem tb213 : elemSize Try.prog 84 = some 2 := by kernel_rfl
theorem tb214 : elemBytes Try.prog 84 = some 24 := by kernel_rfl
theorem tb215 : intElem Try.prog 84 = none := by kernel_rfl
theorem tb216 : szT Try.prog 85 = some 1 := by kernel_rfl
theorem tb217 : aggT Try.prog 85 = some false := by kernel_rfl
theorem tb218 : kindT Try.prog 85 = .slice false := by kernel_rfl
theorem tb219 : zeroT Try.prog 85 = some [.v (.slice none 0 0)] := by kernel_rfl
theorem tb220 : elemT Try.prog 85 = .sl 1 false false := by kernel_rfl
theorem tb221 : elemSize Try.prog 85 = some 1 := by kernel_rfl
theorem tb222 : elemBytes Try.prog 85 = some 16 := by kernel_rfl
theorem tb223 : listB Try.prog 85 = some 16 := by kernel_rfl
theorem tb224 : intElem Try.prog 85 = none := by kernel_rfl
theorem tb225 : szT Try.prog 87 = some 65 := by kernel_rfl
theorem tb226 : aggT Try.prog 87 = some true := by kernel_rfl
theorem tb227 : kindT Try.prog 87 = .struct := by kernel_rfl
theorem tb228 : zeroT Try.prog 87 = some [.v (.int .u64 0), .v (.int .i64 0), .v (.int .i64 0), .v (.int .i64 0), .v (.int .i64 0), .v (.int .i64 0), .v (.int .i64 0), .v (.int .i64 0), .arr 16 .u8 (List.replicate 16 0), .v (.slice none 0 0), .v (.slice none 0 0), .v (.slice none 0 0), .v (.int .i64 0), .v (.int .u64 0), .v (.bool false), .v (.int .i64 0), .arr 32 .u8 (List.replicate 32 0), .v (.bool false), .v (.int .i64 0)] := by kernel_rfl
theorem tb229 : sizedT Try.prog 87 = true := by kernel_rfl
theorem tb230 : intsT Try.prog 87 = false := by kernel_rfl
theorem tb231 : placeA Try.prog 87 0 = some (0, 24, true) := by kernel_rfl
theorem tb232 : fieldT Try.prog 87 0 = some (0, 24, true, false) := by kernel_rfl
theorem tb233 : placeA Try.prog 87 1 = some (24, 1, false) := by kernel_rfl
theorem tb234 : fieldT Try.prog 87 1 = some (24, 1, false, false) := by kernel_rfl
theorem tb235 : placeA Try.prog 87 2 = some (25, 1, false) := by kernel_rfl
theorem tb236 : fieldT Try.prog 87 2 = some (25, 1, false, false) := by kernel_rfl
theorem tb237 : placeA Try.prog 87 3 = some (26, 1, false) := by kernel_rfl
theorem tb238 : fieldT Try.prog 87 3 = some (26, 1, false, false) := by kernel_rfl
theorem tb239 : placeA Try.prog 87 4 = some (27, 1, false) := by kernel_rfl
theorem tb240 : fieldT Try.prog 87 4 = some (27, 1, false, false) := by kernel_rfl
theorem tb241 : placeA Try.prog 87 5 = some (28, 35, true) := by kernel_rfl
theorem tb242 : fieldT Try.prog 87 5 = some (28, 35, true, false) := by kernel_rfl
theorem tb243 : placeA Try.prog 87 6 = some (63, 1, false) := by kernel_rfl
theorem tb244 : fieldT Try.prog 87 6 = some (63, 1, false, false) := by kernel_rfl
theorem tb245 : placeA Try.prog 87 7 = some (64, 1, false) := by kernel_rfl
theorem tb246 : fieldT Try.prog 87 7 = some (64, 1, false, false) := by kernel_rfl
theorem tb247 : szT Try.prog 89 = some 2 := by kernel_rfl
theorem tb248 : aggT Try.prog 89 = some true := by kernel_rfl
theorem tb249 : kindT Try.prog 89 = .struct := by kernel_rfl
theorem tb250 : zeroT Try.prog 89 = some [.v (.bool false), .v (.string ⟨#[]⟩)] := by kernel_rfl
theorem tb251 : sizedT Try.prog 89 = true := by kernel_rfl
theorem tb252 : intsT Try.prog 89 = false := by kernel_rfl
theorem tb253 : placeA Try.prog 89 0 = some (0, 1, false) := by kernel_rfl
theorem tb254 : fieldT Try.prog 89 0 = some (0, 1, false, false) := by kernel_rfl
theorem tb255 : placeA Try.prog 89 1 = some (1, 1, false) := by kernel_rfl
theorem tb256 : fieldT Try.prog 89 1 = some (1, 1, false, false) := by kernel_rfl
theorem tb257 : szT Try.prog 142 = some 2 := by kernel_rfl
theorem tb258 : aggT Try.prog 142 = some true := by kernel_rfl
theorem tb259 : kindT Try.prog 142 = .struct := by kernel_rfl
theorem tb260 : zeroT Try.prog 142 = some [.v (.int .i64 0), .v (.int .i64 0)] := by kernel_rfl
theorem tb261 : sizedT Try.prog 142 = true := by kernel_rfl
theorem tb262 : intsT Try.prog 142 = false := by kernel_rfl
theorem tb263 : placeA Try.prog 142 0 = some (0, 1, false) := by kernel_rfl
theorem tb264 : fieldT Try.prog 142 0 = some (0, 1, false, false) := by kernel_rfl
theorem tb265 : placeA Try.prog 142 1 = some (1, 1, false) := by kernel_rfl
theorem tb266 : fieldT Try.prog 142 1 = some (1, 1, false, false) := by kernel_rfl
theorem tz23 (c : Nat) : elemZero Try.prog 23 c = some [.arr c .u8 (List.replicate c 0)] := by kernel_rfl
theorem tz47 (c : Nat) : elemZero Try.prog 47 c = some [.lst 1 (List.replicate c (.v (.bool false)))] := by kernel_rfl
theorem tz52 (c : Nat) : elemZero Try.prog 52 c = some [.arr c .i64 (List.replicate c 0)] := by kernel_rfl
theorem tz85 (c : Nat) : elemZero Try.prog 85 c = some [.lst 1 (List.replicate c (.v (.string ⟨#[]⟩)))] := by kernel_rfl
theorem tabs : (szT Try.prog 3 = some 1) ∧
  (aggT Try.prog 3 = some false) ∧
  (kindT Try.prog 3 = .int .i64) ∧
  (zeroT Try.prog 3 = some [.v (.int .i64 0)]) ∧
  (szT Try.prog 4 = some 1) ∧
  (aggT Try.prog 4 = some false) ∧
  (kindT Try.prog 4 = .bool) ∧
  (zeroT Try.prog 4 = some [.v (.bool false)]) ∧
  (szT Try.prog 5 = some 1) ∧
  (aggT Try.prog 5 = some false) ∧
  (kindT Try.prog 5 = .int .u8) ∧
  (zeroT Try.prog 5 = some [.v (.int .u8 0)]) ∧
  (szT Try.prog 9 = some 1) ∧
  (aggT Try.prog 9 = some false) ∧
  (kindT Try.prog 9 = .string) ∧
  (zeroT Try.prog 9 = some [.v (.string ⟨#[]⟩)]) ∧
  (elemT Try.prog 9 = .str) ∧
  (szT Try.prog 22 = some 1) ∧
  (aggT Try.prog 22 = some false) ∧
  (kindT Try.prog 22 = .slice false) ∧
  (zeroT Try.prog 22 = some [.v (.slice none 0 0)]) ∧
  (elemT Try.prog 22 = .sl 5 true false) ∧
  (elemSize Try.prog 22 = some 5) ∧
  (elemBytes Try.prog 22 = some 88) ∧
  (intElem Try.prog 22 = none) ∧
  (szT Try.prog 23 = some 1) ∧
  (aggT Try.prog 23 = some false) ∧
  (kindT Try.prog 23 = .slice true) ∧
  (zeroT Try.prog 23 = some [.v (.slice none 0 0)]) ∧
  (elemT Try.prog 23 = .sl 1 false false) ∧
  (elemSize Try.prog 23 = some 1) ∧
  (elemBytes Try.prog 23 = some 1) ∧
  (listB Try.prog 23 = some 1) ∧
  (elemZ Try.prog 23 = some (.u8, 0)) ∧
  (intElem Try.prog 23 = some .u8) ∧
  (szT Try.prog 24 = some 1) ∧
  (aggT Try.prog 24 = some false) ∧
  (kindT Try.prog 24 = .slice false) ∧
  (zeroT Try.prog 24 = some [.v (.slice none 0 0)]) ∧
  (elemT Try.prog 24 = .sl 2 true false) ∧
  (elemSize Try.prog 24 = some 2) ∧
  (elemBytes Try.prog 24 = some 16) ∧
  (intElem Try.prog 24 = none) ∧
  (szT Try.prog 26 = some 5) ∧
  (aggT Try.prog 26 = some true) ∧
  (kindT Try.prog 26 = .struct) ∧
  (zeroT Try.prog 26 = some [.v (.int .i64 0), .v (.int .i64 0), .v (.slice none 0 0), .v (.slice none 0 0), .v (.slice none 0 0)]) ∧
  (sizedT Try.prog 26 = true) ∧
  (intsT Try.prog 26 = false) ∧
  (placeA Try.prog 26 0 = some (0, 1, false)) ∧
  (fieldT Try.prog 26 0 = some (0, 1, false, false)) ∧
  (placeA Try.prog 26 1 = some (1, 1, false)) ∧
  (fieldT Try.prog 26 1 = some (1, 1, false, false)) ∧
  (placeA Try.prog 26 2 = some (2, 1, false)) ∧
  (fieldT Try.prog 26 2 = some (2, 1, false, false)) ∧
  (placeA Try.prog 26 3 = some (3, 1, false)) ∧
  (fieldT Try.prog 26 3 = some (3, 1, false, false)) ∧
  (placeA Try.prog 26 4 = some (4, 1, false)) ∧
  (fieldT Try.prog 26 4 = some (4, 1, false, false)) ∧
  (szT Try.prog 27 = some 1) ∧
  (aggT Try.prog 27 = some false) ∧
  (kindT Try.prog 27 = .pointer) ∧
  (zeroT Try.prog 27 = some [.v (.pointer none)]) ∧
  (szT Try.prog 28 = some 1) ∧
  (aggT Try.prog 28 = some false) ∧
  (kindT Try.prog 28 = .int .i64) ∧
  (zeroT Try.prog 28 = some [.v (.int .i64 0)]) ∧
  (szT Try.prog 31 = some 1) ∧
  (aggT Try.prog 31 = some false) ∧
  (kindT Try.prog 31 = .int .u64) ∧
  (zeroT Try.prog 31 = some [.v (.int .u64 0)]) ∧
  (szT Try.prog 33 = some 3) ∧
  (aggT Try.prog 33 = some true) ∧
  (kindT Try.prog 33 = .struct) ∧
  (zeroT Try.prog 33 = some [.v (.int .i64 0), .v (.int .i64 0), .v (.int .i64 0)]) ∧
  (sizedT Try.prog 33 = true) ∧
  (intsT Try.prog 33 = false) ∧
  (placeA Try.prog 33 0 = some (0, 1, false)) ∧
  (fieldT Try.prog 33 0 = some (0, 1, false, false)) ∧
  (placeA Try.prog 33 1 = some (1, 1, false)) ∧
  (fieldT Try.prog 33 1 = some (1, 1, false, false)) ∧
  (placeA Try.prog 33 2 = some (2, 1, false)) ∧
  (fieldT Try.prog 33 2 = some (2, 1, false, false)) ∧
  (szT Try.prog 34 = some 16) ∧
  (aggT Try.prog 34 = some true) ∧
  (kindT Try.prog 34 = .array) ∧
  (zeroT Try.prog 34 = some [.arr 16 .u8 (List.replicate 16 0)]) ∧
  (intsT Try.prog 34 = true) ∧
  (elemT Try.prog 34 = .arr 16 1 false false) ∧
  (eqArrT Try.prog 34 = some (16, .u8)) ∧
  (sizedT Try.prog 34 = true) ∧
  (∀ i, placeA Try.prog 34 i = some (i * 1, 1, false)) ∧
  (szT Try.prog 36 = some 24) ∧
  (aggT Try.prog 36 = some true) ∧
  (kindT Try.prog 36 = .struct) ∧
  (zeroT Try.prog 36 = some [.v (.int .u64 0), .v (.int .i64 0), .v (.int .i64 0), .v (.int .i64 0), .v (.int .i64 0), .v (.int .i64 0), .v (.int .i64 0), .v (.int .i64 0), .arr 16 .u8 (List.replicate 16 0)]) ∧
  (eqsK Try.prog 36 = some [(.int .u64, 0), (.int .i64, 0), (.int .i64, 0), (.int .i64, 0), (.int .i64, 0), (.int .i64, 0), (.int .i64, 0), (.int .i64, 0), (.int .u8, 17)]) ∧
  (sizedT Try.prog 36 = true) ∧
  (intsT Try.prog 36 = false) ∧
  (placeA Try.prog 36 0 = some (0, 1, false)) ∧
  (fieldT Try.prog 36 0 = some (0, 1, false, false)) ∧
  (placeA Try.prog 36 1 = some (1, 1, false)) ∧
  (fieldT Try.prog 36 1 = some (1, 1, false, false)) ∧
  (placeA Try.prog 36 2 = some (2, 1, false)) ∧
  (fieldT Try.prog 36 2 = some (2, 1, false, false)) ∧
  (placeA Try.prog 36 3 = some (3, 1, false)) ∧
  (fieldT Try.prog 36 3 = some (3, 1, false, false)) ∧
  (placeA Try.prog 36 4 = some (4, 1, false)) ∧
  (fieldT Try.prog 36 4 = some (4, 1, false, false)) ∧
  (placeA Try.prog 36 5 = some (5, 3, true)) ∧
  (fieldT Try.prog 36 5 = some (5, 3, true, false)) ∧
  (placeA Try.prog 36 6 = some (8, 16, true)) ∧
  (fieldT Try.prog 36 6 = some (8, 16, true, true)) ∧
  (szT Try.prog 47 = some 1) ∧
  (aggT Try.prog 47 = some false) ∧
  (kindT Try.prog 47 = .slice false) ∧
  (zeroT Try.prog 47 = some [.v (.slice none 0 0)]) ∧
  (elemT Try.prog 47 = .sl 1 false false) ∧
  (elemSize Try.prog 47 = some 1) ∧
  (elemBytes Try.prog 47 = some 1) ∧
  (listB Try.prog 47 = some 1) ∧
  (intElem Try.prog 47 = none) ∧
  (szT Try.prog 49 = some 29) ∧
  (aggT Try.prog 49 = some true) ∧
  (kindT Try.prog 49 = .struct) ∧
  (zeroT Try.prog 49 = some [.v (.int .u64 0), .v (.int .i64 0), .v (.int .i64 0), .v (.int .i64 0), .v (.int .i64 0), .v (.int .i64 0), .v (.int .i64 0), .v (.int .i64 0), .arr 16 .u8 (List.replicate 16 0), .v (.int .i64 0), .v (.slice none 0 0), .v (.int .i64 0), .v (.int .i64 0), .v (.int .u64 0)]) ∧
  (sizedT Try.prog 49 = true) ∧
  (intsT Try.prog 49 = false) ∧
  (placeA Try.prog 49 0 = some (0, 24, true)) ∧
  (fieldT Try.prog 49 0 = some (0, 24, true, false)) ∧
  (placeA Try.prog 49 1 = some (24, 1, false)) ∧
  (fieldT Try.prog 49 1 = some (24, 1, false, false)) ∧
  (placeA Try.prog 49 2 = some (25, 1, false)) ∧
  (fieldT Try.prog 49 2 = some (25, 1, false, false)) ∧
  (placeA Try.prog 49 3 = some (26, 1, false)) ∧
  (fieldT Try.prog 49 3 = some (26, 1, false, false)) ∧
  (placeA Try.prog 49 4 = some (27, 1, false)) ∧
  (fieldT Try.prog 49 4 = some (27, 1, false, false)) ∧
  (placeA Try.prog 49 5 = some (28, 1, false)) ∧
  (fieldT Try.prog 49 5 = some (28, 1, false, false)) ∧
  (szT Try.prog 52 = some 1) ∧
  (aggT Try.prog 52 = some false) ∧
  (kindT Try.prog 52 = .slice false) ∧
  (zeroT Try.prog 52 = some [.v (.slice none 0 0)]) ∧
  (elemT Try.prog 52 = .sl 1 false false) ∧
  (elemSize Try.prog 52 = some 1) ∧
  (elemBytes Try.prog 52 = some 8) ∧
  (listB Try.prog 52 = some 8) ∧
  (elemZ Try.prog 52 = some (.i64, 0)) ∧
  (intElem Try.prog 52 = some .i64) ∧
  (szT Try.prog 57 = some 1) ∧
  (aggT Try.prog 57 = some false) ∧
  (kindT Try.prog 57 = .pointer) ∧
  (zeroT Try.prog 57 = some [.v (.pointer none)]) ∧
  (szT Try.prog 66 = some 1) ∧
  (aggT Try.prog 66 = some false) ∧
  (kindT Try.prog 66 = .map) ∧
  (zeroT Try.prog 66 = some [.v (.map none)]) ∧
  (mapT Try.prog 66 = some (.v (.slice none 0 0))) ∧
  (szT Try.prog 67 = some 1) ∧
  (aggT Try.prog 67 = some false) ∧
  (kindT Try.prog 67 = .map) ∧
  (zeroT Try.prog 67 = some [.v (.map none)]) ∧
  (mapT Try.prog 67 = some (.v (.string ⟨#[]⟩))) ∧
  (szT Try.prog 68 = some 32) ∧
  (aggT Try.prog 68 = some true) ∧
  (kindT Try.prog 68 = .array) ∧
  (zeroT Try.prog 68 = some [.arr 32 .u8 (List.replicate 32 0)]) ∧
  (intsT Try.prog 68 = true) ∧
  (elemT Try.prog 68 = .arr 32 1 false false) ∧
  (eqArrT Try.prog 68 = some (32, .u8)) ∧
  (sizedT Try.prog 68 = true) ∧
  (∀ i, placeA Try.prog 68 i = some (i * 1, 1, false)) ∧
  (szT Try.prog 70 = some 35) ∧
  (aggT Try.prog 70 = some true) ∧
  (kindT Try.prog 70 = .struct) ∧
  (zeroT Try.prog 70 = some [.v (.int .u64 0), .v (.bool false), .v (.int .i64 0), .arr 32 .u8 (List.replicate 32 0)]) ∧
  (eqsK Try.prog 70 = some [(.int .u64, 0), (.bool, 0), (.int .i64, 0), (.int .u8, 33)]) ∧
  (sizedT Try.prog 70 = true) ∧
  (intsT Try.prog 70 = false) ∧
  (placeA Try.prog 70 0 = some (0, 1, false)) ∧
  (fieldT Try.prog 70 0 = some (0, 1, false, false)) ∧
  (placeA Try.prog 70 1 = some (1, 1, false)) ∧
  (fieldT Try.prog 70 1 = some (1, 1, false, false)) ∧
  (placeA Try.prog 70 2 = some (2, 1, false)) ∧
  (fieldT Try.prog 70 2 = some (2, 1, false, false)) ∧
  (placeA Try.prog 70 3 = some (3, 32, true)) ∧
  (fieldT Try.prog 70 3 = some (3, 32, true, true)) ∧
  (szT Try.prog 72 = some 64) ∧
  (aggT Try.prog 72 = some true) ∧
  (kindT Try.prog 72 = .struct) ∧
  (zeroT Try.prog 72 = some [.v (.int .u64 0), .v (.int .i64 0), .v (.int .i64 0), .v (.int .i64 0), .v (.int .i64 0), .v (.int .i64 0), .v (.int .i64 0), .v (.int .i64 0), .arr 16 .u8 (List.replicate 16 0), .v (.map none), .v (.map none), .v (.int .i64 0), .v (.int .u64 0), .v (.bool false), .v (.int .i64 0), .arr 32 .u8 (List.replicate 32 0), .v (.bool false), .v (.int .i64 0)]) ∧
  (sizedT Try.prog 72 = true) ∧
  (intsT Try.prog 72 = false) ∧
  (placeA Try.prog 72 0 = some (0, 24, true)) ∧
  (fieldT Try.prog 72 0 = some (0, 24, true, false)) ∧
  (placeA Try.prog 72 1 = some (24, 1, false)) ∧
  (fieldT Try.prog 72 1 = some (24, 1, false, false)) ∧
  (placeA Try.prog 72 2 = some (25, 1, false)) ∧
  (fieldT Try.prog 72 2 = some (25, 1, false, false)) ∧
  (placeA Try.prog 72 3 = some (26, 1, false)) ∧
  (fieldT Try.prog 72 3 = some (26, 1, false, false)) ∧
  (placeA Try.prog 72 4 = some (27, 35, true)) ∧
  (fieldT Try.prog 72 4 = some (27, 35, true, false)) ∧
  (placeA Try.prog 72 5 = some (62, 1, false)) ∧
  (fieldT Try.prog 72 5 = some (62, 1, false, false)) ∧
  (placeA Try.prog 72 6 = some (63, 1, false)) ∧
  (fieldT Try.prog 72 6 = some (63, 1, false, false)) ∧
  (szT Try.prog 84 = some 1) ∧
  (aggT Try.prog 84 = some false) ∧
  (kindT Try.prog 84 = .slice false) ∧
  (zeroT Try.prog 84 = some [.v (.slice none 0 0)]) ∧
  (elemT Try.prog 84 = .sl 2 true false) ∧
  (elemSize Try.prog 84 = some 2) ∧
  (elemBytes Try.prog 84 = some 24) ∧
  (intElem Try.prog 84 = none) ∧
  (szT Try.prog 85 = some 1) ∧
  (aggT Try.prog 85 = some false) ∧
  (kindT Try.prog 85 = .slice false) ∧
  (zeroT Try.prog 85 = some [.v (.slice none 0 0)]) ∧
  (elemT Try.prog 85 = .sl 1 false false) ∧
  (elemSize Try.prog 85 = some 1) ∧
  (elemBytes Try.prog 85 = some 16) ∧
  (listB Try.prog 85 = some 16) ∧
  (intElem Try.prog 85 = none) ∧
  (szT Try.prog 87 = some 65) ∧
  (aggT Try.prog 87 = some true) ∧
  (kindT Try.prog 87 = .struct) ∧
  (zeroT Try.prog 87 = some [.v (.int .u64 0), .v (.int .i64 0), .v (.int .i64 0), .v (.int .i64 0), .v (.int .i64 0), .v (.int .i64 0), .v (.int .i64 0), .v (.int .i64 0), .arr 16 .u8 (List.replicate 16 0), .v (.slice none 0 0), .v (.slice none 0 0), .v (.slice none 0 0), .v (.int .i64 0), .v (.int .u64 0), .v (.bool false), .v (.int .i64 0), .arr 32 .u8 (List.replicate 32 0), .v (.bool false), .v (.int .i64 0)]) ∧
  (sizedT Try.prog 87 = true) ∧
  (intsT Try.prog 87 = false) ∧
  (placeA Try.prog 87 0 = some (0, 24, true)) ∧
  (fieldT Try.prog 87 0 = some (0, 24, true, false)) ∧
  (placeA Try.prog 87 1 = some (24, 1, false)) ∧
  (fieldT Try.prog 87 1 = some (24, 1, false, false)) ∧
  (placeA Try.prog 87 2 = some (25, 1, false)) ∧
  (fieldT Try.prog 87 2 = some (25, 1, false, false)) ∧
  (placeA Try.prog 87 3 = some (26, 1, false)) ∧
  (fieldT Try.prog 87 3 = some (26, 1, false, false)) ∧
  (placeA Try.prog 87 4 = some (27, 1, false)) ∧
  (fieldT Try.prog 87 4 = some (27, 1, false, false)) ∧
  (placeA Try.prog 87 5 = some (28, 35, true)) ∧
  (fieldT Try.prog 87 5 = some (28, 35, true, false)) ∧
  (placeA Try.prog 87 6 = some (63, 1, false)) ∧
  (fieldT Try.prog 87 6 = some (63, 1, false, false)) ∧
  (placeA Try.prog 87 7 = some (64, 1, false)) ∧
  (fieldT Try.prog 87 7 = some (64, 1, false, false)) ∧
  (szT Try.prog 89 = some 2) ∧
  (aggT Try.prog 89 = some true) ∧
  (kindT Try.prog 89 = .struct) ∧
  (zeroT Try.prog 89 = some [.v (.bool false), .v (.string ⟨#[]⟩)]) ∧
  (sizedT Try.prog 89 = true) ∧
  (intsT Try.prog 89 = false) ∧
  (placeA Try.prog 89 0 = some (0, 1, false)) ∧
  (fieldT Try.prog 89 0 = some (0, 1, false, false)) ∧
  (placeA Try.prog 89 1 = some (1, 1, false)) ∧
  (fieldT Try.prog 89 1 = some (1, 1, false, false)) ∧
  (szT Try.prog 142 = some 2) ∧
  (aggT Try.prog 142 = some true) ∧
  (kindT Try.prog 142 = .struct) ∧
  (zeroT Try.prog 142 = some [.v (.int .i64 0), .v (.int .i64 0)]) ∧
  (sizedT Try.prog 142 = true) ∧
  (intsT Try.prog 142 = false) ∧
  (placeA Try.prog 142 0 = some (0, 1, false)) ∧
  (fieldT Try.prog 142 0 = some (0, 1, false, false)) ∧
  (placeA Try.prog 142 1 = some (1, 1, false)) ∧
  (fieldT Try.prog 142 1 = some (1, 1, false, false)) ∧
  (∀ c, elemZero Try.prog 23 c = some [.arr c .u8 (List.replicate c 0)]) ∧
  (∀ c, elemZero Try.prog 47 c = some [.lst 1 (List.replicate c (.v (.bool false)))]) ∧
  (∀ c, elemZero Try.prog 52 c = some [.arr c .i64 (List.replicate c 0)]) ∧
  (∀ c, elemZero Try.prog 85 c = some [.lst 1 (List.replicate c (.v (.string ⟨#[]⟩)))]) :=
  ⟨tb0, tb1, tb2, tb3, tb4, tb5, tb6, tb7, tb8, tb9, tb10, tb11, tb12, tb13, tb14, tb15, tb16, tb17, tb18, tb19, tb20, tb21, tb22, tb23, tb24, tb25, tb26, tb27, tb28, tb29, tb30, tb31, tb32, tb33, tb34, tb35, tb36, tb37, tb38, tb39, tb40, tb41, tb42, tb43, tb44, tb45, tb46, tb47, tb48, tb49, tb50, tb51, tb52, tb53, tb54, tb55, tb56, tb57, tb58, tb59, tb60, tb61, tb62, tb63, tb64, tb65, tb66, tb67, tb68, tb69, tb70, tb71, tb72, tb73, tb74, tb75, tb76, tb77, tb78, tb79, tb80, tb81, tb82, tb83, tb84, tb85, tb86, tb87, tb88, tb89, tb90, tb91, tb92, tb93, tb94, tb95, tb96, tb97, tb98, tb99, tb100, tb101, tb102, tb103, tb104, tb105, tb106, tb107, tb108, tb109, tb110, tb111, tb112, tb113, tb114, tb115, tb116, tb117, tb118, tb119, tb120, tb121, tb122, tb123, tb124, tb125, tb126, tb127, tb128, tb129, tb130, tb131, tb132, tb133, tb134, tb135, tb136, tb137, tb138, tb139, tb140, tb141, tb142, tb143, tb144, tb145, tb146, tb147, tb148, tb149, tb150, tb151, tb152, tb153, tb154, tb155, tb156, tb157, tb158, tb159, tb160, tb161, tb162, tb163, tb164, tb165, tb166, tb167, tb168, tb169, tb170, tb171, tb172, tb173, tb174, tb175, tb176, tb177, tb178, tb179, tb180, tb181, tb182, tb183, tb184, tb185, tb186, tb187, tb188, tb189, tb190, tb191, tb192, tb193, tb194, tb195, tb196, tb197, tb198, tb199, tb200, tb201, tb202, tb203, tb204, tb205, tb206, tb207, tb208, tb209, tb210, tb211, tb212, tb213, tb214, tb215, tb216, tb217, tb218, tb219, tb220, tb221, tb222, tb223, tb224, tb225, tb226, tb227, tb228, tb229, tb230, tb231, tb232, tb233, tb234, tb235, tb236, tb237, tb238, tb239, tb240, tb241, tb242, tb243, tb244, tb245, tb246, tb247, tb248, tb249, tb250, tb251, tb252, tb253, tb254, tb255, tb256, tb257, tb258, tb259, tb260, tb261, tb262, tb263, tb264, tb265, tb266, tz23, tz47, tz52, tz85⟩
end Go.Proofs.Ytgkhngcnbddoiaa

namespace Go.Proofs.Ytgkhngcnbddoiaa
open Go.Ax
noncomputable def c0 (k : Nat) : Cfg := ⟨Try.prog, k, fun _ => none, [], fun _ => none, none, []⟩
theorem c0_odd (k : Nat) : (c0 k).odd = [] := rfl
theorem c0_ro (k : Nat) : (c0 k).ro = [] := rfl
theorem c0_P (k : Nat) : (c0 k).P = Try.prog := rfl
theorem c0_pure (k : Nat) : (c0 k).pure = fun _ => none := rfl
theorem c0_news (k : Nat) : (c0 k).news = fun _ => none := rfl
theorem xc0 :
  (type_of% @c0_pure) ∧
  (type_of% @c0_news) :=
  ⟨@c0_pure, @c0_news⟩
theorem good0 (k : Nat) : (c0 k).Good := ⟨by kernel_rfl, fun f F args v h => by simp [c0] at h, fun f N h args out hN => by simp [c0] at hN⟩
theorem within50 (n a b : Int) : ACall Try.prog 50 [.v (.int .i64 n), .v (.int .i64 a), .v (.int .i64 b)] [] fun v _ => v = .v (.bool (decide (a ≤ n ∧ n ≤ b))) := by
  by_cases h : a ≤ n
  · have e : decide (a ≤ n ∧ n ≤ b) = decide (n ≤ b) := by simp [h]
    rw [e]
    refine acall_run (good0 0) Try.func50 rfl ⟨by kernel_rfl, by show 3 ≤ _; decide, by kernel_rfl, by kernel_rfl⟩ rfl ?_; have hr : Try.f50.results.toList = [.tmp 6] := rfl
    repeat (first | simp only [c0_P, c0_odd, c0_ro, Nat.reduceBEq, reduceIte, Nat.reduceEqDiff, reduceCtorEq, ne_eq, if_true, if_false, exA, exA, tabs, exB, exD, buildA, rowOr, rowSetAt, rowAgg, mkAgg, AV.isAggV, AV.parts, AV.one, AV.solid, headSize, indexAddrA, indexA, fieldAddrA, fieldA, sliceA, boundsA, bndA, lenA, arrayAtA, rowOf, makeSliceA, intsOf, copyA, Nat.reduceAdd, Nat.reduceSub, Nat.reduceMul, Nat.reduceLeDiff, Nat.reduceLT, Nat.reduceGT, Int.reduceToNat, Int.reduceLE, Int.reduceLT, Int.reduceEq, Int.reduceNe, Int.reduceAdd, Int.reduceSub, Int.reduceMul, Int.reduceNeg, ite_true, ite_false, dite_true, xc0, hr] | simp (maxSteps := 1000000) (disch := omega) only [exE, Int.toNat_natCast, Int.reduceToNat])
  · have e : decide (a ≤ n ∧ n ≤ b) = false := by simp [h]
    rw [e]
    refine acall_run (good0 0) Try.func50 rfl ⟨by kernel_rfl, by show 3 ≤ _; decide, by kernel_rfl, by kernel_rfl⟩ rfl ?_; have hr : Try.f50.results.toList = [.tmp 6] := rfl
    repeat (first | simp only [c0_P, c0_odd, c0_ro, Nat.reduceBEq, reduceIte, Nat.reduceEqDiff, reduceCtorEq, ne_eq, if_true, if_false, exA, exA, tabs, exB, exD, buildA, rowOr, rowSetAt, rowAgg, mkAgg, AV.isAggV, AV.parts, AV.one, AV.solid, headSize, indexAddrA, indexA, fieldAddrA, fieldA, sliceA, boundsA, bndA, lenA, arrayAtA, rowOf, makeSliceA, intsOf, copyA, Nat.reduceAdd, Nat.reduceSub, Nat.reduceMul, Nat.reduceLeDiff, Nat.reduceLT, Nat.reduceGT, Int.reduceToNat, Int.reduceLE, Int.reduceLT, Int.reduceEq, Int.reduceNe, Int.reduceAdd, Int.reduceSub, Int.reduceMul, Int.reduceNeg, ite_true, ite_false, dite_true, xc0, hr] | simp (maxSteps := 1000000) (disch := omega) only [exE, Int.toNat_natCast, Int.reduceToNat])
theorem within62 (n a b : Int) : ACall Try.prog 62 [.v (.int .i64 n), .v (.int .i64 a), .v (.int .i64 b)] [] fun v _ => v = .v (.bool (decide (a ≤ n ∧ n ≤ b))) := by
  by_cases h : a ≤ n
  · have e : decide (a ≤ n ∧ n ≤ b) = decide (n ≤ b) := by simp [h]
    rw [e]
    refine acall_run (good0 0) Try.func62 rfl ⟨by kernel_rfl, by show 3 ≤ _; decide, by kernel_rfl, by kernel_rfl⟩ rfl ?_; have hr : Try.f62.results.toList = [.tmp 6] := rfl
    repeat (first | simp only [c0_P, c0_odd, c0_ro, Nat.reduceBEq, reduceIte, Nat.reduceEqDiff, reduceCtorEq, ne_eq, if_true, if_false, exA, exA, tabs, exB, exD, buildA, rowOr, rowSetAt, rowAgg, mkAgg, AV.isAggV, AV.parts, AV.one, AV.solid, headSize, indexAddrA, indexA, fieldAddrA, fieldA, sliceA, boundsA, bndA, lenA, arrayAtA, rowOf, makeSliceA, intsOf, copyA, Nat.reduceAdd, Nat.reduceSub, Nat.reduceMul, Nat.reduceLeDiff, Nat.reduceLT, Nat.reduceGT, Int.reduceToNat, Int.reduceLE, Int.reduceLT, Int.reduceEq, Int.reduceNe, Int.reduceAdd, Int.reduceSub, Int.reduceMul, Int.reduceNeg, ite_true, ite_false, dite_true, xc0, hr] | simp (maxSteps := 1000000) (disch := omega) only [exE, Int.toNat_natCast, Int.reduceToNat])
  · have e : decide (a ≤ n ∧ n ≤ b) = false := by simp [h]
    rw [e]
    refine acall_run (good0 0) Try.func62 rfl ⟨by kernel_rfl, by show 3 ≤ _; decide, by kernel_rfl, by kernel_rfl⟩ rfl ?_; have hr : Try.f62.results.toList = [.tmp 6] := rfl
    repeat (first | simp only [c0_P, c0_odd, c0_ro, Nat.reduceBEq, reduceIte, Nat.reduceEqDiff, reduceCtorEq, ne_eq, if_true, if_false, exA, exA, tabs, exB, exD, buildA, rowOr, rowSetAt, rowAgg, mkAgg, AV.isAggV, AV.parts, AV.one, AV.solid, headSize, indexAddrA, indexA, fieldAddrA, fieldA, sliceA, boundsA, bndA, lenA, arrayAtA, rowOf, makeSliceA, intsOf, copyA, Nat.reduceAdd, Nat.reduceSub, Nat.reduceMul, Nat.reduceLeDiff, Nat.reduceLT, Nat.reduceGT, Int.reduceToNat, Int.reduceLE, Int.reduceLT, Int.reduceEq, Int.reduceNe, Int.reduceAdd, Int.reduceSub, Int.reduceMul, Int.reduceNeg, ite_true, ite_false, dite_true, xc0, hr] | simp (maxSteps := 1000000) (disch := omega) only [exE, Int.toNat_natCast, Int.reduceToNat])
def F50 : List AV → Option AV
  | [.v (.int .i64 n), .v (.int .i64 a), .v (.int .i64 b)] => some (.v (.bool (decide (a ≤ n ∧ n ≤ b))))
  | _ => none
theorem F50_eq (n a b : Int) : F50 [.v (.int .i64 n), .v (.int .i64 a), .v (.int .i64 b)] = some (.v (.bool (decide (a ≤ n ∧ n ≤ b)))) := rfl
noncomputable def p1 : FuncId → Option (List AV → Option AV) := addPure (addPure (fun _ => none) 50 F50) 62 F50
noncomputable def c1 (k : Nat) : Cfg := ⟨Try.prog, k, p1, [], fun _ => none, none, []⟩
theorem c1_odd (k : Nat) : (c1 k).odd = [] := rfl
theorem c1_ro (k : Nat) : (c1 k).ro = [] := rfl
theorem c1_P (k : Nat) : (c1 k).P = Try.prog := rfl
theorem c1_pure (k : Nat) : (c1 k).pure = p1 := rfl
theorem c1_news (k : Nat) : (c1 k).news = fun _ => none := rfl
theorem xc1 :
  (type_of% @c1_pure) ∧
  (type_of% @c1_news) ∧
  (type_of% @Go.Proofs.Ytgkhngcnbddoiaa.p1.eq_1) ∧
  (type_of% @F50_eq) :=
  ⟨@c1_pure, @c1_news, @Go.Proofs.Ytgkhngcnbddoiaa.p1.eq_1, @F50_eq⟩
theorem good1 (k : Nat) : (c1 k).Good := by
  refine Cfg.Good.add (Cfg.Good.add (good0 k) ?_ k) ?_ k
  all_goals
    intro args v hF h κ hκ
    unfold F50 at hF
    split at hF
    · cases hF
      first | exact pure_call (within50 _ _ _) (fun g => rfl) (fun g => rfl) h κ hκ | exact pure_call (within62 _ _ _) (fun g => rfl) (fun g => rfl) h κ hκ
    · cases hF
def okP (t m l : Int) : Bool := decide (1 ≤ t ∧ t ≤ 8 ∧ 1 ≤ l ∧ l ≤ 4 ∧ 8 * l ≤ m ∧ m ≤ 256)
def errP (b : Bool) : Int := if b = true then 0 else 80
theorem okP_no {t m l : Int} (h : ¬ (1 ≤ t ∧ t ≤ 8 ∧ 1 ≤ l ∧ l ≤ 4 ∧ 8 * l ≤ m ∧ m ≤ 256)) : errP (okP t m l) = 80 := by simp [errP, okP, h]
theorem okP_yes {t m l : Int} (h : 1 ≤ t ∧ t ≤ 8 ∧ 1 ≤ l ∧ l ≤ 4 ∧ 8 * l ≤ m ∧ m ≤ 256) : errP (okP t m l) = 0 := by simp [errP, okP, h]
theorem check51 (t m l : Int) : ACall Try.prog 51 [.agg [.v (.int .i64 t), .v (.int .i64 m), .v (.int .i64 l)]] [] fun v _ => v = .v (.int .i64 (errP (okP t m l))) := by
  by_cases h1 : 1 ≤ t
  rotate_left
  · rw [okP_no (by omega)]; refine acall_run (good1 0) Try.func51 rfl ⟨by kernel_rfl, by show 1 ≤ _; decide, by kernel_rfl, by kernel_rfl⟩ rfl ?_; have hr : Try.f51.results.toList = [.tmp 2] := rfl; repeat (first | simp only [c1_P, c1_odd, c1_ro, Nat.reduceBEq, reduceIte, Nat.reduceEqDiff, reduceCtorEq, ne_eq, if_true, if_false, exA, exA, tabs, exB, exD, buildA, rowOr, rowSetAt, rowAgg, mkAgg, AV.isAggV, AV.parts, AV.one, AV.solid, headSize, indexAddrA, indexA, fieldAddrA, fieldA, sliceA, boundsA, bndA, lenA, arrayAtA, rowOf, makeSliceA, intsOf, copyA, Nat.reduceAdd, Nat.reduceSub, Nat.reduceMul, Nat.reduceLeDiff, Nat.reduceLT, Nat.reduceGT, Int.reduceToNat, Int.reduceLE, Int.reduceLT, Int.reduceEq, Int.reduceNe, Int.reduceAdd, Int.reduceSub, Int.reduceMul, Int.reduceNeg, ite_true, ite_false, dite_true, xc1, hr] | simp (maxSteps := 1000000) (disch := omega) only [exE, Int.toNat_natCast, Int.reduceToNat])
  by_cases h2 : t ≤ 8
  rotate_left
  · rw [okP_no (by omega)]; refine acall_run (good1 0) Try.func51 rfl ⟨by kernel_rfl, by show 1 ≤ _; decide, by kernel_rfl, by kernel_rfl⟩ rfl ?_; have hr : Try.f51.results.toList = [.tmp 2] := rfl; repeat (first | simp only [c1_P, c1_odd, c1_ro, Nat.reduceBEq, reduceIte, Nat.reduceEqDiff, reduceCtorEq, ne_eq, if_true, if_false, exA, exA, tabs, exB, exD, buildA, rowOr, rowSetAt, rowAgg, mkAgg, AV.isAggV, AV.parts, AV.one, AV.solid, headSize, indexAddrA, indexA, fieldAddrA, fieldA, sliceA, boundsA, bndA, lenA, arrayAtA, rowOf, makeSliceA, intsOf, copyA, Nat.reduceAdd, Nat.reduceSub, Nat.reduceMul, Nat.reduceLeDiff, Nat.reduceLT, Nat.reduceGT, Int.reduceToNat, Int.reduceLE, Int.reduceLT, Int.reduceEq, Int.reduceNe, Int.reduceAdd, Int.reduceSub, Int.reduceMul, Int.reduceNeg, ite_true, ite_false, dite_true, xc1, hr] | simp (maxSteps := 1000000) (disch := omega) only [exE, Int.toNat_natCast, Int.reduceToNat])
  by_cases h3 : 1 ≤ l
  rotate_left
  · rw [okP_no (by omega)]; refine acall_run (good1 0) Try.func51 rfl ⟨by kernel_rfl, by show 1 ≤ _; decide, by kernel_rfl, by kernel_rfl⟩ rfl ?_; have hr : Try.f51.results.toList = [.tmp 2] := rfl; repeat (first | simp only [c1_P, c1_odd, c1_ro, Nat.reduceBEq, reduceIte, Nat.reduceEqDiff, reduceCtorEq, ne_eq, if_true, if_false, exA, exA, tabs, exB, exD, buildA, rowOr, rowSetAt, rowAgg, mkAgg, AV.isAggV, AV.parts, AV.one, AV.solid, headSize, indexAddrA, indexA, fieldAddrA, fieldA, sliceA, boundsA, bndA, lenA, arrayAtA, rowOf, makeSliceA, intsOf, copyA, Nat.reduceAdd, Nat.reduceSub, Nat.reduceMul, Nat.reduceLeDiff, Nat.reduceLT, Nat.reduceGT, Int.reduceToNat, Int.reduceLE, Int.reduceLT, Int.reduceEq, Int.reduceNe, Int.reduceAdd, Int.reduceSub, Int.reduceMul, Int.reduceNeg, ite_true, ite_false, dite_true, xc1, hr] | simp (maxSteps := 1000000) (disch := omega) only [exE, Int.toNat_natCast, Int.reduceToNat])
  by_cases h4 : l ≤ 4
  rotate_left
  · rw [okP_no (by omega)]; refine acall_run (good1 0) Try.func51 rfl ⟨by kernel_rfl, by show 1 ≤ _; decide, by kernel_rfl, by kernel_rfl⟩ rfl ?_; have hr : Try.f51.results.toList = [.tmp 2] := rfl; repeat (first | simp only [c1_P, c1_odd, c1_ro, Nat.reduceBEq, reduceIte, Nat.reduceEqDiff, reduceCtorEq, ne_eq, if_true, if_false, exA, exA, tabs, exB, exD, buildA, rowOr, rowSetAt, rowAgg, mkAgg, AV.isAggV, AV.parts, AV.one, AV.solid, headSize, indexAddrA, indexA, fieldAddrA, fieldA, sliceA, boundsA, bndA, lenA, arrayAtA, rowOf, makeSliceA, intsOf, copyA, Nat.reduceAdd, Nat.reduceSub, Nat.reduceMul, Nat.reduceLeDiff, Nat.reduceLT, Nat.reduceGT, Int.reduceToNat, Int.reduceLE, Int.reduceLT, Int.reduceEq, Int.reduceNe, Int.reduceAdd, Int.reduceSub, Int.reduceMul, Int.reduceNeg, ite_true, ite_false, dite_true, xc1, hr] | simp (maxSteps := 1000000) (disch := omega) only [exE, Int.toNat_natCast, Int.reduceToNat])
  have hw : IntKind.i64.wrap (8 * l) = 8 * l := i64_id _ (by omega)
  by_cases h5 : 8 * l ≤ m
  rotate_left
  · rw [okP_no (by omega)]; refine acall_run (good1 0) Try.func51 rfl ⟨by kernel_rfl, by show 1 ≤ _; decide, by kernel_rfl, by kernel_rfl⟩ rfl ?_; have hr : Try.f51.results.toList = [.tmp 2] := rfl; repeat (first | simp only [c1_P, c1_odd, c1_ro, Nat.reduceBEq, reduceIte, Nat.reduceEqDiff, reduceCtorEq, ne_eq, if_true, if_false, exA, exA, tabs, exB, exD, buildA, rowOr, rowSetAt, rowAgg, mkAgg, AV.isAggV, AV.parts, AV.one, AV.solid, headSize, indexAddrA, indexA, fieldAddrA, fieldA, sliceA, boundsA, bndA, lenA, arrayAtA, rowOf, makeSliceA, intsOf, copyA, Nat.reduceAdd, Nat.reduceSub, Nat.reduceMul, Nat.reduceLeDiff, Nat.reduceLT, Nat.reduceGT, Int.reduceToNat, Int.reduceLE, Int.reduceLT, Int.reduceEq, Int.reduceNe, Int.reduceAdd, Int.reduceSub, Int.reduceMul, Int.reduceNeg, ite_true, ite_false, dite_true, xc1, hr, hw] | simp (maxSteps := 1000000) (disch := omega) only [exE, Int.toNat_natCast, Int.reduceToNat])
  by_cases h6 : m ≤ 256
  rotate_left
  · rw [okP_no (by omega)]; refine acall_run (good1 0) Try.func51 rfl ⟨by kernel_rfl, by show 1 ≤ _; decide, by kernel_rfl, by kernel_rfl⟩ rfl ?_; have hr : Try.f51.results.toList = [.tmp 2] := rfl; repeat (first | simp only [c1_P, c1_odd, c1_ro, Nat.reduceBEq, reduceIte, Nat.reduceEqDiff, reduceCtorEq, ne_eq, if_true, if_false, exA, exA, tabs, exB, exD, buildA, rowOr, rowSetAt, rowAgg, mkAgg, AV.isAggV, AV.parts, AV.one, AV.solid, headSize, indexAddrA, indexA, fieldAddrA, fieldA, sliceA, boundsA, bndA, lenA, arrayAtA, rowOf, makeSliceA, intsOf, copyA, Nat.reduceAdd, Nat.reduceSub, Nat.reduceMul, Nat.reduceLeDiff, Nat.reduceLT, Nat.reduceGT, Int.reduceToNat, Int.reduceLE, Int.reduceLT, Int.reduceEq, Int.reduceNe, Int.reduceAdd, Int.reduceSub, Int.reduceMul, Int.reduceNeg, ite_true, ite_false, dite_true, xc1, hr, hw] | simp (maxSteps := 1000000) (disch := omega) only [exE, Int.toNat_natCast, Int.reduceToNat])
  rw [okP_yes (by omega)]; refine acall_run (good1 0) Try.func51 rfl ⟨by kernel_rfl, by show 1 ≤ _; decide, by kernel_rfl, by kernel_rfl⟩ rfl ?_; have hr : Try.f51.results.toList = [.tmp 2] := rfl; repeat (first | simp only [c1_P, c1_odd, c1_ro, Nat.reduceBEq, reduceIte, Nat.reduceEqDiff, reduceCtorEq, ne_eq, if_true, if_false, exA, exA, tabs, exB, exD, buildA, rowOr, rowSetAt, rowAgg, mkAgg, AV.isAggV, AV.parts, AV.one, AV.solid, headSize, indexAddrA, indexA, fieldAddrA, fieldA, sliceA, boundsA, bndA, lenA, arrayAtA, rowOf, makeSliceA, intsOf, copyA, Nat.reduceAdd, Nat.reduceSub, Nat.reduceMul, Nat.reduceLeDiff, Nat.reduceLT, Nat.reduceGT, Int.reduceToNat, Int.reduceLE, Int.reduceLT, Int.reduceEq, Int.reduceNe, Int.reduceAdd, Int.reduceSub, Int.reduceMul, Int.reduceNeg, ite_true, ite_false, dite_true, xc1, hr, hw] | simp (maxSteps := 1000000) (disch := omega) only [exE, Int.toNat_natCast, Int.reduceToNat])
theorem check59 (t m l : Int) : ACall Try.prog 59 [.agg [.v (.int .i64 t), .v (.int .i64 m), .v (.int .i64 l)]] [] fun v _ => v = .v (.int .i64 (errP (okP t m l))) := by
  by_cases h1 : 1 ≤ t
  rotate_left
  · rw [okP_no (by omega)]; refine acall_run (good1 0) Try.func59 rfl ⟨by kernel_rfl, by show 1 ≤ _; decide, by kernel_rfl, by kernel_rfl⟩ rfl ?_; have hr : Try.f59.results.toList = [.tmp 2] := rfl; repeat (first | simp only [c1_P, c1_odd, c1_ro, Nat.reduceBEq, reduceIte, Nat.reduceEqDiff, reduceCtorEq, ne_eq, if_true, if_false, exA, exA, tabs, exB, exD, buildA, rowOr, rowSetAt, rowAgg, mkAgg, AV.isAggV, AV.parts, AV.one, AV.solid, headSize, indexAddrA, indexA, fieldAddrA, fieldA, sliceA, boundsA, bndA, lenA, arrayAtA, rowOf, makeSliceA, intsOf, copyA, Nat.reduceAdd, Nat.reduceSub, Nat.reduceMul, Nat.reduceLeDiff, Nat.reduceLT, Nat.reduceGT, Int.reduceToNat, Int.reduceLE, Int.reduceLT, Int.reduceEq, Int.reduceNe, Int.reduceAdd, Int.reduceSub, Int.reduceMul, Int.reduceNeg, ite_true, ite_false, dite_true, xc1, hr] | simp (maxSteps := 1000000) (disch := omega) only [exE, Int.toNat_natCast, Int.reduceToNat])
  by_cases h2 : t ≤ 8
  rotate_left
  · rw [okP_no (by omega)]; refine acall_run (good1 0) Try.func59 rfl ⟨by kernel_rfl, by show 1 ≤ _; decide, by kernel_rfl, by kernel_rfl⟩ rfl ?_; have hr : Try.f59.results.toList = [.tmp 2] := rfl; repeat (first | simp only [c1_P, c1_odd, c1_ro, Nat.reduceBEq, reduceIte, Nat.reduceEqDiff, reduceCtorEq, ne_eq, if_true, if_false, exA, exA, tabs, exB, exD, buildA, rowOr, rowSetAt, rowAgg, mkAgg, AV.isAggV, AV.parts, AV.one, AV.solid, headSize, indexAddrA, indexA, fieldAddrA, fieldA, sliceA, boundsA, bndA, lenA, arrayAtA, rowOf, makeSliceA, intsOf, copyA, Nat.reduceAdd, Nat.reduceSub, Nat.reduceMul, Nat.reduceLeDiff, Nat.reduceLT, Nat.reduceGT, Int.reduceToNat, Int.reduceLE, Int.reduceLT, Int.reduceEq, Int.reduceNe, Int.reduceAdd, Int.reduceSub, Int.reduceMul, Int.reduceNeg, ite_true, ite_false, dite_true, xc1, hr] | simp (maxSteps := 1000000) (disch := omega) only [exE, Int.toNat_natCast, Int.reduceToNat])
  by_cases h3 : 1 ≤ l
  rotate_left
  · rw [okP_no (by omega)]; refine acall_run (good1 0) Try.func59 rfl ⟨by kernel_rfl, by show 1 ≤ _; decide, by kernel_rfl, by kernel_rfl⟩ rfl ?_; have hr : Try.f59.results.toList = [.tmp 2] := rfl; repeat (first | simp only [c1_P, c1_odd, c1_ro, Nat.reduceBEq, reduceIte, Nat.reduceEqDiff, reduceCtorEq, ne_eq, if_true, if_false, exA, exA, tabs, exB, exD, buildA, rowOr, rowSetAt, rowAgg, mkAgg, AV.isAggV, AV.parts, AV.one, AV.solid, headSize, indexAddrA, indexA, fieldAddrA, fieldA, sliceA, boundsA, bndA, lenA, arrayAtA, rowOf, makeSliceA, intsOf, copyA, Nat.reduceAdd, Nat.reduceSub, Nat.reduceMul, Nat.reduceLeDiff, Nat.reduceLT, Nat.reduceGT, Int.reduceToNat, Int.reduceLE, Int.reduceLT, Int.reduceEq, Int.reduceNe, Int.reduceAdd, Int.reduceSub, Int.reduceMul, Int.reduceNeg, ite_true, ite_false, dite_true, xc1, hr] | simp (maxSteps := 1000000) (disch := omega) only [exE, Int.toNat_natCast, Int.reduceToNat])
  by_cases h4 : l ≤ 4
  rotate_left
  · rw [okP_no (by omega)]; refine acall_run (good1 0) Try.func59 rfl ⟨by kernel_rfl, by show 1 ≤ _; decide, by kernel_rfl, by kernel_rfl⟩ rfl ?_; have hr : Try.f59.results.toList = [.tmp 2] := rfl; repeat (first | simp only [c1_P, c1_odd, c1_ro, Nat.reduceBEq, reduceIte, Nat.reduceEqDiff, reduceCtorEq, ne_eq, if_true, if_false, exA, exA, tabs, exB, exD, buildA, rowOr, rowSetAt, rowAgg, mkAgg, AV.isAggV, AV.parts, AV.one, AV.solid, headSize, indexAddrA, indexA, fieldAddrA, fieldA, sliceA, boundsA, bndA, lenA, arrayAtA, rowOf, makeSliceA, intsOf, copyA, Nat.reduceAdd, Nat.reduceSub, Nat.reduceMul, Nat.reduceLeDiff, Nat.reduceLT, Nat.reduceGT, Int.reduceToNat, Int.reduceLE, Int.reduceLT, Int.reduceEq, Int.reduceNe, Int.reduceAdd, Int.reduceSub, Int.reduceMul, Int.reduceNeg, ite_true, ite_false, dite_true, xc1, hr] | simp (maxSteps := 1000000) (disch := omega) only [exE, Int.toNat_natCast, Int.reduceToNat])
  have hw : IntKind.i64.wrap (8 * l) = 8 * l := i64_id _ (by omega)
  by_cases h5 : 8 * l ≤ m
  rotate_left
  · rw [okP_no (by omega)]; refine acall_run (good1 0) Try.func59 rfl ⟨by kernel_rfl, by show 1 ≤ _; decide, by kernel_rfl, by kernel_rfl⟩ rfl ?_; have hr : Try.f59.results.toList = [.tmp 2] := rfl; repeat (first | simp only [c1_P, c1_odd, c1_ro, Nat.reduceBEq, reduceIte, Nat.reduceEqDiff, reduceCtorEq, ne_eq, if_true, if_false, exA, exA, tabs, exB, exD, buildA, rowOr, rowSetAt, rowAgg, mkAgg, AV.isAggV, AV.parts, AV.one, AV.solid, headSize, indexAddrA, indexA, fieldAddrA, fieldA, sliceA, boundsA, bndA, lenA, arrayAtA, rowOf, makeSliceA, intsOf, copyA, Nat.reduceAdd, Nat.reduceSub, Nat.reduceMul, Nat.reduceLeDiff, Nat.reduceLT, Nat.reduceGT, Int.reduceToNat, Int.reduceLE, Int.reduceLT, Int.reduceEq, Int.reduceNe, Int.reduceAdd, Int.reduceSub, Int.reduceMul, Int.reduceNeg, ite_true, ite_false, dite_true, xc1, hr, hw] | simp (maxSteps := 1000000) (disch := omega) only [exE, Int.toNat_natCast, Int.reduceToNat])
  by_cases h6 : m ≤ 256
  rotate_left
  · rw [okP_no (by omega)]; refine acall_run (good1 0) Try.func59 rfl ⟨by kernel_rfl, by show 1 ≤ _; decide, by kernel_rfl, by kernel_rfl⟩ rfl ?_; have hr : Try.f59.results.toList = [.tmp 2] := rfl; repeat (first | simp only [c1_P, c1_odd, c1_ro, Nat.reduceBEq, reduceIte, Nat.reduceEqDiff, reduceCtorEq, ne_eq, if_true, if_false, exA, exA, tabs, exB, exD, buildA, rowOr, rowSetAt, rowAgg, mkAgg, AV.isAggV, AV.parts, AV.one, AV.solid, headSize, indexAddrA, indexA, fieldAddrA, fieldA, sliceA, boundsA, bndA, lenA, arrayAtA, rowOf, makeSliceA, intsOf, copyA, Nat.reduceAdd, Nat.reduceSub, Nat.reduceMul, Nat.reduceLeDiff, Nat.reduceLT, Nat.reduceGT, Int.reduceToNat, Int.reduceLE, Int.reduceLT, Int.reduceEq, Int.reduceNe, Int.reduceAdd, Int.reduceSub, Int.reduceMul, Int.reduceNeg, ite_true, ite_false, dite_true, xc1, hr, hw] | simp (maxSteps := 1000000) (disch := omega) only [exE, Int.toNat_natCast, Int.reduceToNat])
  rw [okP_yes (by omega)]; refine acall_run (good1 0) Try.func59 rfl ⟨by kernel_rfl, by show 1 ≤ _; decide, by kernel_rfl, by kernel_rfl⟩ rfl ?_; have hr : Try.f59.results.toList = [.tmp 2] := rfl; repeat (first | simp only [c1_P, c1_odd, c1_ro, Nat.reduceBEq, reduceIte, Nat.reduceEqDiff, reduceCtorEq, ne_eq, if_true, if_false, exA, exA, tabs, exB, exD, buildA, rowOr, rowSetAt, rowAgg, mkAgg, AV.isAggV, AV.parts, AV.one, AV.solid, headSize, indexAddrA, indexA, fieldAddrA, fieldA, sliceA, boundsA, bndA, lenA, arrayAtA, rowOf, makeSliceA, intsOf, copyA, Nat.reduceAdd, Nat.reduceSub, Nat.reduceMul, Nat.reduceLeDiff, Nat.reduceLT, Nat.reduceGT, Int.reduceToNat, Int.reduceLE, Int.reduceLT, Int.reduceEq, Int.reduceNe, Int.reduceAdd, Int.reduceSub, Int.reduceMul, Int.reduceNeg, ite_true, ite_false, dite_true, xc1, hr, hw] | simp (maxSteps := 1000000) (disch := omega) only [exE, Int.toNat_natCast, Int.reduceToNat])
theorem errP_beq (b : Bool) : (errP b == 0) = b := by cases b <;> rfl
theorem errP_bne (b : Bool) : (errP b != 0) = !b := by cases b <;> rfl
def F51 : List AV → Option AV
  | [.agg [.v (.int .i64 t), .v (.int .i64 m), .v (.int .i64 l)]] => some (.v (.int .i64 (errP (okP t m l))))
  | _ => none
theorem F51_eq (t m l : Int) : F51 [.agg [.v (.int .i64 t), .v (.int .i64 m), .v (.int .i64 l)]] = some (.v (.int .i64 (errP (okP t m l)))) := rfl
noncomputable def p2 : FuncId → Option (List AV → Option AV) := addPure (addPure p1 51 F51) 59 F51
noncomputable def c2 (k : Nat) : Cfg := ⟨Try.prog, k, p2, [], fun _ => none, none, []⟩
theorem c2_odd (k : Nat) : (c2 k).odd = [] := rfl
theorem c2_ro (k : Nat) : (c2 k).ro = [] := rfl
theorem c2_P (k : Nat) : (c2 k).P = Try.prog := rfl
theorem c2_pure (k : Nat) : (c2 k).pure = p2 := rfl
theorem c2_news (k : Nat) : (c2 k).news = fun _ => none := rfl
theorem xc2 :
  (type_of% @c2_pure) ∧
  (type_of% @c2_news) ∧
  (type_of% @Go.Proofs.Ytgkhngcnbddoiaa.p2.eq_1) ∧
  (type_of% @F51_eq) :=
  ⟨@c2_pure, @c2_news, @Go.Proofs.Ytgkhngcnbddoiaa.p2.eq_1, @F51_eq⟩
theorem good2 (k : Nat) : (c2 k).Good := by
  refine Cfg.Good.add (Cfg.Good.add (good1 k) ?_ k) ?_ k
  all_goals
    intro args v hF h κ hκ
    unfold F51 at hF
    split at hF
    · cases hF
      first | exact pure_call (check51 _ _ _) (fun g => rfl) (fun g => rfl) h κ hκ | exact pure_call (check59 _ _ _) (fun g => rfl) (fun g => rfl) h κ hκ
    · cases hF
end Go.Proofs.Ytgkhngcnbddoiaa

namespace Go.Proofs.Ytgkhngcnbddoiaa
open Go.Ax
structure Hd where
  gen : Int
  sec : Int
  slo : Int
  jou : Int
  seg : Int
  tim : Int
  mem : Int
  lan : Int
  nam : List Int
structure Rt where
  ctr : Int
  rek : Bool
  fro : Int
  tre : List Int
def hdL (H : Hd) : List AV := [.v (.int .u64 H.gen), .v (.int .i64 H.sec), .v (.int .i64 H.slo), .v (.int .i64 H.jou), .v (.int .i64 H.seg), .v (.int .i64 H.tim), .v (.int .i64 H.mem), .v (.int .i64 H.lan), .arr 16 .u8 H.nam]
def rtL (R : Rt) : List AV := [.v (.int .u64 R.ctr), .v (.bool R.rek), .v (.int .i64 R.fro), .arr 32 .u8 R.tre]
def okH (H : Hd) : Bool := decide (1 ≤ H.gen ∧ 1 ≤ H.sec ∧ H.sec ≤ 1024 ∧ 1 ≤ H.slo ∧ H.slo ≤ 8 ∧ 16 ≤ H.jou ∧ H.jou ≤ 256 ∧ 1 ≤ H.seg ∧ H.seg ≤ 16 ∧ H.seg + 10 ≤ H.jou ∧ okP H.tim H.mem H.lan = true)
def errH (b : Bool) : Int := if b = true then 0 else 1
theorem errH_beq (b : Bool) : (errH b == 0) = b := by cases b <;> rfl
theorem errH_bne (b : Bool) : (errH b != 0) = !b := by cases b <;> rfl
theorem head27 (H : Hd) (hg : 0 ≤ H.gen) : ACall Try.prog 27 [.agg [.v (.int .u64 H.gen), .v (.int .i64 H.sec), .v (.int .i64 H.slo), .v (.int .i64 H.jou), .v (.int .i64 H.seg), .v (.int .i64 H.tim), .v (.int .i64 H.mem), .v (.int .i64 H.lan), .arr 16 .u8 H.nam]] [] fun v _ => v = .v (.int .i64 (errH (okH H))) := by
  have no : ¬ (1 ≤ H.gen ∧ 1 ≤ H.sec ∧ H.sec ≤ 1024 ∧ 1 ≤ H.slo ∧ H.slo ≤ 8 ∧ 16 ≤ H.jou ∧ H.jou ≤ 256 ∧ 1 ≤ H.seg ∧ H.seg ≤ 16 ∧ H.seg + 10 ≤ H.jou ∧ okP H.tim H.mem H.lan = true) → errH (okH H) = 1 := fun h => by simp only [errH, okH, decide_eq_true_eq, if_neg h]
  by_cases h0 : 1 ≤ H.gen
  rotate_left
  · rw [no (by omega)]; refine acall_run (good2 0) Try.func27 rfl ⟨by kernel_rfl, by show 1 ≤ _; decide, by kernel_rfl, by kernel_rfl⟩ rfl ?_; have hr : Try.f27.results.toList = [.tmp 2] := rfl; repeat (first | simp only [c2_P, c2_odd, c2_ro, Nat.reduceBEq, reduceIte, Nat.reduceEqDiff, reduceCtorEq, ne_eq, if_true, if_false, exA, exA, tabs, exB, exD, buildA, rowOr, rowSetAt, rowAgg, mkAgg, AV.isAggV, AV.parts, AV.one, AV.solid, headSize, indexAddrA, indexA, fieldAddrA, fieldA, sliceA, boundsA, bndA, lenA, arrayAtA, rowOf, makeSliceA, intsOf, copyA, Nat.reduceAdd, Nat.reduceSub, Nat.reduceMul, Nat.reduceLeDiff, Nat.reduceLT, Nat.reduceGT, Int.reduceToNat, Int.reduceLE, Int.reduceLT, Int.reduceEq, Int.reduceNe, Int.reduceAdd, Int.reduceSub, Int.reduceMul, Int.reduceNeg, ite_true, ite_false, dite_true, xc1, xc2, hr] | simp (maxSteps := 1000000) (disch := omega) only [exE, Int.toNat_natCast, Int.reduceToNat])
  by_cases k0 : 1 ≤ H.sec
  rotate_left
  · rw [no (by omega)]; refine acall_run (good2 0) Try.func27 rfl ⟨by kernel_rfl, by show 1 ≤ _; decide, by kernel_rfl, by kernel_rfl⟩ rfl ?_; have hr : Try.f27.results.toList = [.tmp 2] := rfl; repeat (first | simp only [c2_P, c2_odd, c2_ro, Nat.reduceBEq, reduceIte, Nat.reduceEqDiff, reduceCtorEq, ne_eq, if_true, if_false, exA, exA, tabs, exB, exD, buildA, rowOr, rowSetAt, rowAgg, mkAgg, AV.isAggV, AV.parts, AV.one, AV.solid, headSize, indexAddrA, indexA, fieldAddrA, fieldA, sliceA, boundsA, bndA, lenA, arrayAtA, rowOf, makeSliceA, intsOf, copyA, Nat.reduceAdd, Nat.reduceSub, Nat.reduceMul, Nat.reduceLeDiff, Nat.reduceLT, Nat.reduceGT, Int.reduceToNat, Int.reduceLE, Int.reduceLT, Int.reduceEq, Int.reduceNe, Int.reduceAdd, Int.reduceSub, Int.reduceMul, Int.reduceNeg, ite_true, ite_false, dite_true, xc1, xc2, hr] | simp (maxSteps := 1000000) (disch := omega) only [exE, Int.toNat_natCast, Int.reduceToNat])
  by_cases k1 : H.sec ≤ 1024
  rotate_left
  · rw [no (by omega)]; refine acall_run (good2 0) Try.func27 rfl ⟨by kernel_rfl, by show 1 ≤ _; decide, by kernel_rfl, by kernel_rfl⟩ rfl ?_; have hr : Try.f27.results.toList = [.tmp 2] := rfl; repeat (first | simp only [c2_P, c2_odd, c2_ro, Nat.reduceBEq, reduceIte, Nat.reduceEqDiff, reduceCtorEq, ne_eq, if_true, if_false, exA, exA, tabs, exB, exD, buildA, rowOr, rowSetAt, rowAgg, mkAgg, AV.isAggV, AV.parts, AV.one, AV.solid, headSize, indexAddrA, indexA, fieldAddrA, fieldA, sliceA, boundsA, bndA, lenA, arrayAtA, rowOf, makeSliceA, intsOf, copyA, Nat.reduceAdd, Nat.reduceSub, Nat.reduceMul, Nat.reduceLeDiff, Nat.reduceLT, Nat.reduceGT, Int.reduceToNat, Int.reduceLE, Int.reduceLT, Int.reduceEq, Int.reduceNe, Int.reduceAdd, Int.reduceSub, Int.reduceMul, Int.reduceNeg, ite_true, ite_false, dite_true, xc1, xc2, hr] | simp (maxSteps := 1000000) (disch := omega) only [exE, Int.toNat_natCast, Int.reduceToNat])
  by_cases k2 : 1 ≤ H.slo
  rotate_left
  · rw [no (by omega)]; refine acall_run (good2 0) Try.func27 rfl ⟨by kernel_rfl, by show 1 ≤ _; decide, by kernel_rfl, by kernel_rfl⟩ rfl ?_; have hr : Try.f27.results.toList = [.tmp 2] := rfl; repeat (first | simp only [c2_P, c2_odd, c2_ro, Nat.reduceBEq, reduceIte, Nat.reduceEqDiff, reduceCtorEq, ne_eq, if_true, if_false, exA, exA, tabs, exB, exD, buildA, rowOr, rowSetAt, rowAgg, mkAgg, AV.isAggV, AV.parts, AV.one, AV.solid, headSize, indexAddrA, indexA, fieldAddrA, fieldA, sliceA, boundsA, bndA, lenA, arrayAtA, rowOf, makeSliceA, intsOf, copyA, Nat.reduceAdd, Nat.reduceSub, Nat.reduceMul, Nat.reduceLeDiff, Nat.reduceLT, Nat.reduceGT, Int.reduceToNat, Int.reduceLE, Int.reduceLT, Int.reduceEq, Int.reduceNe, Int.reduceAdd, Int.reduceSub, Int.reduceMul, Int.reduceNeg, ite_true, ite_false, dite_true, xc1, xc2, hr] | simp (maxSteps := 1000000) (disch := omega) only [exE, Int.toNat_natCast, Int.reduceToNat])
  by_cases k3 : H.slo ≤ 8
  rotate_left
  · rw [no (by omega)]; refine acall_run (good2 0) Try.func27 rfl ⟨by kernel_rfl, by show 1 ≤ _; decide, by kernel_rfl, by kernel_rfl⟩ rfl ?_; have hr : Try.f27.results.toList = [.tmp 2] := rfl; repeat (first | simp only [c2_P, c2_odd, c2_ro, Nat.reduceBEq, reduceIte, Nat.reduceEqDiff, reduceCtorEq, ne_eq, if_true, if_false, exA, exA, tabs, exB, exD, buildA, rowOr, rowSetAt, rowAgg, mkAgg, AV.isAggV, AV.parts, AV.one, AV.solid, headSize, indexAddrA, indexA, fieldAddrA, fieldA, sliceA, boundsA, bndA, lenA, arrayAtA, rowOf, makeSliceA, intsOf, copyA, Nat.reduceAdd, Nat.reduceSub, Nat.reduceMul, Nat.reduceLeDiff, Nat.reduceLT, Nat.reduceGT, Int.reduceToNat, Int.reduceLE, Int.reduceLT, Int.reduceEq, Int.reduceNe, Int.reduceAdd, Int.reduceSub, Int.reduceMul, Int.reduceNeg, ite_true, ite_false, dite_true, xc1, xc2, hr] | simp (maxSteps := 1000000) (disch := omega) only [exE, Int.toNat_natCast, Int.reduceToNat])
  by_cases k4 : 16 ≤ H.jou
  rotate_left
  · rw [no (by omega)]; refine acall_run (good2 0) Try.func27 rfl ⟨by kernel_rfl, by show 1 ≤ _; decide, by kernel_rfl, by kernel_rfl⟩ rfl ?_; have hr : Try.f27.results.toList = [.tmp 2] := rfl; repeat (first | simp only [c2_P, c2_odd, c2_ro, Nat.reduceBEq, reduceIte, Nat.reduceEqDiff, reduceCtorEq, ne_eq, if_true, if_false, exA, exA, tabs, exB, exD, buildA, rowOr, rowSetAt, rowAgg, mkAgg, AV.isAggV, AV.parts, AV.one, AV.solid, headSize, indexAddrA, indexA, fieldAddrA, fieldA, sliceA, boundsA, bndA, lenA, arrayAtA, rowOf, makeSliceA, intsOf, copyA, Nat.reduceAdd, Nat.reduceSub, Nat.reduceMul, Nat.reduceLeDiff, Nat.reduceLT, Nat.reduceGT, Int.reduceToNat, Int.reduceLE, Int.reduceLT, Int.reduceEq, Int.reduceNe, Int.reduceAdd, Int.reduceSub, Int.reduceMul, Int.reduceNeg, ite_true, ite_false, dite_true, xc1, xc2, hr] | simp (maxSteps := 1000000) (disch := omega) only [exE, Int.toNat_natCast, Int.reduceToNat])
  by_cases k5 : H.jou ≤ 256
  rotate_left
  · rw [no (by omega)]; refine acall_run (good2 0) Try.func27 rfl ⟨by kernel_rfl, by show 1 ≤ _; decide, by kernel_rfl, by kernel_rfl⟩ rfl ?_; have hr : Try.f27.results.toList = [.tmp 2] := rfl; repeat (first | simp only [c2_P, c2_odd, c2_ro, Nat.reduceBEq, reduceIte, Nat.reduceEqDiff, reduceCtorEq, ne_eq, if_true, if_false, exA, exA, tabs, exB, exD, buildA, rowOr, rowSetAt, rowAgg, mkAgg, AV.isAggV, AV.parts, AV.one, AV.solid, headSize, indexAddrA, indexA, fieldAddrA, fieldA, sliceA, boundsA, bndA, lenA, arrayAtA, rowOf, makeSliceA, intsOf, copyA, Nat.reduceAdd, Nat.reduceSub, Nat.reduceMul, Nat.reduceLeDiff, Nat.reduceLT, Nat.reduceGT, Int.reduceToNat, Int.reduceLE, Int.reduceLT, Int.reduceEq, Int.reduceNe, Int.reduceAdd, Int.reduceSub, Int.reduceMul, Int.reduceNeg, ite_true, ite_false, dite_true, xc1, xc2, hr] | simp (maxSteps := 1000000) (disch := omega) only [exE, Int.toNat_natCast, Int.reduceToNat])
  by_cases k6 : 1 ≤ H.seg
  rotate_left
  · rw [no (by omega)]; refine acall_run (good2 0) Try.func27 rfl ⟨by kernel_rfl, by show 1 ≤ _; decide, by kernel_rfl, by kernel_rfl⟩ rfl ?_; have hr : Try.f27.results.toList = [.tmp 2] := rfl; repeat (first | simp only [c2_P, c2_odd, c2_ro, Nat.reduceBEq, reduceIte, Nat.reduceEqDiff, reduceCtorEq, ne_eq, if_true, if_false, exA, exA, tabs, exB, exD, buildA, rowOr, rowSetAt, rowAgg, mkAgg, AV.isAggV, AV.parts, AV.one, AV.solid, headSize, indexAddrA, indexA, fieldAddrA, fieldA, sliceA, boundsA, bndA, lenA, arrayAtA, rowOf, makeSliceA, intsOf, copyA, Nat.reduceAdd, Nat.reduceSub, Nat.reduceMul, Nat.reduceLeDiff, Nat.reduceLT, Nat.reduceGT, Int.reduceToNat, Int.reduceLE, Int.reduceLT, Int.reduceEq, Int.reduceNe, Int.reduceAdd, Int.reduceSub, Int.reduceMul, Int.reduceNeg, ite_true, ite_false, dite_true, xc1, xc2, hr] | simp (maxSteps := 1000000) (disch := omega) only [exE, Int.toNat_natCast, Int.reduceToNat])
  by_cases k7 : H.seg ≤ 16
  rotate_left
  · rw [no (by omega)]; refine acall_run (good2 0) Try.func27 rfl ⟨by kernel_rfl, by show 1 ≤ _; decide, by kernel_rfl, by kernel_rfl⟩ rfl ?_; have hr : Try.f27.results.toList = [.tmp 2] := rfl; repeat (first | simp only [c2_P, c2_odd, c2_ro, Nat.reduceBEq, reduceIte, Nat.reduceEqDiff, reduceCtorEq, ne_eq, if_true, if_false, exA, exA, tabs, exB, exD, buildA, rowOr, rowSetAt, rowAgg, mkAgg, AV.isAggV, AV.parts, AV.one, AV.solid, headSize, indexAddrA, indexA, fieldAddrA, fieldA, sliceA, boundsA, bndA, lenA, arrayAtA, rowOf, makeSliceA, intsOf, copyA, Nat.reduceAdd, Nat.reduceSub, Nat.reduceMul, Nat.reduceLeDiff, Nat.reduceLT, Nat.reduceGT, Int.reduceToNat, Int.reduceLE, Int.reduceLT, Int.reduceEq, Int.reduceNe, Int.reduceAdd, Int.reduceSub, Int.reduceMul, Int.reduceNeg, ite_true, ite_false, dite_true, xc1, xc2, hr] | simp (maxSteps := 1000000) (disch := omega) only [exE, Int.toNat_natCast, Int.reduceToNat])
  have hw : IntKind.i64.wrap (H.seg + 10) = H.seg + 10 := i64_id _ (by omega)
  by_cases k8 : H.seg + 10 ≤ H.jou
  rotate_left
  · rw [no (by omega)]; refine acall_run (good2 0) Try.func27 rfl ⟨by kernel_rfl, by show 1 ≤ _; decide, by kernel_rfl, by kernel_rfl⟩ rfl ?_; have hr : Try.f27.results.toList = [.tmp 2] := rfl; repeat (first | simp only [c2_P, c2_odd, c2_ro, Nat.reduceBEq, reduceIte, Nat.reduceEqDiff, reduceCtorEq, ne_eq, if_true, if_false, exA, exA, tabs, exB, exD, buildA, rowOr, rowSetAt, rowAgg, mkAgg, AV.isAggV, AV.parts, AV.one, AV.solid, headSize, indexAddrA, indexA, fieldAddrA, fieldA, sliceA, boundsA, bndA, lenA, arrayAtA, rowOf, makeSliceA, intsOf, copyA, Nat.reduceAdd, Nat.reduceSub, Nat.reduceMul, Nat.reduceLeDiff, Nat.reduceLT, Nat.reduceGT, Int.reduceToNat, Int.reduceLE, Int.reduceLT, Int.reduceEq, Int.reduceNe, Int.reduceAdd, Int.reduceSub, Int.reduceMul, Int.reduceNeg, ite_true, ite_false, dite_true, xc1, xc2, hr, hw] | simp (maxSteps := 1000000) (disch := omega) only [exE, Int.toNat_natCast, Int.reduceToNat])
  cases k9 : okP H.tim H.mem H.lan
  · rw [no (by simp [k9])]; refine acall_run (good2 0) Try.func27 rfl ⟨by kernel_rfl, by show 1 ≤ _; decide, by kernel_rfl, by kernel_rfl⟩ rfl ?_; have hr : Try.f27.results.toList = [.tmp 2] := rfl; repeat (first | simp only [c2_P, c2_odd, c2_ro, Nat.reduceBEq, reduceIte, Nat.reduceEqDiff, reduceCtorEq, ne_eq, if_true, if_false, exA, exA, tabs, exB, exD, buildA, rowOr, rowSetAt, rowAgg, mkAgg, AV.isAggV, AV.parts, AV.one, AV.solid, headSize, indexAddrA, indexA, fieldAddrA, fieldA, sliceA, boundsA, bndA, lenA, arrayAtA, rowOf, makeSliceA, intsOf, copyA, Nat.reduceAdd, Nat.reduceSub, Nat.reduceMul, Nat.reduceLeDiff, Nat.reduceLT, Nat.reduceGT, Int.reduceToNat, Int.reduceLE, Int.reduceLT, Int.reduceEq, Int.reduceNe, Int.reduceAdd, Int.reduceSub, Int.reduceMul, Int.reduceNeg, ite_true, ite_false, dite_true, xc1, xc2, hr, hw, errP_beq, errP_bne, k9] | simp (maxSteps := 1000000) (disch := omega) only [exE, Int.toNat_natCast, Int.reduceToNat])
  · have yes : errH (okH H) = 0 := by simp only [errH, okH, h0, k0, k1, k2, k3, k4, k5, k6, k7, k8, k9, and_self, decide_true, if_true]
    rw [yes]; refine acall_run (good2 0) Try.func27 rfl ⟨by kernel_rfl, by show 1 ≤ _; decide, by kernel_rfl, by kernel_rfl⟩ rfl ?_; have hr : Try.f27.results.toList = [.tmp 2] := rfl; repeat (first | simp only [c2_P, c2_odd, c2_ro, Nat.reduceBEq, reduceIte, Nat.reduceEqDiff, reduceCtorEq, ne_eq, if_true, if_false, exA, exA, tabs, exB, exD, buildA, rowOr, rowSetAt, rowAgg, mkAgg, AV.isAggV, AV.parts, AV.one, AV.solid, headSize, indexAddrA, indexA, fieldAddrA, fieldA, sliceA, boundsA, bndA, lenA, arrayAtA, rowOf, makeSliceA, intsOf, copyA, Nat.reduceAdd, Nat.reduceSub, Nat.reduceMul, Nat.reduceLeDiff, Nat.reduceLT, Nat.reduceGT, Int.reduceToNat, Int.reduceLE, Int.reduceLT, Int.reduceEq, Int.reduceNe, Int.reduceAdd, Int.reduceSub, Int.reduceMul, Int.reduceNeg, ite_true, ite_false, dite_true, xc1, xc2, hr, hw, errP_beq, errP_bne, k9] | simp (maxSteps := 1000000) (disch := omega) only [exE, Int.toNat_natCast, Int.reduceToNat])
theorem head39 (H : Hd) (hg : 0 ≤ H.gen) : ACall Try.prog 39 [.agg [.v (.int .u64 H.gen), .v (.int .i64 H.sec), .v (.int .i64 H.slo), .v (.int .i64 H.jou), .v (.int .i64 H.seg), .v (.int .i64 H.tim), .v (.int .i64 H.mem), .v (.int .i64 H.lan), .arr 16 .u8 H.nam]] [] fun v _ => v = .v (.int .i64 (errH (okH H))) := by
  have no : ¬ (1 ≤ H.gen ∧ 1 ≤ H.sec ∧ H.sec ≤ 1024 ∧ 1 ≤ H.slo ∧ H.slo ≤ 8 ∧ 16 ≤ H.jou ∧ H.jou ≤ 256 ∧ 1 ≤ H.seg ∧ H.seg ≤ 16 ∧ H.seg + 10 ≤ H.jou ∧ okP H.tim H.mem H.lan = true) → errH (okH H) = 1 := fun h => by simp only [errH, okH, decide_eq_true_eq, if_neg h]
  by_cases h0 : 1 ≤ H.gen
  rotate_left
  · rw [no (by omega)]; refine acall_run (good2 0) Try.func39 rfl ⟨by kernel_rfl, by show 1 ≤ _; decide, by kernel_rfl, by kernel_rfl⟩ rfl ?_; have hr : Try.f39.results.toList = [.tmp 2] := rfl; repeat (first | simp only [c2_P, c2_odd, c2_ro, Nat.reduceBEq, reduceIte, Nat.reduceEqDiff, reduceCtorEq, ne_eq, if_true, if_false, exA, exA, tabs, exB, exD, buildA, rowOr, rowSetAt, rowAgg, mkAgg, AV.isAggV, AV.parts, AV.one, AV.solid, headSize, indexAddrA, indexA, fieldAddrA, fieldA, sliceA, boundsA, bndA, lenA, arrayAtA, rowOf, makeSliceA, intsOf, copyA, Nat.reduceAdd, Nat.reduceSub, Nat.reduceMul, Nat.reduceLeDiff, Nat.reduceLT, Nat.reduceGT, Int.reduceToNat, Int.reduceLE, Int.reduceLT, Int.reduceEq, Int.reduceNe, Int.reduceAdd, Int.reduceSub, Int.reduceMul, Int.reduceNeg, ite_true, ite_false, dite_true, xc1, xc2, hr] | simp (maxSteps := 1000000) (disch := omega) only [exE, Int.toNat_natCast, Int.reduceToNat])
  by_cases k0 : 1 ≤ H.sec
  rotate_left
  · rw [no (by omega)]; refine acall_run (good2 0) Try.func39 rfl ⟨by kernel_rfl, by show 1 ≤ _; decide, by kernel_rfl, by kernel_rfl⟩ rfl ?_; have hr : Try.f39.results.toList = [.tmp 2] := rfl; repeat (first | simp only [c2_P, c2_odd, c2_ro, Nat.reduceBEq, reduceIte, Nat.reduceEqDiff, reduceCtorEq, ne_eq, if_true, if_false, exA, exA, tabs, exB, exD, buildA, rowOr, rowSetAt, rowAgg, mkAgg, AV.isAggV, AV.parts, AV.one, AV.solid, headSize, indexAddrA, indexA, fieldAddrA, fieldA, sliceA, boundsA, bndA, lenA, arrayAtA, rowOf, makeSliceA, intsOf, copyA, Nat.reduceAdd, Nat.reduceSub, Nat.reduceMul, Nat.reduceLeDiff, Nat.reduceLT, Nat.reduceGT, Int.reduceToNat, Int.reduceLE, Int.reduceLT, Int.reduceEq, Int.reduceNe, Int.reduceAdd, Int.reduceSub, Int.reduceMul, Int.reduceNeg, ite_true, ite_false, dite_true, xc1, xc2, hr] | simp (maxSteps := 1000000) (disch := omega) only [exE, Int.toNat_natCast, Int.reduceToNat])
  by_cases k1 : H.sec ≤ 1024
  rotate_left
  · rw [no (by omega)]; refine acall_run (good2 0) Try.func39 rfl ⟨by kernel_rfl, by show 1 ≤ _; decide, by kernel_rfl, by kernel_rfl⟩ rfl ?_; have hr : Try.f39.results.toList = [.tmp 2] := rfl; repeat (first | simp only [c2_P, c2_odd, c2_ro, Nat.reduceBEq, reduceIte, Nat.reduceEqDiff, reduceCtorEq, ne_eq, if_true, if_false, exA, exA, tabs, exB, exD, buildA, rowOr, rowSetAt, rowAgg, mkAgg, AV.isAggV, AV.parts, AV.one, AV.solid, headSize, indexAddrA, indexA, fieldAddrA, fieldA, sliceA, boundsA, bndA, lenA, arrayAtA, rowOf, makeSliceA, intsOf, copyA, Nat.reduceAdd, Nat.reduceSub, Nat.reduceMul, Nat.reduceLeDiff, Nat.reduceLT, Nat.reduceGT, Int.reduceToNat, Int.reduceLE, Int.reduceLT, Int.reduceEq, Int.reduceNe, Int.reduceAdd, Int.reduceSub, Int.reduceMul, Int.reduceNeg, ite_true, ite_false, dite_true, xc1, xc2, hr] | simp (maxSteps := 1000000) (disch := omega) only [exE, Int.toNat_natCast, Int.reduceToNat])
  by_cases k2 : 1 ≤ H.slo
  rotate_left
  · rw [no (by omega)]; refine acall_run (good2 0) Try.func39 rfl ⟨by kernel_rfl, by show 1 ≤ _; decide, by kernel_rfl, by kernel_rfl⟩ rfl ?_; have hr : Try.f39.results.toList = [.tmp 2] := rfl; repeat (first | simp only [c2_P, c2_odd, c2_ro, Nat.reduceBEq, reduceIte, Nat.reduceEqDiff, reduceCtorEq, ne_eq, if_true, if_false, exA, exA, tabs, exB, exD, buildA, rowOr, rowSetAt, rowAgg, mkAgg, AV.isAggV, AV.parts, AV.one, AV.solid, headSize, indexAddrA, indexA, fieldAddrA, fieldA, sliceA, boundsA, bndA, lenA, arrayAtA, rowOf, makeSliceA, intsOf, copyA, Nat.reduceAdd, Nat.reduceSub, Nat.reduceMul, Nat.reduceLeDiff, Nat.reduceLT, Nat.reduceGT, Int.reduceToNat, Int.reduceLE, Int.reduceLT, Int.reduceEq, Int.reduceNe, Int.reduceAdd, Int.reduceSub, Int.reduceMul, Int.reduceNeg, ite_true, ite_false, dite_true, xc1, xc2, hr] | simp (maxSteps := 1000000) (disch := omega) only [exE, Int.toNat_natCast, Int.reduceToNat])
  by_cases k3 : H.slo ≤ 8
  rotate_left
  · rw [no (by omega)]; refine acall_run (good2 0) Try.func39 rfl ⟨by kernel_rfl, by show 1 ≤ _; decide, by kernel_rfl, by kernel_rfl⟩ rfl ?_; have hr : Try.f39.results.toList = [.tmp 2] := rfl; repeat (first | simp only [c2_P, c2_odd, c2_ro, Nat.reduceBEq, reduceIte, Nat.reduceEqDiff, reduceCtorEq, ne_eq, if_true, if_false, exA, exA, tabs, exB, exD, buildA, rowOr, rowSetAt, rowAgg, mkAgg, AV.isAggV, AV.parts, AV.one, AV.solid, headSize, indexAddrA, indexA, fieldAddrA, fieldA, sliceA, boundsA, bndA, lenA, arrayAtA, rowOf, makeSliceA, intsOf, copyA, Nat.reduceAdd, Nat.reduceSub, Nat.reduceMul, Nat.reduceLeDiff, Nat.reduceLT, Nat.reduceGT, Int.reduceToNat, Int.reduceLE, Int.reduceLT, Int.reduceEq, Int.reduceNe, Int.reduceAdd, Int.reduceSub, Int.reduceMul, Int.reduceNeg, ite_true, ite_false, dite_true, xc1, xc2, hr] | simp (maxSteps := 1000000) (disch := omega) only [exE, Int.toNat_natCast, Int.reduceToNat])
  by_cases k4 : 16 ≤ H.jou
  rotate_left
  · rw [no (by omega)]; refine acall_run (good2 0) Try.func39 rfl ⟨by kernel_rfl, by show 1 ≤ _; decide, by kernel_rfl, by kernel_rfl⟩ rfl ?_; have hr : Try.f39.results.toList = [.tmp 2] := rfl; repeat (first | simp only [c2_P, c2_odd, c2_ro, Nat.reduceBEq, reduceIte, Nat.reduceEqDiff, reduceCtorEq, ne_eq, if_true, if_false, exA, exA, tabs, exB, exD, buildA, rowOr, rowSetAt, rowAgg, mkAgg, AV.isAggV, AV.parts, AV.one, AV.solid, headSize, indexAddrA, indexA, fieldAddrA, fieldA, sliceA, boundsA, bndA, lenA, arrayAtA, rowOf, makeSliceA, intsOf, copyA, Nat.reduceAdd, Nat.reduceSub, Nat.reduceMul, Nat.reduceLeDiff, Nat.reduceLT, Nat.reduceGT, Int.reduceToNat, Int.reduceLE, Int.reduceLT, Int.reduceEq, Int.reduceNe, Int.reduceAdd, Int.reduceSub, Int.reduceMul, Int.reduceNeg, ite_true, ite_false, dite_true, xc1, xc2, hr] | simp (maxSteps := 1000000) (disch := omega) only [exE, Int.toNat_natCast, Int.reduceToNat])
  by_cases k5 : H.jou ≤ 256
  rotate_left
  · rw [no (by omega)]; refine acall_run (good2 0) Try.func39 rfl ⟨by kernel_rfl, by show 1 ≤ _; decide, by kernel_rfl, by kernel_rfl⟩ rfl ?_; have hr : Try.f39.results.toList = [.tmp 2] := rfl; repeat (first | simp only [c2_P, c2_odd, c2_ro, Nat.reduceBEq, reduceIte, Nat.reduceEqDiff, reduceCtorEq, ne_eq, if_true, if_false, exA, exA, tabs, exB, exD, buildA, rowOr, rowSetAt, rowAgg, mkAgg, AV.isAggV, AV.parts, AV.one, AV.solid, headSize, indexAddrA, indexA, fieldAddrA, fieldA, sliceA, boundsA, bndA, lenA, arrayAtA, rowOf, makeSliceA, intsOf, copyA, Nat.reduceAdd, Nat.reduceSub, Nat.reduceMul, Nat.reduceLeDiff, Nat.reduceLT, Nat.reduceGT, Int.reduceToNat, Int.reduceLE, Int.reduceLT, Int.reduceEq, Int.reduceNe, Int.reduceAdd, Int.reduceSub, Int.reduceMul, Int.reduceNeg, ite_true, ite_false, dite_true, xc1, xc2, hr] | simp (maxSteps := 1000000) (disch := omega) only [exE, Int.toNat_natCast, Int.reduceToNat])
  by_cases k6 : 1 ≤ H.seg
  rotate_left
  · rw [no (by omega)]; refine acall_run (good2 0) Try.func39 rfl ⟨by kernel_rfl, by show 1 ≤ _; decide, by kernel_rfl, by kernel_rfl⟩ rfl ?_; have hr : Try.f39.results.toList = [.tmp 2] := rfl; repeat (first | simp only [c2_P, c2_odd, c2_ro, Nat.reduceBEq, reduceIte, Nat.reduceEqDiff, reduceCtorEq, ne_eq, if_true, if_false, exA, exA, tabs, exB, exD, buildA, rowOr, rowSetAt, rowAgg, mkAgg, AV.isAggV, AV.parts, AV.one, AV.solid, headSize, indexAddrA, indexA, fieldAddrA, fieldA, sliceA, boundsA, bndA, lenA, arrayAtA, rowOf, makeSliceA, intsOf, copyA, Nat.reduceAdd, Nat.reduceSub, Nat.reduceMul, Nat.reduceLeDiff, Nat.reduceLT, Nat.reduceGT, Int.reduceToNat, Int.reduceLE, Int.reduceLT, Int.reduceEq, Int.reduceNe, Int.reduceAdd, Int.reduceSub, Int.reduceMul, Int.reduceNeg, ite_true, ite_false, dite_true, xc1, xc2, hr] | simp (maxSteps := 1000000) (disch := omega) only [exE, Int.toNat_natCast, Int.reduceToNat])
  by_cases k7 : H.seg ≤ 16
  rotate_left
  · rw [no (by omega)]; refine acall_run (good2 0) Try.func39 rfl ⟨by kernel_rfl, by show 1 ≤ _; decide, by kernel_rfl, by kernel_rfl⟩ rfl ?_; have hr : Try.f39.results.toList = [.tmp 2] := rfl; repeat (first | simp only [c2_P, c2_odd, c2_ro, Nat.reduceBEq, reduceIte, Nat.reduceEqDiff, reduceCtorEq, ne_eq, if_true, if_false, exA, exA, tabs, exB, exD, buildA, rowOr, rowSetAt, rowAgg, mkAgg, AV.isAggV, AV.parts, AV.one, AV.solid, headSize, indexAddrA, indexA, fieldAddrA, fieldA, sliceA, boundsA, bndA, lenA, arrayAtA, rowOf, makeSliceA, intsOf, copyA, Nat.reduceAdd, Nat.reduceSub, Nat.reduceMul, Nat.reduceLeDiff, Nat.reduceLT, Nat.reduceGT, Int.reduceToNat, Int.reduceLE, Int.reduceLT, Int.reduceEq, Int.reduceNe, Int.reduceAdd, Int.reduceSub, Int.reduceMul, Int.reduceNeg, ite_true, ite_false, dite_true, xc1, xc2, hr] | simp (maxSteps := 1000000) (disch := omega) only [exE, Int.toNat_natCast, Int.reduceToNat])
  have hw : IntKind.i64.wrap (H.seg + 10) = H.seg + 10 := i64_id _ (by omega)
  by_cases k8 : H.seg + 10 ≤ H.jou
  rotate_left
  · rw [no (by omega)]; refine acall_run (good2 0) Try.func39 rfl ⟨by kernel_rfl, by show 1 ≤ _; decide, by kernel_rfl, by kernel_rfl⟩ rfl ?_; have hr : Try.f39.results.toList = [.tmp 2] := rfl; repeat (first | simp only [c2_P, c2_odd, c2_ro, Nat.reduceBEq, reduceIte, Nat.reduceEqDiff, reduceCtorEq, ne_eq, if_true, if_false, exA, exA, tabs, exB, exD, buildA, rowOr, rowSetAt, rowAgg, mkAgg, AV.isAggV, AV.parts, AV.one, AV.solid, headSize, indexAddrA, indexA, fieldAddrA, fieldA, sliceA, boundsA, bndA, lenA, arrayAtA, rowOf, makeSliceA, intsOf, copyA, Nat.reduceAdd, Nat.reduceSub, Nat.reduceMul, Nat.reduceLeDiff, Nat.reduceLT, Nat.reduceGT, Int.reduceToNat, Int.reduceLE, Int.reduceLT, Int.reduceEq, Int.reduceNe, Int.reduceAdd, Int.reduceSub, Int.reduceMul, Int.reduceNeg, ite_true, ite_false, dite_true, xc1, xc2, hr, hw] | simp (maxSteps := 1000000) (disch := omega) only [exE, Int.toNat_natCast, Int.reduceToNat])
  cases k9 : okP H.tim H.mem H.lan
  · rw [no (by simp [k9])]; refine acall_run (good2 0) Try.func39 rfl ⟨by kernel_rfl, by show 1 ≤ _; decide, by kernel_rfl, by kernel_rfl⟩ rfl ?_; have hr : Try.f39.results.toList = [.tmp 2] := rfl; repeat (first | simp only [c2_P, c2_odd, c2_ro, Nat.reduceBEq, reduceIte, Nat.reduceEqDiff, reduceCtorEq, ne_eq, if_true, if_false, exA, exA, tabs, exB, exD, buildA, rowOr, rowSetAt, rowAgg, mkAgg, AV.isAggV, AV.parts, AV.one, AV.solid, headSize, indexAddrA, indexA, fieldAddrA, fieldA, sliceA, boundsA, bndA, lenA, arrayAtA, rowOf, makeSliceA, intsOf, copyA, Nat.reduceAdd, Nat.reduceSub, Nat.reduceMul, Nat.reduceLeDiff, Nat.reduceLT, Nat.reduceGT, Int.reduceToNat, Int.reduceLE, Int.reduceLT, Int.reduceEq, Int.reduceNe, Int.reduceAdd, Int.reduceSub, Int.reduceMul, Int.reduceNeg, ite_true, ite_false, dite_true, xc1, xc2, hr, hw, errP_beq, errP_bne, k9] | simp (maxSteps := 1000000) (disch := omega) only [exE, Int.toNat_natCast, Int.reduceToNat])
  · have yes : errH (okH H) = 0 := by simp only [errH, okH, h0, k0, k1, k2, k3, k4, k5, k6, k7, k8, k9, and_self, decide_true, if_true]
    rw [yes]; refine acall_run (good2 0) Try.func39 rfl ⟨by kernel_rfl, by show 1 ≤ _; decide, by kernel_rfl, by kernel_rfl⟩ rfl ?_; have hr : Try.f39.results.toList = [.tmp 2] := rfl; repeat (first | simp only [c2_P, c2_odd, c2_ro, Nat.reduceBEq, reduceIte, Nat.reduceEqDiff, reduceCtorEq, ne_eq, if_true, if_false, exA, exA, tabs, exB, exD, buildA, rowOr, rowSetAt, rowAgg, mkAgg, AV.isAggV, AV.parts, AV.one, AV.solid, headSize, indexAddrA, indexA, fieldAddrA, fieldA, sliceA, boundsA, bndA, lenA, arrayAtA, rowOf, makeSliceA, intsOf, copyA, Nat.reduceAdd, Nat.reduceSub, Nat.reduceMul, Nat.reduceLeDiff, Nat.reduceLT, Nat.reduceGT, Int.reduceToNat, Int.reduceLE, Int.reduceLT, Int.reduceEq, Int.reduceNe, Int.reduceAdd, Int.reduceSub, Int.reduceMul, Int.reduceNeg, ite_true, ite_false, dite_true, xc1, xc2, hr, hw, errP_beq, errP_bne, k9] | simp (maxSteps := 1000000) (disch := omega) only [exE, Int.toNat_natCast, Int.reduceToNat])
def F27 : List AV → Option AV
  | [.agg [.v (.int .u64 a), .v (.int .i64 b), .v (.int .i64 c), .v (.int .i64 d), .v (.int .i64 e), .v (.int .i64 f), .v (.int .i64 g), .v (.int .i64 h), .arr 16 .u8 n]] => oguard (0 ≤ a) (some (.v (.int .i64 (errH (okH ⟨a, b, c, d, e, f, g, h, n⟩)))))
  | _ => none
theorem F27_eq (a b c d e f g h : Int) (n : List Int) : F27 [.agg [.v (.int .u64 a), .v (.int .i64 b), .v (.int .i64 c), .v (.int .i64 d), .v (.int .i64 e), .v (.int .i64 f), .v (.int .i64 g), .v (.int .i64 h), .arr 16 .u8 n]] = oguard (0 ≤ a) (some (.v (.int .i64 (errH (okH ⟨a, b, c, d, e, f, g, h, n⟩))))) := rfl
theorem Hd_eta (H : Hd) : (⟨H.gen, H.sec, H.slo, H.jou, H.seg, H.tim, H.mem, H.lan, H.nam⟩ : Hd) = H := rfl
noncomputable def p3 : FuncId → Option (List AV → Option AV) := addPure (addPure p2 27 F27) 39 F27
noncomputable def c3 (k : Nat) : Cfg := ⟨Try.prog, k, p3, [], fun _ => none, none, []⟩
theorem c3_odd (k : Nat) : (c3 k).odd = [] := rfl
theorem c3_ro (k : Nat) : (c3 k).ro = [] := rfl
theorem c3_P (k : Nat) : (c3 k).P = Try.prog := rfl
theorem c3_pure (k : Nat) : (c3 k).pure = p3 := rfl
theorem c3_news (k : Nat) : (c3 k).news = fun _ => none := rfl
theorem xc3 :
  (type_of% @c3_pure) ∧
  (type_of% @c3_news) ∧
  (type_of% @Go.Proofs.Ytgkhngcnbddoiaa.p3.eq_1) ∧
  (type_of% @F27_eq) :=
  ⟨@c3_pure, @c3_news, @Go.Proofs.Ytgkhngcnbddoiaa.p3.eq_1, @F27_eq⟩
theorem good3 (k : Nat) : (c3 k).Good := by
  refine Cfg.Good.add (Cfg.Good.add (good2 k) ?_ k) ?_ k
  all_goals
    intro args v hF h κ hκ
    unfold F27 at hF
    split at hF
    · obtain ⟨h0, hF⟩ := oguard_some hF
      cases hF
      first | exact pure_call (head27 ⟨_, _, _, _, _, _, _, _, _⟩ h0) (fun g => rfl) (fun g => rfl) h κ hκ | exact pure_call (head39 ⟨_, _, _, _, _, _, _, _, _⟩ h0) (fun g => rfl) (fun g => rfl) h κ hκ
    · cases hF
end Go.Proofs.Ytgkhngcnbddoiaa

namespace Go.Proofs.Ytgkhngcnbddoiaa
open Go.Ax
def mayB (H : Hd) (R : Rt) : Bool := okH H && (decide (0 ≤ R.fro ∧ R.fro ≤ H.sec) && (R.rek || R.fro == 0))
def stE (H : Hd) (R : Rt) : Int := if mayB H R = true then (if R.rek = true then 0 else 231) else 1
theorem may63 (H : Hd) (R : Rt) (hg : 0 ≤ H.gen) (ht : R.tre.length = 32) : ACall Try.prog 63 [.agg [.v (.int .u64 H.gen), .v (.int .i64 H.sec), .v (.int .i64 H.slo), .v (.int .i64 H.jou), .v (.int .i64 H.seg), .v (.int .i64 H.tim), .v (.int .i64 H.mem), .v (.int .i64 H.lan), .arr 16 .u8 H.nam], .agg [.v (.int .u64 R.ctr), .v (.bool R.rek), .v (.int .i64 R.fro), .arr 32 .u8 R.tre]] [] fun v _ => v = .v (.bool (mayB H R)) := by
  cases h1 : okH H
  · have e : mayB H R = false := by simp [mayB, h1]
    rw [e]; refine acall_run (good3 0) Try.func63 rfl ⟨by kernel_rfl, by show 2 ≤ _; decide, by kernel_rfl, by kernel_rfl⟩ rfl ?_; have hr : Try.f63.results.toList = [.tmp 4] := rfl; repeat (first | simp only [c3_P, c3_odd, c3_ro, Nat.reduceBEq, reduceIte, Nat.reduceEqDiff, reduceCtorEq, ne_eq, if_true, if_false, exA, exA, tabs, exB, exD, buildA, rowOr, rowSetAt, rowAgg, mkAgg, AV.isAggV, AV.parts, AV.one, AV.solid, headSize, indexAddrA, indexA, fieldAddrA, fieldA, sliceA, boundsA, bndA, lenA, arrayAtA, rowOf, makeSliceA, intsOf, copyA, Nat.reduceAdd, Nat.reduceSub, Nat.reduceMul, Nat.reduceLeDiff, Nat.reduceLT, Nat.reduceGT, Int.reduceToNat, Int.reduceLE, Int.reduceLT, Int.reduceEq, Int.reduceNe, Int.reduceAdd, Int.reduceSub, Int.reduceMul, Int.reduceNeg, ite_true, ite_false, dite_true, xc1, xc2, xc3, hr, hg, Hd_eta, errH_bne, errH_beq, h1] | simp (maxSteps := 1000000) (disch := omega) only [exE, Int.toNat_natCast, Int.reduceToNat])
  by_cases h2 : 0 ≤ R.fro
  rotate_left
  · have e : mayB H R = false := by simp [mayB, h2]
    rw [e]; refine acall_run (good3 0) Try.func63 rfl ⟨by kernel_rfl, by show 2 ≤ _; decide, by kernel_rfl, by kernel_rfl⟩ rfl ?_; have hr : Try.f63.results.toList = [.tmp 4] := rfl; repeat (first | simp only [c3_P, c3_odd, c3_ro, Nat.reduceBEq, reduceIte, Nat.reduceEqDiff, reduceCtorEq, ne_eq, if_true, if_false, exA, exA, tabs, exB, exD, buildA, rowOr, rowSetAt, rowAgg, mkAgg, AV.isAggV, AV.parts, AV.one, AV.solid, headSize, indexAddrA, indexA, fieldAddrA, fieldA, sliceA, boundsA, bndA, lenA, arrayAtA, rowOf, makeSliceA, intsOf, copyA, Nat.reduceAdd, Nat.reduceSub, Nat.reduceMul, Nat.reduceLeDiff, Nat.reduceLT, Nat.reduceGT, Int.reduceToNat, Int.reduceLE, Int.reduceLT, Int.reduceEq, Int.reduceNe, Int.reduceAdd, Int.reduceSub, Int.reduceMul, Int.reduceNeg, ite_true, ite_false, dite_true, xc1, xc2, xc3, hr, hg, Hd_eta, errH_bne, errH_beq, h1] | simp (maxSteps := 1000000) (disch := omega) only [exE, Int.toNat_natCast, Int.reduceToNat])
  by_cases h3 : R.fro ≤ H.sec
  rotate_left
  · have e : mayB H R = false := by simp [mayB, h3]
    rw [e]; refine acall_run (good3 0) Try.func63 rfl ⟨by kernel_rfl, by show 2 ≤ _; decide, by kernel_rfl, by kernel_rfl⟩ rfl ?_; have hr : Try.f63.results.toList = [.tmp 4] := rfl; repeat (first | simp only [c3_P, c3_odd, c3_ro, Nat.reduceBEq, reduceIte, Nat.reduceEqDiff, reduceCtorEq, ne_eq, if_true, if_false, exA, exA, tabs, exB, exD, buildA, rowOr, rowSetAt, rowAgg, mkAgg, AV.isAggV, AV.parts, AV.one, AV.solid, headSize, indexAddrA, indexA, fieldAddrA, fieldA, sliceA, boundsA, bndA, lenA, arrayAtA, rowOf, makeSliceA, intsOf, copyA, Nat.reduceAdd, Nat.reduceSub, Nat.reduceMul, Nat.reduceLeDiff, Nat.reduceLT, Nat.reduceGT, Int.reduceToNat, Int.reduceLE, Int.reduceLT, Int.reduceEq, Int.reduceNe, Int.reduceAdd, Int.reduceSub, Int.reduceMul, Int.reduceNeg, ite_true, ite_false, dite_true, xc1, xc2, xc3, hr, hg, Hd_eta, errH_bne, errH_beq, h1] | simp (maxSteps := 1000000) (disch := omega) only [exE, Int.toNat_natCast, Int.reduceToNat])
  cases h4 : R.rek
  · have e : mayB H R = (R.fro == 0) := by simp [mayB, h1, h2, h3, h4]
    have ht2 : R.tre.take 32 = R.tre := List.take_of_length_le (by omega)
    rw [e]; refine acall_run (good3 0) Try.func63 rfl ⟨by kernel_rfl, by show 2 ≤ _; decide, by kernel_rfl, by kernel_rfl⟩ rfl ?_; have hr : Try.f63.results.toList = [.tmp 4] := rfl; repeat (first | simp only [c3_P, c3_odd, c3_ro, Nat.reduceBEq, reduceIte, Nat.reduceEqDiff, reduceCtorEq, ne_eq, if_true, if_false, exA, exA, tabs, exB, exD, buildA, rowOr, rowSetAt, rowAgg, mkAgg, AV.isAggV, AV.parts, AV.one, AV.solid, headSize, indexAddrA, indexA, fieldAddrA, fieldA, sliceA, boundsA, bndA, lenA, arrayAtA, rowOf, makeSliceA, intsOf, copyA, Nat.reduceAdd, Nat.reduceSub, Nat.reduceMul, Nat.reduceLeDiff, Nat.reduceLT, Nat.reduceGT, Int.reduceToNat, Int.reduceLE, Int.reduceLT, Int.reduceEq, Int.reduceNe, Int.reduceAdd, Int.reduceSub, Int.reduceMul, Int.reduceNeg, ite_true, ite_false, dite_true, xc1, xc2, xc3, hr, hg, Hd_eta, errH_bne, errH_beq, h1, h4, ht2] | simp (maxSteps := 1000000) (disch := omega) only [exE, Int.toNat_natCast, Int.reduceToNat])
    try simp
  · have e : mayB H R = true := by simp [mayB, h1, h2, h3, h4]
    rw [e]; refine acall_run (good3 0) Try.func63 rfl ⟨by kernel_rfl, by show 2 ≤ _; decide, by kernel_rfl, by kernel_rfl⟩ rfl ?_; have hr : Try.f63.results.toList = [.tmp 4] := rfl; repeat (first | simp only [c3_P, c3_odd, c3_ro, Nat.reduceBEq, reduceIte, Nat.reduceEqDiff, reduceCtorEq, ne_eq, if_true, if_false, exA, exA, tabs, exB, exD, buildA, rowOr, rowSetAt, rowAgg, mkAgg, AV.isAggV, AV.parts, AV.one, AV.solid, headSize, indexAddrA, indexA, fieldAddrA, fieldA, sliceA, boundsA, bndA, lenA, arrayAtA, rowOf, makeSliceA, intsOf, copyA, Nat.reduceAdd, Nat.reduceSub, Nat.reduceMul, Nat.reduceLeDiff, Nat.reduceLT, Nat.reduceGT, Int.reduceToNat, Int.reduceLE, Int.reduceLT, Int.reduceEq, Int.reduceNe, Int.reduceAdd, Int.reduceSub, Int.reduceMul, Int.reduceNeg, ite_true, ite_false, dite_true, xc1, xc2, xc3, hr, hg, Hd_eta, errH_bne, errH_beq, h1, h4] | simp (maxSteps := 1000000) (disch := omega) only [exE, Int.toNat_natCast, Int.reduceToNat])
theorem may68 (H : Hd) (R : Rt) (hg : 0 ≤ H.gen) : ACall Try.prog 68 [.agg [.v (.int .u64 H.gen), .v (.int .i64 H.sec), .v (.int .i64 H.slo), .v (.int .i64 H.jou), .v (.int .i64 H.seg), .v (.int .i64 H.tim), .v (.int .i64 H.mem), .v (.int .i64 H.lan), .arr 16 .u8 H.nam], .agg [.v (.int .u64 R.ctr), .v (.bool R.rek), .v (.int .i64 R.fro), .arr 32 .u8 R.tre]] [] fun v _ => v = .v (.bool (mayB H R)) := by
  cases h1 : okH H
  · have e : mayB H R = false := by simp [mayB, h1]
    rw [e]; refine acall_run (good3 0) Try.func68 rfl ⟨by kernel_rfl, by show 2 ≤ _; decide, by kernel_rfl, by kernel_rfl⟩ rfl ?_; have hr : Try.f68.results.toList = [.tmp 4] := rfl; repeat (first | simp only [c3_P, c3_odd, c3_ro, Nat.reduceBEq, reduceIte, Nat.reduceEqDiff, reduceCtorEq, ne_eq, if_true, if_false, exA, exA, tabs, exB, exD, buildA, rowOr, rowSetAt, rowAgg, mkAgg, AV.isAggV, AV.parts, AV.one, AV.solid, headSize, indexAddrA, indexA, fieldAddrA, fieldA, sliceA, boundsA, bndA, lenA, arrayAtA, rowOf, makeSliceA, intsOf, copyA, Nat.reduceAdd, Nat.reduceSub, Nat.reduceMul, Nat.reduceLeDiff, Nat.reduceLT, Nat.reduceGT, Int.reduceToNat, Int.reduceLE, Int.reduceLT, Int.reduceEq, Int.reduceNe, Int.reduceAdd, Int.reduceSub, Int.reduceMul, Int.reduceNeg, ite_true, ite_false, dite_true, xc1, xc2, xc3, hr, hg, Hd_eta, errH_bne, errH_beq, h1] | simp (maxSteps := 1000000) (disch := omega) only [exE, Int.toNat_natCast, Int.reduceToNat])
  by_cases h2 : 0 ≤ R.fro
  rotate_left
  · have e : mayB H R = false := by simp [mayB, h2]
    rw [e]; refine acall_run (good3 0) Try.func68 rfl ⟨by kernel_rfl, by show 2 ≤ _; decide, by kernel_rfl, by kernel_rfl⟩ rfl ?_; have hr : Try.f68.results.toList = [.tmp 4] := rfl; repeat (first | simp only [c3_P, c3_odd, c3_ro, Nat.reduceBEq, reduceIte, Nat.reduceEqDiff, reduceCtorEq, ne_eq, if_true, if_false, exA, exA, tabs, exB, exD, buildA, rowOr, rowSetAt, rowAgg, mkAgg, AV.isAggV, AV.parts, AV.one, AV.solid, headSize, indexAddrA, indexA, fieldAddrA, fieldA, sliceA, boundsA, bndA, lenA, arrayAtA, rowOf, makeSliceA, intsOf, copyA, Nat.reduceAdd, Nat.reduceSub, Nat.reduceMul, Nat.reduceLeDiff, Nat.reduceLT, Nat.reduceGT, Int.reduceToNat, Int.reduceLE, Int.reduceLT, Int.reduceEq, Int.reduceNe, Int.reduceAdd, Int.reduceSub, Int.reduceMul, Int.reduceNeg, ite_true, ite_false, dite_true, xc1, xc2, xc3, hr, hg, Hd_eta, errH_bne, errH_beq, h1] | simp (maxSteps := 1000000) (disch := omega) only [exE, Int.toNat_natCast, Int.reduceToNat])
  by_cases h3 : R.fro ≤ H.sec
  rotate_left
  · have e : mayB H R = false := by simp [mayB, h3]
    rw [e]; refine acall_run (good3 0) Try.func68 rfl ⟨by kernel_rfl, by show 2 ≤ _; decide, by kernel_rfl, by kernel_rfl⟩ rfl ?_; have hr : Try.f68.results.toList = [.tmp 4] := rfl; repeat (first | simp only [c3_P, c3_odd, c3_ro, Nat.reduceBEq, reduceIte, Nat.reduceEqDiff, reduceCtorEq, ne_eq, if_true, if_false, exA, exA, tabs, exB, exD, buildA, rowOr, rowSetAt, rowAgg, mkAgg, AV.isAggV, AV.parts, AV.one, AV.solid, headSize, indexAddrA, indexA, fieldAddrA, fieldA, sliceA, boundsA, bndA, lenA, arrayAtA, rowOf, makeSliceA, intsOf, copyA, Nat.reduceAdd, Nat.reduceSub, Nat.reduceMul, Nat.reduceLeDiff, Nat.reduceLT, Nat.reduceGT, Int.reduceToNat, Int.reduceLE, Int.reduceLT, Int.reduceEq, Int.reduceNe, Int.reduceAdd, Int.reduceSub, Int.reduceMul, Int.reduceNeg, ite_true, ite_false, dite_true, xc1, xc2, xc3, hr, hg, Hd_eta, errH_bne, errH_beq, h1] | simp (maxSteps := 1000000) (disch := omega) only [exE, Int.toNat_natCast, Int.reduceToNat])
  cases h4 : R.rek
  · have e : mayB H R = (R.fro == 0) := by simp [mayB, h1, h2, h3, h4]
    rw [e]; refine acall_run (good3 0) Try.func68 rfl ⟨by kernel_rfl, by show 2 ≤ _; decide, by kernel_rfl, by kernel_rfl⟩ rfl ?_; have hr : Try.f68.results.toList = [.tmp 4] := rfl; repeat (first | simp only [c3_P, c3_odd, c3_ro, Nat.reduceBEq, reduceIte, Nat.reduceEqDiff, reduceCtorEq, ne_eq, if_true, if_false, exA, exA, tabs, exB, exD, buildA, rowOr, rowSetAt, rowAgg, mkAgg, AV.isAggV, AV.parts, AV.one, AV.solid, headSize, indexAddrA, indexA, fieldAddrA, fieldA, sliceA, boundsA, bndA, lenA, arrayAtA, rowOf, makeSliceA, intsOf, copyA, Nat.reduceAdd, Nat.reduceSub, Nat.reduceMul, Nat.reduceLeDiff, Nat.reduceLT, Nat.reduceGT, Int.reduceToNat, Int.reduceLE, Int.reduceLT, Int.reduceEq, Int.reduceNe, Int.reduceAdd, Int.reduceSub, Int.reduceMul, Int.reduceNeg, ite_true, ite_false, dite_true, xc1, xc2, xc3, hr, hg, Hd_eta, errH_bne, errH_beq, h1, h4] | simp (maxSteps := 1000000) (disch := omega) only [exE, Int.toNat_natCast, Int.reduceToNat])
  · have e : mayB H R = true := by simp [mayB, h1, h2, h3, h4]
    rw [e]; refine acall_run (good3 0) Try.func68 rfl ⟨by kernel_rfl, by show 2 ≤ _; decide, by kernel_rfl, by kernel_rfl⟩ rfl ?_; have hr : Try.f68.results.toList = [.tmp 4] := rfl; repeat (first | simp only [c3_P, c3_odd, c3_ro, Nat.reduceBEq, reduceIte, Nat.reduceEqDiff, reduceCtorEq, ne_eq, if_true, if_false, exA, exA, tabs, exB, exD, buildA, rowOr, rowSetAt, rowAgg, mkAgg, AV.isAggV, AV.parts, AV.one, AV.solid, headSize, indexAddrA, indexA, fieldAddrA, fieldA, sliceA, boundsA, bndA, lenA, arrayAtA, rowOf, makeSliceA, intsOf, copyA, Nat.reduceAdd, Nat.reduceSub, Nat.reduceMul, Nat.reduceLeDiff, Nat.reduceLT, Nat.reduceGT, Int.reduceToNat, Int.reduceLE, Int.reduceLT, Int.reduceEq, Int.reduceNe, Int.reduceAdd, Int.reduceSub, Int.reduceMul, Int.reduceNeg, ite_true, ite_false, dite_true, xc1, xc2, xc3, hr, hg, Hd_eta, errH_bne, errH_beq, h1, h4] | simp (maxSteps := 1000000) (disch := omega) only [exE, Int.toNat_natCast, Int.reduceToNat])
end Go.Proofs.Ytgkhngcnbddoiaa

namespace Go.Proofs.Ytgkhngcnbddoiaa
open Go.Ax
def F63 : List AV → Option AV
  | [.agg [.v (.int .u64 a), .v (.int .i64 b), .v (.int .i64 c), .v (.int .i64 d), .v (.int .i64 e), .v (.int .i64 f), .v (.int .i64 g), .v (.int .i64 h), .arr 16 .u8 n], .agg [.v (.int .u64 p), .v (.bool q), .v (.int .i64 r), .arr 32 .u8 t]] => oguard (0 ≤ a ∧ t.length = 32) (some (.v (.bool (mayB ⟨a, b, c, d, e, f, g, h, n⟩ ⟨p, q, r, t⟩))))
  | _ => none
theorem F63_eq (a b c d e f g h p r : Int) (n t : List Int) (q : Bool) : F63 [.agg [.v (.int .u64 a), .v (.int .i64 b), .v (.int .i64 c), .v (.int .i64 d), .v (.int .i64 e), .v (.int .i64 f), .v (.int .i64 g), .v (.int .i64 h), .arr 16 .u8 n], .agg [.v (.int .u64 p), .v (.bool q), .v (.int .i64 r), .arr 32 .u8 t]] = oguard (0 ≤ a ∧ t.length = 32) (some (.v (.bool (mayB ⟨a, b, c, d, e, f, g, h, n⟩ ⟨p, q, r, t⟩)))) := rfl
theorem mayB_set {H : Hd} {R : Rt} {b : Bool} (h2 : R.rek = b) : mayB H ⟨R.ctr, b, R.fro, R.tre⟩ = mayB H R := by subst h2; rfl
theorem Rt_eta (R : Rt) : (⟨R.ctr, R.rek, R.fro, R.tre⟩ : Rt) = R := rfl
noncomputable def p4 : FuncId → Option (List AV → Option AV) := addPure (addPure p3 63 F63) 68 F63
noncomputable def c4 (k : Nat) : Cfg := ⟨Try.prog, k, p4, [], fun _ => none, none, []⟩
theorem c4_odd (k : Nat) : (c4 k).odd = [] := rfl
theorem c4_ro (k : Nat) : (c4 k).ro = [] := rfl
theorem c4_P (k : Nat) : (c4 k).P = Try.prog := rfl
theorem c4_pure (k : Nat) : (c4 k).pure = p4 := rfl
theorem c4_news (k : Nat) : (c4 k).news = fun _ => none := rfl
theorem xc4 :
  (type_of% @c4_pure) ∧
  (type_of% @c4_news) ∧
  (type_of% @Go.Proofs.Ytgkhngcnbddoiaa.p4.eq_1) ∧
  (type_of% @F63_eq) :=
  ⟨@c4_pure, @c4_news, @Go.Proofs.Ytgkhngcnbddoiaa.p4.eq_1, @F63_eq⟩
theorem good4 (k : Nat) : (c4 k).Good := by
  refine Cfg.Good.add (Cfg.Good.add (good3 k) ?_ k) ?_ k
  · intro args v hF h κ hκ
    unfold F63 at hF
    split at hF
    · obtain ⟨h0, hF⟩ := oguard_some hF
      cases hF
      exact pure_call (may63 ⟨_, _, _, _, _, _, _, _, _⟩ ⟨_, _, _, _⟩ h0.1 h0.2) (fun g => rfl) (fun g => rfl) h κ hκ
    · cases hF
  · intro args v hF h κ hκ
    unfold F63 at hF
    split at hF
    · obtain ⟨h0, hF⟩ := oguard_some hF
      cases hF
      exact pure_call (may68 ⟨_, _, _, _, _, _, _, _, _⟩ ⟨_, _, _, _⟩ h0.1) (fun g => rfl) (fun g => rfl) h κ hκ
    · cases hF
theorem state54 (H : Hd) (R : Rt) (hg : 0 ≤ H.gen) (ht : R.tre.length = 32) : ACall Try.prog 54 [.agg [.v (.int .u64 H.gen), .v (.int .i64 H.sec), .v (.int .i64 H.slo), .v (.int .i64 H.jou), .v (.int .i64 H.seg), .v (.int .i64 H.tim), .v (.int .i64 H.mem), .v (.int .i64 H.lan), .arr 16 .u8 H.nam], .agg [.v (.int .u64 R.ctr), .v (.bool R.rek), .v (.int .i64 R.fro), .arr 32 .u8 R.tre]] [] fun v _ => v = .v (.int .i64 (stE H R)) := by
  have ht2 : R.tre.take 32 = R.tre := List.take_of_length_le (by omega)
  cases h1 : mayB H R
  · have e : stE H R = 1 := by simp [stE, h1]
    rw [e]; refine acall_run (good4 0) Try.func54 rfl ⟨by kernel_rfl, by show 2 ≤ _; decide, by kernel_rfl, by kernel_rfl⟩ rfl ?_; have hr : Try.f54.results.toList = [.tmp 4] := rfl; repeat (first | simp only [c4_P, c4_odd, c4_ro, Nat.reduceBEq, reduceIte, Nat.reduceEqDiff, reduceCtorEq, ne_eq, if_true, if_false, exA, exA, tabs, exB, exD, buildA, rowOr, rowSetAt, rowAgg, mkAgg, AV.isAggV, AV.parts, AV.one, AV.solid, headSize, indexAddrA, indexA, fieldAddrA, fieldA, sliceA, boundsA, bndA, lenA, arrayAtA, rowOf, makeSliceA, intsOf, copyA, Nat.reduceAdd, Nat.reduceSub, Nat.reduceMul, Nat.reduceLeDiff, Nat.reduceLT, Nat.reduceGT, Int.reduceToNat, Int.reduceLE, Int.reduceLT, Int.reduceEq, Int.reduceNe, Int.reduceAdd, Int.reduceSub, Int.reduceMul, Int.reduceNeg, ite_true, ite_false, dite_true, xc1, xc2, xc3, xc4, hr, hg, ht, ht2, Hd_eta, Rt_eta, h1] | simp (maxSteps := 1000000) (disch := omega) only [exE, Int.toNat_natCast, Int.reduceToNat])
  cases h2 : R.rek
  · have e : stE H R = 231 := by simp [stE, h1, h2]
    have h1' : mayB H ⟨R.ctr, false, R.fro, R.tre⟩ = true := (mayB_set h2).trans h1
    rw [e]; refine acall_run (good4 0) Try.func54 rfl ⟨by kernel_rfl, by show 2 ≤ _; decide, by kernel_rfl, by kernel_rfl⟩ rfl ?_; have hr : Try.f54.results.toList = [.tmp 4] := rfl; repeat (first | simp only [c4_P, c4_odd, c4_ro, Nat.reduceBEq, reduceIte, Nat.reduceEqDiff, reduceCtorEq, ne_eq, if_true, if_false, exA, exA, tabs, exB, exD, buildA, rowOr, rowSetAt, rowAgg, mkAgg, AV.isAggV, AV.parts, AV.one, AV.solid, headSize, indexAddrA, indexA, fieldAddrA, fieldA, sliceA, boundsA, bndA, lenA, arrayAtA, rowOf, makeSliceA, intsOf, copyA, Nat.reduceAdd, Nat.reduceSub, Nat.reduceMul, Nat.reduceLeDiff, Nat.reduceLT, Nat.reduceGT, Int.reduceToNat, Int.reduceLE, Int.reduceLT, Int.reduceEq, Int.reduceNe, Int.reduceAdd, Int.reduceSub, Int.reduceMul, Int.reduceNeg, ite_true, ite_false, dite_true, xc1, xc2, xc3, xc4, hr, hg, ht, ht2, h2, Hd_eta, h1'] | simp (maxSteps := 1000000) (disch := omega) only [exE, Int.toNat_natCast, Int.reduceToNat])
  · have e : stE H R = 0 := by simp [stE, h1, h2]
    have h1' : mayB H ⟨R.ctr, true, R.fro, R.tre⟩ = true := (mayB_set h2).trans h1
    rw [e]; refine acall_run (good4 0) Try.func54 rfl ⟨by kernel_rfl, by show 2 ≤ _; decide, by kernel_rfl, by kernel_rfl⟩ rfl ?_; have hr : Try.f54.results.toList = [.tmp 4] := rfl; repeat (first | simp only [c4_P, c4_odd, c4_ro, Nat.reduceBEq, reduceIte, Nat.reduceEqDiff, reduceCtorEq, ne_eq, if_true, if_false, exA, exA, tabs, exB, exD, buildA, rowOr, rowSetAt, rowAgg, mkAgg, AV.isAggV, AV.parts, AV.one, AV.solid, headSize, indexAddrA, indexA, fieldAddrA, fieldA, sliceA, boundsA, bndA, lenA, arrayAtA, rowOf, makeSliceA, intsOf, copyA, Nat.reduceAdd, Nat.reduceSub, Nat.reduceMul, Nat.reduceLeDiff, Nat.reduceLT, Nat.reduceGT, Int.reduceToNat, Int.reduceLE, Int.reduceLT, Int.reduceEq, Int.reduceNe, Int.reduceAdd, Int.reduceSub, Int.reduceMul, Int.reduceNeg, ite_true, ite_false, dite_true, xc1, xc2, xc3, xc4, hr, hg, ht, ht2, h2, Hd_eta, h1'] | simp (maxSteps := 1000000) (disch := omega) only [exE, Int.toNat_natCast, Int.reduceToNat])
theorem parts55 (n s : Int) (h : 0 ≤ n ∧ n ≤ 1048576 ∧ 1 ≤ s ∧ s ≤ 1048576) : ACall Try.prog 55 [.v (.int .i64 n), .v (.int .i64 s)] [] fun v _ => v = .v (.int .i64 ((n + s - 1) / s)) := by
  have w1 : IntKind.i64.wrap (n + s) = n + s := i64_id _ (by omega)
  have w2 : IntKind.i64.wrap (n + s - 1) = n + s - 1 := i64_id _ (by omega)
  have d0 : (n + s - 1).tdiv s = (n + s - 1) / s := Int.tdiv_eq_ediv_of_nonneg (by omega)
  have d1 : (n + s - 1) / s ≤ n + s - 1 := Int.ediv_le_self _ (by omega)
  have d2 : 0 ≤ (n + s - 1) / s := Int.ediv_nonneg (by omega) (by omega)
  have w3 : IntKind.i64.wrap ((n + s - 1) / s) = (n + s - 1) / s := i64_id _ (by omega)
  have hs : s ≠ 0 := by omega
  refine acall_run (good0 0) Try.func55 rfl ⟨by kernel_rfl, by show 2 ≤ _; decide, by kernel_rfl, by kernel_rfl⟩ rfl ?_; have hr : Try.f55.results.toList = [.tmp 4] := rfl
  repeat (first | simp only [c0_P, c0_odd, c0_ro, Nat.reduceBEq, reduceIte, Nat.reduceEqDiff, reduceCtorEq, ne_eq, if_true, if_false, exA, exA, tabs, exB, exD, buildA, rowOr, rowSetAt, rowAgg, mkAgg, AV.isAggV, AV.parts, AV.one, AV.solid, headSize, indexAddrA, indexA, fieldAddrA, fieldA, sliceA, boundsA, bndA, lenA, arrayAtA, rowOf, makeSliceA, intsOf, copyA, Nat.reduceAdd, Nat.reduceSub, Nat.reduceMul, Nat.reduceLeDiff, Nat.reduceLT, Nat.reduceGT, Int.reduceToNat, Int.reduceLE, Int.reduceLT, Int.reduceEq, Int.reduceNe, Int.reduceAdd, Int.reduceSub, Int.reduceMul, Int.reduceNeg, ite_true, ite_false, dite_true, xc0, hr, w1, w2, d0, w3, hs] | simp (maxSteps := 1000000) (disch := omega) only [exE, Int.toNat_natCast, Int.reduceToNat])
def F54 : List AV → Option AV
  | [.agg [.v (.int .u64 a), .v (.int .i64 b), .v (.int .i64 c), .v (.int .i64 d), .v (.int .i64 e), .v (.int .i64 f), .v (.int .i64 g), .v (.int .i64 h), .arr 16 .u8 n], .agg [.v (.int .u64 p), .v (.bool q), .v (.int .i64 r), .arr 32 .u8 t]] => oguard (0 ≤ a ∧ t.length = 32) (some (.v (.int .i64 (stE ⟨a, b, c, d, e, f, g, h, n⟩ ⟨p, q, r, t⟩))))
  | _ => none
theorem F54_eq (a b c d e f g h p r : Int) (n t : List Int) (q : Bool) : F54 [.agg [.v (.int .u64 a), .v (.int .i64 b), .v (.int .i64 c), .v (.int .i64 d), .v (.int .i64 e), .v (.int .i64 f), .v (.int .i64 g), .v (.int .i64 h), .arr 16 .u8 n], .agg [.v (.int .u64 p), .v (.bool q), .v (.int .i64 r), .arr 32 .u8 t]] = oguard (0 ≤ a ∧ t.length = 32) (some (.v (.int .i64 (stE ⟨a, b, c, d, e, f, g, h, n⟩ ⟨p, q, r, t⟩)))) := rfl
def F55 : List AV → Option AV
  | [.v (.int .i64 n), .v (.int .i64 s)] => oguard (0 ≤ n ∧ n ≤ 1048576 ∧ 1 ≤ s ∧ s ≤ 1048576) (some (.v (.int .i64 ((n + s - 1) / s))))
  | _ => none
theorem F55_eq (n s : Int) : F55 [.v (.int .i64 n), .v (.int .i64 s)] = oguard (0 ≤ n ∧ n ≤ 1048576 ∧ 1 ≤ s ∧ s ≤ 1048576) (some (.v (.int .i64 ((n + s - 1) / s)))) := rfl
noncomputable def p5 : FuncId → Option (List AV → Option AV) := addPure (addPure p4 54 F54) 55 F55
noncomputable def c5 (k : Nat) : Cfg := ⟨Try.prog, k, p5, [], fun _ => none, none, []⟩
theorem c5_odd (k : Nat) : (c5 k).odd = [] := rfl
theorem c5_ro (k : Nat) : (c5 k).ro = [] := rfl
theorem c5_P (k : Nat) : (c5 k).P = Try.prog := rfl
theorem c5_pure (k : Nat) : (c5 k).pure = p5 := rfl
theorem c5_news (k : Nat) : (c5 k).news = fun _ => none := rfl
theorem xc5 :
  (type_of% @c5_pure) ∧
  (type_of% @c5_news) ∧
  (type_of% @Go.Proofs.Ytgkhngcnbddoiaa.p5.eq_1) ∧
  (type_of% @F54_eq) ∧
  (type_of% @F55_eq) :=
  ⟨@c5_pure, @c5_news, @Go.Proofs.Ytgkhngcnbddoiaa.p5.eq_1, @F54_eq, @F55_eq⟩
theorem good5 (k : Nat) : (c5 k).Good := by
  refine Cfg.Good.add (Cfg.Good.add (good4 k) ?_ k) ?_ k
  · intro args v hF h κ hκ
    unfold F54 at hF
    split at hF
    · obtain ⟨h0, hF⟩ := oguard_some hF
      cases hF
      exact pure_call (state54 ⟨_, _, _, _, _, _, _, _, _⟩ ⟨_, _, _, _⟩ h0.1 h0.2) (fun g => rfl) (fun g => rfl) h κ hκ
    · cases hF
  · intro args v hF h κ hκ
    unfold F55 at hF
    split at hF
    · obtain ⟨h0, hF⟩ := oguard_some hF
      cases hF
      exact pure_call (parts55 _ _ h0) (fun g => rfl) (fun g => rfl) h κ hκ
    · cases hF
def toN (H : Hd) (R : Rt) : Int := if H.sec < R.fro + H.seg then H.sec else R.fro + H.seg
def nxA (H : Hd) (R : Rt) : AV := if stE H R = 0 then .tup [.v (.int .i64 R.fro), .v (.int .i64 (toN H R)), .v (.int .i64 0)] else .tup [.v (.int .i64 0), .v (.int .i64 0), .v (.int .i64 (stE H R))]
theorem stE_0 {H : Hd} {R : Rt} (h : stE H R = 0) : mayB H R = true ∧ R.rek = true := by
  unfold stE at h; split at h <;> rename_i h1
  · split at h <;> rename_i h2
    · exact ⟨h1, h2⟩
    · omega
  · omega
theorem okH_iff {H : Hd} : okH H = true ↔ 1 ≤ H.gen ∧ 1 ≤ H.sec ∧ H.sec ≤ 1024 ∧ 1 ≤ H.slo ∧ H.slo ≤ 8 ∧ 16 ≤ H.jou ∧ H.jou ≤ 256 ∧ 1 ≤ H.seg ∧ H.seg ≤ 16 ∧ H.seg + 10 ≤ H.jou ∧ okP H.tim H.mem H.lan = true := by simp [okH]
theorem mayB_b {H : Hd} {R : Rt} (h : mayB H R = true) : 1 ≤ H.sec ∧ H.sec ≤ 1024 ∧ 1 ≤ H.seg ∧ H.seg ≤ 16 ∧ 0 ≤ R.fro ∧ R.fro ≤ H.sec := by
  simp only [mayB, Bool.and_eq_true, decide_eq_true_eq] at h
  have := okH_iff.1 h.1
  omega
theorem next53 (H : Hd) (R : Rt) (hg : 0 ≤ H.gen) (ht : R.tre.length = 32) : ACall Try.prog 53 [.agg [.v (.int .u64 H.gen), .v (.int .i64 H.sec), .v (.int .i64 H.slo), .v (.int .i64 H.jou), .v (.int .i64 H.seg), .v (.int .i64 H.tim), .v (.int .i64 H.mem), .v (.int .i64 H.lan), .arr 16 .u8 H.nam], .agg [.v (.int .u64 R.ctr), .v (.bool R.rek), .v (.int .i64 R.fro), .arr 32 .u8 R.tre]] [] fun v _ => v = nxA H R := by
  have ht2 : R.tre.take 32 = R.tre := List.take_of_length_le (by omega)
  by_cases h : stE H R = 0
  · have hb := mayB_b (stE_0 h).1
    have w1 : IntKind.i64.wrap (R.fro + H.seg) = R.fro + H.seg := i64_id _ (by omega)
    rw [nxA, if_pos h]; refine acall_run (good5 0) Try.func53 rfl ⟨by kernel_rfl, by show 2 ≤ _; decide, by kernel_rfl, by kernel_rfl⟩ rfl ?_; have hr : Try.f53.results.toList = [.tmp 4, .tmp 5, .tmp 6] := rfl; repeat (first | simp only [c5_P, c5_odd, c5_ro, Nat.reduceBEq, reduceIte, Nat.reduceEqDiff, reduceCtorEq, ne_eq, if_true, if_false, exA, exA, tabs, exB, exD, buildA, rowOr, rowSetAt, rowAgg, mkAgg, AV.isAggV, AV.parts, AV.one, AV.solid, headSize, indexAddrA, indexA, fieldAddrA, fieldA, sliceA, boundsA, bndA, lenA, arrayAtA, rowOf, makeSliceA, intsOf, copyA, Nat.reduceAdd, Nat.reduceSub, Nat.reduceMul, Nat.reduceLeDiff, Nat.reduceLT, Nat.reduceGT, Int.reduceToNat, Int.reduceLE, Int.reduceLT, Int.reduceEq, Int.reduceNe, Int.reduceAdd, Int.reduceSub, Int.reduceMul, Int.reduceNeg, ite_true, ite_false, dite_true, xc1, xc2, xc3, xc4, xc5, hr, hg, ht, ht2, Hd_eta, Rt_eta, h, w1, toN] | simp (maxSteps := 1000000) (disch := omega) only [exE, Int.toNat_natCast, Int.reduceToNat])
  · have hn : (stE H R != 0) = true := by simpa using h
    rw [nxA, if_neg h]; refine acall_run (good5 0) Try.func53 rfl ⟨by kernel_rfl, by show 2 ≤ _; decide, by kernel_rfl, by kernel_rfl⟩ rfl ?_; have hr : Try.f53.results.toList = [.tmp 4, .tmp 5, .tmp 6] := rfl; repeat (first | simp only [c5_P, c5_odd, c5_ro, Nat.reduceBEq, reduceIte, Nat.reduceEqDiff, reduceCtorEq, ne_eq, if_true, if_false, exA, exA, tabs, exB, exD, buildA, rowOr, rowSetAt, rowAgg, mkAgg, AV.isAggV, AV.parts, AV.one, AV.solid, headSize, indexAddrA, indexA, fieldAddrA, fieldA, sliceA, boundsA, bndA, lenA, arrayAtA, rowOf, makeSliceA, intsOf, copyA, Nat.reduceAdd, Nat.reduceSub, Nat.reduceMul, Nat.reduceLeDiff, Nat.reduceLT, Nat.reduceGT, Int.reduceToNat, Int.reduceLE, Int.reduceLT, Int.reduceEq, Int.reduceNe, Int.reduceAdd, Int.reduceSub, Int.reduceMul, Int.reduceNeg, ite_true, ite_false, dite_true, xc1, xc2, xc3, xc4, xc5, hr, hg, ht, ht2, Hd_eta, Rt_eta, hn] | simp (maxSteps := 1000000) (disch := omega) only [exE, Int.toNat_natCast, Int.reduceToNat])
theorem next67 (H : Hd) (R : Rt) (hg : 0 ≤ H.gen) (ht : R.tre.length = 32) : ACall Try.prog 67 [.agg [.v (.int .u64 H.gen), .v (.int .i64 H.sec), .v (.int .i64 H.slo), .v (.int .i64 H.jou), .v (.int .i64 H.seg), .v (.int .i64 H.tim), .v (.int .i64 H.mem), .v (.int .i64 H.lan), .arr 16 .u8 H.nam], .agg [.v (.int .u64 R.ctr), .v (.bool R.rek), .v (.int .i64 R.fro), .arr 32 .u8 R.tre]] [] fun v _ => v = nxA H R := by
  have ht2 : R.tre.take 32 = R.tre := List.take_of_length_le (by omega)
  cases h1 : mayB H R
  · have e : stE H R = 1 := by simp [stE, h1]
    rw [nxA, if_neg (by omega), e]; refine acall_run (good5 0) Try.func67 rfl ⟨by kernel_rfl, by show 2 ≤ _; decide, by kernel_rfl, by kernel_rfl⟩ rfl ?_; have hr : Try.f67.results.toList = [.tmp 4, .tmp 5, .tmp 6] := rfl; repeat (first | simp only [c5_P, c5_odd, c5_ro, Nat.reduceBEq, reduceIte, Nat.reduceEqDiff, reduceCtorEq, ne_eq, if_true, if_false, exA, exA, tabs, exB, exD, buildA, rowOr, rowSetAt, rowAgg, mkAgg, AV.isAggV, AV.parts, AV.one, AV.solid, headSize, indexAddrA, indexA, fieldAddrA, fieldA, sliceA, boundsA, bndA, lenA, arrayAtA, rowOf, makeSliceA, intsOf, copyA, Nat.reduceAdd, Nat.reduceSub, Nat.reduceMul, Nat.reduceLeDiff, Nat.reduceLT, Nat.reduceGT, Int.reduceToNat, Int.reduceLE, Int.reduceLT, Int.reduceEq, Int.reduceNe, Int.reduceAdd, Int.reduceSub, Int.reduceMul, Int.reduceNeg, ite_true, ite_false, dite_true, xc1, xc2, xc3, xc4, xc5, hr, hg, ht, ht2, Hd_eta, Rt_eta, h1] | simp (maxSteps := 1000000) (disch := omega) only [exE, Int.toNat_natCast, Int.reduceToNat])
  cases h2 : R.rek
  · have e : stE H R = 231 := by simp [stE, h1, h2]
    have h1' : mayB H ⟨R.ctr, false, R.fro, R.tre⟩ = true := (mayB_set h2).trans h1
    rw [nxA, if_neg (by omega), e]; refine acall_run (good5 0) Try.func67 rfl ⟨by kernel_rfl, by show 2 ≤ _; decide, by kernel_rfl, by kernel_rfl⟩ rfl ?_; have hr : Try.f67.results.toList = [.tmp 4, .tmp 5, .tmp 6] := rfl; repeat (first | simp only [c5_P, c5_odd, c5_ro, Nat.reduceBEq, reduceIte, Nat.reduceEqDiff, reduceCtorEq, ne_eq, if_true, if_false, exA, exA, tabs, exB, exD, buildA, rowOr, rowSetAt, rowAgg, mkAgg, AV.isAggV, AV.parts, AV.one, AV.solid, headSize, indexAddrA, indexA, fieldAddrA, fieldA, sliceA, boundsA, bndA, lenA, arrayAtA, rowOf, makeSliceA, intsOf, copyA, Nat.reduceAdd, Nat.reduceSub, Nat.reduceMul, Nat.reduceLeDiff, Nat.reduceLT, Nat.reduceGT, Int.reduceToNat, Int.reduceLE, Int.reduceLT, Int.reduceEq, Int.reduceNe, Int.reduceAdd, Int.reduceSub, Int.reduceMul, Int.reduceNeg, ite_true, ite_false, dite_true, xc1, xc2, xc3, xc4, xc5, hr, hg, ht, ht2, h2, Hd_eta, h1'] | simp (maxSteps := 1000000) (disch := omega) only [exE, Int.toNat_natCast, Int.reduceToNat])
  have e : stE H R = 0 := by simp [stE, h1, h2]
  have h1' : mayB H ⟨R.ctr, true, R.fro, R.tre⟩ = true := (mayB_set h2).trans h1
  have hb := mayB_b h1
  rw [nxA, if_pos e]; refine acall_run (good5 0) Try.func67 rfl ⟨by kernel_rfl, by show 2 ≤ _; decide, by kernel_rfl, by kernel_rfl⟩ rfl ?_; have hr : Try.f67.results.toList = [.tmp 4, .tmp 5, .tmp 6] := rfl; repeat (first | simp only [c5_P, c5_odd, c5_ro, Nat.reduceBEq, reduceIte, Nat.reduceEqDiff, reduceCtorEq, ne_eq, if_true, if_false, exA, exA, tabs, exB, exD, buildA, rowOr, rowSetAt, rowAgg, mkAgg, AV.isAggV, AV.parts, AV.one, AV.solid, headSize, indexAddrA, indexA, fieldAddrA, fieldA, sliceA, boundsA, bndA, lenA, arrayAtA, rowOf, makeSliceA, intsOf, copyA, Nat.reduceAdd, Nat.reduceSub, Nat.reduceMul, Nat.reduceLeDiff, Nat.reduceLT, Nat.reduceGT, Int.reduceToNat, Int.reduceLE, Int.reduceLT, Int.reduceEq, Int.reduceNe, Int.reduceAdd, Int.reduceSub, Int.reduceMul, Int.reduceNeg, ite_true, ite_false, dite_true, xc1, xc2, xc3, xc4, xc5, hr, hg, ht, ht2, h2, Hd_eta, h1'] | simp (maxSteps := 1000000) (disch := omega) only [exE, Int.toNat_natCast, Int.reduceToNat])
  have hto : R.fro ≤ toN H R ∧ toN H R ≤ H.sec ∧ toN H R ≤ R.fro + H.seg ∧ (toN H R = H.sec ∨ toN H R = R.fro + H.seg) := by unfold toN; split <;> omega
  refine loop_count (good5 0) (fun i => ⟨envL [(2, .ptr 0 0 0), (3, .ptr 1 0 0), (7, .v (.int .i64 (R.fro + i))), (8, .v (.int .i64 i))], [some [.v (.int .u64 H.gen), .v (.int .i64 H.sec), .v (.int .i64 H.slo), .v (.int .i64 H.jou), .v (.int .i64 H.seg), .v (.int .i64 H.tim), .v (.int .i64 H.mem), .v (.int .i64 H.lan), .arr 16 .u8 H.nam], some [.v (.int .u64 R.ctr), .v (.bool true), .v (.int .i64 R.fro), .arr 32 .u8 R.tre]]⟩) (toN H R - R.fro).toNat (by kernel_rfl) ?_ ?_ ?_
  · (refine weak_of ?_ ?_; (focus (first | with_reducible rfl | (simp only [Int.natCast_zero, Int.add_zero] <;> with_reducible rfl))); simp only [exF, Nat.reduceEqDiff, if_true, if_false, reduceIte, Option.some.injEq, reduceCtorEq, Int.cast_ofNat_Int, Int.natCast_zero, Int.add_zero])
  · intro i hi
    have c1 : (i : Int) < H.seg := by omega
    have c2 : R.fro + i < H.sec := by omega
    have w1 : IntKind.i64.wrap (R.fro + i + 1) = R.fro + ((i + 1 : Nat) : Int) := by rw [i64_id _ (by omega)]; omega
    have w2 : IntKind.i64.wrap ((i : Int) + 1) = ((i + 1 : Nat) : Int) := by rw [i64_id _ (by omega)]; omega
    repeat (first | simp only [c5_P, c5_odd, c5_ro, Nat.reduceBEq, reduceIte, Nat.reduceEqDiff, reduceCtorEq, ne_eq, if_true, if_false, exA, exA, tabs, exB, exD, buildA, rowOr, rowSetAt, rowAgg, mkAgg, AV.isAggV, AV.parts, AV.one, AV.solid, headSize, indexAddrA, indexA, fieldAddrA, fieldA, sliceA, boundsA, bndA, lenA, arrayAtA, rowOf, makeSliceA, intsOf, copyA, Nat.reduceAdd, Nat.reduceSub, Nat.reduceMul, Nat.reduceLeDiff, Nat.reduceLT, Nat.reduceGT, Int.reduceToNat, Int.reduceLE, Int.reduceLT, Int.reduceEq, Int.reduceNe, Int.reduceAdd, Int.reduceSub, Int.reduceMul, Int.reduceNeg, ite_true, ite_false, dite_true, xc1, xc2, xc3, xc4, xc5, hr, c1, c2, w1, w2] | simp (maxSteps := 1000000) (disch := omega) only [exE, Int.toNat_natCast, Int.reduceToNat])
    (refine weak_of ?_ ?_; (focus (first | with_reducible rfl | (simp only [] <;> with_reducible rfl))); simp only [exF, Nat.reduceEqDiff, if_true, if_false, reduceIte, Option.some.injEq, reduceCtorEq, Int.cast_ofNat_Int])
  · have hc : (((toN H R - R.fro).toNat : Nat) : Int) = toN H R - R.fro := by omega
    have hs : R.fro + (toN H R - R.fro) = toN H R := by omega
    simp only [hc, hs]
    rcases hto.2.2.2 with h5 | h5
    · by_cases c1 : toN H R - R.fro < H.seg
      · have c2 : ¬ toN H R < H.sec := by omega
        repeat (first | simp only [c5_P, c5_odd, c5_ro, Nat.reduceBEq, reduceIte, Nat.reduceEqDiff, reduceCtorEq, ne_eq, if_true, if_false, exA, exA, tabs, exB, exD, buildA, rowOr, rowSetAt, rowAgg, mkAgg, AV.isAggV, AV.parts, AV.one, AV.solid, headSize, indexAddrA, indexA, fieldAddrA, fieldA, sliceA, boundsA, bndA, lenA, arrayAtA, rowOf, makeSliceA, intsOf, copyA, Nat.reduceAdd, Nat.reduceSub, Nat.reduceMul, Nat.reduceLeDiff, Nat.reduceLT, Nat.reduceGT, Int.reduceToNat, Int.reduceLE, Int.reduceLT, Int.reduceEq, Int.reduceNe, Int.reduceAdd, Int.reduceSub, Int.reduceMul, Int.reduceNeg, ite_true, ite_false, dite_true, xc1, xc2, xc3, xc4, xc5, hr, c1, c2] | simp (maxSteps := 1000000) (disch := omega) only [exE, Int.toNat_natCast, Int.reduceToNat])
      · repeat (first | simp only [c5_P, c5_odd, c5_ro, Nat.reduceBEq, reduceIte, Nat.reduceEqDiff, reduceCtorEq, ne_eq, if_true, if_false, exA, exA, tabs, exB, exD, buildA, rowOr, rowSetAt, rowAgg, mkAgg, AV.isAggV, AV.parts, AV.one, AV.solid, headSize, indexAddrA, indexA, fieldAddrA, fieldA, sliceA, boundsA, bndA, lenA, arrayAtA, rowOf, makeSliceA, intsOf, copyA, Nat.reduceAdd, Nat.reduceSub, Nat.reduceMul, Nat.reduceLeDiff, Nat.reduceLT, Nat.reduceGT, Int.reduceToNat, Int.reduceLE, Int.reduceLT, Int.reduceEq, Int.reduceNe, Int.reduceAdd, Int.reduceSub, Int.reduceMul, Int.reduceNeg, ite_true, ite_false, dite_true, xc1, xc2, xc3, xc4, xc5, hr, c1] | simp (maxSteps := 1000000) (disch := omega) only [exE, Int.toNat_natCast, Int.reduceToNat])
    · have c1 : ¬ toN H R - R.fro < H.seg := by omega
      repeat (first | simp only [c5_P, c5_odd, c5_ro, Nat.reduceBEq, reduceIte, Nat.reduceEqDiff, reduceCtorEq, ne_eq, if_true, if_false, exA, exA, tabs, exB, exD, buildA, rowOr, rowSetAt, rowAgg, mkAgg, AV.isAggV, AV.parts, AV.one, AV.solid, headSize, indexAddrA, indexA, fieldAddrA, fieldA, sliceA, boundsA, bndA, lenA, arrayAtA, rowOf, makeSliceA, intsOf, copyA, Nat.reduceAdd, Nat.reduceSub, Nat.reduceMul, Nat.reduceLeDiff, Nat.reduceLT, Nat.reduceGT, Int.reduceToNat, Int.reduceLE, Int.reduceLT, Int.reduceEq, Int.reduceNe, Int.reduceAdd, Int.reduceSub, Int.reduceMul, Int.reduceNeg, ite_true, ite_false, dite_true, xc1, xc2, xc3, xc4, xc5, hr, c1] | simp (maxSteps := 1000000) (disch := omega) only [exE, Int.toNat_natCast, Int.reduceToNat])
end Go.Proofs.Ytgkhngcnbddoiaa
