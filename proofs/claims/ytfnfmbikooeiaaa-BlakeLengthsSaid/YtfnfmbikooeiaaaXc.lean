/- Part of the proof. -/
import Derived.Test.YtfnfmbikooeiaaaXb
import Derived.Below
import Derived.ChangeSame
import Derived.OpenShut
import Derived.JoinedCond
import Derived.ChangeSlices
set_option linter.unusedSimpArgs false
set_option linter.unusedVariables false
namespace Go.Ax
/-- the rules of the abstract machine, as one -/
theorem exA :
  (type_of% @v_eqR_int) ∧
  (type_of% @v_eqR_bool) ∧
  (type_of% @v_eqR_string) ∧
  (type_of% @v_eqR_pointer) ∧
  (type_of% @v_eqR_array) ∧
  (type_of% @v_eqR_struct) ∧
  (type_of% @v_eqR_slice) ∧
  (type_of% @v_convR_int) ∧
  (type_of% @v_convR_string) ∧
  (type_of% @v_convR_bytes) ∧
  (type_of% @v_convR_same) ∧
  (type_of% @v_convR_slice) ∧
  (type_of% @v_move) ∧
  (type_of% @v_assign) ∧
  (type_of% @v_pick) ∧
  (type_of% @v_load) ∧
  (type_of% @v_nilCheck) ∧
  (type_of% @v_add) ∧
  (type_of% @v_sub) ∧
  (type_of% @v_mul) ∧
  (type_of% @v_quo) ∧
  (type_of% @v_rem) ∧
  (type_of% @v_and) ∧
  (type_of% @v_or) ∧
  (type_of% @v_xor) ∧
  (type_of% @v_andNot) ∧
  (type_of% @v_shl) ∧
  (type_of% @v_shr) ∧
  (type_of% @v_lss) ∧
  (type_of% @v_leq) ∧
  (type_of% @v_gtr) ∧
  (type_of% @v_geq) ∧
  (type_of% @v_eql) ∧
  (type_of% @v_neq) ∧
  (type_of% @v_un) ∧
  (type_of% @v_conv) ∧
  (type_of% @v_arrayAt) ∧
  (type_of% @v_makeFunc) ∧
  (type_of% @v_slice) ∧
  (type_of% @v_fieldAddr) ∧
  (type_of% @v_field) ∧
  (type_of% @v_indexAddr) ∧
  (type_of% @v_index) ∧
  (type_of% @v_extract) ∧
  (type_of% @v_build) ∧
  (type_of% @v_len) ∧
  (type_of% @v_min) ∧
  (type_of% @v_max) ∧
  (type_of% @v_call) ∧
  (type_of% @v_alloc) ∧
  (type_of% @v_box) ∧
  (type_of% @v_store) ∧
  (type_of% @v_makeSlice) ∧
  (type_of% @v_buildSlice) ∧
  (type_of% @v_append) ∧
  (type_of% @v_copy) ∧
  (type_of% @nilA_ptr) ∧
  (type_of% @nilA_rop) ∧
  (type_of% @nilA_fn) ∧
  (type_of% @ixAddrA_int) ∧
  (type_of% @ixA_int) ∧
  (type_of% @extA_tup) ∧
  (type_of% @calA_fn) ∧
  (type_of% @ev_tmp) ∧
  (type_of% @ev_const) ∧
  (type_of% @ev_func) ∧
  (type_of% @constAV_int) ∧
  (type_of% @constAV_bool) ∧
  (type_of% @constAV_string) ∧
  (type_of% @constAV_pointer) ∧
  (type_of% @constAV_slice) ∧
  (type_of% @optA_none) ∧
  (type_of% @optA_some) ∧
  (type_of% @b_add) ∧
  (type_of% @b_sub) ∧
  (type_of% @b_mul) ∧
  (type_of% @b_quo) ∧
  (type_of% @b_rem) ∧
  (type_of% @b_and) ∧
  (type_of% @b_or) ∧
  (type_of% @b_xor) ∧
  (type_of% @b_eql) ∧
  (type_of% @b_neq) ∧
  (type_of% @b_lss) ∧
  (type_of% @b_leq) ∧
  (type_of% @b_gtr) ∧
  (type_of% @b_geq) ∧
  (type_of% @b_shl) ∧
  (type_of% @b_shr) ∧
  (type_of% @b_seq) ∧
  (type_of% @b_sne) ∧
  (type_of% @b_beq) ∧
  (type_of% @b_bne) ∧
  (type_of% @b_peq) ∧
  (type_of% @b_pne) ∧
  (type_of% @b_qeq) ∧
  (type_of% @b_qne) ∧
  (type_of% @b_aeq) ∧
  (type_of% @b_ane) ∧
  (type_of% @u_neg) ∧
  (type_of% @u_xor) ∧
  (type_of% @u_not) ∧
  (type_of% @i_xor) ∧
  (type_of% @v_int_conv) ∧
  (type_of% @retK_ret) ∧
  (type_of% @retK_normal) ∧
  (type_of% @resList_nil) ∧
  (type_of% @resList_tmp) ∧
  (type_of% @packA_one) ∧
  (type_of% @packA_nil) ∧
  (type_of% @packA_two) ∧
  (type_of% @holds_some) ∧
  (type_of% @holds_none) ∧
  (type_of% @holds_guard) ∧
  (type_of% @s_builtin_len) ∧
  (type_of% @s_builtin_min) ∧
  (type_of% @s_builtin_max) ∧
  (type_of% @opsR_cons_g) ∧
  (type_of% @resList_cell) ∧
  (type_of% @run_skip) ∧
  (type_of% @run_seq) ∧
  (type_of% @run_block) ∧
  (type_of% @run_exit) ∧
  (type_of% @run_ret) ∧
  (type_of% @run_loop) ∧
  (type_of% @run_cond) ∧
  (type_of% @run_region) ∧
  (type_of% @regionR_true) ∧
  (type_of% @regionR_false) ∧
  (type_of% @planR_done) ∧
  (type_of% @planR_stop) ∧
  (type_of% @planR_first) ∧
  (type_of% @planR_fork) ∧
  (type_of% @someR_some) ∧
  (type_of% @cont_plan) ∧
  (type_of% @cont_nil) ∧
  (type_of% @cont_code) ∧
  (type_of% @cont_blk) ∧
  (type_of% @cont_ret_code) ∧
  (type_of% @cont_ret_blk) ∧
  (type_of% @cont_exit_code) ∧
  (type_of% @cont_exit_blk) ∧
  (type_of% @opsR_nil) ∧
  (type_of% @opsR_cons) ∧
  (type_of% @wantR_skip) ∧
  (type_of% @valR_some) ∧
  (type_of% @valR_none) ∧
  (type_of% @valR_guard) ∧
  (type_of% @valR_ite) ∧
  (type_of% @outR_one) ∧
  (type_of% @outR_cap) ∧
  (type_of% @outR_none) ∧
  (type_of% @outR_guard) ∧
  (type_of% @nilR_some) ∧
  (type_of% @callA_some) ∧
  (type_of% @callB_some) ∧
  (type_of% @callB_none) ∧
  (type_of% @callN_some) ∧
  (type_of% @callN_none) ∧
  (type_of% @guard_bind) ∧
  (type_of% @guard_map) ∧
  (type_of% @guard_true) ∧
  (type_of% @guard_false) ∧
  (type_of% @get_put) ∧
  (type_of% @get_envOf) ∧
  (type_of% @put_none) ∧
  (type_of% @condR_t) ∧
  (type_of% @condR_f) ∧
  (type_of% @nilCmp_eql) ∧
  (type_of% @nilCmp_neq) ∧
  (type_of% @nilK_some) ∧
  (type_of% @bsK_of) ∧
  (type_of% @bsK_ints) ∧
  (type_of% @bsK_ones) ∧
  (type_of% @moK_of) ∧
  (type_of% @moK_slice) ∧
  (type_of% @moK_int) ∧
  (type_of% @apK_of) ∧
  (type_of% @apK_nil) ∧
  (type_of% @apK_sl) ∧
  (type_of% @apR_0) ∧
  (type_of% @xorU_eq) ∧
  (type_of% @orU_eq) ∧
  (type_of% @take_range) ∧
  (type_of% @rep_one) ∧
  (type_of% @take_one) ∧
  (type_of% @wantR_tt) ∧
  (type_of% @wantR_ff) ∧
  (type_of% @wantR_tf) ∧
  (type_of% @wantR_ft) ∧
  (type_of% @envAll_nil) ∧
  (type_of% @envAll_cons) ∧
  (type_of% @get_envL_nil) ∧
  (type_of% @get_envL_cons) ∧
  (type_of% @thenK_normal) ∧
  (type_of% @thenK_exit) ∧
  (type_of% @thenK_ret) ∧
  (type_of% @storeA_ptr) ∧
  (type_of% @stK_some) ∧
  (type_of% @stC_some) ∧
  (type_of% @stD_cell) ∧
  (type_of% @stD_agg) ∧
  (type_of% @stE_some) ∧
  (type_of% @stE_guard) ∧
  (type_of% @loadA_ptr) ∧
  (type_of% @loadA_rop) ∧
  (type_of% @ldK_cell) ∧
  (type_of% @ldK_agg) ∧
  (type_of% @ldC_some) ∧
  (type_of% @ldD_some) ∧
  (type_of% @laC_some) ∧
  (type_of% @laD_some) ∧
  (type_of% @row_def) ∧
  (type_of% @rep_2) ∧
  (type_of% @rep_3) ∧
  (type_of% @rep_4) ∧
  (type_of% @rep_5) ∧
  (type_of% @rep_6) ∧
  (type_of% @cv_ro) ∧
  (type_of% @cv_nil) ∧
  (type_of% @cv_sl) ∧
  (type_of% @cvK_str) ∧
  (type_of% @sb_str) ∧
  (type_of% @sb_sl) ∧
  (type_of% @sbK_str) ∧
  (type_of% @mk_sl) ∧
  (type_of% @mkK_bytes) ∧
  (type_of% @u8Of_roI) ∧
  (type_of% @u8Of_nil) ∧
  (type_of% @u8Of_sl) ∧
  (type_of% @isU8_some) ∧
  (type_of% @isU8_guard) ∧
  (type_of% @u8sOf_roL) ∧
  (type_of% @u8sOf_nil) ∧
  (type_of% @u8sOf_sl) ∧
  (type_of% @allOf_ro) ∧
  (type_of% @osel_t) ∧
  (type_of% @osel_f) :=
  ⟨@v_eqR_int, @v_eqR_bool, @v_eqR_string, @v_eqR_pointer, @v_eqR_array, @v_eqR_struct, @v_eqR_slice, @v_convR_int, @v_convR_string, @v_convR_bytes, @v_convR_same, @v_convR_slice, @v_move, @v_assign, @v_pick, @v_load, @v_nilCheck, @v_add, @v_sub, @v_mul, @v_quo, @v_rem, @v_and, @v_or, @v_xor, @v_andNot, @v_shl, @v_shr, @v_lss, @v_leq, @v_gtr, @v_geq, @v_eql, @v_neq, @v_un, @v_conv, @v_arrayAt, @v_makeFunc, @v_slice, @v_fieldAddr, @v_field, @v_indexAddr, @v_index, @v_extract, @v_build, @v_len, @v_min, @v_max, @v_call, @v_alloc, @v_box, @v_store, @v_makeSlice, @v_buildSlice, @v_append, @v_copy, @nilA_ptr, @nilA_rop, @nilA_fn, @ixAddrA_int, @ixA_int, @extA_tup, @calA_fn, @ev_tmp, @ev_const, @ev_func, @constAV_int, @constAV_bool, @constAV_string, @constAV_pointer, @constAV_slice, @optA_none, @optA_some, @b_add, @b_sub, @b_mul, @b_quo, @b_rem, @b_and, @b_or, @b_xor, @b_eql, @b_neq, @b_lss, @b_leq, @b_gtr, @b_geq, @b_shl, @b_shr, @b_seq, @b_sne, @b_beq, @b_bne, @b_peq, @b_pne, @b_qeq, @b_qne, @b_aeq, @b_ane, @u_neg, @u_xor, @u_not, @i_xor, @v_int_conv, @retK_ret, @retK_normal, @resList_nil, @resList_tmp, @packA_one, @packA_nil, @packA_two, @holds_some, @holds_none, @holds_guard, @s_builtin_len, @s_builtin_min, @s_builtin_max, @opsR_cons_g, @resList_cell, @run_skip, @run_seq, @run_block, @run_exit, @run_ret, @run_loop, @run_cond, @run_region, @regionR_true, @regionR_false, @planR_done, @planR_stop, @planR_first, @planR_fork, @someR_some, @cont_plan, @cont_nil, @cont_code, @cont_blk, @cont_ret_code, @cont_ret_blk, @cont_exit_code, @cont_exit_blk, @opsR_nil, @opsR_cons, @wantR_skip, @valR_some, @valR_none, @valR_guard, @valR_ite, @outR_one, @outR_cap, @outR_none, @outR_guard, @nilR_some, @callA_some, @callB_some, @callB_none, @callN_some, @callN_none, @guard_bind, @guard_map, @guard_true, @guard_false, @get_put, @get_envOf, @put_none, @condR_t, @condR_f, @nilCmp_eql, @nilCmp_neq, @nilK_some, @bsK_of, @bsK_ints, @bsK_ones, @moK_of, @moK_slice, @moK_int, @apK_of, @apK_nil, @apK_sl, @apR_0, @xorU_eq, @orU_eq, @take_range, @rep_one, @take_one, @wantR_tt, @wantR_ff, @wantR_tf, @wantR_ft, @envAll_nil, @envAll_cons, @get_envL_nil, @get_envL_cons, @thenK_normal, @thenK_exit, @thenK_ret, @storeA_ptr, @stK_some, @stC_some, @stD_cell, @stD_agg, @stE_some, @stE_guard, @loadA_ptr, @loadA_rop, @ldK_cell, @ldK_agg, @ldC_some, @ldD_some, @laC_some, @laD_some, @row_def, @rep_2, @rep_3, @rep_4, @rep_5, @rep_6, @cv_ro, @cv_nil, @cv_sl, @cvK_str, @sb_str, @sb_sl, @sbK_str, @mk_sl, @mkK_bytes, @u8Of_roI, @u8Of_nil, @u8Of_sl, @isU8_some, @isU8_guard, @u8sOf_roL, @u8sOf_nil, @u8sOf_sl, @allOf_ro, @osel_t, @osel_f⟩
end Go.Ax

namespace Go.Ax
open Go.RowKit Go.WideShapes Go.ChangeShapes
set_option linter.unusedVariables false
section
variable {H : Type} {enc : TypeId × Value → H} {P : Program}
/-- the row's last step, where the call made new memory alone -/
theorem post_below {f : Func} {s : ChangeSpec} {apart fresh handsOn again : Bool} {W W' : World} {args : Array Value} {v : Value} {ds gs : List (DataW H)} {before pa pv : List MemPlace}
    (hW : DataW.Whole enc P f.params.toList s.vars apart W args.toList ds gs before)
    (hres : ∀ (b : Nat) (sp : Nat → Bool) (hd : Bool), DataW.TrodAll enc P W' b sp hd f.resultTypes.toList (v.resultList f.resultTypes.size) (s.fn H (ds ++ gs)).results [])
    (hargs : ∀ sp : Nat → Bool, (∀ p ∈ before, sp p.block = true) → DataW.TrodAll enc P W' 0 sp true f.params.toList args.toList (s.fn H (ds ++ gs)).args pa)
    (hvars : ∀ sp : Nat → Bool, (∀ p ∈ before, sp p.block = true) → DataW.TrodVars enc P W' sp s.vars (s.fn H (ds ++ gs)).vars pv)
    (hps : before = pa ++ pv) (hb : Below W.heap.size W W')
    (hok : ∀ (j : Nat) (t : TypeId) (r : Value), f.resultTypes[j]? = some t → (v.resultList f.resultTypes.size)[j]? = some r → Value.okWide P W' .any 0 t r) :
    s.post enc P f apart fresh handsOn again W args v W' := by
  have hlt : ∀ p ∈ before, p.block < W.heap.size := fun p hp => hW.lt p hp
  have hold : ∀ p ∈ before, (fun b => decide (b < W.heap.size)) p.block = true := fun p hp => by simpa using hlt p hp
  refine ⟨ds, gs, before, [], pa, pv, hW, hres _ _ _, hargs _ hold, hvars _ hold, World.keptBut_mono (fun p hp => ⟨hp, ?_⟩) (hb.frame (· ∈ before)), fun _ => ?_⟩
  · rw [hps, List.mem_append] at hp
    exact Or.inr hp
  · obtain ⟨_, _, _, _, _, hz, hn⟩ := hW
    refine ⟨hok, _, _, ([] ++ pa) ++ pv, ⟨[] ++ pa, pv, trodAll_append (hargs _ (fun _ _ => rfl)) (hres _ _ _), hvars _ (fun _ _ => rfl), rfl, ?_, ?_⟩, ?_⟩
    · intro b off hp
      have hin : MemPlace.cell b off ∈ before := by rw [hps]; simpa using hp
      rw [hb.frozen (hlt _ hin)]
      exact hz b off hin
    · intro ha
      have := hn ha
      rw [hps] at this
      simpa using this
    · intro p hp _
      rw [hps]
      simpa using hp

theorem cell_below {B : Nat} {W W' : World} (hb : Below B W W') {a : Addr} {x : Value} (hB : W.heap.size ≤ B) (h : W.cell? a = some x) : W'.cell? a = some x := by
  have hl : a.block < W.heap.size := by
    unfold World.cell? at h
    rcases Nat.lt_or_ge a.block W.heap.size with h1 | h1
    · exact h1
    · rw [Array.getElem?_eq_none h1] at h; cases h
  unfold World.cell? at h ⊢
  rw [hb.block _ (by omega)]
  exact h

theorem mapM_imp {α β : Type} {f g : α → Option β} : ∀ {l : List α} {ys : List β}, (∀ x ∈ l, ∀ y ∈ ys, f x = some y → g x = some y) → l.mapM f = some ys → l.mapM g = some ys
  | [], ys, _, h => by simpa using h
  | x :: l, ys, hfg, h => by
    rw [List.mapM_cons] at h ⊢
    cases hx : f x with
    | none => rw [hx] at h; cases h
    | some y =>
      rw [hx] at h
      cases hl : l.mapM f with
      | none => rw [hl] at h; cases h
      | some zs =>
        rw [hl] at h
        cases h
        rw [hfg x (by simp) y (by simp) hx, mapM_imp (fun x hx y hy => hfg x (by simp [hx]) y (by simp [hy])) hl]
        rfl

theorem cells_below {B : Nat} {W W' : World} (hb : Below B W W') (hB : W.heap.size ≤ B) {base : Nat} {a : Addr} {n : Nat} {cs : List Value} (h : W.cells? base a n = some cs) : W'.cells? base a n = some cs := by
  unfold World.cells? at h ⊢
  split at h
  · rename_i h1
    rw [if_pos h1]
    exact mapM_imp (fun x _ y _ hy => cell_below hb hB hy) h
  · cases h

/-- types, with all that they are made of; every slice's element has a cell -/
def closedL (P : Program) (L : List TypeId) : Bool := L.all fun t => match P.underlying t with
  | some (.pointer e) => L.contains e
  | some (.slice e) => L.contains e && decide (0 < P.cellsOf e)
  | some (.struct fs) => fs.toList.all fun f => L.contains f.type
  | some (.array _ e) => L.contains e
  | some (.map _ e) => L.contains e
  | _ => true
/-- what was read reads as it did, where there is new memory alone -/
theorem trod_below {B : Nat} {W W' : World} (hb : Below B W W') (hB : W.heap.size ≤ B) {L : List TypeId} (hL : closedL P L = true) {base : Nat} {sp : Nat → Bool} :
    ∀ (fuel : Nat) (t : TypeId) (cs : List Value) (x : DataW H × List MemPlace), t ∈ L → DataW.trod enc P W base (fun _ => true) true fuel t cs = some x → (∀ p ∈ x.2, sp p.block = true) → DataW.trod enc P W' base sp true fuel t cs = some x := by
  intro fuel
  induction fuel with
  | zero => intro t cs x _ h; simp [DataW.trod] at h
  | succ fuel ih =>
    intro t cs x ht h hp
    have hc := (List.all_eq_true.1 hL) t ht
    have elem : ∀ (e : TypeId) (a : Addr) (n : Nat) y, e ∈ L → (W.cells? base a n).bind (DataW.trod enc P W base (fun _ => true) true fuel e) = some y → (∀ p ∈ y.2, sp p.block = true) →
        (W'.cells? base a n).bind (DataW.trod enc P W' base sp true fuel e) = some y := by
      intro e a n y he hy hp
      obtain ⟨cs, h1, h2⟩ := Option.bind_eq_some_iff.1 hy
      rw [cells_below hb hB h1]
      exact ih _ _ _ he h2 hp
    unfold DataW.trod at h ⊢
    split at h <;> try (first | exact h | (cases h; done))
    · obtain ⟨y, hy, rfl⟩ := Option.map_eq_some_iff.1 h
      rename_i e a hu
      rw [hu] at hc
      have he : e ∈ L := by simpa using hc
      rw [elem e a _ y he hy (fun p h1 => hp p (by simp [h1]))]
      rfl
    · rename_i e a len cap hu
      rw [hu] at hc
      have hce : e ∈ L ∧ 0 < P.cellsOf e := by simpa using hc
      simp only at h ⊢
      split at h
      · rename_i hcc
        rw [if_pos hcc]
        obtain ⟨elems, h1, h⟩ := Option.bind_eq_some_iff.1 h
        obtain ⟨rest, h2, rfl⟩ := Option.map_eq_some_iff.1 h
        simp only [if_true] at h2
        rw [mapM_imp (fun i _ y hy h3 => elem e _ _ y hce.1 h3 (fun p h4 => hp p (by simp only [List.mem_append, List.mem_flatMap]; exact .inr ⟨y, .inl hy, h4⟩))) h1]
        simp only [Option.bind_some]
        have hrl := mapM_some_length h2
        simp only [List.length_range] at hrl
        by_cases hsp : sp a.block = true
        · rw [if_pos hsp, mapM_imp (fun i _ y hy h3 => elem e _ _ y hce.1 h3 (fun p h4 => hp p (by simp only [List.mem_append, List.mem_flatMap]; exact .inr ⟨y, .inr hy, h4⟩))) h2]
          rfl
        · rw [if_neg hsp]
          have h0 : cap - len = 0 := by
            rcases Nat.eq_zero_or_pos (cap - len) with h0 | h0
            · exact h0
            · exfalso
              apply hsp
              have hpos : 0 < (elems.length + rest.length) * P.cellsOf e := Nat.mul_pos (by omega) hce.2
              exact hp (.cell a.block (a.off + 0)) (by simp only [List.mem_append]; left; unfold MemPlace.row; exact List.mem_map.2 ⟨0, List.mem_range.2 hpos, rfl⟩)
          have : rest = [] := List.eq_nil_of_length_eq_zero (by omega)
          subst this
          rfl
      · cases h
    · rename_i fs hu
      rw [hu] at hc
      have hce : ∀ f ∈ fs.toList, f.type ∈ L := fun f hf => by simpa using (List.all_eq_true.1 hc) f hf
      split at h
      · rename_i hcc
        rw [if_pos hcc]
        obtain ⟨xs, h1, rfl⟩ := Option.map_eq_some_iff.1 h
        rw [mapM_imp (fun f hf y hy h3 => ih _ _ _ (hce f hf) h3 (fun p h4 => hp p (by simp only [List.mem_flatMap]; exact ⟨y, hy, h4⟩))) h1]
        rfl
      · cases h
    · rename_i n e hu
      rw [hu] at hc
      have he : e ∈ L := by simpa using hc
      split at h
      · rename_i hcc
        rw [if_pos hcc]
        obtain ⟨xs, h1, rfl⟩ := Option.map_eq_some_iff.1 h
        rw [mapM_imp (fun f _ y hy h3 => ih _ _ _ he h3 (fun p h4 => hp p (by simp only [List.mem_flatMap]; exact ⟨y, hy, h4⟩))) h1]
        rfl
      · cases h
    · rename_i k e b hu
      rw [hu] at hc
      have he : e ∈ L := by simpa using hc
      split at h
      · rename_i es clock hes
        have hl : b < W.heap.size := by
          rcases Nat.lt_or_ge b W.heap.size with h1 | h1
          · exact h1
          · rw [Array.getElem?_eq_none h1] at hes; cases hes
        rw [hb.block b (by omega), hes]
        simp only at h ⊢
        split at h
        · rename_i hcc
          rw [if_pos hcc]
          obtain ⟨entries, h1, h2⟩ := Option.bind_eq_some_iff.1 h
          split at h2
          · rename_i hr
            cases h2
            have := mapM_imp (g := fun x => (keyOf P k x.key).bind fun key => if x.val.formed P e then (DataW.trod enc P W' base sp true fuel e x.val.cells.toList).map fun y => ((key, y.1), y.2) else none) (fun x _ y hy h3 => by
              obtain ⟨key, h4, h5⟩ := Option.bind_eq_some_iff.1 h3
              rw [h4]
              simp only [Option.bind_some]
              split at h5
              · rename_i hf
                rw [if_pos hf]
                obtain ⟨z, hz, rfl⟩ := Option.map_eq_some_iff.1 h5
                rw [ih _ _ _ he hz (fun p h6 => hp p (by simp only [List.mem_cons, List.mem_flatMap]; exact .inr ⟨_, hy, h6⟩))]
                rfl
              · cases h5) h1
            rw [this]
            simp only [Option.bind_some]
            rw [if_pos hr]
          · cases h2
        · cases h
      · cases h
theorem trodAll_below {W W' : World} (hb : Below W.heap.size W W') {L : List TypeId} (hL : closedL P L = true) {base : Nat} {sp : Nat → Bool} : ∀ {ts : List TypeId} {vs : List Value} {ds : List (DataW H)} {ps : List MemPlace},
    (∀ t ∈ ts, t ∈ L) → DataW.TrodAll enc P W base (fun _ => true) true ts vs ds ps → (∀ p ∈ ps, sp p.block = true) → DataW.TrodAll enc P W' base sp true ts vs ds ps
  | [], [], [], ps, _, h, _ => h
  | t :: ts, v :: vs, d :: ds, ps, ht, h, hp => by
    obtain ⟨p, q, ⟨fuel, h1⟩, h2, rfl⟩ := h
    exact ⟨p, q, ⟨fuel, trod_below hb (Nat.le_refl _) hL fuel t _ _ (ht t (by simp)) h1 (fun x hx => hp x (by simp [hx]))⟩, trodAll_below hb hL (fun t h => ht t (by simp [h])) h2 (fun x hx => hp x (by simp [hx])), rfl⟩
  | [], [], _ :: _, _, _, h, _ => h.elim
  | [], _ :: _, _, _, _, h, _ => h.elim
  | _ :: _, [], _, _, _, h, _ => h.elim
  | _ :: _, _ :: _, [], _, _, h, _ => h.elim
end
end Go.Ax

namespace Go.Ax
open Go.RowKit Go.WideShapes Go.ChangeShapes
set_option linter.unusedVariables false
section
variable {H : Type} {enc : TypeId × Value → H} {P : Program} {W : World} {X : Nat → Prop}
/-- integers of a slice that came in, by their cells -/
theorem cells_ro {k : IntKind} {a : Addr} {zs : List Int} {len cap : Nat} (hlen : len ≤ cap) (hz : zs.length = cap) (hX : ∀ r, ¬ X r)
    (hc : ∀ i, i < zs.length → W.cell? (a.add i) = some (.int k (zs.getD i 0))) : roAt X W len ((zs.take len).map (Value.int k)) [.slice (some a) len cap] := by
  rcases Nat.eq_zero_or_pos cap with h0 | h0
  · subst h0
    obtain rfl : len = 0 := by omega
    exact .inr ⟨rfl, some a, rfl⟩
  · left
    have hsp0 : a.spot = none := by
      have h1 := hc 0 (by omega)
      have h2 : a.add 0 = a := by unfold Addr.add; rfl
      rw [h2] at h1
      unfold World.cell? at h1
      split at h1
      · by_cases hs : a.spot.isSome = true
        · rw [if_pos hs] at h1; cases h1
        · simpa using hs
      · cases h1
    have hget : ∀ i, i < zs.length → a.spot = none ∧ ∃ c e fz, W.heap[a.block]? = some (.cells c e fz) ∧ c[a.off + i]? = some (.int k (zs.getD i 0)) := by
      intro i hi
      have h1 := hc i hi
      obtain ⟨r, o, s⟩ := a
      simp only at hsp0
      subst hsp0
      rw [addr_add] at h1
      unfold World.cell? at h1
      simp only [Option.isSome_none, Bool.false_eq_true, if_false] at h1
      split at h1
      · rename_i c e fz hh
        exact ⟨rfl, c, e, fz, hh, h1⟩
      · cases h1
    obtain ⟨hsp, c, e, fz, hh, _⟩ := hget 0 (by omega)
    refine ⟨a, cap, rfl, hsp, hX _, ⟨c, e, fz, hh, c.toList.take a.off, c.toList.drop (a.off + len), ?_, ?_⟩, hlen⟩
    · have hv : (c.toList.drop a.off).take len = (zs.take len).map (Value.int k) := by
        apply List.ext_getElem?
        intro i
        rw [List.getElem?_take]
        split
        · rename_i hi
          obtain ⟨_, c', e', fz', hh', h2⟩ := hget i (by omega)
          rw [hh] at hh'
          cases hh'
          rw [List.getElem?_drop, Array.getElem?_toList, h2, List.getElem?_map, List.getElem?_take, if_pos hi]
          simp [List.getD_eq_getElem?_getD, show i < zs.length by omega]
        · rename_i hi
          rw [List.getElem?_eq_none (by simp; omega)]
      rw [← hv, List.append_assoc, ← List.drop_drop, List.take_append_drop, List.take_append_drop]
    · obtain ⟨_, c', e', fz', hh', h2⟩ := hget 0 (by omega)
      rw [hh] at hh'
      cases hh'
      have := (Array.getElem?_eq_some_iff.1 h2).1
      simp; omega

theorem okWide_slice {t e : TypeId} {v : Value} (ht : P.underlying t = some (.slice e)) (h : Value.okWide P W .any 0 t v) : (∃ a n c, v = .slice a n c) := by
  unfold Value.okWide at h
  rw [ht] at h
  simp only at h
  unfold Cell.okWide at h
  rw [ht] at h
  simp only at h
  unfold Cell.ok at h
  rw [ht] at h
  cases v <;> simp only at h <;> first | exact ⟨_, _, _, rfl⟩ | cases h

/-- a slice of integers that came in, in some row of cells -/
theorem trod_ints {t e : TypeId} {k : IntKind} {fuel : Nat} {cs : List Value} {x : DataW H × List MemPlace} (ht : P.underlying t = some (.slice e)) (he : P.underlying e = some (.int k)) (hc : P.cellsOf e = 1)
    (hX : ∀ r, ¬ X r) (h : DataW.trod enc P W 0 (fun _ => true) true fuel t cs = some x) :
    ∃ l, AV.rel X W [] (.roI k l) cs ∧ ((l = [] ∧ x.1 = .nil) ∨ ∃ sp, x.1 = .slice (lits k l) sp) ∧ ∀ n ∈ l, (Lit.int k n).wf = true := by
  rcases open_ints ht he hc h with ⟨rfl, rfl⟩ | ⟨a, len, cap, zs, rfl, _, hlen, _, hz, rfl, hcell, hwf⟩
  · refine ⟨[], ?_, .inl ⟨rfl, rfl⟩, by simp⟩
    simp only [AV.rel, roAt]
    exact .inr ⟨rfl, none, rfl⟩
  · simp only [if_true] at hz
    refine ⟨zs.take len, ?_, .inr ⟨_, rfl⟩, fun n hn => hwf n (List.mem_of_mem_take hn)⟩
    simp only [AV.rel]
    have h1 : (zs.take len).length = len := by simp; omega
    have := cells_ro (W := W) (X := X) (k := k) hlen hz hX hcell
    rw [h1]
    exact this
theorem open_ints' {t e : TypeId} {k : IntKind} {v : Value} {d : DataW H} {ps : List MemPlace} (ht : P.underlying t = some (.slice e)) (he : P.underlying e = some (.int k)) (hc : P.cellsOf e = 1)
    (hX : ∀ r, ¬ X r) (hval : Value.okWide P W .any 0 t v) (hd : DataW.Trod enc P W 0 (fun _ => true) true t v d ps) :
    ∃ l, AV.relV X W [] (.roI k l) v ∧ ((l = [] ∧ d = .nil) ∨ ∃ sp, d = .slice (lits k l) sp) ∧ ∀ n ∈ l, (Lit.int k n).wf = true := by
  obtain ⟨fuel, hd⟩ := hd
  obtain ⟨l, h1, h2, h3⟩ := trod_ints ht he hc hX hd
  refine ⟨l, ?_, h2, h3⟩
  obtain ⟨a, n, c, rfl⟩ := okWide_slice ht hval
  simp only [AV.relV]
  exact h1

/-- an array of integers that came in -/
theorem trod_arr {t e : TypeId} {k : IntKind} {n fuel : Nat} {cs : List Value} {x : DataW H × List MemPlace} {base : Nat} {sp : Nat → Bool} {held : Bool} (ht : P.underlying t = some (.array n e)) (he : P.underlying e = some (.int k)) (hc : P.cellsOf e = 1) (hct : P.cellsOf t = n)
    (h : DataW.trod enc P W base sp held fuel t cs = some x) : ∃ l : List Int, cs = l.map (Value.int k) ∧ l.length = n ∧ ∀ m ∈ l, (Lit.int k m).wf = true := by
  cases fuel with
  | zero => simp [DataW.trod] at h
  | succ fuel =>
    unfold DataW.trod at h
    rw [ht] at h
    simp only at h
    split at h
    · rename_i hl
      rw [hct] at hl
      obtain ⟨xs, h1, _⟩ := Option.map_eq_some_iff.1 h
      have hg := fun i hi => mapM_some_get h1 i i hi
      have each : ∀ i, i < n → ∃ m, cs[i]? = some (.int k m) ∧ (Lit.int k m).wf = true := by
        intro i hi
        have h2 := hg i (by simp [hi])
        rw [hc, Nat.mul_one] at h2
        have hxl := mapM_some_length h1
        simp only [List.length_range] at hxl
        rw [List.getElem?_eq_getElem (by omega)] at h2
        obtain ⟨m, h3, _, h4⟩ := DataW.trod_int he h2
        refine ⟨m, ?_, h4⟩
        have hd : cs.drop i = cs[i] :: cs.drop (i + 1) := List.drop_eq_getElem_cons (by omega)
        have h5 : cs[i] = .int k m := by
          have h6 : [cs[i]] = [Value.int k m] := by rw [← h3, hd]; rfl
          simpa using h6
        rw [List.getElem?_eq_getElem (by omega), h5]
      let val : Value → Int := fun v => match v with | .int _ m => m | _ => 0
      refine ⟨cs.map val, ?_, by simp [hl], ?_⟩
      · apply List.ext_getElem?
        intro i
        rcases Nat.lt_or_ge i n with hi | hi
        · obtain ⟨m, h2, _⟩ := each i hi
          simp only [List.getElem?_map, h2, Option.map_some, val]
        · rw [List.getElem?_eq_none (by omega), List.getElem?_eq_none (by simp; omega)]
      · intro m hm
        obtain ⟨v, hv, rfl⟩ := List.mem_map.1 hm
        obtain ⟨i, hi⟩ := List.getElem?_of_mem hv
        obtain ⟨m, h2, h3⟩ := each i (by have := (List.getElem?_eq_some_iff.1 hi).1; omega)
        rw [hi] at h2
        cases h2
        exact h3
    · cases h
theorem open_arr' {t e : TypeId} {k : IntKind} {n : Nat} {v : Value} {d : DataW H} {ps : List MemPlace} (ht : P.underlying t = some (.array n e)) (he : P.underlying e = some (.int k)) (hc : P.cellsOf e = 1) (hct : P.cellsOf t = n)
    (hval : Value.okWide P W .any 0 t v) (hd : DataW.Trod enc P W 0 (fun _ => true) true t v d ps) : ∃ l, AV.relV X W [] (.arr n k l) v ∧ l.length = n ∧ ∀ m ∈ l, (Lit.int k m).wf = true := by
  obtain ⟨fuel, hd⟩ := hd
  obtain ⟨l, h1, h2, h3⟩ := trod_arr ht he hc hct hd
  refine ⟨l, ?_, h2, h3⟩
  unfold Value.okWide at hval
  rw [ht] at hval
  simp only at hval
  obtain ⟨cs, rfl, _⟩ := hval
  simp only [AV.relV]
  refine ⟨?_, h2⟩
  have : cs.toList = l.map (Value.int k) := h1
  rw [← this]

/-- a law that answers true, and touches nothing: what its row asks -/
theorem law_post {f : FuncId} {fn : Func} {s : ChangeSpec} {tb : TypeId} {args : Array Value} {ds gs : List (DataW H)} {before : List MemPlace} {L : List TypeId} (hz : closedL P L = true) (hL : ∀ t ∈ fn.params.toList, t ∈ L) (hres : fn.resultTypes = #[tb]) (htb : P.underlying tb = some .bool)
    (hvars : s.vars = []) (hfn : (s.fn H (ds ++ gs)) = { results := [.lit (.bool true)], args := ds })
    (hW : DataW.Whole enc P fn.params.toList s.vars false W args.toList ds gs before)
    {avs : List AV} (hargs : relVs (XOf (fun _ => False) [] []) W [] avs args.toList) (hcall : ACall P f avs [] fun v _ => v = .v (.bool true)) :
    Calls P f args W fun e W' => ∃ v, e = .returned v ∧ s.post enc P fn false true false false W args v W' := by
  refine (hcall.2 (fun _ => False) W [] args hargs ⟨rfl, by simp, by simp⟩ (fun r h => h.elim)).mono ?_
  rintro en W' ⟨av, v, ρ', h', rfl, rfl, hv, _, _, _, hfr⟩
  simp only [AV.relV, AV.rel] at hv
  obtain ⟨hv, _⟩ := hv
  have hv : v = .bool true := by simpa using hv
  subst hv
  have hno : ∀ r, ¬ own ([] : List (Option Nat)) [] r := by rintro r ⟨b, hb, _⟩; simp at hb
  have hb : Below W.heap.size W W' := ⟨hfr.os, hfr.tape, hfr.out, hfr.size, fun k hk => hfr.same k hk (hno k)⟩
  have hW' := hW
  obtain ⟨p, q, hA, hV, rfl, _, _⟩ := hW
  rw [hvars] at hV
  obtain ⟨rfl, rfl⟩ := trodVars_none hV
  refine ⟨_, rfl, post_below (pa := p) (pv := []) hW' ?_ ?_ ?_ rfl hb ?_⟩
  · intro b sp hd
    rw [hfn, hres]
    exact trodAll_cons_mk (shut_bool htb _) trodAll_mk0
  · intro sp hsp
    rw [hfn]
    exact trodAll_below hb hz hL hA (fun x hx => hsp x (by simp [hx]))
  · intro sp hsp
    rw [hvars]
    simp only [hfn]
    rfl
  · rw [hres]
    have := ok_one (P := P) (W' := W') (f := fn) (v := .bool true) hres rfl (okWide_bool_mk htb true)
    rw [hres] at this
    exact this
end
end Go.Ax
