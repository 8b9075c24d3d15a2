/- A part of the proof of one statement: an abstract machine for the model, proved sound; equations of the functions over it; what they reckon. -/
import Derived.Test.YtjdknnlhhenpnaaGreatDoorMachC
import Derived.Test.YtjdknnlhhenpnaaGreatDoorEqsB
set_option linter.unusedVariables false
set_option linter.unusedSimpArgs false
namespace Go.Proofs.YtjdknnlhhenpnaaGreatDoor
open Go Go.Abs Go.Vir
mutual
theorem depth_run (s : Srt) {v : PV} (h : SrtV s v) (S : St) : R true n_vref01_depth [.agg [v]] S = some (.int .i64 s.depth, S) := by
  match s, h with
  | .mk l, h =>
    unfold SrtV at h
    obtain ⟨es, h1, h2⟩ := h
    refine vref01_depth_of ?_
    unfold vref01_depth_b
    rw [h1.len]
    simp only [Option.bind_some]
    rw [Srt.depth]
    exact depthL_run l h1 h2 [] rfl 0 S
theorem depthL_run (l : List Srt) {es es' : List PV} {v : PV} (h1 : Sl 1 es v) (h2 : SrtL l es') (pre : List PV) (he : es = pre ++ es') (d : Int) (S : St) :
    vref01_depth_L1 true S v es.length d pre.length S = some (.int .i64 (IntKind.wrap .i64 (Srt.depthL l d + 1)), S) := by
  match l, h2 with
  | [], h2 =>
    unfold SrtL at h2
    subst h2
    refine vref01_depth_L1_of ?_
    unfold vref01_depth_L1_b
    subst he
    rw [lt_done, fin_self]
    rfl
  | a :: l, h2 =>
    unfold SrtL at h2
    obtain ⟨e, es', rfl, h3, h4⟩ := h2
    refine vref01_depth_L1_of ?_
    unfold vref01_depth_L1_b
    have hm := h1.max
    subst he
    rw [lt_more, if_pos rfl, h1.elt rfl, okCells_agg _ (PV.proj_length e 1), cell_agg_proj e 1 0 (by decide)]
    simp only [Option.bind_some]
    rw [depth_run a h3 S]
    simp only [Option.bind_some, intOf, if_true]
    rw [idx_next pre e es' hm]
    exact depthL_run l h1 h4 (pre ++ [e]) (by simp) _ S
end
mutual
theorem few_run (s : Srt) {v : PV} (h : SrtV s v) (S : St) : R true n_vref01_few [.agg [v]] S = some (.bool s.few, S) := by
  match s, h with
  | .mk l, h =>
    unfold SrtV at h
    obtain ⟨es, h1, h2⟩ := h
    refine vref01_few_of ?_
    unfold vref01_few_b
    rw [h1.len]
    simp only [Option.bind_some]
    rw [Srt.few, ← h2.len]
    exact fewL_run l h1 h2 [] rfl S
theorem fewL_run (l : List Srt) {es es' : List PV} {v : PV} (h1 : Sl 1 es v) (h2 : SrtL l es') (pre : List PV) (he : es = pre ++ es') (S : St) :
    vref01_few_L1 true S v es.length pre.length S = some (.bool (Srt.fewL l && decide ((es.length : Int) ≤ 8)), S) := by
  match l, h2 with
  | [], h2 =>
    unfold SrtL at h2
    subst h2
    refine vref01_few_L1_of ?_
    unfold vref01_few_L1_b
    subst he
    rw [lt_done, h1.len]
    simp only [Option.bind_some]
    rw [fin_self]
    rfl
  | a :: l, h2 =>
    unfold SrtL at h2
    obtain ⟨e, es', rfl, h3, h4⟩ := h2
    refine vref01_few_L1_of ?_
    unfold vref01_few_L1_b
    have hm := h1.max
    subst he
    rw [lt_more, if_pos rfl, h1.elt rfl, okCells_agg _ (PV.proj_length e 1), cell_agg_proj e 1 0 (by decide)]
    simp only [Option.bind_some]
    rw [few_run a h3 S]
    simp only [Option.bind_some, Abs.asBool]
    rw [Srt.fewL]
    cases a.few with
    | false => rw [fin_self]; rfl
    | true =>
      rw [idx_next pre e es' hm]
      exact fewL_run l h1 h4 (pre ++ [e]) (by simp) S
end
mutual
theorem nodes_run (s : Srt) {v : PV} (h : SrtV s v) (most : Int) (S : St) : R true n_vref01_Nodes [.agg [v], .int .i64 most] S = some (.int .i64 (s.nodes most), S) := by
  match s, h with
  | .mk l, h =>
    unfold SrtV at h
    obtain ⟨es, h1, h2⟩ := h
    refine vref01_Nodes_of ?_
    unfold vref01_Nodes_b
    rw [Srt.nodes]
    exact nodesL_run l h1 h2 [] rfl most 1 S
theorem nodesL_run (l : List Srt) {es es' : List PV} {v : PV} (h1 : Sl 1 es v) (h2 : SrtL l es') (pre : List PV) (he : es = pre ++ es') (most n : Int) (S : St) :
    vref01_Nodes_L1 true S most v n pre.length S = some (.int .i64 (Srt.nodesL l most n), S) := by
  match l, h2 with
  | [], h2 =>
    unfold SrtL at h2
    subst h2
    refine vref01_Nodes_L1_of ?_
    unfold vref01_Nodes_L1_b
    subst he
    rw [h1.len]
    simp only [Option.bind_some]
    rw [lt_done, if_neg (by decide)]
    refine vref01_Nodes_J1_of ?_
    unfold vref01_Nodes_J1_b
    rw [fin_self]
    rfl
  | a :: l, h2 =>
    unfold SrtL at h2
    obtain ⟨e, es', rfl, h3, h4⟩ := h2
    refine vref01_Nodes_L1_of ?_
    unfold vref01_Nodes_L1_b
    have hm := h1.max
    subst he
    rw [h1.len]
    simp only [Option.bind_some]
    rw [lt_more, if_pos rfl]
    refine vref01_Nodes_J1_of ?_
    unfold vref01_Nodes_J1_b
    rw [Srt.nodesL]
    by_cases hc : n ≤ most
    · rw [if_pos (decide_eq_true hc), if_pos hc, h1.elt rfl, show e.proj 1 = [e.cell 0] from rfl, nodes_run a h3 _ S]
      simp only [Option.bind_some, intOf, if_true]
      rw [idx_next pre e es' hm]
      exact nodesL_run l h1 h4 (pre ++ [e]) (by simp) _ _ S
    · rw [if_neg (by simpa using hc), if_neg hc, fin_self]
end
theorem is_run (s : Srt) {v : PV} (h : SrtV s v) (S : St) : R true n_vref01_Is [.agg [v]] S = some (.bool s.is, S) := by
  refine vref01_Is_of ?_
  unfold vref01_Is_b Srt.is
  rw [nodes_run s h]
  simp only [Option.bind_some, intOf, if_true]
  cases decide (s.nodes 60 ≤ 60) with
  | false => rw [fin_self]; rfl
  | true =>
    rw [if_pos rfl, depth_run s h]
    simp only [Option.bind_some, intOf, if_true]
    cases decide (s.depth ≤ 30) with
    | false => rw [fin_self]; rfl
    | true =>
      rw [if_pos rfl, few_run s h]
      simp only [Option.bind_some, Abs.asBool]
      rw [fin_self]
      rfl
mutual
theorem measure_run (s : Srt) {v : PV} (h : SrtV s v) {S : St} {id : Nat} {k : Int} (hc : Cnt S id k) : R true n_sorts_measure [.agg [v], .ref id 0] S = some (.int .i64 (s.measure k).1, S.put id (s.measure k).2) := by
  match s, h with
  | .mk l, h =>
    unfold SrtV at h
    obtain ⟨es, h1, h2⟩ := h
    refine sorts_measure_of ?_
    unfold sorts_measure_b
    simp only [nilV, Option.bind_some]
    rw [hc.ld]
    simp only [Option.bind_some]
    rw [hc.sto]
    simp only [Option.bind_some]
    rw [h1.len]
    simp only [Option.bind_some]
    rw [Srt.measure]
    exact measureL_run l h1 h2 [] rfl 0 hc _ _
theorem measureL_run (l : List Srt) {es es' : List PV} {v : PV} (h1 : Sl 1 es v) (h2 : SrtL l es') (pre : List PV) (he : es = pre ++ es') (d : Int) {S : St} {id : Nat} {k0 : Int} (hc : Cnt S id k0) (k : Int) (ts : Toks) :
    sorts_measure_L1 true S (.ref id 0) v es.length d pre.length ts (S.put id k) = some (.int .i64 (Srt.measureL l k d).1, S.put id (Srt.measureL l k d).2) := by
  match l, h2 with
  | [], h2 =>
    unfold SrtL at h2
    subst h2
    refine sorts_measure_L1_of ?_
    unfold sorts_measure_L1_b
    subst he
    rw [lt_done, if_neg (by decide), fin_put]
    rfl
  | a :: l, h2 =>
    unfold SrtL at h2
    obtain ⟨e, es', rfl, h3, h4⟩ := h2
    refine sorts_measure_L1_of ?_
    unfold sorts_measure_L1_b
    have hm := h1.max
    subst he
    rw [lt_more, if_pos rfl, h1.elt rfl, okCells_agg _ (PV.proj_length e 1), cell_agg_proj e 1 0 (by decide)]
    simp only [Option.bind_some, nilV]
    rw [(hc.put k).ld]
    simp only [Option.bind_some]
    rw [Srt.measureL]
    by_cases hk : k < 0
    · rw [if_pos (decide_eq_true hk), if_pos hk, fin_put]
    · rw [if_neg (by simpa using hk), if_neg hk, measure_run a h3 (hc.put k), St.put_put]
      simp only [Option.bind_some, intOf, if_true]
      rw [idx_next pre e es' hm]
      exact measureL_run l h1 h4 (pre ++ [e]) (by simp) _ hc _ _
end
theorem size_run (s : Srt) {v : PV} (h : SrtV s v) (S : St) : R true n_sorts_Size [.agg [v]] S = some (.tup [.int .i64 s.size.1, .int .i64 s.size.2], S) := by
  refine sorts_Size_of ?_
  unfold sorts_Size_b
  have hc := Cnt.new S 0
  rw [hc.sto]
  simp only [Option.bind_some]
  rw [measure_run s h (hc.put 60), St.put_put]
  simp only [Option.bind_some, intOf, if_true]
  rw [(hc.put _).ld]
  simp only [Option.bind_some]
  rw [Srt.size]
  have hf : ∀ r : PV, r.pure = true → fin true S r ((S.new [(.int .i64 0, none)]).put S.objs.length (s.measure 60).2) = (r, S) := fun r hr => fin_new (ts := []) (St.new_put S _ _) (by simp [St.put, St.new]) hr
  by_cases hk : (s.measure 60).2 < 0
  · rw [if_pos (decide_eq_true hk), if_pos hk, hf _ rfl]
  · rw [if_neg (by simpa using hk), if_neg hk, hf _ rfl]
theorem check1_run (s : Srt) {v : PV} (h : SrtV s v) (S : St) : R true n_sorts_Check_1 [.agg [v]] S = some (.bool (match s with | .mk l => decide ((l.length : Int) ≤ 8)), S) := by
  match s, h with
  | .mk l, h =>
    unfold SrtV at h
    obtain ⟨es, h1, h2⟩ := h
    refine sorts_Check_1_of ?_
    unfold sorts_Check_1_b
    rw [h1.len]
    simp only [Option.bind_some]
    rw [fin_self, h2.len]
mutual
theorem all_run (s : Srt) {v : PV} (h : SrtV s v) (S : St) : R true n_sorts_all [.agg [v], .fn n_sorts_Check_1 []] S = some (.bool s.few, S) := by
  match s, h with
  | .mk l, h =>
    have h0 := h
    unfold SrtV at h
    obtain ⟨es, h1, h2⟩ := h
    refine sorts_all_of ?_
    unfold sorts_all_b
    rw [h1.len]
    simp only [Option.bind_some]
    rw [Srt.few]
    exact allL_run l (l0 := l) h0 h1 h2 [] rfl S
theorem allL_run (l : List Srt) {l0 : List Srt} {es es' : List PV} {v : PV} (h0 : SrtV (.mk l0) v) (h1 : Sl 1 es v) (h2 : SrtL l es') (pre : List PV) (he : es = pre ++ es') (S : St) :
    sorts_all_L1 true S (.fn n_sorts_Check_1 []) v es.length pre.length S = some (.bool (Srt.fewL l && decide ((l0.length : Int) ≤ 8)), S) := by
  match l, h2 with
  | [], h2 =>
    unfold SrtL at h2
    subst h2
    refine sorts_all_L1_of ?_
    unfold sorts_all_L1_b
    subst he
    rw [lt_done]
    simp only [callV, List.append_nil]
    rw [if_neg (by decide), check1_run _ h0]
    simp only [Option.bind_some, Abs.asBool]
    rw [fin_self]
    rfl
  | a :: l, h2 =>
    unfold SrtL at h2
    obtain ⟨e, es', rfl, h3, h4⟩ := h2
    refine sorts_all_L1_of ?_
    unfold sorts_all_L1_b
    have hm := h1.max
    subst he
    rw [lt_more, if_pos rfl, h1.elt rfl, okCells_agg _ (PV.proj_length e 1), cell_agg_proj e 1 0 (by decide)]
    simp only [Option.bind_some]
    rw [all_run a h3 S]
    simp only [Option.bind_some, Abs.asBool]
    rw [Srt.fewL]
    cases a.few with
    | false => rw [fin_self]; rfl
    | true =>
      rw [idx_next pre e es' hm]
      exact allL_run l h0 h1 h4 (pre ++ [e]) (by simp) S
end
theorem check_run (s : Srt) {v : PV} (h : SrtV s v) (S : St) : R true n_sorts_Check [.agg [v]] S = some (.int .i64 s.check, S) := by
  refine sorts_Check_of ?_
  unfold sorts_Check_b
  rw [size_run s h]
  simp only [Option.bind_some, PV.comps, List.length_cons, List.length_nil, List.getD_cons_zero, List.getD_cons_succ, intOf, if_true, chk]
  have hJ : ∀ b : Bool, sorts_Check_J1 true S b S = some (.int .i64 (if b then 6 else 0), S) := by
    intro b
    refine sorts_Check_J1_of ?_
    unfold sorts_Check_J1_b
    cases b <;> (rw [fin_self, fin_self]; rfl)
  simp only [hJ]
  rw [Srt.check]
  by_cases h1 : s.size.1 > 60
  · simp [h1]
  · by_cases h2 : s.size.2 > 30
    · simp [h1, h2]
    · simp only [h1, h2, decide_false, if_neg, Bool.false_eq_true]
      rw [all_run s h]
      simp only [Option.bind_some, Abs.asBool, hJ]
      cases s.few <;> rfl
end Go.Proofs.YtjdknnlhhenpnaaGreatDoor
namespace Go.Proofs.YtjdknnlhhenpnaaGreatDoor
open Go Go.Abs Go.Vir
mutual
theorem tnodes_run (t : Typ) {v : PV} (h : TypV t v) (most : Int) (S : St) : R true n_vref12_Nodes [.agg [.int .i64 t.st, v], .int .i64 most] S = some (.int .i64 (t.nodes most), S) := by
  match t, h with
  | .mk st a, h =>
    unfold TypV at h
    obtain ⟨es, h1, h2⟩ := h
    refine vref12_Nodes_of ?_
    unfold vref12_Nodes_b
    rw [Typ.nodes, Typ.st]
    exact tnodesS_run a h1 h2 [] rfl st most 1 S
theorem tnodesS_run (a : List (List Typ)) {es es' : List PV} {v : PV} (h1 : Sl 1 es v) (h2 : SetsL a es') (pre : List PV) (he : es = pre ++ es') (st most n : Int) (S : St) :
    vref12_Nodes_L1 true S most st v n pre.length S = some (.int .i64 (Typ.nodesS a most n), S) := by
  match a, h2 with
  | [], h2 =>
    unfold SetsL at h2
    subst h2
    refine vref12_Nodes_L1_of ?_
    unfold vref12_Nodes_L1_b
    subst he
    rw [h1.len]
    simp only [Option.bind_some]
    rw [lt_done, if_neg (by decide)]
    refine vref12_Nodes_J1_of ?_
    unfold vref12_Nodes_J1_b
    rw [fin_self]
    rfl
  | l :: a, h2 =>
    unfold SetsL at h2
    obtain ⟨e, es', rfl, ⟨xs, h3, h4⟩, h5⟩ := h2
    refine vref12_Nodes_L1_of ?_
    unfold vref12_Nodes_L1_b
    have hm := h1.max
    subst he
    rw [h1.len]
    simp only [Option.bind_some]
    rw [lt_more, if_pos rfl]
    refine vref12_Nodes_J1_of ?_
    unfold vref12_Nodes_J1_b
    rw [Typ.nodesS]
    by_cases hc : n ≤ most
    · rw [if_pos (decide_eq_true hc), if_pos hc]
      exact tnodesT_run l h1 rfl h3 h4 [] rfl st most n S (fun n' => (.int .i64 (Typ.nodesS a most n'), S)) (fun n' => tnodesS_run a h1 h5 (pre ++ [e]) (by simp) st most n' S)
    · rw [if_neg (by simpa using hc), if_neg hc, fin_self]
theorem tnodesT_run (l : List Typ) {es es' pre : List PV} {e v : PV} (h1 : Sl 1 es v) (he : es = pre ++ e :: es') {xs xs' : List PV} (h3 : Sl 2 xs (e.cell 0)) (h4 : TypL l xs') (ipre : List PV) (hx : xs = ipre ++ xs') (st most n : Int) (S : St)
    (K : Int → PV × St) (hK : ∀ n', vref12_Nodes_L1 true S most st v n' (pre ++ [e]).length S = some (K n')) :
    vref12_Nodes_L2 true S most st v pre.length n ipre.length S = some (K (Typ.nodesT l most n)) := by
  have hm := h1.max
  have hm2 := h3.max
  subst he
  match l, h4 with
  | [], h4 =>
    unfold TypL at h4
    subst h4
    refine vref12_Nodes_L2_of ?_
    unfold vref12_Nodes_L2_b
    subst hx
    rw [h1.eltV rfl]
    dsimp only
    rw [h3.len]
    simp only [Option.bind_some]
    rw [lt_done, if_neg (by decide)]
    refine vref12_Nodes_J2_of ?_
    unfold vref12_Nodes_J2_b
    rw [if_neg (by decide), idx_next pre e es' hm, Typ.nodesT]
    exact hK n
  | t :: l, h4 =>
    unfold TypL at h4
    obtain ⟨x, xs', rfl, ⟨u, h5, h6⟩, h7⟩ := h4
    refine vref12_Nodes_L2_of ?_
    unfold vref12_Nodes_L2_b
    subst hx
    rw [h1.eltV rfl]
    dsimp only
    rw [h3.len]
    simp only [Option.bind_some]
    rw [lt_more, if_pos rfl]
    refine vref12_Nodes_J2_of ?_
    unfold vref12_Nodes_J2_b
    rw [Typ.nodesT]
    by_cases hc : n ≤ most
    · rw [if_pos (decide_eq_true hc), if_pos hc, h1.eltV rfl]
      dsimp only
      rw [h3.elt rfl, h5, tnodes_run t h6 _ S]
      simp only [Option.bind_some, intOf, if_true]
      rw [idx_next ipre x xs' hm2]
      exact tnodesT_run l h1 rfl h3 h7 (ipre ++ [x]) (by simp) st most _ S K hK
    · rw [if_neg (by simpa using hc), if_neg hc, idx_next pre e es' hm]
      exact hK n
end
theorem large'_run (t : Typ) {v : PV} (h : TypV t v) (S : St) : R true n_vref12_Large [.agg [.int .i64 t.st, v]] S = some (.bool t.large', S) := by
  refine vref12_Large_of ?_
  unfold vref12_Large_b
  rw [tnodes_run t h]
  simp only [Option.bind_some, intOf, if_true]
  rw [fin_self]
  rfl
mutual
theorem meas_run (t : Typ) {v : PV} (h : TypV t v) {S : St} {id : Nat} {k : Int} (hc : Cnt S id k) : R true n_inter_measure [.agg [.int .i64 t.st, v], .ref id 0] S = some (.tup [], S.put id (t.meas k)) := by
  match t, h with
  | .mk st a, h =>
    unfold TypV at h
    obtain ⟨es, h1, h2⟩ := h
    refine inter_measure_of ?_
    unfold inter_measure_b
    simp only [nilV, Option.bind_some]
    rw [hc.ld]
    simp only [Option.bind_some]
    rw [hc.sto]
    simp only [Option.bind_some]
    rw [h1.len]
    simp only [Option.bind_some]
    rw [Typ.meas]
    exact measS_run a h1 h2 [] rfl hc _ _
theorem measS_run (a : List (List Typ)) {es es' : List PV} {v : PV} (h1 : Sl 1 es v) (h2 : SetsL a es') (pre : List PV) (he : es = pre ++ es') {S : St} {id : Nat} {k0 : Int} (hc : Cnt S id k0) (k : Int) (ts : Toks) :
    inter_measure_L1 true S (.ref id 0) v es.length pre.length ts (S.put id k) = some (.tup [], S.put id (Typ.measS a k)) := by
  match a, h2 with
  | [], h2 =>
    unfold SetsL at h2
    subst h2
    refine inter_measure_L1_of ?_
    unfold inter_measure_L1_b
    subst he
    rw [lt_done, if_neg (by decide), fin_put]
    rfl
  | l :: a, h2 =>
    unfold SetsL at h2
    obtain ⟨e, es', rfl, ⟨xs, h3, h4⟩, h5⟩ := h2
    refine inter_measure_L1_of ?_
    unfold inter_measure_L1_b
    have hm := h1.max
    subst he
    rw [lt_more, if_pos rfl, h1.eltV rfl]
    dsimp only
    rw [h3.len]
    simp only [Option.bind_some]
    rw [Typ.measS]
    exact measT_run l (pre := pre) (e := e) (es' := es') hm h3 h4 [] rfl hc k ts (fun k' => Typ.measS a k') (fun k' hk => measS_neg hk a) (fun k' => measS_run a h1 h5 (pre ++ [e]) (by simp) hc k' ts)
theorem measT_run (l : List Typ) {pre es' : List PV} {e v : PV} (hm : (pre ++ e :: es').length < 4611686018427387904) {xs xs' : List PV} (h3 : Sl 2 xs (e.cell 0)) (h4 : TypL l xs') (ipre : List PV) (hx : xs = ipre ++ xs') {S : St} {id : Nat} {k0 : Int} (hc : Cnt S id k0) (k : Int) (ts : Toks)
    (K : Int → Int) (hn : ∀ k', k' < 0 → K k' = k') (hK : ∀ k', inter_measure_L1 true S (.ref id 0) v (pre ++ e :: es').length (pre ++ [e]).length ts (S.put id k') = some (.tup [], S.put id (K k'))) :
    inter_measure_L2 true S (.ref id 0) v (pre ++ e :: es').length pre.length (e.cell 0) none xs.length ipre.length ts (S.put id k) = some (.tup [], S.put id (K (Typ.measT l k))) := by
  have hm2 := h3.max
  match l, h4 with
  | [], h4 =>
    unfold TypL at h4
    subst h4
    refine inter_measure_L2_of ?_
    unfold inter_measure_L2_b
    subst hx
    rw [lt_done, if_neg (by decide), idx_next pre e es' hm, Typ.measT]
    exact hK k
  | t :: l, h4 =>
    unfold TypL at h4
    obtain ⟨x, xs', rfl, ⟨u, h5, h6⟩, h7⟩ := h4
    refine inter_measure_L2_of ?_
    unfold inter_measure_L2_b
    subst hx
    rw [lt_more, if_pos rfl, h3.elt rfl, okCells_agg _ (PV.proj_length x 2), h5]
    simp only [Option.bind_some, nilV]
    rw [(hc.put k).ld]
    simp only [Option.bind_some]
    rw [Typ.measT]
    by_cases hk : k < 0
    · rw [if_pos (decide_eq_true hk), if_pos hk, fin_put, hn k hk]
    · rw [if_neg (by simpa using hk), if_neg hk]
      show (R true n_inter_measure [.agg [.int .i64 t.st, u], .ref id 0] (S.put id k)).bind _ = _
      rw [meas_run t h6 (hc.put k), St.put_put]
      simp only [Option.bind_some]
      rw [idx_next ipre x xs' hm2]
      exact measT_run l hm h3 h7 (ipre ++ [x]) (by simp) hc _ ts K hn hK
end
theorem tsize_run (t : Typ) {v : PV} (h : TypV t v) (S : St) : R true n_inter_Size [.agg [.int .i64 t.st, v]] S = some (.int .i64 t.size, S) := by
  refine inter_Size_of ?_
  unfold inter_Size_b
  have hc := Cnt.new S 0
  rw [hc.sto]
  simp only [Option.bind_some]
  rw [meas_run t h (hc.put 2000), St.put_put]
  simp only [Option.bind_some]
  rw [(hc.put _).ld]
  simp only [Option.bind_some]
  rw [fin_new (ts := []) (St.new_put S _ _) (by simp [St.put, St.new]) rfl]
  rfl
theorem large_run (t : Typ) {v : PV} (h : TypV t v) (S : St) : R true n_inter_large [.agg [.int .i64 t.st, v]] S = some (.bool t.large, S) := by
  refine inter_large_of ?_
  unfold inter_large_b
  rw [tsize_run t h]
  simp only [Option.bind_some, intOf, if_true]
  rw [fin_self]
  rfl
end Go.Proofs.YtjdknnlhhenpnaaGreatDoor
namespace Go.Proofs.YtjdknnlhhenpnaaGreatDoor
open Go Go.Abs Go.Vir
theorem lt_len {pre qre : List PV} (h : pre.length = qre.length) (x : PV) (l : List PV) : decide ((pre.length : Int) < ((qre ++ x :: l).length : Int)) = true := by
  simp; omega
theorem lt_len0 {pre qre : List PV} (h : pre.length = qre.length) : decide ((pre.length : Int) < ((qre ++ []).length : Int)) = false := by
  simp; omega
theorem less_run (a b : Int) (S : St) : R true n_vref12_less [.int .i64 a, .int .i64 b] S = some (.int .i64 (less a b), S) := by
  refine vref12_less_of ?_
  unfold vref12_less_b less
  by_cases h1 : a < b
  · rw [if_pos (decide_eq_true h1), if_pos h1, fin_self]
  · rw [if_neg (by simpa using h1), if_neg h1]
    by_cases h2 : a > b
    · rw [if_pos (decide_eq_true h2), if_pos h2, fin_self]
    · rw [if_neg (by simpa using h2), if_neg h2, fin_self]
theorem less_eq {a b : Int} (h : a = b) : less a b = 0 := by unfold less; rw [if_neg (by omega), if_neg (by omega)]
theorem less_lt {a b : Int} (h : a < b) : less a b = -1 := by unfold less; rw [if_pos h]
theorem less_gt {a b : Int} (h : b < a) : less a b = 1 := by unfold less; rw [if_neg (by omega), if_pos h]
def prevLt (p : Option Typ) (t : Typ) : Bool := match p with
  | none => true
  | some p => decide (p.cmp t < 0)
theorem fitT_cons (t : Typ) (l : List Typ) (p : Option Typ) (s : Srt) (q : Int) : Typ.fitT (t :: l) p s q = (t.fits s q && prevLt p t && Typ.fitT l (some t) s q) := by
  cases p <;> simp [Typ.fitT, prevLt]
mutual
theorem before_run (t t' : Typ) {v v' : PV} (h : TypV t v) (h' : TypV t' v') (S : St) : R true n_vref12_Before [.agg [.int .i64 t.st, v], .agg [.int .i64 t'.st, v']] S = some (.int .i64 (t.cmp t'), S) := by
  match t, t', h, h' with
  | .mk st a, .mk st' b, h, h' =>
    unfold TypV at h h'
    obtain ⟨es, h1, h2⟩ := h
    obtain ⟨fs, h1', h2'⟩ := h'
    show R true n_vref12_Before [.agg [.int .i64 st, v], .agg [.int .i64 st', v']] S = _
    refine vref12_Before_of ?_
    unfold vref12_Before_b
    rw [Typ.cmp]
    by_cases hc : st = st'
    · rw [if_neg (by simpa using hc), if_neg (by simpa using hc)]
      exact beforeS_run a b h1 h1' h2 h2' [] [] rfl rfl rfl st st' S
    · rw [if_pos (by simpa using hc), if_pos hc]
      by_cases hl : st < st'
      · rw [if_pos (decide_eq_true hl), if_pos hl, fin_self]
      · rw [if_neg (by simpa using hl), if_neg hl, fin_self]
theorem beforeS_run (a b : List (List Typ)) {es es' fs fs' : List PV} {v v' : PV} (h1 : Sl 1 es v) (h1' : Sl 1 fs v') (h2 : SetsL a es') (h2' : SetsL b fs') (pre qre : List PV) (hq : pre.length = qre.length) (he : es = pre ++ es') (hf : fs = qre ++ fs') (st st' : Int) (S : St) :
    vref12_Before_L1 true S st v st' v' pre.length S = some (.int .i64 (Typ.cmpS a b), S) := by
  refine vref12_Before_L1_of ?_
  unfold vref12_Before_L1_b
  have hm := h1.max
  have hm' := h1'.max
  subst he
  subst hf
  rw [h1.len, h1'.len]
  simp only [Option.bind_some]
  have hJ : vref12_Before_J1 true S st v st' v' pre.length false S = some (.int .i64 (less (pre ++ es').length (qre ++ fs').length), S) := by
    refine vref12_Before_J1_of ?_
    unfold vref12_Before_J1_b
    rw [if_neg (by decide), h1.len, h1'.len]
    simp only [Option.bind_some]
    rw [less_run]
    simp only [Option.bind_some, intOf, if_true]
    rw [fin_self]
  match a, h2 with
  | [], h2 =>
    unfold SetsL at h2
    subst h2
    rw [lt_done, if_neg (by decide), hJ]
    match b, h2' with
    | [], h2' =>
      unfold SetsL at h2'
      subst h2'
      rw [Typ.cmpS, less_eq (by simp; omega)]
    | y :: b, h2' =>
      unfold SetsL at h2'
      obtain ⟨e, fs', rfl, _, _⟩ := h2'
      rw [Typ.cmpS, less_lt (by simp; omega)]
  | x :: a, h2 =>
    unfold SetsL at h2
    obtain ⟨e, es', rfl, ⟨xs, h3, h4⟩, h5⟩ := h2
    rw [lt_more, if_pos rfl]
    match b, h2' with
    | [], h2' =>
      unfold SetsL at h2'
      subst h2'
      rw [lt_len0 hq, hJ, Typ.cmpS, less_gt (by simp; omega)]
    | y :: b, h2' =>
      unfold SetsL at h2'
      obtain ⟨f, fs', rfl, ⟨ys, h3', h4'⟩, h5'⟩ := h2'
      rw [lt_len hq]
      clear hJ
      refine vref12_Before_J1_of ?_
      unfold vref12_Before_J1_b
      rw [if_pos rfl, h1.eltV rfl]
      rw [hq, h1'.eltV rfl]
      dsimp only
      have hb : R true n_vref12_beforeSet [e.cell 0, f.cell 0] S = some (.int .i64 (Typ.cmpT x y), S) := by
        refine vref12_beforeSet_of ?_
        unfold vref12_beforeSet_b
        exact beforeT_run x y h3 h3' h4 h4' [] [] rfl rfl rfl S
      rw [hb]
      simp only [Option.bind_some, intOf, if_true]
      rw [Typ.cmpS]
      by_cases hc : Typ.cmpT x y = 0
      · rw [if_neg (by simpa using hc), if_neg (by simpa using hc), ← hq, idx_next pre e es' hm]
        exact beforeS_run a b h1 h1' h5 h5' (pre ++ [e]) (qre ++ [f]) (by simp [hq]) (by simp) (by simp) st st' S
      · rw [if_pos (by simpa using hc), if_pos hc, fin_self]
theorem beforeT_run (a b : List Typ) {es es' fs fs' : List PV} {v v' : PV} (h1 : Sl 2 es v) (h1' : Sl 2 fs v') (h2 : TypL a es') (h2' : TypL b fs') (pre qre : List PV) (hq : pre.length = qre.length) (he : es = pre ++ es') (hf : fs = qre ++ fs') (S : St) :
    vref12_beforeSet_L1 true S v v' pre.length S = some (.int .i64 (Typ.cmpT a b), S) := by
  refine vref12_beforeSet_L1_of ?_
  unfold vref12_beforeSet_L1_b
  have hm := h1.max
  have hm' := h1'.max
  subst he
  subst hf
  rw [h1.len, h1'.len]
  simp only [Option.bind_some]
  have hJ : vref12_beforeSet_J1 true S v v' pre.length false S = some (.int .i64 (less (pre ++ es').length (qre ++ fs').length), S) := by
    refine vref12_beforeSet_J1_of ?_
    unfold vref12_beforeSet_J1_b
    rw [if_neg (by decide), h1.len, h1'.len]
    simp only [Option.bind_some]
    rw [less_run]
    simp only [Option.bind_some, intOf, if_true]
    rw [fin_self]
  match a, h2 with
  | [], h2 =>
    unfold TypL at h2
    subst h2
    rw [lt_done, if_neg (by decide), hJ]
    match b, h2' with
    | [], h2' =>
      unfold TypL at h2'
      subst h2'
      rw [Typ.cmpT, less_eq (by simp; omega)]
    | y :: b, h2' =>
      unfold TypL at h2'
      obtain ⟨e, fs', rfl, _, _⟩ := h2'
      rw [Typ.cmpT, less_lt (by simp; omega)]
  | x :: a, h2 =>
    unfold TypL at h2
    obtain ⟨e, es', rfl, ⟨u, h3, h4⟩, h5⟩ := h2
    rw [lt_more, if_pos rfl]
    match b, h2' with
    | [], h2' =>
      unfold TypL at h2'
      subst h2'
      rw [lt_len0 hq, hJ, Typ.cmpT, less_gt (by simp; omega)]
    | y :: b, h2' =>
      unfold TypL at h2'
      obtain ⟨f, fs', rfl, ⟨u', h3', h4'⟩, h5'⟩ := h2'
      rw [lt_len hq]
      clear hJ
      refine vref12_beforeSet_J1_of ?_
      unfold vref12_beforeSet_J1_b
      rw [if_pos rfl, h1.elt rfl]
      rw [hq, h1'.elt rfl, h3, h3', before_run x y h4 h4' S]
      simp only [Option.bind_some, intOf, if_true]
      rw [Typ.cmpT]
      by_cases hc : x.cmp y = 0
      · rw [if_neg (by simpa using hc), if_neg (by simpa using hc), ← hq, idx_next pre e es' hm]
        exact beforeT_run a b h1 h1' h5 h5' (pre ++ [e]) (qre ++ [f]) (by simp [hq]) (by simp) (by simp) S
      · rw [if_pos (by simpa using hc), if_pos hc, fin_self]
end
theorem ge_len {pre qre : List PV} (h : pre.length = qre.length) (x : PV) (l : List PV) : decide ((pre.length : Int) ≥ ((qre ++ x :: l).length : Int)) = false := by
  simp; omega
theorem ge_len0 {pre qre : List PV} (h : pre.length = qre.length) : decide ((pre.length : Int) ≥ ((qre ++ []).length : Int)) = true := by
  simp; omega
mutual
theorem order_run (t t' : Typ) {v v' : PV} (h : TypV t v) (h' : TypV t' v') (S : St) : R true n_inter_Order [.agg [.int .i64 t.st, v], .agg [.int .i64 t'.st, v']] S = some (.int .i64 (t.cmp t'), S) := by
  match t, t', h, h' with
  | .mk st a, .mk st' b, h, h' =>
    unfold TypV at h h'
    obtain ⟨es, h1, h2⟩ := h
    obtain ⟨fs, h1', h2'⟩ := h'
    show R true n_inter_Order [.agg [.int .i64 st, v], .agg [.int .i64 st', v']] S = _
    refine inter_Order_of ?_
    unfold inter_Order_b
    rw [Typ.cmp]
    by_cases hc : st = st'
    · rw [if_neg (by simpa using hc), if_neg (by simpa using hc)]
      have hb : R true n_slices_CompareFunc_of_Lapi_Type [v, v', .fn n_inter_Order_1 []] S = some (.int .i64 (Typ.cmpS a b), S) := by
        refine slices_CompareFunc_of_Lapi_Type_of ?_
        unfold slices_CompareFunc_of_Lapi_Type_b
        rw [h1.len]
        simp only [Option.bind_some]
        exact orderS_run a b h1 h1' h2 h2' [] [] rfl rfl rfl S
      rw [hb]
      simp only [Option.bind_some, intOf, if_true]
      rw [fin_self]
    · rw [if_pos (by simpa using hc), if_pos hc]
      by_cases hl : st < st'
      · rw [if_pos (decide_eq_true hl), if_pos hl, fin_self]
      · rw [if_neg (by simpa using hl), if_neg hl, fin_self]
theorem orderS_run (a b : List (List Typ)) {es es' fs fs' : List PV} {v v' : PV} (h1 : Sl 1 es v) (h1' : Sl 1 fs v') (h2 : SetsL a es') (h2' : SetsL b fs') (pre qre : List PV) (hq : pre.length = qre.length) (he : es = pre ++ es') (hf : fs = qre ++ fs') (S : St) :
    slices_CompareFunc_of_Lapi_Type_L1 true S v v' (.fn n_inter_Order_1 []) es.length pre.length S = some (.int .i64 (Typ.cmpS a b), S) := by
  refine slices_CompareFunc_of_Lapi_Type_L1_of ?_
  unfold slices_CompareFunc_of_Lapi_Type_L1_b
  have hm := h1.max
  have hm' := h1'.max
  subst he
  subst hf
  match a, h2 with
  | [], h2 =>
    unfold SetsL at h2
    subst h2
    rw [lt_done, if_neg (by decide), h1.len, h1'.len]
    simp only [Option.bind_some]
    match b, h2' with
    | [], h2' =>
      unfold SetsL at h2'
      subst h2'
      rw [Typ.cmpS, if_neg (by simp; omega), fin_self]
    | y :: b, h2' =>
      unfold SetsL at h2'
      obtain ⟨e, fs', rfl, _, _⟩ := h2'
      rw [Typ.cmpS, if_pos (by simp; omega), fin_self]
  | x :: a, h2 =>
    unfold SetsL at h2
    obtain ⟨e, es', rfl, ⟨xs, h3, h4⟩, h5⟩ := h2
    rw [lt_more, if_pos rfl, h1.eltV rfl, h1'.len]
    simp only [Option.bind_some]
    match b, h2' with
    | [], h2' =>
      unfold SetsL at h2'
      subst h2'
      rw [ge_len0 hq, if_pos rfl, Typ.cmpS, fin_self]
    | y :: b, h2' =>
      unfold SetsL at h2'
      obtain ⟨f, fs', rfl, ⟨ys, h3', h4'⟩, h5'⟩ := h2'
      rw [ge_len hq, if_neg (by decide)]
      rw [hq, h1'.eltV rfl]
      simp only [callV, List.append_nil]
      have hb : R true n_inter_Order_1 [e.cell 0, f.cell 0] S = some (.int .i64 (Typ.cmpT x y), S) := by
        refine inter_Order_1_of ?_
        unfold inter_Order_1_b
        have hb : R true n_slices_CompareFunc_of_api_Type [e.cell 0, f.cell 0, .fn n_inter_Order []] S = some (.int .i64 (Typ.cmpT x y), S) := by
          refine slices_CompareFunc_of_api_Type_of ?_
          unfold slices_CompareFunc_of_api_Type_b
          rw [h3.len]
          simp only [Option.bind_some]
          exact orderT_run x y h3 h3' h4 h4' [] [] rfl rfl rfl S
        rw [hb]
        simp only [Option.bind_some, intOf, if_true]
        rw [fin_self]
      rw [hb]
      simp only [Option.bind_some, intOf, if_true]
      rw [Typ.cmpS]
      by_cases hc : Typ.cmpT x y = 0
      · rw [if_neg (by simpa using hc), if_neg (by simpa using hc), ← hq, idx_next pre e es' hm]
        exact orderS_run a b h1 h1' h5 h5' (pre ++ [e]) (qre ++ [f]) (by simp [hq]) (by simp) (by simp) S
      · rw [if_pos (by simpa using hc), if_pos hc, fin_self]
theorem orderT_run (a b : List Typ) {es es' fs fs' : List PV} {v v' : PV} (h1 : Sl 2 es v) (h1' : Sl 2 fs v') (h2 : TypL a es') (h2' : TypL b fs') (pre qre : List PV) (hq : pre.length = qre.length) (he : es = pre ++ es') (hf : fs = qre ++ fs') (S : St) :
    slices_CompareFunc_of_api_Type_L1 true S v v' (.fn n_inter_Order []) es.length pre.length S = some (.int .i64 (Typ.cmpT a b), S) := by
  refine slices_CompareFunc_of_api_Type_L1_of ?_
  unfold slices_CompareFunc_of_api_Type_L1_b
  have hm := h1.max
  have hm' := h1'.max
  subst he
  subst hf
  match a, h2 with
  | [], h2 =>
    unfold TypL at h2
    subst h2
    rw [lt_done, if_neg (by decide), h1.len, h1'.len]
    simp only [Option.bind_some]
    match b, h2' with
    | [], h2' =>
      unfold TypL at h2'
      subst h2'
      rw [Typ.cmpT, if_neg (by simp; omega), fin_self]
    | y :: b, h2' =>
      unfold TypL at h2'
      obtain ⟨e, fs', rfl, _, _⟩ := h2'
      rw [Typ.cmpT, if_pos (by simp; omega), fin_self]
  | x :: a, h2 =>
    unfold TypL at h2
    obtain ⟨e, es', rfl, ⟨u, h3, h4⟩, h5⟩ := h2
    rw [lt_more, if_pos rfl, h1.elt rfl, okCells_agg _ (PV.proj_length e 2), h1'.len]
    simp only [Option.bind_some]
    match b, h2' with
    | [], h2' =>
      unfold TypL at h2'
      subst h2'
      rw [ge_len0 hq, if_pos rfl, Typ.cmpT, fin_self]
    | y :: b, h2' =>
      unfold TypL at h2'
      obtain ⟨f, fs', rfl, ⟨u', h3', h4'⟩, h5'⟩ := h2'
      rw [ge_len hq, if_neg (by decide)]
      rw [hq, h1'.elt rfl, okCells_agg _ (PV.proj_length f 2), h3, h3']
      simp only [Option.bind_some, callV, List.append_nil]
      show (R true n_inter_Order [.agg [.int .i64 x.st, u], .agg [.int .i64 y.st, u']] S).bind _ = _
      rw [order_run x y h4 h4' S]
      simp only [Option.bind_some, intOf, if_true]
      rw [Typ.cmpT]
      by_cases hc : x.cmp y = 0
      · rw [if_neg (by simpa using hc), if_neg (by simpa using hc), ← hq, idx_next pre e es' hm]
        exact orderT_run a b h1 h1' h5 h5' (pre ++ [e]) (qre ++ [f]) (by simp [hq]) (by simp) (by simp) S
      · rw [if_pos (by simpa using hc), if_pos hc, fin_self]
end
mutual
theorem fits_run (t : Typ) (s : Srt) (q : Int) {v sv : PV} (h : TypV t v) (hs : SrtV s sv) (S : St) : R true n_inter_fits [.agg [sv], .int .i64 q, .agg [.int .i64 t.st, v]] S = some (.bool (t.fits s q), S) := by
  match t, s, h, hs with
  | .mk st a, .mk l, h, hs =>
    unfold TypV at h
    unfold SrtV at hs
    obtain ⟨es, h1, h2⟩ := h
    obtain ⟨fs, g1, g2⟩ := hs
    show R true n_inter_fits [.agg [sv], .int .i64 q, .agg [.int .i64 st, v]] S = _
    refine inter_fits_of ?_
    unfold inter_fits_b
    rw [Typ.fits]
    have hJ : ∀ b : Bool, (b = false → a.length = l.length) → inter_fits_J1 true S q sv st v b S = some (.bool (!b && Typ.fitS a l q), S) := by
      intro b hb
      refine inter_fits_J1_of ?_
      unfold inter_fits_J1_b
      cases b with
      | true => rw [if_pos rfl, fin_self]; rfl
      | false =>
        rw [if_neg (by decide), h1.len]
        simp only [Option.bind_some]
        exact fitsS_run a l q h1 g1 h2 g2 (hb rfl) [] [] rfl rfl rfl S
    by_cases c1 : st < 0
    · rw [if_pos (decide_eq_true c1), hJ true (by simp)]; simp [c1]
    · rw [if_neg (by simpa using c1)]
      by_cases c2 : st ≥ q
      · rw [if_pos (decide_eq_true c2), hJ true (by simp)]; simp [c2]
      · rw [if_neg (by simpa using c2), h1.len, g1.len]
        simp only [Option.bind_some]
        rw [h2.len, g2.len]
        rw [hJ _ (by simp; omega)]
        have : ((a.length : Int) != (l.length : Int)) = decide (a.length ≠ l.length) := by
          by_cases hh : a.length = l.length
          · simp [hh]
          · have : (a.length : Int) ≠ (l.length : Int) := by omega
            simp [hh, this]
        rw [this]
        simp [c1, c2]
theorem fitsS_run (a : List (List Typ)) (l : List Srt) (q : Int) {es es' fs fs' : List PV} {v sv : PV} (h1 : Sl 1 es v) (g1 : Sl 1 fs sv) (h2 : SetsL a es') (g2 : SrtL l fs') (hl : a.length = l.length) (pre qre : List PV) (hq : pre.length = qre.length) (he : es = pre ++ es') (hf : fs = qre ++ fs') (S : St) :
    inter_fits_L1 true S q sv v es.length pre.length S = some (.bool (Typ.fitS a l q), S) := by
  refine inter_fits_L1_of ?_
  unfold inter_fits_L1_b
  have hm := h1.max
  subst he
  subst hf
  match a, h2 with
  | [], h2 =>
    unfold SetsL at h2
    subst h2
    rw [lt_done, if_neg (by decide), Typ.fitS, fin_self]
  | x :: a, h2 =>
    unfold SetsL at h2
    obtain ⟨e, es', rfl, ⟨xs, h3, h4⟩, h5⟩ := h2
    match l, g2 with
    | [], g2 => simp at hl
    | s :: l, g2 =>
      unfold SrtL at g2
      obtain ⟨f, fs', rfl, g3, g4⟩ := g2
      rw [lt_more, if_pos rfl, h1.eltV rfl]
      rw [hq, g1.elt rfl, show f.proj 1 = [f.cell 0] from rfl]
      have hb : R true n_inter_fit [.agg [f.cell 0], .int .i64 q, e.cell 0] S = some (.bool (Typ.fitT x none s q), S) := by
        refine inter_fit_of ?_
        unfold inter_fit_b
        rw [h3.len]
        simp only [Option.bind_some]
        exact fitsT_run x none s q h3 g3 h4 [] rfl rfl S
      dsimp only
      rw [hb]
      simp only [Option.bind_some, Abs.asBool]
      rw [Typ.fitS]
      cases Typ.fitT x none s q with
      | false => rw [fin_self]; rfl
      | true =>
        rw [if_neg (by decide), ← hq, idx_next pre e es' hm]
        exact fitsS_run a l q h1 g1 h5 g4 (by simpa using hl) (pre ++ [e]) (qre ++ [f]) (by simp [hq]) (by simp) (by simp) S
theorem fitsT_run (l : List Typ) (p : Option Typ) (s : Srt) (q : Int) {xs xs' : List PV} {v sv : PV} (h1 : Sl 2 xs v) (hs : SrtV s sv) (h2 : TypL l xs') (pre : List PV) (he : xs = pre ++ xs')
    (hp : match p with | none => pre = [] | some tp => ∃ pre' x u, pre = pre' ++ [x] ∧ x.proj 2 = [.int .i64 tp.st, u] ∧ TypV tp u) (S : St) :
    inter_fit_L1 true S q v sv xs.length pre.length S = some (.bool (Typ.fitT l p s q), S) := by
  refine inter_fit_L1_of ?_
  unfold inter_fit_L1_b
  have hm := h1.max
  subst he
  match l, h2 with
  | [], h2 =>
    unfold TypL at h2
    subst h2
    rw [lt_done, if_neg (by decide), Typ.fitT, fin_self]
  | t :: l, h2 =>
    unfold TypL at h2
    obtain ⟨e, xs', rfl, ⟨u, h3, h4⟩, h5⟩ := h2
    rw [lt_more, if_pos rfl, h1.elt rfl, okCells_agg _ (PV.proj_length e 2), h3]
    simp only [Option.bind_some]
    show (R true n_inter_fits [.agg [sv], .int .i64 q, .agg [.int .i64 t.st, u]] S).bind _ = _
    rw [fits_run t s q h4 hs S]
    simp only [Option.bind_some, Abs.asBool]
    rw [fitT_cons]
    have hJ : ∀ b : Bool, inter_fit_J1 true S q v sv (pre ++ e :: xs').length pre.length b S = some (.bool (!b && Typ.fitT l (some t) s q), S) := by
      intro b
      refine inter_fit_J1_of ?_
      unfold inter_fit_J1_b
      cases b with
      | true => rw [if_pos rfl, fin_self]; rfl
      | false =>
        rw [if_neg (by decide), idx_next pre e xs' hm]
        exact fitsT_run l (some t) s q h1 hs h5 (pre ++ [e]) (by simp) ⟨pre, e, u, rfl, h3, h4⟩ S
    cases t.fits s q with
    | false => rw [if_pos (by decide), hJ]; rfl
    | true =>
      rw [if_neg (by decide)]
      cases p with
      | none =>
        simp only at hp
        subst hp
        rw [if_neg (by decide), hJ]
        rfl
      | some tp =>
        simp only at hp
        obtain ⟨pre', x, w, rfl, h6, h7⟩ := hp
        rw [if_pos (by simp)]
        have hw : IntKind.wrap .i64 (((pre' ++ [x]).length : Int) - 1) = (pre'.length : Int) := by
          rw [wrap_in (by simp at hm ⊢; omega)]
          simp
        rw [hw, h1.elt (pre := pre') (e := x) (suf := e :: xs') (by simp), h6]
        show (R true n_inter_Order [.agg [.int .i64 tp.st, w], .agg [.int .i64 t.st, u]] S).bind _ = _
        rw [order_run tp t h7 h4 S]
        simp only [Option.bind_some, intOf, if_true]
        rw [hJ]
        have : (!decide (tp.cmp t ≥ 0)) = decide (tp.cmp t < 0) := by
          by_cases hh : tp.cmp t < 0
          · simp [hh]
          · simp [hh]; omega
        rw [this]
        simp [prevLt]
end
mutual
theorem shaped_run (t : Typ) (s : Srt) (q : Int) {v sv : PV} (h : TypV t v) (hs : SrtV s sv) (S : St) : R true n_vref12_shaped [.agg [sv], .int .i64 q, .agg [.int .i64 t.st, v]] S = some (.bool (t.fits s q), S) := by
  match t, s, h, hs with
  | .mk st a, .mk l, h, hs =>
    unfold TypV at h
    unfold SrtV at hs
    obtain ⟨es, h1, h2⟩ := h
    obtain ⟨fs, g1, g2⟩ := hs
    show R true n_vref12_shaped [.agg [sv], .int .i64 q, .agg [.int .i64 st, v]] S = _
    refine vref12_shaped_of ?_
    unfold vref12_shaped_b
    rw [Typ.fits]
    have hJ : ∀ b : Bool, (b = false → a.length = l.length) → vref12_shaped_J1 true S q sv st v b S = some (.bool (!b && Typ.fitS a l q), S) := by
      intro b hb
      refine vref12_shaped_J1_of ?_
      unfold vref12_shaped_J1_b
      cases b with
      | true => rw [if_pos rfl, fin_self]; rfl
      | false =>
        rw [if_neg (by decide), h1.len]
        simp only [Option.bind_some]
        exact shapedS_run a l q h1 g1 h2 g2 (hb rfl) [] [] rfl rfl rfl S
    by_cases c1 : st < 0
    · rw [if_pos (decide_eq_true c1), hJ true (by simp)]; simp [c1]
    · rw [if_neg (by simpa using c1)]
      by_cases c2 : st ≥ q
      · rw [if_pos (decide_eq_true c2), hJ true (by simp)]; simp [c2]
      · rw [if_neg (by simpa using c2), h1.len, g1.len]
        simp only [Option.bind_some]
        rw [h2.len, g2.len]
        rw [hJ _ (by simp; omega)]
        have : ((a.length : Int) != (l.length : Int)) = decide (a.length ≠ l.length) := by
          by_cases hh : a.length = l.length
          · simp [hh]
          · have : (a.length : Int) ≠ (l.length : Int) := by omega
            simp [hh, this]
        rw [this]
        simp [c1, c2]
theorem shapedS_run (a : List (List Typ)) (l : List Srt) (q : Int) {es es' fs fs' : List PV} {v sv : PV} (h1 : Sl 1 es v) (g1 : Sl 1 fs sv) (h2 : SetsL a es') (g2 : SrtL l fs') (hl : a.length = l.length) (pre qre : List PV) (hq : pre.length = qre.length) (he : es = pre ++ es') (hf : fs = qre ++ fs') (S : St) :
    vref12_shaped_L1 true S q sv v es.length pre.length S = some (.bool (Typ.fitS a l q), S) := by
  refine vref12_shaped_L1_of ?_
  unfold vref12_shaped_L1_b
  have hm := h1.max
  subst he
  subst hf
  match a, h2 with
  | [], h2 =>
    unfold SetsL at h2
    subst h2
    rw [lt_done, if_neg (by decide), Typ.fitS, fin_self]
  | x :: a, h2 =>
    unfold SetsL at h2
    obtain ⟨e, es', rfl, ⟨xs, h3, h4⟩, h5⟩ := h2
    match l, g2 with
    | [], g2 => simp at hl
    | s :: l, g2 =>
      unfold SrtL at g2
      obtain ⟨f, fs', rfl, g3, g4⟩ := g2
      rw [lt_more, if_pos rfl, h1.eltV rfl]
      rw [hq, g1.elt rfl, show f.proj 1 = [f.cell 0] from rfl]
      have hb : R true n_vref12_Rising [.agg [f.cell 0], .int .i64 q, e.cell 0] S = some (.bool (Typ.fitT x none s q), S) := by
        refine vref12_Rising_of ?_
        unfold vref12_Rising_b
        rw [h3.len]
        simp only [Option.bind_some]
        exact shapedT_run x none s q h3 g3 h4 [] rfl rfl S
      dsimp only
      rw [hb]
      simp only [Option.bind_some, Abs.asBool]
      rw [Typ.fitS]
      cases Typ.fitT x none s q with
      | false => rw [fin_self]; rfl
      | true =>
        rw [if_neg (by decide), ← hq, idx_next pre e es' hm]
        exact shapedS_run a l q h1 g1 h5 g4 (by simpa using hl) (pre ++ [e]) (qre ++ [f]) (by simp [hq]) (by simp) (by simp) S
theorem shapedT_run (l : List Typ) (p : Option Typ) (s : Srt) (q : Int) {xs xs' : List PV} {v sv : PV} (h1 : Sl 2 xs v) (hs : SrtV s sv) (h2 : TypL l xs') (pre : List PV) (he : xs = pre ++ xs')
    (hp : match p with | none => pre = [] | some tp => ∃ pre' x u, pre = pre' ++ [x] ∧ x.proj 2 = [.int .i64 tp.st, u] ∧ TypV tp u) (S : St) :
    vref12_Rising_L1 true S q v sv xs.length pre.length S = some (.bool (Typ.fitT l p s q), S) := by
  refine vref12_Rising_L1_of ?_
  unfold vref12_Rising_L1_b
  have hm := h1.max
  subst he
  match l, h2 with
  | [], h2 =>
    unfold TypL at h2
    subst h2
    rw [lt_done, if_neg (by decide), Typ.fitT, fin_self]
  | t :: l, h2 =>
    unfold TypL at h2
    obtain ⟨e, xs', rfl, ⟨u, h3, h4⟩, h5⟩ := h2
    rw [lt_more, if_pos rfl, h1.elt rfl, okCells_agg _ (PV.proj_length e 2), h3]
    simp only [Option.bind_some]
    show (R true n_vref12_shaped [.agg [sv], .int .i64 q, .agg [.int .i64 t.st, u]] S).bind _ = _
    rw [shaped_run t s q h4 hs S]
    simp only [Option.bind_some, Abs.asBool]
    rw [fitT_cons]
    have hJ : ∀ b : Bool, vref12_Rising_J1 true S q v sv (pre ++ e :: xs').length pre.length b S = some (.bool (!b && Typ.fitT l (some t) s q), S) := by
      intro b
      refine vref12_Rising_J1_of ?_
      unfold vref12_Rising_J1_b
      cases b with
      | true => rw [if_pos rfl, fin_self]; rfl
      | false =>
        rw [if_neg (by decide), idx_next pre e xs' hm]
        exact shapedT_run l (some t) s q h1 hs h5 (pre ++ [e]) (by simp) ⟨pre, e, u, rfl, h3, h4⟩ S
    cases t.fits s q with
    | false => rw [if_pos (by decide), hJ]; rfl
    | true =>
      rw [if_neg (by decide)]
      cases p with
      | none =>
        simp only at hp
        subst hp
        rw [if_neg (by decide), hJ]
        rfl
      | some tp =>
        simp only at hp
        obtain ⟨pre', x, w, rfl, h6, h7⟩ := hp
        rw [if_pos (by simp)]
        have hw : IntKind.wrap .i64 (((pre' ++ [x]).length : Int) - 1) = (pre'.length : Int) := by
          rw [wrap_in (by simp at hm ⊢; omega)]
          simp
        rw [hw, h1.elt (pre := pre') (e := x) (suf := e :: xs') (by simp), h6]
        show (R true n_vref12_Before [.agg [.int .i64 tp.st, w], .agg [.int .i64 t.st, u]] S).bind _ = _
        rw [before_run tp t h7 h4 S]
        simp only [Option.bind_some, intOf, if_true]
        rw [hJ]
        have : (!decide (tp.cmp t ≥ 0)) = decide (tp.cmp t < 0) := by
          by_cases hh : tp.cmp t < 0
          · simp [hh]
          · simp [hh]; omega
        rw [this]
        simp [prevLt]
end
end Go.Proofs.YtjdknnlhhenpnaaGreatDoor
namespace Go.Vir
open Go Go.Abs
def placeE (s : Srt) (q : Int) : Int := if s.check ≠ 0 then s.check else if q < 1 then 2 else if q > 6 then 2 else 0
def checkE (s : Srt) (q : Int) (t : Typ) : Int := if placeE s q ≠ 0 then placeE s q else if t.large then 12 else if t.fits s q then 0 else 12
def idxT : List Typ → Nat → Int
  | [], _ => -1
  | t :: l, i => if t.large then i else idxT l (i + 1)
theorem idxT_any : ∀ (l : List Typ) (i : Nat), decide (idxT l i ≥ 0) = l.any fun t => t.large
  | [], i => rfl
  | t :: l, i => by
    rw [idxT, List.any_cons]
    cases t.large with
    | true => simp
    | false => simpa using idxT_any l (i + 1)
def checkSetE (s : Srt) (q : Int) (l : List Typ) : Int := if placeE s q ≠ 0 then placeE s q else if (l.length : Int) > 4096 then 12 else if l.any (fun t => t.large) then 12 else if Typ.fitT l none s q then 0 else 12
def isE (s : Srt) (q : Int) (t : Typ) : Bool := !t.large' && t.fits s q
def isSetE (s : Srt) (q : Int) (l : List Typ) : Bool := decide ((l.length : Int) ≤ 4096) && (l.all (fun t => !t.large') && Typ.fitT l none s q)
end Go.Vir
namespace Go.Proofs.YtjdknnlhhenpnaaGreatDoor
open Go Go.Abs Go.Vir
theorem place_run (s : Srt) (q : Int) {sv : PV} (hs : SrtV s sv) (S : St) : R true n_inter_place [.agg [sv], .int .i64 q] S = some (.int .i64 (placeE s q), S) := by
  refine inter_place_of ?_
  unfold inter_place_b placeE
  rw [check_run s hs]
  simp only [Option.bind_some, intOf, if_true]
  have hJ : ∀ b : Bool, inter_place_J1 true S b S = some (.int .i64 (if b then 2 else 0), S) := by
    intro b
    refine inter_place_J1_of ?_
    unfold inter_place_J1_b
    cases b <;> (rw [fin_self, fin_self]; rfl)
  by_cases h1 : s.check = 0
  · rw [if_neg (show ¬ (s.check != 0) = true from by simpa using h1), if_neg (show ¬ (s.check ≠ 0) from by simpa using h1)]
    by_cases h2 : q < 1
    · rw [if_pos (decide_eq_true h2), if_pos h2, hJ]; rfl
    · rw [if_neg (show ¬ decide (q < 1) = true from by simpa using h2), if_neg h2, hJ]
      by_cases h3 : q > 6
      · rw [if_pos (decide_eq_true h3), if_pos h3]
      · rw [if_neg (show ¬ decide (q > 6) = true from by simpa using h3), if_neg h3]
  · rw [if_pos (by simpa using h1), if_pos h1, fin_self]
theorem tcheck_run (s : Srt) (q : Int) (t : Typ) {sv v : PV} (hs : SrtV s sv) (h : TypV t v) (S : St) : R true n_inter_Check [.agg [sv], .int .i64 q, .agg [.int .i64 t.st, v]] S = some (.int .i64 (checkE s q t), S) := by
  refine inter_Check_of ?_
  unfold inter_Check_b checkE
  rw [place_run s q hs]
  simp only [Option.bind_some, intOf, if_true]
  have hJ : ∀ b : Bool, inter_Check_J1 true S b S = some (.int .i64 (if b then 12 else 0), S) := by
    intro b
    refine inter_Check_J1_of ?_
    unfold inter_Check_J1_b
    cases b <;> (rw [fin_self, fin_self]; rfl)
  by_cases h1 : placeE s q = 0
  · rw [if_neg (by simpa using h1), if_neg (by simpa using h1), large_run t h]
    simp only [Option.bind_some, Abs.asBool]
    cases t.large with
    | true => rw [if_pos rfl, if_pos rfl, hJ]; rfl
    | false =>
      rw [if_neg (by decide), if_neg (by decide), fits_run t s q h hs]
      simp only [Option.bind_some]
      rw [hJ]
      cases t.fits s q <;> rfl
  · rw [if_pos (by simpa using h1), if_pos h1, fin_self]
theorem idxT_run (l : List Typ) {xs xs' : List PV} {v : PV} (h1 : Sl 2 xs v) (h2 : TypL l xs') (pre : List PV) (he : xs = pre ++ xs') (S : St) :
    slices_IndexFunc_of_api_Type_L1 true S v (.fn n_inter_large []) xs.length pre.length S = some (.int .i64 (idxT l pre.length), S) := by
  induction l generalizing xs' pre with
  | nil =>
    refine slices_IndexFunc_of_api_Type_L1_of ?_
    unfold slices_IndexFunc_of_api_Type_L1_b
    unfold TypL at h2
    subst h2
    subst he
    rw [lt_done, if_neg (by decide), idxT, fin_self]
  | cons t l ih =>
    refine slices_IndexFunc_of_api_Type_L1_of ?_
    unfold slices_IndexFunc_of_api_Type_L1_b
    have hm := h1.max
    unfold TypL at h2
    obtain ⟨e, xs', rfl, ⟨u, h3, h4⟩, h5⟩ := h2
    subst he
    rw [lt_more, if_pos rfl, h1.elt rfl, h3]
    simp only [callV, List.append_nil]
    rw [large_run t h4 S]
    simp only [Option.bind_some, Abs.asBool]
    rw [idxT]
    cases t.large with
    | true => rw [if_pos rfl, if_pos rfl, fin_self]
    | false =>
      rw [if_neg (by decide), if_neg (by decide), idx_next pre e xs' hm]
      have := ih h5 (pre ++ [e]) (by simp)
      simpa using this
theorem containsT_run (l : List Typ) {v : PV} (h : SetV l v) (S : St) : R true n_slices_ContainsFunc_of_api_Type [v, .fn n_inter_large []] S = some (.bool (l.any fun t => t.large), S) := by
  obtain ⟨xs, h1, h2⟩ := h
  refine slices_ContainsFunc_of_api_Type_of ?_
  unfold slices_ContainsFunc_of_api_Type_b
  have hb : R true n_slices_IndexFunc_of_api_Type [v, .fn n_inter_large []] S = some (.int .i64 (idxT l 0), S) := by
    refine slices_IndexFunc_of_api_Type_of ?_
    unfold slices_IndexFunc_of_api_Type_b
    rw [h1.len]
    simp only [Option.bind_some]
    exact idxT_run l h1 h2 [] rfl S
  rw [hb]
  simp only [Option.bind_some, intOf, if_true]
  rw [fin_self, idxT_any]
theorem tcheckSet_run (s : Srt) (q : Int) (l : List Typ) {sv v : PV} (hs : SrtV s sv) (h : SetV l v) (S : St) : R true n_inter_CheckSet [.agg [sv], .int .i64 q, v] S = some (.int .i64 (checkSetE s q l), S) := by
  have h0 := h
  obtain ⟨xs, h1, h2⟩ := h
  refine inter_CheckSet_of ?_
  unfold inter_CheckSet_b checkSetE
  rw [place_run s q hs]
  simp only [Option.bind_some, intOf, if_true]
  have hJ : ∀ b : Bool, inter_CheckSet_J1 true S b S = some (.int .i64 (if b then 12 else 0), S) := by
    intro b
    refine inter_CheckSet_J1_of ?_
    unfold inter_CheckSet_J1_b
    cases b <;> (rw [fin_self, fin_self]; rfl)
  by_cases c1 : placeE s q = 0
  · rw [if_neg (by simpa using c1), if_neg (by simpa using c1), h1.len, h2.len]
    simp only [Option.bind_some]
    by_cases c2 : (l.length : Int) > 4096
    · rw [if_pos (decide_eq_true c2), if_pos c2, hJ]; rfl
    · rw [if_neg (by simpa using c2), if_neg c2, containsT_run l h0]
      simp only [Option.bind_some, Abs.asBool]
      cases l.any (fun t => t.large) with
      | true => rw [if_pos rfl, if_pos rfl, hJ]; rfl
      | false =>
        rw [if_neg (by decide), if_neg (by decide)]
        have hb : R true n_inter_fit [.agg [sv], .int .i64 q, v] S = some (.bool (Typ.fitT l none s q), S) := by
          refine inter_fit_of ?_
          unfold inter_fit_b
          rw [h1.len]
          simp only [Option.bind_some]
          exact fitsT_run l none s q h1 hs h2 [] rfl rfl S
        rw [hb]
        simp only [Option.bind_some]
        rw [hJ]
        cases Typ.fitT l none s q <;> rfl
  · rw [if_pos (by simpa using c1), if_pos c1, fin_self]
theorem tis_run (s : Srt) (q : Int) (t : Typ) {sv v : PV} (hs : SrtV s sv) (h : TypV t v) (S : St) : R true n_vref12_Is [.agg [sv], .int .i64 q, .agg [.int .i64 t.st, v]] S = some (.bool (isE s q t), S) := by
  refine vref12_Is_of ?_
  unfold vref12_Is_b isE
  rw [large'_run t h]
  simp only [Option.bind_some, Abs.asBool]
  cases t.large' with
  | true => rw [if_neg (by decide), fin_self]; rfl
  | false =>
    rw [if_pos (by decide), shaped_run t s q h hs]
    simp only [Option.bind_some]
    rw [fin_self]
    rfl
theorem isSetL_run (l l0 : List Typ) (s : Srt) (q : Int) {xs xs' : List PV} {sv v : PV} (hs : SrtV s sv) (h1 : Sl 2 xs v) (h0 : TypL l0 xs) (h2 : TypL l xs') (pre : List PV) (he : xs = pre ++ xs') (S : St) :
    vref12_IsSet_L1 true S q v sv xs.length pre.length S = some (.bool (l.all (fun t => !t.large') && Typ.fitT l0 none s q), S) := by
  induction l generalizing xs' pre with
  | nil =>
    refine vref12_IsSet_L1_of ?_
    unfold vref12_IsSet_L1_b
    unfold TypL at h2
    subst h2
    rw [show decide ((pre.length : Int) < (xs.length : Int)) = false from by subst he; exact lt_done pre, if_neg (by decide)]
    have hb : R true n_vref12_Rising [.agg [sv], .int .i64 q, v] S = some (.bool (Typ.fitT l0 none s q), S) := by
      refine vref12_Rising_of ?_
      unfold vref12_Rising_b
      rw [h1.len]
      simp only [Option.bind_some]
      exact shapedT_run l0 none s q h1 hs h0 [] rfl rfl S
    rw [hb]
    simp only [Option.bind_some, Abs.asBool]
    rw [fin_self]
    rfl
  | cons t l ih =>
    refine vref12_IsSet_L1_of ?_
    unfold vref12_IsSet_L1_b
    have hm := h1.max
    unfold TypL at h2
    obtain ⟨e, xs', rfl, ⟨u, h3, h4⟩, h5⟩ := h2
    rw [show decide ((pre.length : Int) < (xs.length : Int)) = true from by subst he; exact lt_more pre e xs', if_pos rfl, h1.elt he, okCells_agg _ (PV.proj_length e 2), h3]
    simp only [Option.bind_some]
    show (R true n_vref12_Large [.agg [.int .i64 t.st, u]] S).bind _ = _
    rw [large'_run t h4 S]
    simp only [Option.bind_some, Abs.asBool]
    rw [List.all_cons]
    cases t.large' with
    | true => rw [if_pos rfl, fin_self]; rfl
    | false =>
      rw [if_neg (by decide), idx_next pre e xs' (by rw [← he]; exact hm)]
      have := ih h5 (pre ++ [e]) (by simp [he])
      simpa using this
theorem tisSet_run (s : Srt) (q : Int) (l : List Typ) {sv v : PV} (hs : SrtV s sv) (h : SetV l v) (S : St) : R true n_vref12_IsSet [.agg [sv], .int .i64 q, v] S = some (.bool (isSetE s q l), S) := by
  obtain ⟨xs, h1, h2⟩ := h
  refine vref12_IsSet_of ?_
  unfold vref12_IsSet_b isSetE
  rw [h1.len]
  simp only [Option.bind_some]
  by_cases c : (l.length : Int) > 4096
  · rw [if_pos (by rw [h2.len]; exact decide_eq_true c), fin_self]
    have : decide ((l.length : Int) ≤ 4096) = false := by simp; omega
    rw [this]; rfl
  · rw [if_neg (by rw [h2.len]; simpa using c)]
    have : decide ((l.length : Int) ≤ 4096) = true := by simp; omega
    rw [this, Bool.true_and]
    exact isSetL_run l l s q hs h1 h2 h2 [] rfl S
end Go.Proofs.YtjdknnlhhenpnaaGreatDoor
namespace Go.Proofs.YtjdknnlhhenpnaaGreatDoor
open Go Go.Abs Go.Vir
theorem eltI {es pre suf : List PV} {e v : PV} {n : Int} (h : Sl 1 es v) (he : es = pre ++ e :: suf) (hn : e.cell 0 = .int .i64 n) (S : Option St) {α : Type} (K : Int → Option α) :
    ((iadr 1 v (pre.length : Int)).bind fun y => ((ldP S false 1 y).bind (intOf .i64)).bind K) = K n := by
  obtain ⟨a, ha⟩ := h.iadr he
  rw [ha]
  show (((ldP S false 1 (.ip a (e.proj 1))).bind (intOf .i64)).bind K) = _
  rw [show e.proj 1 = [e.cell 0] from rfl, hn]
  rfl
theorem rkL_run (l l0 : List Int) {es es' : List PV} {v : PV} (h1 : Sl 1 es v) (h0 : IntL l0 es) (h2 : IntL l es') (pre : List PV) (he : es = pre ++ es') (S : St) :
    tree_Ranks_L1 true S v es.length pre.length S = some (.bool (l.all (fun r => !(decide (r < 0) || decide (r > 4))) && decide ((l0.length : Int) ≤ 24)), S) := by
  induction l generalizing es' pre with
  | nil =>
    refine tree_Ranks_L1_of ?_
    unfold tree_Ranks_L1_b
    unfold IntL at h2
    subst h2
    rw [show decide ((pre.length : Int) < (es.length : Int)) = false from by subst he; exact lt_done pre, if_neg (by decide), h1.len, h0.len]
    simp only [Option.bind_some]
    rw [fin_self]
    rfl
  | cons n l ih =>
    refine tree_Ranks_L1_of ?_
    unfold tree_Ranks_L1_b
    have hm := h1.max
    unfold IntL at h2
    obtain ⟨e, es', rfl, h3, h4⟩ := h2
    rw [show decide ((pre.length : Int) < (es.length : Int)) = true from by subst he; exact lt_more pre e es', if_pos rfl, eltI h1 he h3]
    have hJ : ∀ b : Bool, tree_Ranks_J1 true S v es.length pre.length b S = some (.bool (!b && (l.all (fun r => !(decide (r < 0) || decide (r > 4))) && decide ((l0.length : Int) ≤ 24))), S) := by
      intro b
      refine tree_Ranks_J1_of ?_
      unfold tree_Ranks_J1_b
      cases b with
      | true => rw [if_pos rfl, fin_self]; rfl
      | false =>
        rw [if_neg (by decide), idx_next pre e es' (by rw [← he]; exact hm)]
        exact ih h4 (pre ++ [e]) (by simp [he])
    rw [List.all_cons]
    by_cases h5 : n < 0
    · rw [if_pos (decide_eq_true h5), hJ]; simp [h5]
    · rw [if_neg (by simpa using h5), hJ]; simp [h5, Bool.and_assoc]
theorem rk_run (l : List Int) {v : PV} (h : IntV l v) (S : St) : R true n_tree_Ranks [v] S = some (.bool (rksE l), S) := by
  obtain ⟨es, h1, h2⟩ := h
  refine tree_Ranks_of ?_
  unfold tree_Ranks_b
  rw [h1.len]
  simp only [Option.bind_some]
  exact rkL_run l l h1 h2 h2 [] rfl S
theorem rk'L_run (l l0 : List Int) {es es' : List PV} {v : PV} (h1 : Sl 1 es v) (h0 : IntL l0 es) (h2 : IntL l es') (pre : List PV) (he : es = pre ++ es') (S : St) :
    vref06_Ranks_L1 true S v es.length pre.length S = some (.bool (l.all (fun r => !(decide (r < 0) || decide (r > 4))) && decide ((l0.length : Int) ≤ 24)), S) := by
  induction l generalizing es' pre with
  | nil =>
    refine vref06_Ranks_L1_of ?_
    unfold vref06_Ranks_L1_b
    unfold IntL at h2
    subst h2
    rw [show decide ((pre.length : Int) < (es.length : Int)) = false from by subst he; exact lt_done pre, if_neg (by decide), h1.len, h0.len]
    simp only [Option.bind_some]
    rw [fin_self]
    rfl
  | cons n l ih =>
    refine vref06_Ranks_L1_of ?_
    unfold vref06_Ranks_L1_b
    have hm := h1.max
    unfold IntL at h2
    obtain ⟨e, es', rfl, h3, h4⟩ := h2
    rw [show decide ((pre.length : Int) < (es.length : Int)) = true from by subst he; exact lt_more pre e es', if_pos rfl, eltI h1 he h3]
    have hJ : ∀ b : Bool, vref06_Ranks_J1 true S v es.length pre.length b S = some (.bool (!b && (l.all (fun r => !(decide (r < 0) || decide (r > 4))) && decide ((l0.length : Int) ≤ 24))), S) := by
      intro b
      refine vref06_Ranks_J1_of ?_
      unfold vref06_Ranks_J1_b
      cases b with
      | true => rw [if_pos rfl, fin_self]; rfl
      | false =>
        rw [if_neg (by decide), idx_next pre e es' (by rw [← he]; exact hm)]
        exact ih h4 (pre ++ [e]) (by simp [he])
    rw [List.all_cons]
    by_cases h5 : n < 0
    · rw [if_pos (decide_eq_true h5), hJ]; simp [h5]
    · rw [if_neg (by simpa using h5), hJ]; simp [h5, Bool.and_assoc]
theorem rk'_run (l : List Int) {v : PV} (h : IntV l v) (S : St) : R true n_vref06_Ranks [v] S = some (.bool (rksE l), S) := by
  obtain ⟨es, h1, h2⟩ := h
  refine vref06_Ranks_of ?_
  unfold vref06_Ranks_b
  rw [h1.len]
  simp only [Option.bind_some]
  exact rk'L_run l l h1 h2 h2 [] rfl S
theorem nd1_run (x y : Nd) (S : St) : R true n_auto_Before [.agg [.int .i64 x.1, .int .i64 x.2], .agg [.int .i64 y.1, .int .i64 y.2]] S = some (.int .i64 (nd1 x y), S) := by
  refine auto_Before_of ?_
  unfold auto_Before_b nd1
  by_cases h : x.1 = y.1
  · rw [if_neg (show ¬ (x.1 != y.1) = true from by simpa using h), if_neg (show ¬ (x.1 ≠ y.1) from by simpa using h), fin_self]
  · rw [if_pos (show (x.1 != y.1) = true from by simpa using h), if_pos h, fin_self]
theorem cmpNL_run (a b : List Nd) {es es' fs fs' : List PV} {v v' : PV} (h1 : Sl 2 es v) (h1' : Sl 2 fs v') (h2 : NdL a es') (h2' : NdL b fs') (pre qre : List PV) (hq : pre.length = qre.length) (he : es = pre ++ es') (hf : fs = qre ++ fs') (S : St) :
    slices_CompareFunc_of_api_Need_L1 true S v v' (.fn n_auto_Before []) es.length pre.length S = some (.int .i64 (cmpL nd1 a b), S) := by
  induction a generalizing b es' fs' pre qre with
  | nil =>
    refine slices_CompareFunc_of_api_Need_L1_of ?_
    unfold slices_CompareFunc_of_api_Need_L1_b
    subst he
    subst hf
    unfold NdL at h2
    subst h2
    rw [lt_done, if_neg (by decide), h1.len, h1'.len]
    simp only [Option.bind_some]
    cases b with
    | nil =>
      unfold NdL at h2'
      subst h2'
      rw [cmpL, if_neg (by simp; omega), fin_self]
    | cons y b =>
      unfold NdL at h2'
      obtain ⟨e, fs', rfl, _, _⟩ := h2'
      rw [cmpL, if_pos (by simp; omega), fin_self]
  | cons x a ih =>
    refine slices_CompareFunc_of_api_Need_L1_of ?_
    unfold slices_CompareFunc_of_api_Need_L1_b
    have hm := h1.max
    unfold NdL at h2
    obtain ⟨e, es', rfl, h3, h5⟩ := h2
    rw [show decide ((pre.length : Int) < (es.length : Int)) = true from by subst he; exact lt_more pre e es', if_pos rfl, h1.elt he, okCells_agg _ (PV.proj_length e 2), h1'.len]
    simp only [Option.bind_some]
    cases b with
    | nil =>
      unfold NdL at h2'
      subst h2'
      rw [show decide ((pre.length : Int) ≥ (fs.length : Int)) = true from by subst hf; exact ge_len0 hq, if_pos rfl, cmpL, fin_self]
    | cons y b =>
      unfold NdL at h2'
      obtain ⟨f, fs', rfl, h3', h5'⟩ := h2'
      rw [show decide ((pre.length : Int) ≥ (fs.length : Int)) = false from by subst hf; exact ge_len hq f fs', if_neg (by decide)]
      rw [hq, h1'.elt hf, okCells_agg _ (PV.proj_length f 2), h3, h3']
      simp only [Option.bind_some, callV, List.append_nil]
      show (R true n_auto_Before [.agg [.int .i64 x.1, .int .i64 x.2], .agg [.int .i64 y.1, .int .i64 y.2]] S).bind _ = _
      rw [nd1_run x y S]
      simp only [Option.bind_some, intOf, if_true]
      rw [cmpL]
      by_cases hc : nd1 x y = 0
      · rw [if_neg (by simpa using hc), if_neg (by simpa using hc), ← hq, idx_next pre e es' (by rw [← he]; exact hm)]
        exact ih b h5 h5' (pre ++ [e]) (qre ++ [f]) (by simp [hq]) (by simp [he]) (by simp [hf])
      · rw [if_pos (by simpa using hc), if_pos hc, fin_self]
theorem lists_run (a b : List Nd) {v v' : PV} (h : NdV a v) (h' : NdV b v') (S : St) : R true n_auto_Lists [v, v'] S = some (.int .i64 (cmpL nd1 a b), S) := by
  obtain ⟨es, h1, h2⟩ := h
  obtain ⟨fs, g1, g2⟩ := h'
  refine auto_Lists_of ?_
  unfold auto_Lists_b
  have hb : R true n_slices_CompareFunc_of_api_Need [v, v', .fn n_auto_Before []] S = some (.int .i64 (cmpL nd1 a b), S) := by
    refine slices_CompareFunc_of_api_Need_of ?_
    unfold slices_CompareFunc_of_api_Need_b
    rw [h1.len]
    simp only [Option.bind_some]
    exact cmpNL_run a b h1 g1 h2 g2 [] [] rfl rfl rfl S
  rw [hb]
  simp only [Option.bind_some, intOf, if_true]
  rw [fin_self]
def NdE (x : Nd) (u : List PV) : Prop := u = [.int .i64 x.1, .int .i64 x.2]
theorem risNL_run (f : Nd → Nd → Int)  {es : List PV} {v : PV} (h1 : Sl 2 es v) (c : FuncId)
    (hc : ∀ x y u w S, NdE x u → NdE y w → R true c [.agg u, .agg w] S = some (.int .i64 (f x y), S)) (l : List Nd) {p : Nd} {e0 : PV} {pre es' : List PV} (he : es = pre ++ e0 :: es') (hp : NdE p (e0.proj 2)) (h2 : NdL l es') (S : St) :
    auto_rising_of_api_Need_L1 true S v (.fn c []) ((pre ++ [e0]).length : Nat) S = some (.bool (risL f p l), S) := by
  induction l generalizing p e0 pre es' with
  | nil =>
    refine auto_rising_of_api_Need_L1_of ?_
    unfold auto_rising_of_api_Need_L1_b
    unfold NdL at h2
    subst h2
    rw [h1.len]
    simp only [Option.bind_some]
    rw [if_neg (by subst he; simp), fin_self]
    rfl
  | cons x l ih =>
    refine auto_rising_of_api_Need_L1_of ?_
    unfold auto_rising_of_api_Need_L1_b
    have hm := h1.max
    unfold NdL at h2
    obtain ⟨e, es', rfl, h3, h4⟩ := h2
    rw [h1.len]
    simp only [Option.bind_some]
    rw [if_pos (by subst he; simp; omega)]
    have hw : IntKind.wrap .i64 (((pre ++ [e0]).length : Int) - 1) = (pre.length : Int) := by
      rw [wrap_in (by subst he; simp at hm ⊢; omega)]
      simp
    rw [hw, h1.elt he, h1.elt (pre := pre ++ [e0]) (e := e) (suf := es') (by simp [he])]
    simp only [callV, List.append_nil]
    rw [hc p x _ _ S hp h3]
    simp only [Option.bind_some, intOf, if_true]
    rw [risL]
    by_cases h5 : f p x ≥ 0
    · rw [if_pos (decide_eq_true h5), if_pos h5, fin_self]
    · rw [if_neg (by simpa using h5), if_neg h5, idx_next (pre ++ [e0]) e es' (by simp [he] at hm ⊢; omega)]
      exact ih (pre := pre ++ [e0]) (e0 := e) (by simp [he]) h3 h4
theorem risLL_run {α : Type} (f : α → α → Int) (Q : α → PV → Prop) {es : List PV} {v : PV} (h1 : Sl 1 es v) (c : FuncId)
    (hc : ∀ x y u w S, Q x u → Q y w → R true c [ u,  w] S = some (.int .i64 (f x y), S)) (l : List α) {p : α} {e0 : PV} {pre es' : List PV} (he : es = pre ++ e0 :: es') (hp : Q p (e0.cell 0)) (h2 : LiL Q l es') (S : St) :
    auto_rising_of_Lapi_Need_L1 true S v (.fn c []) ((pre ++ [e0]).length : Nat) S = some (.bool (risL f p l), S) := by
  induction l generalizing p e0 pre es' with
  | nil =>
    refine auto_rising_of_Lapi_Need_L1_of ?_
    unfold auto_rising_of_Lapi_Need_L1_b
    unfold LiL at h2
    subst h2
    rw [h1.len]
    simp only [Option.bind_some]
    rw [if_neg (by subst he; simp), fin_self]
    rfl
  | cons x l ih =>
    refine auto_rising_of_Lapi_Need_L1_of ?_
    unfold auto_rising_of_Lapi_Need_L1_b
    have hm := h1.max
    unfold LiL at h2
    obtain ⟨e, es', rfl, h3, h4⟩ := h2
    rw [h1.len]
    simp only [Option.bind_some]
    rw [if_pos (by subst he; simp; omega)]
    have hw : IntKind.wrap .i64 (((pre ++ [e0]).length : Int) - 1) = (pre.length : Int) := by
      rw [wrap_in (by subst he; simp at hm ⊢; omega)]
      simp
    rw [hw, h1.eltV he, h1.eltV (pre := pre ++ [e0]) (e := e) (suf := es') (by simp [he])]
    simp only [callV, List.append_nil]
    rw [hc p x _ _ S hp h3]
    simp only [Option.bind_some, intOf, if_true]
    rw [risL]
    by_cases h5 : f p x ≥ 0
    · rw [if_pos (decide_eq_true h5), if_pos h5, fin_self]
    · rw [if_neg (by simpa using h5), if_neg h5, idx_next (pre ++ [e0]) e es' (by simp [he] at hm ⊢; omega)]
      exact ih (pre := pre ++ [e0]) (e0 := e) (by simp [he]) h3 h4
end Go.Proofs.YtjdknnlhhenpnaaGreatDoor
namespace Go.Vir
open Go Go.Abs
def bad (rk n : Int) (x : Nd) : Bool := decide (x.1 < 0) || (decide (x.1 ≥ rk) || (decide (x.2 < 0) || decide (x.2 ≥ n)))
def idxP {α : Type} (p : α → Bool) : List α → Nat → Int
  | [], _ => -1
  | t :: l, i => if p t then i else idxP p l (i + 1)
theorem idxP_any {α : Type} (p : α → Bool) : ∀ (l : List α) (i : Nat), decide (idxP p l i ≥ 0) = l.any p
  | [], i => rfl
  | t :: l, i => by
    rw [idxP, List.any_cons]
    cases p t with
    | true => simp
    | false => simpa using idxP_any p l (i + 1)
def altE (rk n : Int) (l : List Nd) : Bool := !(decide ((l.length : Int) > 24) || (l.any (bad rk n) || !risE nd1 l))
def rowE (rk n : Int) (l : List (List Nd)) : Bool := !decide ((l.length : Int) > 12) && (l.all (altE rk n) && risE (cmpL nd1) l)
def rowsE (n : Int) : List (List (List Nd)) → List Int → Bool
  | [], _ => true
  | a :: l, rk :: r => rowE rk n a && rowsE n l r
  | _ :: _, [] => true
def movesE (rks : List Int) (n : Int) (l : List (List (List (List Nd)))) : Bool := l.all fun row => decide (row.length = rks.length) && rowsE n row rks
end Go.Vir
namespace Go.Abs
def Ext (S0 S : St) : Prop := ∃ l, S.objs = S0.objs ++ l ∧ S.htoks = S0.htoks
theorem Ext.fin {S0 S : St} (h : Ext S0 S) {r : PV} (hp : r.pure = true) : fin true S0 r S = (r, S0) := by
  obtain ⟨l, h1, h2⟩ := h
  exact fin_new (ts := []) h1 (by simp [h2]) hp
theorem Ext.new {S0 S : St} (h : Ext S0 S) (c : List Cell) : Ext S0 (S.new c) := by
  obtain ⟨l, h1, h2⟩ := h
  exact ⟨l ++ [.cells c], by simp [St.new, h1], by simp [St.new, h2]⟩
theorem new_put_eq (S : St) (k k' : Int) : (S.new [(.int .i64 k, none)]).put S.objs.length k' = S.new [(.int .i64 k', none)] := by
  simp [St.put, St.new]
theorem new_old {S : St} {c : List Cell} {id : Nat} {o : Ob} (h : S.objs[id]? = some o) : (S.new c).objs[id]? = some o := by
  have := (List.getElem?_eq_some_iff.1 h).1
  simp only [St.new]
  rw [List.getElem?_append_left this]
  exact h
theorem ldV_ref0 {S : St} {id : Nat} {v : PV} {l : List Cell} (h : S.objs[id]? = some (.cells ((v, none) :: l))) : ldV (some S) false 1 (.ref id 0) = some (v, none) := by
  simp [ldV, h, part, aggV]
end Go.Abs
namespace Go.Proofs.YtjdknnlhhenpnaaGreatDoor
open Go Go.Abs Go.Vir
theorem bad_run {S : St} {ida idf idn : Nat} {rv re : PV} {cl : List Cell} {res rpre rsuf : List PV} {n rk : Int} (ha : S.objs[ida]? = some (.cells ((rv, none) :: cl))) (hf : Cnt S idf rpre.length) (hn : Cnt S idn n)
    (hr : Sl 1 res rv) (he : res = rpre ++ re :: rsuf) (hre : re.cell 0 = .int .i64 rk) (x : Nd) :
    R true n_auto_Check_1 [.agg [.int .i64 x.1, .int .i64 x.2], .ref ida 0, .ref idf 0, .ref idn 0] S = some (.bool (bad rk n x), S) := by
  refine auto_Check_1_of ?_
  unfold auto_Check_1_b bad
  by_cases h1 : x.1 < 0
  · rw [if_pos (decide_eq_true h1), fin_self]; simp [h1]
  · rw [if_neg (show ¬ decide (x.1 < 0) = true from by simpa using h1)]
    simp only [fadrV, Nat.add_zero, Option.bind_some]
    rw [ldV_ref0 ha]
    simp only [Option.bind_some]
    rw [hf.ld]
    simp only [Option.bind_some]
    rw [eltI hr he hre]
    by_cases h2 : x.1 ≥ rk
    · rw [if_pos (decide_eq_true h2), fin_self]; simp [h2]
    · rw [if_neg (show ¬ decide (x.1 ≥ rk) = true from by simpa using h2)]
      by_cases h3 : x.2 < 0
      · rw [if_pos (decide_eq_true h3), fin_self]; simp [h3]
      · rw [if_neg (show ¬ decide (x.2 < 0) = true from by simpa using h3), hn.ld]
        simp only [Option.bind_some]
        rw [fin_self]
        simp [h1, h2, h3]
theorem idxN_run (p : Nd → Bool) (c : FuncId) (caps : List PV) {S : St} (hc : ∀ x : Nd, R true c (.agg [.int .i64 x.1, .int .i64 x.2] :: caps) S = some (.bool (p x), S)) (l : List Nd) {xs xs' : List PV} {v : PV} (h1 : Sl 2 xs v) (h2 : NdL l xs') (pre : List PV) (he : xs = pre ++ xs') :
    slices_IndexFunc_of_api_Need_L1 true S v (.fn c caps) xs.length pre.length S = some (.int .i64 (idxP p l pre.length), S) := by
  induction l generalizing xs' pre with
  | nil =>
    refine slices_IndexFunc_of_api_Need_L1_of ?_
    unfold slices_IndexFunc_of_api_Need_L1_b
    unfold NdL at h2
    subst h2
    subst he
    rw [lt_done, if_neg (by decide), idxP, fin_self]
  | cons t l ih =>
    refine slices_IndexFunc_of_api_Need_L1_of ?_
    unfold slices_IndexFunc_of_api_Need_L1_b
    have hm := h1.max
    unfold NdL at h2
    obtain ⟨e, xs', rfl, h3, h5⟩ := h2
    subst he
    rw [lt_more, if_pos rfl, h1.elt rfl, h3]
    simp only [callV, List.cons_append, List.nil_append]
    rw [hc t]
    simp only [Option.bind_some, Abs.asBool]
    rw [idxP]
    cases p t with
    | true => rw [if_pos rfl, if_pos rfl, fin_self]
    | false =>
      rw [if_neg (by decide), if_neg (by decide), idx_next pre e xs' hm]
      have := ih h5 (pre ++ [e]) (by simp)
      simpa using this
theorem containsN_run (p : Nd → Bool) (c : FuncId) (caps : List PV) {S : St} (hc : ∀ x : Nd, R true c (.agg [.int .i64 x.1, .int .i64 x.2] :: caps) S = some (.bool (p x), S)) (l : List Nd) {v : PV} (h : NdV l v) :
    R true n_slices_ContainsFunc_of_api_Need [v, .fn c caps] S = some (.bool (l.any p), S) := by
  obtain ⟨xs, h1, h2⟩ := h
  refine slices_ContainsFunc_of_api_Need_of ?_
  unfold slices_ContainsFunc_of_api_Need_b
  have hb : R true n_slices_IndexFunc_of_api_Need [v, .fn c caps] S = some (.int .i64 (idxP p l 0), S) := by
    refine slices_IndexFunc_of_api_Need_of ?_
    unfold slices_IndexFunc_of_api_Need_b
    rw [h1.len]
    simp only [Option.bind_some]
    exact idxN_run p c caps hc l h1 h2 [] rfl
  rw [hb]
  simp only [Option.bind_some, intOf, if_true]
  rw [fin_self, idxP_any]
theorem risingN_run (l : List Nd) {v : PV} (h : NdV l v) (S : St) : R true n_auto_rising_of_api_Need [v, .fn n_auto_Before []] S = some (.bool (risE nd1 l), S) := by
  obtain ⟨xs, h1, h2⟩ := h
  refine auto_rising_of_api_Need_of ?_
  unfold auto_rising_of_api_Need_b
  cases l with
  | nil =>
    unfold NdL at h2
    subst h2
    refine auto_rising_of_api_Need_L1_of ?_
    unfold auto_rising_of_api_Need_L1_b
    rw [h1.len]
    simp only [Option.bind_some]
    rw [if_neg (by decide), fin_self]
    rfl
  | cons x l =>
    unfold NdL at h2
    obtain ⟨e, xs', rfl, h3, h4⟩ := h2
    exact risNL_run nd1 h1 n_auto_Before (fun x y u w S hx hy => by rw [show u = _ from hx, show w = _ from hy]; exact nd1_run x y S) l (pre := []) rfl h3 h4 S
theorem risingL_run (l : List (List Nd)) {v : PV} (h : LiV NdV l v) (S : St) : R true n_auto_rising_of_Lapi_Need [v, .fn n_auto_Lists []] S = some (.bool (risE (cmpL nd1) l), S) := by
  obtain ⟨xs, h1, h2⟩ := h
  refine auto_rising_of_Lapi_Need_of ?_
  unfold auto_rising_of_Lapi_Need_b
  cases l with
  | nil =>
    unfold LiL at h2
    subst h2
    refine auto_rising_of_Lapi_Need_L1_of ?_
    unfold auto_rising_of_Lapi_Need_L1_b
    rw [h1.len]
    simp only [Option.bind_some]
    rw [if_neg (by decide), fin_self]
    rfl
  | cons x l =>
    unfold LiL at h2
    obtain ⟨e, xs', rfl, h3, h4⟩ := h2
    exact risLL_run (cmpL nd1) NdV h1 n_auto_Lists (fun x y u w S hx hy => lists_run x y hx hy S) l (pre := []) rfl h3 h4 S
end Go.Proofs.YtjdknnlhhenpnaaGreatDoor
namespace Go.Vir
open Go Go.Abs
def autoE (rks : List Int) (start : Int) (moves : List (List (List (List Nd)))) : Int :=
  if !rksE rks || (decide ((moves.length : Int) < 1) || (decide ((moves.length : Int) > 6) || (decide (start < 0) || decide (start ≥ (moves.length : Int))))) then 10 else if movesE rks moves.length moves then 0 else 10
end Go.Vir
namespace Go.Proofs.YtjdknnlhhenpnaaGreatDoor
open Go Go.Abs Go.Vir
structure Good (S0 : St) (ida idn : Nat) (cl : List Cell) (n : Int) (S : St) : Prop where
  ext : Ext S0 S
  a : S.objs[ida]? = some (.cells cl)
  n : Cnt S idn n
theorem Good.new {S0 S : St} {ida idn : Nat} {cl : List Cell} {n : Int} (h : Good S0 ida idn cl n S) (c : List Cell) : Good S0 ida idn cl n (S.new c) :=
  ⟨h.ext.new c, new_old h.a, new_old h.n⟩
theorem aL3_run (l l0 : List (List Nd)) {S0 S : St} {ida idn idf : Nat} {rv re : PV} {cl : List Cell} {res rpre rsuf : List PV} {n rk : Int} (hG : Good S0 ida idn ((rv, none) :: cl) n S) (hf : Cnt S idf rpre.length)
    (hr : Sl 1 res rv) (he : res = rpre ++ re :: rsuf) (hre : re.cell 0 = .int .i64 rk) {es es' : List PV} {alts : PV} (h1 : Sl 1 es alts) (h0 : LiL NdV l0 es) (h2 : LiL NdV l es') (pre : List PV) (hp : es = pre ++ es')
    (k4 : Option Tk) (y25 : PV) (k5 : Option Tk) (y26 y27 : Int) (y28 : PV) (k6 : Option Tk) (y29 y30 : Int) (k7 : Option Tk) (ts : Toks) {K : Int}
    (hK : auto_Check_L2 true S0 ida idn y25 k5 y26 y27 y28 k6 y29 (IntKind.wrap .i64 (y30 + 1)) ts S = some (.int .i64 K, S0)) :
    auto_Check_L3 true S0 ida idn idf alts k4 y25 k5 y26 y27 y28 k6 y29 y30 k7 es.length pre.length ts S = some (.int .i64 (if l.all (altE rk n) && risE (cmpL nd1) l0 then K else 10), S0) := by
  induction l generalizing es' pre with
  | nil =>
    refine auto_Check_L3_of ?_
    unfold auto_Check_L3_b
    unfold LiL at h2
    subst h2
    rw [show decide ((pre.length : Int) < (es.length : Int)) = false from by subst hp; exact lt_done pre, if_neg (by decide), risingL_run l0 ⟨es, h1, h0⟩]
    simp only [Option.bind_some, Abs.asBool, List.all_nil, Bool.true_and]
    cases risE (cmpL nd1) l0 with
    | false => rw [if_pos (by decide), hG.ext.fin rfl]; rfl
    | true => rw [if_neg (by decide), hK]; rfl
  | cons x l ih =>
    refine auto_Check_L3_of ?_
    unfold auto_Check_L3_b
    have hm := h1.max
    unfold LiL at h2
    obtain ⟨e, es', rfl, h3, h4⟩ := h2
    have h3' := h3
    obtain ⟨xs, g1, g2⟩ := h3'
    rw [show decide ((pre.length : Int) < (es.length : Int)) = true from by subst hp; exact lt_more pre e es', if_pos rfl, h1.eltV hp]
    dsimp only
    rw [g1.len]
    simp only [Option.bind_some]
    have hJ : ∀ b : Bool, auto_Check_J2 true S0 ida idn idf alts k4 y25 k5 y26 y27 y28 k6 y29 y30 k7 es.length pre.length b ts S = some (.int .i64 (if !b && (l.all (altE rk n) && risE (cmpL nd1) l0) then K else 10), S0) := by
      intro b
      refine auto_Check_J2_of ?_
      unfold auto_Check_J2_b
      cases b with
      | true => rw [if_pos rfl, hG.ext.fin rfl]; rfl
      | false =>
        rw [if_neg (by decide), idx_next pre e es' (by rw [← hp]; exact hm)]
        exact ih h4 (pre ++ [e]) (by simp [hp])
    rw [List.all_cons, altE, g2.len]
    by_cases c1 : (x.length : Int) > 24
    · rw [if_pos (decide_eq_true c1), hJ]; simp [c1]
    · rw [if_neg (show ¬ decide ((x.length : Int) > 24) = true from by simpa using c1), containsN_run (bad rk n) n_auto_Check_1 _ (fun y => bad_run hG.a hf hG.n hr he hre y) x h3]
      simp only [Option.bind_some, Abs.asBool]
      have hd : decide ((x.length : Int) > 24) = false := by simpa using c1
      rw [hd]
      cases x.any (bad rk n) with
      | true => rw [if_pos rfl, hJ]; rfl
      | false =>
        rw [if_neg (by decide), risingN_run x h3]
        simp only [Option.bind_some]
        rw [hJ]
        cases risE nd1 x <;> simp
theorem aL2_run (l : List (List (List Nd))) {S0 S : St} {ida idn : Nat} {rv : PV} {cl : List Cell} {res rpre rs' : List PV} {n : Int} (hG : Good S0 ida idn ((rv, none) :: cl) n S)
    (hr : Sl 1 res rv) (r : List Int) (he : res = rpre ++ rs') (hi : IntL r rs') (hl : l.length = r.length) {es es' : List PV} {y20 : PV} (h1 : Sl 1 es y20) (h2 : LiL (LiV NdV) l es') (pre : List PV) (hp : es = pre ++ es') (hq : pre.length = rpre.length)
    (y17 : PV) (k2 : Option Tk) (y18 y19 : Int) (k3 : Option Tk) (ts : Toks) {K : Int}
    (hK : ∀ S', Good S0 ida idn ((rv, none) :: cl) n S' → auto_Check_L1 true S0 ida idn y17 k2 y18 (IntKind.wrap .i64 (y19 + 1)) ts S' = some (.int .i64 K, S0)) :
    auto_Check_L2 true S0 ida idn y17 k2 y18 y19 y20 k3 es.length pre.length ts S = some (.int .i64 (if rowsE n l r then K else 10), S0) := by
  induction l generalizing es' pre r rpre rs' S with
  | nil =>
    refine auto_Check_L2_of ?_
    unfold auto_Check_L2_b
    unfold LiL at h2
    subst h2
    rw [show decide ((pre.length : Int) < (es.length : Int)) = false from by subst hp; exact lt_done pre, if_neg (by decide), hK S hG, rowsE]
    rfl
  | cons x l ih =>
    refine auto_Check_L2_of ?_
    unfold auto_Check_L2_b
    have hm := h1.max
    unfold LiL at h2
    obtain ⟨e, es', rfl, ⟨xs, g1, g2⟩, h4⟩ := h2
    cases r with
    | nil => simp at hl
    | cons rk r =>
    unfold IntL at hi
    obtain ⟨re, rs', rfl, hre, hi⟩ := hi
    rw [show decide ((pre.length : Int) < (es.length : Int)) = true from by subst hp; exact lt_more pre e es', if_pos rfl, h1.eltV hp]
    dsimp only
    rw [(Cnt.new S 0).sto, new_put_eq]
    simp only [Option.bind_some]
    rw [g1.len]
    simp only [Option.bind_some]
    have hG2 := hG.new [(.int .i64 (pre.length : Int), none)]
    rw [rowsE, rowE, g2.len]
    by_cases c1 : (x.length : Int) > 12
    · rw [if_pos (decide_eq_true c1), hG2.ext.fin rfl]; simp [c1]
    · rw [if_neg (show ¬ decide ((x.length : Int) > 12) = true from by simpa using c1)]
      have hd : decide ((x.length : Int) > 12) = false := by simpa using c1
      rw [hd, ← g2.len]
      have hC : Cnt (S.new [(.int .i64 (pre.length : Int), none)]) S.objs.length rpre.length := by rw [← hq]; exact Cnt.new S _
      have hnext := ih hG2 r (rpre := rpre ++ [re]) (rs' := rs') (by simp [he]) hi (by simpa using hl) h4 (pre ++ [e]) (by simp [hp]) (by simp [hq])
      rw [← idx_next pre e es' (by rw [← hp]; exact hm)] at hnext
      have := aL3_run x x hG2 hC hr he hre g1 g2 g2 [] rfl none y17 k2 y18 y19 y20 k3 es.length pre.length none ts hnext
      refine Eq.trans this ?_
      congr 2
      cases (x.all (altE rk n) && risE (cmpL nd1) x) <;> simp
theorem aL1_run (l : List (List (List (List Nd)))) {S0 S : St} {ida idn : Nat} {rv : PV} {cl : List Cell} {res : List PV} {n : Int} (hG : Good S0 ida idn ((rv, none) :: cl) n S)
    (hr : Sl 1 res rv) (r : List Int) (hi : IntL r res) {es es' : List PV} {mv : PV} (h1 : Sl 1 es mv) (h2 : LiL (LiV (LiV NdV)) l es') (pre : List PV) (hp : es = pre ++ es') (k : Option Tk) (ts : Toks) :
    auto_Check_L1 true S0 ida idn mv k es.length pre.length ts S = some (.int .i64 (if movesE r n l then 0 else 10), S0) := by
  induction l generalizing es' pre S with
  | nil =>
    refine auto_Check_L1_of ?_
    unfold auto_Check_L1_b
    unfold LiL at h2
    subst h2
    rw [show decide ((pre.length : Int) < (es.length : Int)) = false from by subst hp; exact lt_done pre, if_neg (by decide), hG.ext.fin rfl]
    rfl
  | cons x l ih =>
    refine auto_Check_L1_of ?_
    unfold auto_Check_L1_b
    have hm := h1.max
    unfold LiL at h2
    obtain ⟨e, es', rfl, ⟨xs, g1, g2⟩, h4⟩ := h2
    rw [show decide ((pre.length : Int) < (es.length : Int)) = true from by subst hp; exact lt_more pre e es', if_pos rfl, h1.eltV hp]
    dsimp only
    rw [g1.len]
    simp only [Option.bind_some]
    rw [ldV_ref0 hG.a]
    simp only [Option.bind_some]
    rw [hr.len]
    simp only [Option.bind_some]
    rw [movesE, List.all_cons]
    by_cases c : x.length = r.length
    · rw [if_neg (show ¬ ((xs.length : Int) != (res.length : Int)) = true from by rw [g2.len, hi.len, c]; simp)]
      have hnext : ∀ S', Good S0 ida idn ((rv, none) :: cl) n S' → auto_Check_L1 true S0 ida idn mv k es.length (IntKind.wrap .i64 ((pre.length : Int) + 1)) ts S' = some (.int .i64 (if movesE r n l then 0 else 10), S0) := by
        intro S' hG'
        rw [idx_next pre e es' (by rw [← hp]; exact hm)]
        exact ih hG' h4 (pre ++ [e]) (by simp [hp])
      have := aL2_run x hG hr r (rpre := []) rfl hi c g1 g2 [] rfl rfl mv k es.length pre.length none ts hnext
      refine Eq.trans this ?_
      congr 2
      rw [decide_eq_true c]
      cases rowsE n x r <;> simp [movesE]
    · rw [if_pos (show ((xs.length : Int) != (res.length : Int)) = true from by rw [g2.len, hi.len]; simp; omega), hG.ext.fin rfl, decide_eq_false c]
      rfl
theorem auto_run (rks : List Int) (start : Int) (moves : List (List (List (List Nd)))) {rv mv : PV} (hr : IntV rks rv) (hmv : LiV (LiV (LiV NdV)) moves mv) (S : St) :
    R true n_auto_Check [.agg [rv, .int .i64 start, mv]] S = some (.int .i64 (autoE rks start moves), S) := by
  obtain ⟨res, r1, r2⟩ := hr
  obtain ⟨es, m1, m2⟩ := hmv
  refine auto_Check_of ?_
  unfold auto_Check_b
  have hx : Ext S (S.new [(rv, none), (.int .i64 start, none), (mv, none)]) := Ext.new ⟨[], by simp, rfl⟩ _
  have ha : (S.new [(rv, none), (.int .i64 start, none), (mv, none)]).objs[S.objs.length]? = some (.cells [(rv, none), (.int .i64 start, none), (mv, none)]) := by simp [St.new]
  generalize S.new [(rv, none), (.int .i64 start, none), (mv, none)] = S1 at hx ha
  rw [show ldV (some S1) false 1 (.ref S.objs.length 2) = some (mv, none) from by simp [ldV, ha, Abs.part, aggV]]
  simp only [Option.bind_some]
  rw [m1.len]
  simp only [Option.bind_some]
  rw [(Cnt.new S1 0).sto, new_put_eq]
  simp only [Option.bind_some]
  have hG : Good S S.objs.length S1.objs.length [(rv, none), (.int .i64 start, none), (mv, none)] (es.length : Int) (S1.new [(.int .i64 (es.length : Int), none)]) := ⟨hx.new _, new_old ha, Cnt.new S1 _⟩
  generalize S1.new [(.int .i64 (es.length : Int), none)] = S2 at hG
  generalize S1.objs.length = idn at hG
  rw [ldV_ref0 hG.a]
  simp only [Option.bind_some]
  rw [rk_run rks ⟨res, r1, r2⟩]
  simp only [Option.bind_some, Abs.asBool]
  have hst : (ldP (some S2) false 1 (.ref S.objs.length 1)).bind (intOf .i64) = some start := by simp [ldP, ldV, hG.a, Abs.part, aggV, intOf]
  rw [hG.n.ld, hst]
  simp only [Option.bind_some]
  have hJ : ∀ b : Bool, auto_Check_J1 true S S.objs.length idn b [] S2 = some (.int .i64 (if b then 10 else if movesE rks es.length moves then 0 else 10), S) := by
    intro b
    refine auto_Check_J1_of ?_
    unfold auto_Check_J1_b
    cases b with
    | true => rw [if_pos rfl, hG.ext.fin rfl]; rfl
    | false =>
      rw [if_neg (by decide), show ldV (some S2) false 1 (.ref S.objs.length 2) = some (mv, none) from by simp [ldV, hG.a, Abs.part, aggV]]
      simp only [Option.bind_some]
      rw [m1.len]
      simp only [Option.bind_some]
      exact aL1_run moves hG r1 rks r2 m1 m2 [] rfl none []
  simp only [hJ]
  rw [autoE, m2.len]
  cases rksE rks with
  | false => simp
  | true =>
    by_cases c1 : (moves.length : Int) < 1
    · simp [c1]
    · by_cases c2 : (moves.length : Int) > 6
      · simp [c1, c2]
      · by_cases c3 : start < 0
        · simp [c1, c2, c3]
        · simp [c1, c2, c3]
end Go.Proofs.YtjdknnlhhenpnaaGreatDoor
namespace Go.Vir
open Go Go.Abs
def prevBad {α : Type} (f : α → α → Int) (p : Option α) (x : α) : Bool := match p with
  | none => false
  | some q => decide (f q x ≥ 0)
def walk {α : Type} (ok : α → Bool) (f : α → α → Int) : Option α → List α → Bool
  | _, [] => true
  | p, x :: l => (ok x && !prevBad f p x) && walk ok f (some x) l
def altR (rk n : Int) (l : List Nd) : Bool := walk (fun x => !bad rk n x) nd2 none l
def altsR (rk n : Int) (l : List (List Nd)) : Bool := !decide ((l.length : Int) > 12) && walk (altR rk n) (cmpL nd2) none l
end Go.Vir
namespace Go.Proofs.YtjdknnlhhenpnaaGreatDoor
open Go Go.Abs Go.Vir
theorem bin_lss (a b : Int) : binA P .lss 3 (.int .i64 a) (.int .i64 b) = some (.bool (decide (a < b))) := by kernel_rfl
theorem bin_geq (a b : Int) : binA P .geq 3 (.int .i64 a) (.int .i64 b) = some (.bool (decide (a ≥ b))) := by kernel_rfl
theorem bin_nd (a b c d : Int) : binA P .eql 66 (.agg [.int .i64 a, .int .i64 b]) (.agg [.int .i64 c, .int .i64 d]) = some (.bool (a == c && (b == d && true))) := by kernel_rfl
theorem nd2_run (x y : Nd) (S : St) : R true n_vref09_Before [.agg [.int .i64 x.1, .int .i64 x.2], .agg [.int .i64 y.1, .int .i64 y.2]] S = some (.int .i64 (nd2 x y), S) := by
  refine vref09_Before_of ?_
  unfold vref09_Before_b nd2
  have hJ : ∀ b : Bool, vref09_Before_J1 true S x.1 x.2 y.1 y.2 b S = some (.int .i64 (if b then -1 else if x = y then 0 else 1), S) := by
    intro b
    refine vref09_Before_J1_of ?_
    unfold vref09_Before_J1_b
    cases b with
    | true => rw [if_pos rfl, fin_self]; rfl
    | false =>
      rw [if_neg (by decide), bin_nd]
      simp only [Option.bind_some, Abs.asBool]
      by_cases h : x = y
      · subst h
        simp only [beq_self_eq_true, Bool.and_self, if_true]
        rw [fin_self]
        rfl
      · have : (x.1 == y.1 && (x.2 == y.2 && true)) = false := by
          by_cases h1 : x.1 = y.1
          · have h2 : x.2 ≠ y.2 := fun e => h (Prod.ext h1 e)
            simp [h2]
          · simp [h1]
        rw [this, if_neg (by decide), fin_self]
        simp [h]
  simp only [hJ]
  by_cases h1 : x.1 = y.1
  · by_cases h2 : x.2 < y.2
    · simp [h1, h2]
    · simp [h1, h2]
  · by_cases h2 : x.1 < y.1
    · simp [h1, h2]
    · simp [h1, h2]
theorem cmp2_run (a b : List Nd) {es es' fs fs' : List PV} {v v' : PV} (h1 : Sl 2 es v) (h1' : Sl 2 fs v') (h2 : NdL a es') (h2' : NdL b fs') (pre qre : List PV) (hq : pre.length = qre.length) (he : es = pre ++ es') (hf : fs = qre ++ fs') (S : St) :
    vref09_Compare_L1 true S v v' pre.length S = some (.int .i64 (cmpL nd2 a b), S) := by
  induction a generalizing b es' fs' pre qre with
  | nil =>
    refine vref09_Compare_L1_of ?_
    unfold vref09_Compare_L1_b
    subst he
    subst hf
    unfold NdL at h2
    subst h2
    rw [h1.len]
    simp only [Option.bind_some]
    rw [lt_done, if_neg (by decide)]
    refine vref09_Compare_J1_of ?_
    unfold vref09_Compare_J1_b
    rw [if_neg (by decide), h1.len, h1'.len]
    simp only [Option.bind_some]
    cases b with
    | nil =>
      unfold NdL at h2'
      subst h2'
      rw [cmpL, if_neg (by simp; omega), if_neg (by simp; omega), fin_self]
    | cons y b =>
      unfold NdL at h2'
      obtain ⟨e, fs', rfl, _, _⟩ := h2'
      rw [cmpL, if_pos (by simp; omega), fin_self]
  | cons x a ih =>
    refine vref09_Compare_L1_of ?_
    unfold vref09_Compare_L1_b
    have hm := h1.max
    unfold NdL at h2
    obtain ⟨e, es', rfl, h3, h5⟩ := h2
    rw [h1.len]
    simp only [Option.bind_some]
    rw [show decide ((pre.length : Int) < (es.length : Int)) = true from by subst he; exact lt_more pre e es', if_pos rfl, h1'.len]
    simp only [Option.bind_some]
    cases b with
    | nil =>
      unfold NdL at h2'
      subst h2'
      rw [show decide ((pre.length : Int) < (fs.length : Int)) = false from by subst hf; exact lt_len0 hq]
      refine vref09_Compare_J1_of ?_
      unfold vref09_Compare_J1_b
      rw [if_neg (by decide), h1.len, h1'.len]
      simp only [Option.bind_some]
      rw [if_neg (by subst he hf; simp; omega), if_pos (by subst he hf; simp; omega), cmpL, fin_self]
    | cons y b =>
      unfold NdL at h2'
      obtain ⟨f, fs', rfl, h3', h5'⟩ := h2'
      rw [show decide ((pre.length : Int) < (fs.length : Int)) = true from by subst hf; exact lt_len hq f fs']
      refine vref09_Compare_J1_of ?_
      unfold vref09_Compare_J1_b
      rw [if_pos rfl, h1.elt he]
      rw [hq, h1'.elt hf, h3, h3', nd2_run x y S]
      simp only [Option.bind_some, intOf, if_true]
      rw [cmpL]
      by_cases hc : nd2 x y = 0
      · rw [if_neg (by simpa using hc), if_neg (by simpa using hc), ← hq, idx_next pre e es' (by rw [← he]; exact hm)]
        exact ih b h5 h5' (pre ++ [e]) (qre ++ [f]) (by simp [hq]) (by simp [he]) (by simp [hf])
      · rw [if_pos (by simpa using hc), if_pos hc, fin_self]
theorem compare_run (a b : List Nd) {v v' : PV} (h : NdV a v) (h' : NdV b v') (S : St) : R true n_vref09_Compare [v, v'] S = some (.int .i64 (cmpL nd2 a b), S) := by
  obtain ⟨es, h1, h2⟩ := h
  obtain ⟨fs, g1, g2⟩ := h'
  refine vref09_Compare_of ?_
  unfold vref09_Compare_b
  exact cmp2_run a b h1 g1 h2 g2 [] [] rfl rfl rfl S
theorem altL_run (l : List Nd) (p : Option Nd) (rk n : Int) {xs xs' : List PV} {v : PV} (h1 : Sl 2 xs v) (h2 : NdL l xs') (pre : List PV) (he : xs = pre ++ xs')
    (hp : match p with | none => pre = [] | some q => ∃ pre' e0, pre = pre' ++ [e0] ∧ e0.proj 2 = [.int .i64 q.1, .int .i64 q.2]) (S : St) :
    vref09_alternative_L1 true S v rk n xs.length pre.length S = some (.bool (walk (fun x => !bad rk n x) nd2 p l), S) := by
  induction l generalizing p xs' pre with
  | nil =>
    refine vref09_alternative_L1_of ?_
    unfold vref09_alternative_L1_b
    unfold NdL at h2
    subst h2
    subst he
    rw [lt_done, if_neg (by decide), walk, fin_self]
  | cons x l ih =>
    refine vref09_alternative_L1_of ?_
    unfold vref09_alternative_L1_b
    have hm := h1.max
    unfold NdL at h2
    obtain ⟨e, xs', rfl, h3, h5⟩ := h2
    rw [show decide ((pre.length : Int) < (xs.length : Int)) = true from by subst he; exact lt_more pre e xs', if_pos rfl, h1.elt he, okCells_agg _ (PV.proj_length e 2), h3]
    simp only [Option.bind_some]
    rw [show (PV.agg [PV.int .i64 x.1, PV.int .i64 x.2]).cell 0 = .int .i64 x.1 from rfl, show (PV.agg [PV.int .i64 x.1, PV.int .i64 x.2]).cell 1 = .int .i64 x.2 from rfl]
    have hJ : ∀ b : Bool, vref09_alternative_J1 true S v rk n xs.length pre.length b S = some (.bool (!b && walk (fun x => !bad rk n x) nd2 (some x) l), S) := by
      intro b
      refine vref09_alternative_J1_of ?_
      unfold vref09_alternative_J1_b
      cases b with
      | true => rw [if_pos rfl, fin_self]; rfl
      | false =>
        rw [if_neg (by decide), idx_next pre e xs' (by rw [← he]; exact hm)]
        exact ih (some x) h5 (pre ++ [e]) (by simp [he]) ⟨pre, e, rfl, h3⟩
    rw [walk, bin_lss, bin_geq, bin_lss, bin_geq]
    simp only [Option.bind_some, Abs.asBool]
    rw [bad]
    by_cases c1 : x.1 < 0
    · rw [if_pos (decide_eq_true c1), hJ]; simp [c1]
    · rw [if_neg (show ¬ decide (x.1 < 0) = true from by simpa using c1)]
      by_cases c2 : x.1 ≥ rk
      · rw [if_pos (decide_eq_true c2), hJ]; simp [c2]
      · rw [if_neg (show ¬ decide (x.1 ≥ rk) = true from by simpa using c2)]
        by_cases c3 : x.2 < 0
        · rw [if_pos (decide_eq_true c3), hJ]; simp [c3]
        · rw [if_neg (show ¬ decide (x.2 < 0) = true from by simpa using c3)]
          by_cases c4 : x.2 ≥ n
          · rw [if_pos (decide_eq_true c4), hJ]; simp [c4]
          · rw [if_neg (show ¬ decide (x.2 ≥ n) = true from by simpa using c4)]
            rw [decide_eq_false c1, decide_eq_false c2, decide_eq_false c3, decide_eq_false c4]
            cases p with
            | none =>
              simp only at hp
              subst hp
              rw [if_neg (by decide), hJ]
              rfl
            | some q =>
              simp only at hp
              obtain ⟨pre', e0, rfl, h6⟩ := hp
              rw [if_pos (by simp)]
              have hw : IntKind.wrap .i64 (((pre' ++ [e0]).length : Int) - 1) = (pre'.length : Int) := by
                rw [wrap_in (by subst he; simp at hm ⊢; omega)]
                simp
              rw [hw, h1.elt (pre := pre') (e := e0) (suf := e :: xs') (by simp [he]), h6, nd2_run q x S]
              simp only [Option.bind_some, intOf, if_true]
              rw [hJ]
              simp [prevBad]
theorem altR_run (l : List Nd) (rk n : Int) {v : PV} (h : NdV l v) (S : St) : R true n_vref09_alternative [v, .int .i64 rk, .int .i64 n] S = some (.bool (altR rk n l), S) := by
  obtain ⟨es, h1, h2⟩ := h
  refine vref09_alternative_of ?_
  unfold vref09_alternative_b
  rw [h1.len]
  simp only [Option.bind_some]
  exact altL_run l none rk n h1 h2 [] rfl rfl S
end Go.Proofs.YtjdknnlhhenpnaaGreatDoor
namespace Go.Vir
open Go Go.Abs
def rowsR (n : Int) : List (List (List Nd)) → List Int → Bool
  | [], _ => true
  | a :: l, rk :: r => altsR rk n a && rowsR n l r
  | _ :: _, [] => true
def movesR (rks : List Int) (n : Int) (l : List (List (List (List Nd)))) : Bool := l.all fun row => decide (row.length = rks.length) && rowsR n row rks
def autoR (rks : List Int) (start : Int) (moves : List (List (List (List Nd)))) : Bool :=
  !(!rksE rks || (decide ((moves.length : Int) < 1) || (decide ((moves.length : Int) > 6) || (decide (start < 0) || decide (start ≥ (moves.length : Int)))))) && movesR rks moves.length moves
end Go.Vir
namespace Go.Proofs.YtjdknnlhhenpnaaGreatDoor
open Go Go.Abs Go.Vir
theorem altsL_run (l : List (List Nd)) (p : Option (List Nd)) (rk n : Int) {xs xs' : List PV} {v : PV} (h1 : Sl 1 xs v) (h2 : LiL NdV l xs') (pre : List PV) (he : xs = pre ++ xs')
    (hp : match p with | none => pre = [] | some q => ∃ pre' e0, pre = pre' ++ [e0] ∧ NdV q (e0.cell 0)) (S : St) :
    vref09_alternatives_L1 true S v rk n xs.length pre.length S = some (.bool (walk (altR rk n) (cmpL nd2) p l), S) := by
  induction l generalizing p xs' pre with
  | nil =>
    refine vref09_alternatives_L1_of ?_
    unfold vref09_alternatives_L1_b
    unfold LiL at h2
    subst h2
    subst he
    rw [lt_done, if_neg (by decide), walk, fin_self]
  | cons x l ih =>
    refine vref09_alternatives_L1_of ?_
    unfold vref09_alternatives_L1_b
    have hm := h1.max
    unfold LiL at h2
    obtain ⟨e, xs', rfl, h3, h5⟩ := h2
    rw [show decide ((pre.length : Int) < (xs.length : Int)) = true from by subst he; exact lt_more pre e xs', if_pos rfl, h1.eltV he]
    dsimp only
    rw [altR_run x rk n h3]
    simp only [Option.bind_some, Abs.asBool]
    have hJ : ∀ b : Bool, vref09_alternatives_J1 true S v rk n xs.length pre.length b S = some (.bool (!b && walk (altR rk n) (cmpL nd2) (some x) l), S) := by
      intro b
      refine vref09_alternatives_J1_of ?_
      unfold vref09_alternatives_J1_b
      cases b with
      | true => rw [if_pos rfl, fin_self]; rfl
      | false =>
        rw [if_neg (by decide), idx_next pre e xs' (by rw [← he]; exact hm)]
        exact ih (some x) h5 (pre ++ [e]) (by simp [he]) ⟨pre, e, rfl, h3⟩
    rw [walk]
    cases altR rk n x with
    | false => rw [if_pos (by decide), hJ]; rfl
    | true =>
      rw [if_neg (by decide)]
      cases p with
      | none =>
        simp only at hp
        subst hp
        rw [if_neg (by decide), hJ]
        rfl
      | some q =>
        simp only at hp
        obtain ⟨pre', e0, rfl, h6⟩ := hp
        rw [if_pos (by simp)]
        have hw : IntKind.wrap .i64 (((pre' ++ [e0]).length : Int) - 1) = (pre'.length : Int) := by
          rw [wrap_in (by subst he; simp at hm ⊢; omega)]
          simp
        rw [hw, h1.eltV (pre := pre') (e := e0) (suf := e :: xs') (by simp [he])]
        dsimp only
        rw [compare_run q x h6 h3 S]
        simp only [Option.bind_some, intOf, if_true]
        rw [hJ]
        simp [prevBad]
theorem altsR_run (l : List (List Nd)) (rk n : Int) {v : PV} (h : LiV NdV l v) (S : St) : R true n_vref09_alternatives [v, .int .i64 rk, .int .i64 n] S = some (.bool (altsR rk n l), S) := by
  obtain ⟨es, h1, h2⟩ := h
  refine vref09_alternatives_of ?_
  unfold vref09_alternatives_b
  rw [h1.len]
  simp only [Option.bind_some]
  rw [altsR, h2.len]
  by_cases c : (l.length : Int) > 12
  · rw [if_pos (decide_eq_true c), fin_self, decide_eq_true c]; rfl
  · rw [if_neg (show ¬ decide ((l.length : Int) > 12) = true from by simpa using c), decide_eq_false c, ← h2.len]
    exact altsL_run l none rk n h1 h2 [] rfl rfl S
theorem iL2_run (l : List (List (List Nd))) {S : St} {rv mv : PV} {res rpre rs' : List PV} {start n : Int} (hr : Sl 1 res rv) (r : List Int) (he : res = rpre ++ rs') (hi : IntL r rs') (hl : l.length = r.length)
    {es es' : List PV} {y9 : PV} (h1 : Sl 1 es y9) (h2 : LiL (LiV NdV) l es') (pre : List PV) (hp : es = pre ++ es') (hq : pre.length = rpre.length) (y7 y8 : Int) (k : Option Tk) {K : Bool}
    (hK : vref09_Is_L1 true S rv start mv n y7 (IntKind.wrap .i64 (y8 + 1)) S = some (.bool K, S)) :
    vref09_Is_L2 true S rv start mv n y7 y8 y9 k es.length pre.length S = some (.bool (rowsR n l r && K), S) := by
  induction l generalizing es' pre r rpre rs' with
  | nil =>
    refine vref09_Is_L2_of ?_
    unfold vref09_Is_L2_b
    unfold LiL at h2
    subst h2
    rw [show decide ((pre.length : Int) < (es.length : Int)) = false from by subst hp; exact lt_done pre, if_neg (by decide), hK, rowsR]
    rfl
  | cons x l ih =>
    refine vref09_Is_L2_of ?_
    unfold vref09_Is_L2_b
    have hm := h1.max
    unfold LiL at h2
    obtain ⟨e, es', rfl, h3, h4⟩ := h2
    cases r with
    | nil => simp at hl
    | cons rk r =>
    unfold IntL at hi
    obtain ⟨re, rs', rfl, hre, hi⟩ := hi
    rw [show decide ((pre.length : Int) < (es.length : Int)) = true from by subst hp; exact lt_more pre e es', if_pos rfl, h1.eltV hp]
    rw [hq, eltI hr he hre]
    dsimp only
    rw [altsR_run x rk n h3]
    simp only [Option.bind_some, Abs.asBool]
    rw [rowsR]
    cases altsR rk n x with
    | false => rw [if_pos (by decide), fin_self]; rfl
    | true =>
      rw [if_neg (by decide), ← hq, idx_next pre e es' (by rw [← hp]; exact hm), Bool.true_and]
      exact ih r (rpre := rpre ++ [re]) (rs' := rs') (by simp [he]) hi (by simpa using hl) h4 (pre ++ [e]) (by simp [hp]) (by simp [hq])
theorem iL1_run (l : List (List (List (List Nd)))) {S : St} {rv mv : PV} {res : List PV} {start n : Int} (hr : Sl 1 res rv) (r : List Int) (hi : IntL r res)
    {es es' : List PV} (h1 : Sl 1 es mv) (h2 : LiL (LiV (LiV NdV)) l es') (pre : List PV) (hp : es = pre ++ es') :
    vref09_Is_L1 true S rv start mv n es.length pre.length S = some (.bool (movesR r n l), S) := by
  induction l generalizing es' pre with
  | nil =>
    refine vref09_Is_L1_of ?_
    unfold vref09_Is_L1_b
    unfold LiL at h2
    subst h2
    rw [show decide ((pre.length : Int) < (es.length : Int)) = false from by subst hp; exact lt_done pre, if_neg (by decide), fin_self]
    rfl
  | cons x l ih =>
    refine vref09_Is_L1_of ?_
    unfold vref09_Is_L1_b
    have hm := h1.max
    unfold LiL at h2
    obtain ⟨e, es', rfl, ⟨xs, g1, g2⟩, h4⟩ := h2
    rw [show decide ((pre.length : Int) < (es.length : Int)) = true from by subst hp; exact lt_more pre e es', if_pos rfl, h1.eltV hp]
    dsimp only
    rw [g1.len, hr.len]
    simp only [Option.bind_some]
    rw [movesR, List.all_cons]
    by_cases c : x.length = r.length
    · rw [if_neg (show ¬ ((xs.length : Int) != (res.length : Int)) = true from by rw [g2.len, hi.len, c]; simp)]
      have hnext : vref09_Is_L1 true S rv start mv n es.length (IntKind.wrap .i64 ((pre.length : Int) + 1)) S = some (.bool (movesR r n l), S) := by
        rw [idx_next pre e es' (by rw [← hp]; exact hm)]
        exact ih h4 (pre ++ [e]) (by simp [hp])
      have := iL2_run x hr r (rpre := []) rfl hi c g1 g2 [] rfl rfl es.length pre.length none hnext
      refine Eq.trans this ?_
      rw [decide_eq_true c]
      rfl
    · rw [if_pos (show ((xs.length : Int) != (res.length : Int)) = true from by rw [g2.len, hi.len]; simp; omega), fin_self, decide_eq_false c]
      rfl
theorem isAuto_run (rks : List Int) (start : Int) (moves : List (List (List (List Nd)))) {rv mv : PV} (hr : IntV rks rv) (hmv : LiV (LiV (LiV NdV)) moves mv) (S : St) :
    R true n_vref09_Is [.agg [rv, .int .i64 start, mv]] S = some (.bool (autoR rks start moves), S) := by
  obtain ⟨res, r1, r2⟩ := hr
  obtain ⟨es, m1, m2⟩ := hmv
  refine vref09_Is_of ?_
  unfold vref09_Is_b
  rw [m1.len]
  simp only [Option.bind_some]
  rw [rk'_run rks ⟨res, r1, r2⟩]
  simp only [Option.bind_some, Abs.asBool]
  have hJ : ∀ b : Bool, vref09_Is_J1 true S rv start mv es.length b S = some (.bool (!b && movesR rks es.length moves), S) := by
    intro b
    refine vref09_Is_J1_of ?_
    unfold vref09_Is_J1_b
    cases b with
    | true => rw [if_pos rfl, fin_self]; rfl
    | false =>
      rw [if_neg (by decide), m1.len]
      simp only [Option.bind_some]
      exact iL1_run moves r1 rks r2 m1 m2 [] rfl
  simp only [hJ]
  rw [autoR, m2.len]
  cases rksE rks with
  | false => simp
  | true =>
    by_cases c1 : (moves.length : Int) < 1
    · simp [c1]
    · by_cases c2 : (moves.length : Int) > 6
      · simp [c1, c2]
      · by_cases c3 : start < 0
        · simp [c1, c2, c3]
        · simp [c1, c2, c3]
end Go.Proofs.YtjdknnlhhenpnaaGreatDoor
namespace Go.Vir
open Go Go.Abs
theorem walk_some {α : Type} (ok : α → Bool) (f : α → α → Int) : ∀ (l : List α) (p : α), walk ok f (some p) l = (l.all ok && risL f p l)
  | [], p => rfl
  | x :: l, p => by
    rw [walk, walk_some ok f l x, List.all_cons, risL]
    by_cases h : f p x ≥ 0
    · simp [prevBad, h]
    · rw [if_neg h]
      simp only [prevBad, decide_eq_false h]
      cases ok x <;> simp
theorem walk_none {α : Type} (ok : α → Bool) (f : α → α → Int) (l : List α) : walk ok f none l = (l.all ok && risE f l) := by
  cases l with
  | nil => rfl
  | cons x l =>
    rw [walk, walk_some, List.all_cons, risE]
    cases ok x <;> simp [prevBad]
def ok (x : Nd) : Prop := 0 ≤ x.1 ∧ x.1 < 4 ∧ 0 ≤ x.2 ∧ x.2 < 6
theorem bad_ok {rk n : Int} (h1 : rk ≤ 4) (h2 : n ≤ 6) {x : Nd} (h : bad rk n x = false) : ok x := by
  unfold bad at h
  simp only [Bool.or_eq_false_iff, decide_eq_false_iff_not] at h
  obtain ⟨a, b, c, d⟩ := h
  exact ⟨by omega, by omega, by omega, by omega⟩
theorem nd_sign {x y : Nd} (hx : ok x) (hy : ok y) : (nd1 x y ≥ 0 ↔ nd2 x y ≥ 0) ∧ (nd1 x y = 0 ↔ nd2 x y = 0) := by
  obtain ⟨a1, a2, a3, a4⟩ := hx
  obtain ⟨b1, b2, b3, b4⟩ := hy
  unfold nd1 nd2
  by_cases h : x.1 = y.1
  · rw [if_neg (show ¬ (x.1 ≠ y.1) from by simpa using h), wrap_in (by omega)]
    by_cases h2 : x.2 < y.2
    · rw [if_pos (.inr ⟨h, h2⟩)]; omega
    · rw [if_neg (by omega)]
      by_cases h3 : x = y
      · rw [if_pos h3]; subst h3; omega
      · rw [if_neg h3]
        have : x.2 ≠ y.2 := fun e => h3 (Prod.ext h e)
        omega
  · rw [if_pos h, wrap_in (by omega)]
    have h3 : x ≠ y := fun e => h (by rw [e])
    by_cases h2 : x.1 < y.1
    · rw [if_pos (.inl h2)]; omega
    · rw [if_neg (by omega), if_neg h3]; omega
theorem ris_congr {α : Type} {f g : α → α → Int} {Q : α → Prop} (h : ∀ x y, Q x → Q y → (f x y ≥ 0 ↔ g x y ≥ 0)) : ∀ (l : List α) (p : α), Q p → (∀ x ∈ l, Q x) → risL f p l = risL g p l
  | [], p, _, _ => rfl
  | x :: l, p, hp, hl => by
    rw [risL, risL, ris_congr h l x (hl x (by simp)) (fun y hy => hl y (by simp [hy]))]
    by_cases c : f p x ≥ 0
    · rw [if_pos c, if_pos ((h p x hp (hl x (by simp))).1 c)]
    · rw [if_neg c, if_neg (fun e => c ((h p x hp (hl x (by simp))).2 e))]
theorem risE_congr {α : Type} {f g : α → α → Int} {Q : α → Prop} (h : ∀ x y, Q x → Q y → (f x y ≥ 0 ↔ g x y ≥ 0)) (l : List α) (hl : ∀ x ∈ l, Q x) : risE f l = risE g l := by
  cases l with
  | nil => rfl
  | cons x l => exact ris_congr h l x (hl x (by simp)) (fun y hy => hl y (by simp [hy]))
theorem ris_len : ∀ (l : List Nd) (p : Nd), ok p → (∀ x ∈ l, ok x) → risL nd2 p l = true → p.1 * 6 + p.2 + (l.length : Int) ≤ 23
  | [], p, hp, _, _ => by obtain ⟨a, b, c, d⟩ := hp; simp; omega
  | x :: l, p, hp, hl, h => by
    rw [risL] at h
    split at h
    · cases h
    · rename_i hn
      have ih := ris_len l x (hl x (by simp)) (fun y hy => hl y (by simp [hy])) h
      have hx := hl x (by simp)
      obtain ⟨a1, a2, a3, a4⟩ := hp
      obtain ⟨b1, b2, b3, b4⟩ := hx
      have : p.1 < x.1 ∨ (p.1 = x.1 ∧ p.2 < x.2) := by
        unfold nd2 at hn
        by_cases c : p.1 < x.1 ∨ (p.1 = x.1 ∧ p.2 < x.2)
        · exact c
        · rw [if_neg c] at hn
          split at hn <;> simp at hn
      simp only [List.length_cons]
      omega
theorem alt_eq {rk n : Int} (h1 : rk ≤ 4) (h2 : n ≤ 6) (l : List Nd) : altE rk n l = altR rk n l := by
  rw [altE, altR, walk_none]
  by_cases hb : l.any (bad rk n) = true
  · rw [hb]
    have : (l.all fun x => !bad rk n x) = false := by
      obtain ⟨x, hx, hh⟩ := List.any_eq_true.1 hb
      rw [List.all_eq_false]
      exact ⟨x, hx, by simp [hh]⟩
    rw [this]
    simp
  · have hb' : l.any (bad rk n) = false := by simpa using hb
    have hok : ∀ x ∈ l, ok x := fun x hx => bad_ok h1 h2 (by
      have := List.any_eq_false.1 hb' x hx
      simpa using this)
    have hall : (l.all fun x => !bad rk n x) = true := by
      rw [List.all_eq_true]
      intro x hx
      have := List.any_eq_false.1 hb' x hx
      simpa using this
    rw [hb', hall, risE_congr (Q := ok) (fun x y hx hy => (nd_sign hx hy).1) l hok]
    cases hr : risE nd2 l with
    | false => simp
    | true =>
      have : (l.length : Int) ≤ 24 := by
        cases l with
        | nil => simp
        | cons x l =>
          have := ris_len l x (hok x (by simp)) (fun y hy => hok y (by simp [hy])) hr
          obtain ⟨a, b, c, d⟩ := hok x (by simp)
          simp only [List.length_cons]
          omega
      simp; omega
end Go.Vir
namespace Go.Vir
open Go Go.Abs
theorem cmpL_sign : ∀ (a b : List Nd), (∀ x ∈ a, ok x) → (∀ x ∈ b, ok x) → (cmpL nd1 a b ≥ 0 ↔ cmpL nd2 a b ≥ 0)
  | [], [], _, _ => by simp [cmpL]
  | [], _ :: _, _, _ => by simp [cmpL]
  | _ :: _, [], _, _ => by simp [cmpL]
  | x :: a, y :: b, ha, hb => by
    have hs := nd_sign (ha x (by simp)) (hb y (by simp))
    rw [cmpL, cmpL]
    by_cases c : nd1 x y = 0
    · rw [if_neg (by simpa using c), if_neg (by simpa using hs.2.1 c)]
      exact cmpL_sign a b (fun z hz => ha z (by simp [hz])) (fun z hz => hb z (by simp [hz]))
    · rw [if_pos c, if_pos (fun e => c (hs.2.2 e))]
      exact hs.1
theorem altR_ok {rk n : Int} (h1 : rk ≤ 4) (h2 : n ≤ 6) {l : List Nd} (h : altR rk n l = true) : ∀ x ∈ l, ok x := by
  rw [altR, walk_none, Bool.and_eq_true] at h
  intro x hx
  have := List.all_eq_true.1 h.1 x hx
  exact bad_ok h1 h2 (by simpa using this)
theorem row_eq {rk n : Int} (h1 : rk ≤ 4) (h2 : n ≤ 6) (l : List (List Nd)) : rowE rk n l = altsR rk n l := by
  rw [rowE, altsR, walk_none]
  congr 1
  have he : l.all (altE rk n) = l.all (altR rk n) := by
    congr 1
    funext x
    exact alt_eq h1 h2 x
  rw [he]
  cases hc : l.all (altR rk n) with
  | false => rfl
  | true =>
    rw [risE_congr (Q := fun a => ∀ x ∈ a, ok x) (fun a b ha hb => cmpL_sign a b ha hb) l (fun a ha => altR_ok h1 h2 (List.all_eq_true.1 hc a ha))]
theorem rows_eq {n : Int} (h2 : n ≤ 6) : ∀ (l : List (List (List Nd))) (r : List Int), (∀ x ∈ r, x ≤ 4) → rowsE n l r = rowsR n l r
  | [], _, _ => by rw [rowsE, rowsR]
  | _ :: _, [], _ => by rw [rowsE, rowsR]
  | a :: l, rk :: r, h => by rw [rowsE, rowsR, row_eq (h rk (by simp)) h2, rows_eq h2 l r (fun x hx => h x (by simp [hx]))]
theorem auto_eq (rks : List Int) (start : Int) (moves : List (List (List (List Nd)))) : autoE rks start moves = if autoR rks start moves then 0 else 10 := by
  rw [autoE, autoR]
  by_cases c : (!rksE rks || (decide ((moves.length : Int) < 1) || (decide ((moves.length : Int) > 6) || (decide (start < 0) || decide (start ≥ (moves.length : Int)))))) = true
  · rw [if_pos c, c]; rfl
  · have c' : (!rksE rks || (decide ((moves.length : Int) < 1) || (decide ((moves.length : Int) > 6) || (decide (start < 0) || decide (start ≥ (moves.length : Int)))))) = false := by simpa using c
    rw [c', if_neg (by decide)]
    simp only [Bool.or_eq_false_iff, Bool.not_eq_false', decide_eq_false_iff_not] at c'
    obtain ⟨c1, c2, c3, _⟩ := c'
    have hr : ∀ x ∈ rks, x ≤ 4 := by
      intro x hx
      rw [rksE, Bool.and_eq_true] at c1
      have := List.all_eq_true.1 c1.1 x hx
      simp at this
      omega
    have hm : movesE rks moves.length moves = movesR rks moves.length moves := by
      unfold movesE movesR
      congr 1
      funext row
      rw [rows_eq (by omega) row rks hr]
    rw [hm]
    simp
end Go.Vir
namespace Go.Vir
open Go Go.Abs
abbrev Bnd := Int × Typ
def BndL : List Bnd → List PV → Prop
  | [], es => es = []
  | b :: l, es => ∃ e es', es = e :: es' ∧ (∃ v, e.proj 3 = [.int .i64 b.1, .int .i64 b.2.st, v] ∧ TypV b.2 v) ∧ BndL l es'
def BndV (l : List Bnd) (v : PV) : Prop := ∃ es, Sl 3 es v ∧ BndL l es
def hvT : List Typ → Int → Int
  | [], n => n
  | t :: l, n => if n ≤ 1500 then hvT l (IntKind.wrap .i64 (n + t.nodes 1500)) else n
def hvS : List (List Typ) → Int → Int
  | [], n => n
  | l :: a, n => hvS a (hvT l n)
def hvB : List Bnd → Int → Int
  | [], n => n
  | b :: l, n => if n ≤ 1500 then hvB l (IntKind.wrap .i64 (n + b.2.nodes 1500)) else n
end Go.Vir
namespace Go.Proofs.YtjdknnlhhenpnaaGreatDoor
open Go Go.Abs Go.Vir
theorem hvT_run (l : List Typ) {xs xs' : List PV} {v : PV} (h1 : Sl 2 xs v) (h2 : TypL l xs') (pre : List PV) (he : xs = pre ++ xs') (k k2 k3 : PV) (tk : Option Tk) (y y2 n : Int) (S : St) {K : Int → PV × St}
    (hK : ∀ n', vlaw14_heavy_L1 true S k k2 k3 y n' (IntKind.wrap .i64 (y2 + 1)) S = some (K n')) :
    vlaw14_heavy_L2 true S k k2 k3 v tk y y2 n pre.length S = some (K (hvT l n)) := by
  induction l generalizing xs' pre n with
  | nil =>
    refine vlaw14_heavy_L2_of ?_
    unfold vlaw14_heavy_L2_b
    unfold TypL at h2
    subst h2
    subst he
    rw [h1.len]
    simp only [Option.bind_some]
    rw [lt_done, if_neg (by decide)]
    refine vlaw14_heavy_J1_of ?_
    unfold vlaw14_heavy_J1_b
    rw [if_neg (by decide), hK, hvT]
  | cons t l ih =>
    refine vlaw14_heavy_L2_of ?_
    unfold vlaw14_heavy_L2_b
    have hm := h1.max
    unfold TypL at h2
    obtain ⟨e, xs', rfl, ⟨u, h3, h4⟩, h5⟩ := h2
    rw [h1.len]
    simp only [Option.bind_some]
    rw [show decide ((pre.length : Int) < (xs.length : Int)) = true from by subst he; exact lt_more pre e xs', if_pos rfl]
    refine vlaw14_heavy_J1_of ?_
    unfold vlaw14_heavy_J1_b
    rw [hvT]
    by_cases hc : n ≤ 1500
    · rw [if_pos (decide_eq_true hc), if_pos hc, h1.elt he, h3, tnodes_run t h4]
      simp only [Option.bind_some, intOf, if_true]
      rw [idx_next pre e xs' (by rw [← he]; exact hm)]
      exact ih h5 (pre ++ [e]) (by simp [he]) _
    · rw [if_neg (show ¬ decide (n ≤ 1500) = true from by simpa using hc), if_neg hc, hK]
theorem hvS_run (l : List (List Typ)) {es es' : List PV} {v : PV} (h1 : Sl 1 es v) (h2 : SetsL l es') (pre : List PV) (he : es = pre ++ es') (k k3 : PV) (n : Int) (S : St) {K : Int → PV × St}
    (hK : ∀ n', vlaw14_heavy_L3 true S k v k3 n' 0 S = some (K n')) :
    vlaw14_heavy_L1 true S k v k3 es.length n pre.length S = some (K (hvS l n)) := by
  induction l generalizing es' pre n with
  | nil =>
    refine vlaw14_heavy_L1_of ?_
    unfold vlaw14_heavy_L1_b
    unfold SetsL at h2
    subst h2
    rw [show decide ((pre.length : Int) < (es.length : Int)) = false from by subst he; exact lt_done pre, if_neg (by decide), hK, hvS]
  | cons x l ih =>
    refine vlaw14_heavy_L1_of ?_
    unfold vlaw14_heavy_L1_b
    have hm := h1.max
    unfold SetsL at h2
    obtain ⟨e, es', rfl, ⟨xs, h3, h4⟩, h5⟩ := h2
    rw [show decide ((pre.length : Int) < (es.length : Int)) = true from by subst he; exact lt_more pre e es', if_pos rfl, h1.eltV he]
    rw [hvS]
    exact hvT_run x h3 h4 [] rfl k v k3 none es.length pre.length n S (K := fun n' => K (hvS l n')) (fun n' => by
      rw [idx_next pre e es' (by rw [← he]; exact hm)]
      exact ih h5 (pre ++ [e]) (by simp [he]) n')
theorem hvB_run (l : List Bnd) {es es' : List PV} {v : PV} (h1 : Sl 3 es v) (h2 : BndL l es') (pre : List PV) (he : es = pre ++ es') (k k2 : PV) (n : Int) (S : St) :
    vlaw14_heavy_L3 true S k k2 v n pre.length S = some (.bool (decide (hvB l n > 1500)), S) := by
  induction l generalizing es' pre n with
  | nil =>
    refine vlaw14_heavy_L3_of ?_
    unfold vlaw14_heavy_L3_b
    unfold BndL at h2
    subst h2
    subst he
    rw [h1.len]
    simp only [Option.bind_some]
    rw [lt_done, if_neg (by decide)]
    refine vlaw14_heavy_J2_of ?_
    unfold vlaw14_heavy_J2_b
    rw [if_neg (by decide), fin_self, hvB]
  | cons b l ih =>
    refine vlaw14_heavy_L3_of ?_
    unfold vlaw14_heavy_L3_b
    have hm := h1.max
    unfold BndL at h2
    obtain ⟨e, es', rfl, ⟨u, h3, h4⟩, h5⟩ := h2
    rw [h1.len]
    simp only [Option.bind_some]
    rw [show decide ((pre.length : Int) < (es.length : Int)) = true from by subst he; exact lt_more pre e es', if_pos rfl]
    refine vlaw14_heavy_J2_of ?_
    unfold vlaw14_heavy_J2_b
    rw [hvB]
    by_cases hc : n ≤ 1500
    · obtain ⟨a, ha⟩ := h1.iadr he
      rw [if_pos (decide_eq_true hc), if_pos hc, ha, h3]
      simp only [Option.bind_some, fadrV, List.drop_succ_cons, List.drop_zero]
      rw [ldP_ip (some S) (a.map fun x => x.add 1) [.int .i64 b.2.st, u] (n := 2) rfl]
      simp only [Option.bind_some]
      rw [tnodes_run b.2 h4]
      simp only [Option.bind_some, intOf, if_true]
      rw [idx_next pre e es' (by rw [← he]; exact hm)]
      exact ih h5 (pre ++ [e]) (by simp [he]) _
    · rw [if_neg (show ¬ decide (n ≤ 1500) = true from by simpa using hc), if_neg hc, fin_self]
theorem heavy_run (sets : List (List Typ)) (binds : List Bnd) {ps sv bv : PV} {es : List PV} (h1 : Sl 1 es sv) (h2 : SetsL sets es) (hb : BndV binds bv) (S : St) :
    R true n_vlaw14_heavy [.agg [ps, sv, bv]] S = some (.bool (decide (hvB binds (hvS sets 0) > 1500)), S) := by
  obtain ⟨bs, b1, b2⟩ := hb
  refine vlaw14_heavy_of ?_
  unfold vlaw14_heavy_b
  rw [h1.len]
  simp only [Option.bind_some]
  exact hvS_run sets h1 h2 [] rfl ps bv 0 S (K := fun n' => (.bool (decide (hvB binds n' > 1500)), S)) (fun n' => hvB_run binds b1 b2 [] rfl ps sv n' S)
end Go.Proofs.YtjdknnlhhenpnaaGreatDoor
