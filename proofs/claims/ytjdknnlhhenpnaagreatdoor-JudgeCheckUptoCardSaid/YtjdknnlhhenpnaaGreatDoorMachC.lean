/- A part of the proof of one statement: an abstract machine for the model, proved sound; equations of the functions over it; what they reckon. -/
import Derived.Test.YtjdknnlhhenpnaaGreatDoorMachB
import Derived.Test.YtjdknnlhhenpnaaGreatDoorMachA
import Derived.IntWalk
import Derived.Laws.StructEq
import Derived.Laws.Strings
set_option linter.unusedVariables false
set_option linter.unusedSimpArgs false
namespace Go.Abs
section
variable {P : Program} {T : Hints} {call : CallF} {F F' F1 : Fr} {S S' S1 : St} {f : FuncId}
theorem get_set_ne {d t : Tmp} {x : SV} (h : d ≠ t) : (F.set d x).get t = F.get t := by
  simp [Fr.get, Fr.set, List.getElem?_set_ne h]
theorem get_set_or {d t : Tmp} {x : SV} : (F.set d x).get t = F.get t ∨ (d = t ∧ (F.set d x).get t = x) := by
  by_cases h : d = t
  · subst h
    by_cases hl : d < F.env.length
    · right; simp [Fr.get, Fr.set, hl]
    · left; simp [Fr.get, Fr.set, List.set_eq_of_length_le (Nat.not_lt.1 hl)]
  · left; exact get_set_ne h
theorem get_put_ne {d : Option Tmp} {t : Tmp} {x : SV} (h : d ≠ some t) : (F.put d x).get t = F.get t := by
  cases d with
  | none => rfl
  | some d => exact get_set_ne (fun e => h (by rw [e]))
theorem get_put_or {d : Option Tmp} {t : Tmp} {x : SV} : (F.put d x).get t = F.get t ∨ (d = some t ∧ (F.put d x).get t = x) := by
  cases d with
  | none => exact .inl rfl
  | some d => rcases get_set_or (F := F) (d := d) (t := t) (x := x) with h | ⟨h, h'⟩
              · exact .inl h
              · exact .inr ⟨by rw [h], h'⟩
theorem set_comm {d e : Tmp} (x y : SV) (h : d ≠ e) : (F.set d x).set e y = (F.set e y).set d x := by
  simp [Fr.set, List.set_comm _ _ h]
theorem put_comm {d e : Option Tmp} (x y : SV) (h : ∀ t, d = some t → e ≠ some t) : (F.put d x).put e y = (F.put e y).put d x := by
  cases d with
  | none => rfl
  | some d => cases e with
    | none => rfl
    | some e => exact set_comm x y (fun he => h d rfl (by rw [he]))
def NoTo (F : Fr) (d : Tmp) : Prop := ∀ t, (F.get t).notTo d = true
theorem noTo_iff {d : Tmp} : F.env.all (SV.notTo d) = true ↔ NoTo F d := by
  constructor
  · intro h t
    cases hx : F.env[t]? with
    | none => simp [Fr.get, List.getD, hx, SV.notTo]
    | some x =>
      rw [env_get hx]
      exact List.all_eq_true.1 h x (List.mem_of_getElem? hx)
  · intro h
    refine List.all_eq_true.2 fun x hx => ?_
    obtain ⟨t, ht⟩ := List.getElem?_of_mem hx
    rw [← env_get ht]; exact h t
structure Close (d : Option Tmp) (weak : Bool) (F F1 : Fr) : Prop where
  off : ∀ t, d ≠ some t → F1.get t = F.get t ∨ (weak = true ∧ isBox F t = true ∧ isBox F1 t = true)
  on : ∀ t, d = some t → (isBox F t = false ∧ isBox F1 t = false) ∨ NoTo F t
structure EqO (ops : List Oper) (o : Oper) (weak : Bool) (F F1 : Fr) : Prop where
  opd : ∀ x ∈ o.op.operands, opd F1 x = opd F x
  guard : ∀ j want d, o.guard = some (j, want) → (ops[j]?).bind (·.dst) = some d → (F1.get d).pv = (F.get d).pv
  box : ∀ x ∈ o.op.operands, ∀ t off, Abs.opd F x = .lp t off → F1.get t = F.get t ∨ (weak = true ∧ isBox F t = true ∧ isBox F1 t = true) ∨ (isBox F t = false ∧ isBox F1 t = false)
theorem isBox_iff {t : Tmp} : isBox F t = true ↔ ∃ cs, F.get t = .box cs := by
  unfold isBox
  cases F.get t <;> simp
theorem Close.eqO {d : Option Tmp} {weak : Bool} (h : Close d weak F F1) {ops : Array Oper} {o : Oper} (hd : ∀ t, d = some t → t ∉ o.looksAt ops) : EqO ops.toList o weak F F1 := by
  have hop : ∀ t, Operand.tmp t ∈ o.op.operands → d ≠ some t := fun t ht e => hd t e (List.mem_append_left _ (List.mem_filterMap.2 ⟨.tmp t, by simpa using ht, rfl⟩))
  refine ⟨fun x hx => ?_, fun j want e hg he => ?_, fun x hx t off ho => ?_⟩
  · cases x with
    | tmp t =>
      rcases h.off t (hop t hx) with he | ⟨_, h1, h2⟩
      · simp only [opd, he]
      · obtain ⟨c1, h1⟩ := isBox_iff.1 h1
        obtain ⟨c2, h2⟩ := isBox_iff.1 h2
        simp only [opd, h1, h2]
    | _ => rfl
  · have hne : d ≠ some e := fun hh => hd e hh (List.mem_append_right _ (by
      rw [hg]; simp only
      rw [Array.getElem?_toList] at he
      rw [he]; simp))
    rcases h.off e hne with he | ⟨_, h1, h2⟩
    · rw [he]
    · obtain ⟨c1, h1⟩ := isBox_iff.1 h1
      obtain ⟨c2, h2⟩ := isBox_iff.1 h2
      rw [h1, h2]; rfl
  · have main : (∀ s, d = some s → s = t → (isBox F t = false ∧ isBox F1 t = false)) → F1.get t = F.get t ∨ (weak = true ∧ isBox F t = true ∧ isBox F1 t = true) ∨ (isBox F t = false ∧ isBox F1 t = false) := by
      intro hh
      by_cases hdt : d = some t
      · exact .inr (.inr (hh t hdt rfl))
      · rcases h.off t hdt with a | b
        · exact .inl a
        · exact .inr (.inl b)
    cases x with
    | tmp s =>
      have hs := hop s hx
      simp only [opd] at ho
      refine main fun u hu hut => ?_
      subst hut
      rcases h.on u hu with hb | hn
      · exact hb
      · exfalso
        have := hn s
        cases hg : F.get s with
        | v y k => rw [hg] at ho; cases ho
        | box cs => rw [hg] at ho; cases ho; exact hs hu
        | lp s' o' => rw [hg] at ho this; cases ho; simp [SV.notTo] at this
    | const v => simp [opd] at ho
    | global g => simp [opd] at ho
    | func g => simp [opd] at ho
theorem ld_objs {S S1 : St} (h : S1.objs = S.objs) {agg : Bool} {n : Nat} {p : SV} : ld (some S1) F agg n p = ld (some S) F agg n p := by
  cases p with
  | v x k => cases x <;> simp [ld, h]
  | _ => rfl
theorem samePtrS_objs {S S1 : St} (h : S1.objs = S.objs) (x y : PV) : samePtrS S1 x y = samePtrS S x y := by
  unfold samePtrS isCells isBlk
  rw [h]
theorem keyEq_objs {S S1 : St} (h : S1.objs = S.objs) (t : TypeId) (x y : PV) : keyEq P S1 t x y = keyEq P S t x y := by
  unfold keyEq
  simp only [samePtrS_objs h]
theorem keysEq_objs {S S1 : St} (h : S1.objs = S.objs) : ∀ (ts : List TypeId) (xs ys : List PV), keysEq P S1 ts xs ys = keysEq P S ts xs ys
  | [], [], [] => rfl
  | t :: ts, x :: xs, y :: ys => by simp only [keysEq, keyEq_objs h, keysEq_objs h ts xs ys]
  | [], [], _ :: _ => rfl
  | [], _ :: _, _ => rfl
  | _ :: _, [], _ => rfl
  | _ :: _, _ :: _, [] => rfl
theorem keyEqT_objs {S S1 : St} (h : S1.objs = S.objs) (t : TypeId) (x y : PV) : keyEqT P S1 t x y = keyEqT P S t x y := by
  unfold keyEqT
  simp only [keyEq_objs h, keysEq_objs h]
theorem findKey_objs {S S1 : St} (h : S1.objs = S.objs) (t : TypeId) (k : PV) : ∀ (es : List (PV × PV)), findKey P S1 t k es = findKey P S t k es
  | [] => rfl
  | e :: es => by simp only [findKey, keyEqT_objs h, findKey_objs h t k es]
theorem mapEs_objs {S S1 : St} (h : S1.objs = S.objs) (m : PV) : mapEs S1 m = mapEs S m := by
  cases m <;> simp [mapEs, h]
def Puts (P : Program) (T : Hints) (call : CallF) (f : FuncId) (free : Bool) (o : Oper) (F : Fr) (S : St) (u : SV) (ops : List Oper) : Prop :=
  (∀ s off, u = .lp s off → ∃ x ∈ o.op.operands, ∃ off', opd F x = .lp s off') ∧ ((∃ cs, u = .box cs) → ∀ d, o.dst = some d → NoTo F d) ∧
  ∀ F1 S1 weak, EqO ops o weak F F1 → (weak = true → cls T f o = 0) → (cls T f o = 1 → free = false → S1.objs = S.objs) → ((∃ cs, u = .box cs) → ∀ d, o.dst = some d → NoTo F1 d) →
    evalO P T call f free o F1 S1 = some (F1.put o.dst u, S1)
theorem val_inv {o : Oper} {X : Option SV} (h : (X.bind fun x => (chk (match o.dst with | some d => x.notTo d | none => true)).map fun _ => (F.put o.dst x, S)) = some (F', S')) :
    ∃ u, X = some u ∧ F' = F.put o.dst u ∧ S' = S ∧ ∀ F1 S1, ((some u).bind fun x => (chk (match o.dst with | some d => x.notTo d | none => true)).map fun _ => (Fr.put F1 o.dst x, S1)) = some (Fr.put F1 o.dst u, (S1 : St)) := by
  obtain ⟨u, hu, h1⟩ := Option.bind_eq_some_iff.1 h
  obtain ⟨q, hq, h2⟩ := Option.map_eq_some_iff.1 h1
  cases h2
  exact ⟨u, hu, rfl, rfl, fun F1 S1 => by rw [Option.bind_some, hq]; rfl⟩
theorem pv_inv {o : Oper} {X : Option PV} (h : (X.map fun x => (F.put o.dst (.v x none), S)) = some (F', S')) :
    ∃ u, X = some u ∧ F' = F.put o.dst (.v u none) ∧ S' = S := by
  obtain ⟨u, hu, h1⟩ := Option.map_eq_some_iff.1 h
  cases h1
  exact ⟨u, hu, rfl, rfl⟩
theorem puts_pv {o : Oper} {free : Bool} {ops : List Oper} {X : Fr → Option PV} (hc : cls T f o ≤ 1) (hX : ∀ F F1 : Fr, (∀ x ∈ o.op.operands, opd F1 x = opd F x) → X F1 = X F)
    (he : ∀ F S, evalO P T call f free o F S = (X F).map fun x => (F.put o.dst (.v x none), S)) (h : evalO P T call f free o F S = some (F', S')) :
    ∃ u, F' = F.put o.dst u ∧ S' = S ∧ Puts P T call f free o F S u ops := by
  rw [he] at h
  obtain ⟨u, hu, e1, e2⟩ := pv_inv h
  refine ⟨_, e1, e2, fun s off e => by (cases e), (fun ⟨cs, e⟩ => by (cases e)), fun F1 S1 weak hE _ _ _ => ?_⟩
  rw [he, hX F F1 hE.opd, hu]; rfl
theorem puts_val {o : Oper} {free : Bool} {ops : List Oper} {X : Fr → St → Option SV} (hc : cls T f o ≤ 1)
    (hX : ∀ F1 S1 weak, EqO ops o weak F F1 → (weak = true → cls T f o = 0) → (cls T f o = 1 → free = false → S1.objs = S.objs) → X F1 S1 = X F S)
    (he : ∀ F S, evalO P T call f free o F S = (X F S).bind fun x => (chk (match o.dst with | some d => x.notTo d | none => true)).map fun _ => (F.put o.dst x, S))
    (hl : ∀ u, X F S = some u → (∀ cs, u ≠ .box cs) ∧ ∀ s off, u = .lp s off → ∃ x ∈ o.op.operands, ∃ off', opd F x = .lp s off')
    (h : evalO P T call f free o F S = some (F', S')) : ∃ u, F' = F.put o.dst u ∧ S' = S ∧ Puts P T call f free o F S u ops := by
  rw [he] at h
  obtain ⟨u, hu, e1, e2, hk⟩ := val_inv h
  refine ⟨u, e1, e2, (hl u hu).2, (fun ⟨cs, e⟩ => absurd e ((hl u hu).1 cs)), fun F1 S1 weak hE hw hs _ => ?_⟩
  rw [he, hX F1 S1 weak hE hw hs, hu]; exact hk F1 S1
theorem opd_ne_box {x : Operand} {cs : List Cell} : opd F x ≠ .box cs := by
  cases x with
  | tmp t => simp only [opd]; cases F.get t <;> simp
  | const v => simp [opd]
  | global v => simp [opd]
  | func v => simp [opd]
theorem opv_eq {x : Operand} (h : opd F1 x = opd F x) : opv F1 x = opv F x := by unfold opv; rw [h]
theorem optInt_eq {x : Option Operand} (h : ∀ y ∈ x, opd F1 y = opd F y) : optInt F1 x = optInt F x := by
  cases x with
  | none => rfl
  | some y => simp only [optInt, opv_eq (h y rfl)]
theorem opvL_eq {l : List Operand} (h : ∀ x ∈ l, opd F1 x = opd F x) : l.map (opv F1) = l.map (opv F) := List.map_congr_left fun x hx => opv_eq (h x hx)
theorem partsL_eq {l : List (Nat × Operand)} (h : ∀ x ∈ l.map (·.2), opd F1 x = opd F x) : (l.map fun p => (p.1, opv F1 p.2)) = l.map fun p => (p.1, opv F p.2) :=
  List.map_congr_left fun p hp => by rw [opv_eq (h p.2 (List.mem_map_of_mem hp))]
theorem get_nbox {t : Tmp} (h : isBox F t = false) : ∀ cs, F.get t ≠ .box cs := fun cs e => by simp [isBox, e] at h
theorem ld_eq {So : Option St} {agg : Bool} {n : Nat} {p : SV} (h : ∀ t off, p = .lp t off → F1.get t = F.get t ∨ (isBox F t = false ∧ isBox F1 t = false)) : ld So F1 agg n p = ld So F agg n p := by
  cases p with
  | lp t off =>
    simp only [ld]
    rcases h t off rfl with e | ⟨h1, h2⟩
    · rw [e]
    · have a := get_nbox h1
      have b := get_nbox h2
      generalize F.get t = x at a
      generalize F1.get t = y at b
      cases x <;> cases y <;> first | rfl | exact absurd rfl (a _) | exact absurd rfl (b _)
  | box cs => rfl
  | v x k => cases x <;> rfl
theorem isBox_eq {weak : Bool} {t : Tmp} (h : F1.get t = F.get t ∨ (weak = true ∧ isBox F t = true ∧ isBox F1 t = true) ∨ (isBox F t = false ∧ isBox F1 t = false)) : isBox F1 t = isBox F t := by
  rcases h with h | ⟨_, h1, h2⟩ | ⟨h1, h2⟩
  · unfold isBox; rw [h]
  · rw [h1, h2]
  · rw [h1, h2]
theorem ld_nobox {So : Option St} {agg : Bool} {n : Nat} {p u : SV} (h : ld So F agg n p = some u) : ∃ x k, u = .v x k := by
  cases p with
  | lp t off =>
    simp only [ld] at h
    split at h
    · obtain ⟨cs, _, h1⟩ := Option.bind_eq_some_iff.1 h; exact aggV_form h1
    · cases h
  | box cs => cases h
  | v x k =>
    cases x with
    | ip a cs => obtain ⟨cs, _, h1⟩ := Option.bind_eq_some_iff.1 h; exact aggV_form h1
    | ref id off =>
      obtain ⟨S1, _, h1⟩ := Option.bind_eq_some_iff.1 h
      split at h1
      · obtain ⟨cs, _, h2⟩ := Option.bind_eq_some_iff.1 h1; exact aggV_form h2
      · cases h1
    | _ => cases h
theorem nilc_eq {weak : Bool} {p : SV} (h : ∀ t off, p = .lp t off → F1.get t = F.get t ∨ (weak = true ∧ isBox F t = true ∧ isBox F1 t = true) ∨ (isBox F t = false ∧ isBox F1 t = false)) : nilc F1 p = nilc F p := by
  cases p with
  | lp t off => simp only [nilc, isBox_eq (h t off rfl)]
  | box cs => rfl
  | v x k => cases x <;> rfl
theorem fadr_eq {weak : Bool} {p : SV} {n : Nat} (h : ∀ t off, p = .lp t off → F1.get t = F.get t ∨ (weak = true ∧ isBox F t = true ∧ isBox F1 t = true) ∨ (isBox F t = false ∧ isBox F1 t = false)) : fadr F1 n p = fadr F n p := by
  cases p with
  | lp t off => simp only [fadr, isBox_eq (h t off rfl)]
  | box cs => rfl
  | v x k => cases x <;> rfl
theorem v_ok {o : Oper} {u : SV} (h : ∃ x k, u = .v x k) : (∀ cs, u ≠ .box cs) ∧ ∀ s off, u = .lp s off → ∃ x ∈ o.op.operands, ∃ off', opd F x = .lp s off' := by
  obtain ⟨x, k, rfl⟩ := h
  exact ⟨fun cs e => (by cases e), fun s off e => (by cases e)⟩
theorem newCells_eq {x : Operand} {agg : Bool} {n : Nat} (h : opd F1 x = opd F x) : newCells (opd F1 x) agg n = newCells (opd F x) agg n := by rw [h]
theorem puts_box {o : Oper} {free : Bool} {ops : List Oper} {d : Tmp} {X : Fr → Option (List Cell)} (hd : o.dst = some d) (hX : ∀ F F1 : Fr, (∀ x ∈ o.op.operands, opd F1 x = opd F x) → X F1 = X F)
    (he : ∀ F S, evalO P T call f free o F S = (X F).bind fun cs => (chk (F.env.all (SV.notTo d))).map fun _ => (F.set d (.box cs), S)) (h : evalO P T call f free o F S = some (F', S')) :
    ∃ u, F' = F.put o.dst u ∧ S' = S ∧ Puts P T call f free o F S u ops := by
  rw [he] at h
  obtain ⟨cs, hcs, h1⟩ := Option.bind_eq_some_iff.1 h
  obtain ⟨q, hq, h2⟩ := Option.map_eq_some_iff.1 h1
  cases h2
  have hno : NoTo F d := by
    refine noTo_iff.1 ?_
    unfold chk at hq
    split at hq
    · assumption
    · cases hq
  refine ⟨.box cs, by rw [hd]; rfl, rfl, fun s off e => by (cases e), fun _ d' h' => (by rw [hd] at h'; cases h'; exact hno), fun F1 S1 weak hE _ _ hn => ?_⟩
  rw [he, hX F F1 hE.opd, hcs, Option.bind_some, noTo_iff.2 (hn ⟨cs, rfl⟩ d hd), hd]; rfl
theorem puts_op (o : Oper) {free : Bool} {ops : List Oper} (hc : cls T f o ≤ 1) (h : evalO P T call f free o F S = some (F', S')) : ∃ u, F' = F.put o.dst u ∧ S' = S ∧ Puts P T call f free o F S u ops := by
  obtain ⟨dst, op, type, pos, after, guard⟩ := o
  cases op with
  | move x =>
    exact puts_val (F := F) (S := S) (ops := ops) (X := fun F S => some (opd F x)) hc (fun F1 S1 weak hE _ _ => by simp [hE.opd x (by simp [Op.operands])]) (fun F S => rfl)
      (fun u hu => by cases hu; exact ⟨fun cs => opd_ne_box, fun s off e => ⟨x, by simp [Op.operands], off, e⟩⟩) h
  | assign x =>
    exact puts_val (F := F) (S := S) (ops := ops) (X := fun F S => some (opd F x)) hc (fun F1 S1 weak hE _ _ => by simp [hE.opd x (by simp [Op.operands])]) (fun F S => rfl)
      (fun u hu => by cases hu; exact ⟨fun cs => opd_ne_box, fun s off e => ⟨x, by simp [Op.operands], off, e⟩⟩) h
  | pick c x y =>
    exact puts_val (F := F) (S := S) (ops := ops) (X := fun F S => (asBool (opv F c)).map fun b => if b then opd F x else opd F y) hc
      (fun F1 S1 weak hE _ _ => by simp only [opv_eq (hE.opd c (by simp [Op.operands])), hE.opd x (by simp [Op.operands]), hE.opd y (by simp [Op.operands])])
      (fun F S => by simp only [evalO]; cases asBool (opv F c) <;> rfl)
      (fun u hu => by
        obtain ⟨b, _, rfl⟩ := Option.map_eq_some_iff.1 hu
        cases b
        · exact ⟨fun cs => opd_ne_box, fun s off e => ⟨y, by simp [Op.operands], off, e⟩⟩
        · exact ⟨fun cs => opd_ne_box, fun s off e => ⟨x, by simp [Op.operands], off, e⟩⟩) h
  | alloc t => cases dst with
    | none => simp [evalO] at h
    | some d =>
      have hT : T.esc f d = false := by
        simp only [cls] at hc
        cases hb : T.esc f d with
        | false => rfl
        | true => simp [hb] at hc
      exact puts_box (F := F) (S := S) (ops := ops) (d := d) (X := fun F => (zeroOf P t).map fun z => z.map fun c => (c, none)) rfl (fun _ _ _ => rfl)
        (fun F S => by simp only [evalO, hT]; cases zeroOf P t <;> rfl) h
  | box t x => cases dst with
    | none =>
      simp only [evalO] at h
      obtain ⟨n, _, h⟩ := Option.bind_eq_some_iff.1 h
      obtain ⟨n, _, h⟩ := Option.bind_eq_some_iff.1 h
      cases h
    | some d =>
      have hT : T.esc f d = false := by
        simp only [cls] at hc
        cases hb : T.esc f d with
        | false => rfl
        | true => simp [hb] at hc
      exact puts_box (F := F) (S := S) (ops := ops) (d := d) (X := fun F => (szOf P t).bind fun n => newCells (opd F x) (aggOf P t) n) rfl
        (fun F F1 hE => by simp only [hE x (by simp [Op.operands])])
        (fun F S => by
          simp only [evalO, hT]
          cases szOf P t with
          | none => rfl
          | some n => simp only [Option.bind_some]; cases newCells (opd F x) (aggOf P t) n <;> rfl) h
  | load t p =>
    exact puts_val (F := F) (S := S) (ops := ops) (X := fun F S => (szOf P t).bind fun n => (ld (if free then none else some S) F (aggOf P t) n (opd F p)).map (SV.keep (isSlice P t))) hc
      (fun F1 S1 weak hE hw hs => by
        have hS : ∀ n p, ld (if free then none else some S1 : Option St) F1 (aggOf P t) n p = ld (if free then none else some S) F1 (aggOf P t) n p := by
          intro n p
          cases free with
          | true => rfl
          | false => exact ld_objs (hs rfl rfl)
        have hw' : weak = false := by
          cases weak with
          | false => rfl
          | true => exact absurd (hw rfl) (by simp [cls])
        simp only [hS, hE.opd p (by simp [Op.operands])]
        cases szOf P t with
        | none => rfl
        | some n =>
          simp only [Option.bind_some]
          congr 1
          refine ld_eq fun t off e => ?_
          rcases hE.box p (by simp [Op.operands]) t off e with h | ⟨h, _⟩ | h
          · exact .inl h
          · rw [hw'] at h; cases h
          · exact .inr h)
      (fun F S => by simp only [evalO]; cases szOf P t <;> rfl)
      (fun u hu => by
        obtain ⟨n, _, hu⟩ := Option.bind_eq_some_iff.1 hu
        obtain ⟨u', hu', rfl⟩ := Option.map_eq_some_iff.1 hu
        obtain ⟨x, k, rfl⟩ := ld_nobox hu'
        exact v_ok ⟨_, _, rfl⟩) h
  | nilCheck x =>
    exact puts_val (F := F) (S := S) (ops := ops) (X := fun F S => nilc F (opd F x)) hc
      (fun F1 S1 weak hE _ _ => by simp only [hE.opd x (by simp [Op.operands])]; exact nilc_eq (hE.box x (by simp [Op.operands])))
      (fun F S => rfl)
      (fun u hu => by
        revert hu
        generalize hp : opd F x = p
        intro hu
        cases p with
        | lp t off =>
          obtain ⟨_, _, rfl⟩ := Option.map_eq_some_iff.1 hu
          exact ⟨fun cs e => (by cases e), fun s off' e => (by cases e; exact ⟨x, by simp [Op.operands], off, hp⟩)⟩
        | box cs => cases hu
        | v y k => cases y <;> simp [nilc] at hu <;> exact v_ok ⟨_, _, hu.symm⟩) h
  | fieldAddr t x i =>
    exact puts_val (F := F) (S := S) (ops := ops) (X := fun F S => (fieldOf P t i).bind fun r => if r.2.1 = 0 then none else fadr F r.1 (opd F x)) hc
      (fun F1 S1 weak hE _ _ => by
        simp only [hE.opd x (by simp [Op.operands])]
        cases fieldOf P t i with
        | none => rfl
        | some r => simp only [Option.bind_some, fadr_eq (hE.box x (by simp [Op.operands]))])
      (fun F S => by
        simp only [evalO]
        cases fieldOf P t i with
        | none => rfl
        | some r => simp only [Option.bind_some]; split <;> rfl)
      (fun u hu => by
        obtain ⟨r, _, hu⟩ := Option.bind_eq_some_iff.1 hu
        split at hu
        · cases hu
        revert hu
        generalize hp : opd F x = p
        intro hu
        cases p with
        | lp t off =>
          obtain ⟨_, _, rfl⟩ := Option.map_eq_some_iff.1 hu
          exact ⟨fun cs e => (by cases e), fun s off' e => (by cases e; exact ⟨x, by simp [Op.operands], off, hp⟩)⟩
        | box cs => cases hu
        | v y k => cases y <;> simp [fadr] at hu <;> exact v_ok ⟨_, _, hu.symm⟩) h
  | binOp b t x y t' =>
    exact puts_pv (X := fun F => binA P b t (opv F x) (opv F y)) hc (fun F F1 hE => by simp only [opv_eq (hE x (by simp [Op.operands])), opv_eq (hE y (by simp [Op.operands]))]) (fun F S => rfl) h
  | unOp b t x =>
    exact puts_pv (X := fun F => unA b (opv F x)) hc (fun F F1 hE => by simp only [opv_eq (hE x (by simp [Op.operands]))]) (fun F S => rfl) h
  | convert t t' x =>
    exact puts_pv (X := fun F => convA P t t' (opv F x)) hc (fun F F1 hE => by simp only [opv_eq (hE x (by simp [Op.operands]))]) (fun F S => rfl) h
  | indexAddr t x i =>
    exact puts_pv (X := fun F => (asInt (opv F i)).bind fun i => (elemOf P t).bind fun e => iadr e.1 (opv F x) i) hc
      (fun F F1 hE => by simp only [opv_eq (hE x (by simp [Op.operands])), opv_eq (hE i (by simp [Op.operands]))])
      (fun F S => by
        simp only [evalO]
        cases asInt (opv F i) with
        | none => rfl
        | some n => simp only [Option.bind_some]; cases elemOf P t <;> rfl) h
  | index t x i =>
    exact puts_pv (X := fun F => if isStr P t then (asInt (opv F i)).bind fun i => idx (opv F x) i else none) hc
      (fun F F1 hE => by simp only [opv_eq (hE x (by simp [Op.operands])), opv_eq (hE i (by simp [Op.operands]))])
      (fun F S => by
        simp only [evalO]
        split
        · cases asInt (opv F i) <;> rfl
        · rfl) h
  | build t ps =>
    exact puts_pv (X := fun F => buildA P t (ps.toList.map fun p => (p.1, opv F p.2))) hc
      (fun F F1 hE => by rw [partsL_eq (F := F) (F1 := F1) fun x hx => hE x (by simpa [Op.operands] using hx)]) (fun F S => rfl) h
  | extract x i =>
    exact puts_pv (X := fun F => (chk (decide (i < (opv F x).comps.length))).bind fun _ => some ((opv F x).comps.getD i .undef)) hc
      (fun F F1 hE => by simp only [opv_eq (hE x (by simp [Op.operands]))])
      (fun F S => by simp only [evalO]; cases chk (decide (i < (opv F x).comps.length)) <;> rfl) h
  | field t x i =>
    exact puts_val (F := F) (S := S) (ops := ops) (X := fun F S => (fieldOf P t i).bind fun r => fieldA r.1 r.2.1 r.2.2 (opv F x)) hc
      (fun F1 S1 weak hE _ _ => by simp only [opv_eq (hE.opd x (by simp [Op.operands]))])
      (fun F S => by simp only [evalO]; cases fieldOf P t i <;> rfl)
      (fun u hu => by
        obtain ⟨r, _, hu⟩ := Option.bind_eq_some_iff.1 hu
        refine v_ok ?_
        unfold fieldA at hu
        split at hu
        · obtain ⟨cs, _, hu⟩ := Option.bind_eq_some_iff.1 hu
          exact aggV_form hu
        · cases hu) h
  | buildSlice t n ps =>
    exact puts_val (F := F) (S := S) (ops := ops) (X := fun F S => (buildSl P t n (ps.toList.map fun p => (p.1, opv F p.2))).map fun x => .v x (some .full)) hc
      (fun F1 S1 weak hE _ _ => by rw [partsL_eq (F := F) (F1 := F1) fun x hx => hE.opd x (by simpa [Op.operands] using hx)])
      (fun F S => rfl)
      (fun u hu => by
        obtain ⟨r, _, rfl⟩ := Option.map_eq_some_iff.1 hu
        exact v_ok ⟨_, _, rfl⟩) h
  | slice t x lo hi mx =>
    exact puts_val (F := F) (S := S) (ops := ops) (X := fun F S => (optInt F lo).bind fun lo => (optInt F hi).bind fun hi => (optInt F mx).bind fun mx =>
        if isStr P t then (if mx = none then (strSlc (opv F x) lo hi).map fun x => .v x none else none)
        else (elemOf P t).bind fun e => (slc e.1 (opv F x) lo hi mx).map fun r => .v r.1 r.2) hc
      (fun F1 S1 weak hE _ _ => by
        rw [optInt_eq (F := F) (F1 := F1) (x := lo) fun y hy => hE.opd y (by cases hy; simp [Op.operands]), optInt_eq (F := F) (F1 := F1) (x := hi) fun y hy => hE.opd y (by cases hy; simp [Op.operands]),
          optInt_eq (F := F) (F1 := F1) (x := mx) fun y hy => hE.opd y (by cases hy; simp [Op.operands]), opv_eq (hE.opd x (by simp [Op.operands]))])
      (fun F S => by
        simp only [evalO]
        cases optInt F lo with
        | none => rfl
        | some lo =>
          simp only [Option.bind_some]
          cases optInt F hi with
          | none => rfl
          | some hi =>
            simp only [Option.bind_some]
            cases optInt F mx with
            | none => rfl
            | some mx =>
              simp only [Option.bind_some]
              split
              · split
                · cases strSlc (opv F x) lo hi with
                  | none => rfl
                  | some y => cases dst <;> rfl
                · rfl
              · cases elemOf P t with
                | none => rfl
                | some e => rfl)
      (fun u hu => by
        obtain ⟨lo', _, hu⟩ := Option.bind_eq_some_iff.1 hu
        obtain ⟨hi', _, hu⟩ := Option.bind_eq_some_iff.1 hu
        obtain ⟨mx', _, hu⟩ := Option.bind_eq_some_iff.1 hu
        refine v_ok ?_
        split at hu
        · split at hu
          · obtain ⟨r, _, rfl⟩ := Option.map_eq_some_iff.1 hu
            exact ⟨_, _, rfl⟩
          · cases hu
        · obtain ⟨e, _, hu⟩ := Option.bind_eq_some_iff.1 hu
          obtain ⟨r, _, rfl⟩ := Option.map_eq_some_iff.1 hu
          exact ⟨_, _, rfl⟩) h
  | makeFunc g first caps =>
    cases g with
    | func g =>
      exact puts_pv (X := fun F => if first.isEmpty then some (.fn g (caps.toList.map (opv F))) else none) hc
        (fun F F1 hE => by rw [opvL_eq (F := F) (F1 := F1) fun x hx => hE x (by simp [Op.operands, Array.mem_toList_iff.1 hx])])
        (fun F S => by simp only [evalO]; split <;> rfl) h
    | _ => simp [evalO] at h
  | lookup t m k ok =>
    exact puts_val (F := F) (S := S) (ops := ops) (X := fun F S => (mapOf P t).bind fun ke => (if free then none else some S : Option St).bind fun S' => (chk (keyOk P ke.1 (opv F k))).bind fun _ => (mapEs S' (opv F m)).bind fun es =>
        (findKey P S' ke.1 (opv F k) es).bind fun r => (zeroPV P ke.2).map fun z => .v (if ok then .tup [r.getD z, .bool r.isSome] else r.getD z) none) hc
      (fun F1 S1 weak hE hw hs => by
        simp only [opv_eq (hE.opd m (by simp [Op.operands])), opv_eq (hE.opd k (by simp [Op.operands]))]
        cases free with
        | true => rfl
        | false =>
          have h := hs rfl rfl
          simp only [Bool.false_eq_true, if_false, Option.bind_some, mapEs_objs h, findKey_objs h])
      (fun F S => by
        simp only [evalO]
        cases mapOf P t with
        | none => rfl
        | some ke =>
          simp only [Option.bind_some]
          cases (if free then none else some S : Option St) with
          | none => rfl
          | some S' =>
            simp only [Option.bind_some]
            cases chk (keyOk P ke.1 (opv F k)) with
            | none => rfl
            | some _ =>
              simp only [Option.bind_some]
              cases mapEs S' (opv F m) with
              | none => rfl
              | some es =>
                simp only [Option.bind_some]
                cases findKey P S' ke.1 (opv F k) es with
                | none => rfl
                | some r =>
                  simp only [Option.bind_some]
                  cases zeroPV P ke.2 with
                  | none => rfl
                  | some z => cases dst <;> rfl)
      (fun u hu => by
        obtain ⟨_, _, hu⟩ := Option.bind_eq_some_iff.1 hu
        obtain ⟨_, _, hu⟩ := Option.bind_eq_some_iff.1 hu
        obtain ⟨_, _, hu⟩ := Option.bind_eq_some_iff.1 hu
        obtain ⟨_, _, hu⟩ := Option.bind_eq_some_iff.1 hu
        obtain ⟨_, _, hu⟩ := Option.bind_eq_some_iff.1 hu
        obtain ⟨_, _, rfl⟩ := Option.map_eq_some_iff.1 hu
        exact v_ok ⟨_, _, rfl⟩) h
  | call c =>
    obtain ⟨callee, as, ts⟩ := c
    cases callee with
    | value g => simp [cls] at hc
    | invoke r m => simp [evalO] at h
    | builtin b =>
      cases b with
      | max =>
        exact puts_pv (X := fun F => foldInt maxI (as.toList.map (opv F))) hc
          (fun F F1 hE => by rw [opvL_eq (F := F) (F1 := F1) fun x hx => hE x (by simp [Op.operands, Call.operands, Array.mem_toList_iff.1 hx])]) (fun F S => rfl) h
      | min =>
        exact puts_pv (X := fun F => foldInt minI (as.toList.map (opv F))) hc
          (fun F F1 hE => by rw [opvL_eq (F := F) (F1 := F1) fun x hx => hE x (by simp [Op.operands, Call.operands, Array.mem_toList_iff.1 hx])]) (fun F S => rfl) h
      | len =>
        obtain ⟨l1⟩ := as
        obtain ⟨l2⟩ := ts
        match l1, l2 with
        | [x], [t] =>
          exact puts_val (F := F) (S := S) (ops := ops) (X := fun F S => match mapOf P t with
              | some _ => (if free then none else some S : Option St).bind fun S' => (mapEs S' (opv F x)).map fun es => .v (.int .i64 es.length) none
              | none => if isStr P t then (lenStr (opv F x)).map fun n => .v (.int .i64 n) none else if isSlice P t then (lenSl (opv F x)).map fun n => .v (.int .i64 n) none else none) hc
            (fun F1 S1 weak hE hw hs => by
              simp only [opv_eq (hE.opd x (by simp [Op.operands, Call.operands]))]
              cases free with
              | true => rfl
              | false =>
                have h := hs rfl rfl
                simp only [Bool.false_eq_true, if_false, Option.bind_some, mapEs_objs h])
            (fun F S => by
              simp only [evalO]
              cases mapOf P t with
              | some ke =>
                simp only
                cases (if free then none else some S : Option St) with
                | none => rfl
                | some S' =>
                  simp only [Option.bind_some]
                  cases mapEs S' (opv F x) with
                  | none => rfl
                  | some es => cases dst <;> rfl
              | none =>
                simp only
                split
                · cases lenStr (opv F x) with
                  | none => rfl
                  | some es => cases dst <;> rfl
                · split
                  · cases lenSl (opv F x) with
                    | none => rfl
                    | some es => cases dst <;> rfl
                  · rfl)
            (fun u hu => by
              refine v_ok ?_
              revert hu
              cases mapOf P t with
              | some ke =>
                intro hu
                obtain ⟨_, _, hu⟩ := Option.bind_eq_some_iff.1 hu
                obtain ⟨_, _, rfl⟩ := Option.map_eq_some_iff.1 hu
                exact ⟨_, _, rfl⟩
              | none =>
                simp only
                intro hu
                split at hu
                · obtain ⟨_, _, rfl⟩ := Option.map_eq_some_iff.1 hu
                  exact ⟨_, _, rfl⟩
                · split at hu
                  · obtain ⟨_, _, rfl⟩ := Option.map_eq_some_iff.1 hu
                    exact ⟨_, _, rfl⟩
                  · cases hu) h
        | [], _ => simp [evalO] at h
        | [_], [] => simp [evalO] at h
        | [_], _ :: _ :: _ => simp [evalO] at h
        | _ :: _ :: _, _ => simp [evalO] at h
      | append => simp [cls] at hc
      | _ => simp [evalO] at h
  | store t p x => simp [cls] at hc
  | makeMap t r => simp [cls] at hc
  | makeSlice t l c => simp [cls] at hc
  | mapUpdate t m k v => simp [cls] at hc
  | _ => simp [evalO] at h
theorem guarded (o : Oper) {free : Bool} {ops : List Oper} (hc : cls T f o ≤ 1) (h : evalG P T call f ops free o F S = some (F', S')) :
    ∃ u, F' = F.put o.dst u ∧ S' = S ∧ (∀ s off, u = .lp s off → ∃ x ∈ o.op.operands, ∃ off', opd F x = .lp s off') ∧ ((∃ cs, u = .box cs) → ∀ d, o.dst = some d → NoTo F d) ∧
      ∀ F1 S1 weak, EqO ops o weak F F1 → (weak = true → cls T f o = 0) → (cls T f o = 1 → free = false → S1.objs = S.objs) → ((∃ cs, u = .box cs) → ∀ d, o.dst = some d → NoTo F1 d) →
        evalG P T call f ops free o F1 S1 = some (F1.put o.dst u, S1) := by
  unfold evalG at h
  cases hg : o.guard with
  | none =>
    rw [hg] at h
    obtain ⟨u, e1, e2, h1, h2, h3⟩ := puts_op (ops := ops) o hc h
    refine ⟨u, e1, e2, h1, h2, fun F1 S1 weak hE hw hs hn => ?_⟩
    unfold evalG
    rw [hg]
    exact h3 F1 S1 weak hE hw hs hn
  | some jw =>
    obtain ⟨j, want⟩ := jw
    rw [hg] at h
    simp only at h
    cases hd : (ops[j]?).bind (·.dst) with
    | none => rw [hd] at h; cases h
    | some d =>
      rw [hd] at h
      obtain ⟨b, hb, h⟩ := Option.bind_eq_some_iff.1 h
      cases b with
      | true =>
        simp only [if_true] at h
        obtain ⟨u, e1, e2, h1, h2, h3⟩ := puts_op (ops := ops) o hc h
        refine ⟨u, e1, e2, h1, h2, fun F1 S1 weak hE hw hs hn => ?_⟩
        unfold evalG
        rw [hg]
        simp only
        rw [hd]
        simp only
        rw [hE.guard j want d hg hd, hb]
        exact h3 F1 S1 weak hE hw hs hn
      | false =>
        simp only [Bool.false_eq_true, if_false] at h
        cases h
        refine ⟨.v (.tup []) none, rfl, rfl, fun s off e => (by cases e), (fun ⟨cs, e⟩ => by cases e), fun F1 S1 weak hE hw hs hn => ?_⟩
        unfold evalG
        rw [hg]
        simp only
        rw [hd]
        simp only
        rw [hE.guard j want d hg hd, hb]
        rfl
theorem put_set {d : Tmp} {e : Option Tmp} {v y : SV} (h : e ≠ some d) : (F.set d v).put e y = (F.put e y).set d v :=
  put_comm (F := F) (d := some d) (e := e) v y (fun t ht he => h (by cases ht; exact he))
theorem toHeap_set {d : Tmp} {v : SV} {x : PV} {k : Option Tk} : toHeap (F.set d v) S x k = ((toHeap F S x k).1.set d v, (toHeap F S x k).2) := by
  unfold toHeap
  cases k with
  | none => rfl
  | some k => cases k with
    | loc t =>
      simp only [Fr.set]
      cases F.toks[t]? with
      | none => rfl
      | some q => cases q <;> rfl
    | _ => rfl
theorem sto_set {d : Tmp} {v p x : SV} {agg : Bool} {n : Nat} (hb : isBox F d = false)
    (h : ∀ t off, p = .lp t off → (F.set d v).get t = F.get t ∨ (isBox F t = false ∧ isBox (F.set d v) t = false)) :
    sto (F.set d v) S agg n p x = (sto F S agg n p x).map fun r => (r.1.set d v, r.2) := by
  unfold sto
  cases newCells x agg n with
  | none => rfl
  | some new =>
    simp only [Option.bind_some]
    cases p with
    | box cs => rfl
    | lp t off =>
      simp only
      rcases h t off rfl with e | ⟨h1, h2⟩
      · rw [e]
        cases hg : F.get t with
        | box cs =>
          simp only
          split
          · have : d ≠ t := by
              rintro rfl
              simp [isBox, hg] at hb
            simp only [Option.map_some]
            rw [set_comm _ _ this]
          · rfl
        | _ => rfl
      · have a := get_nbox h1
        have b := get_nbox h2
        generalize F.get t = x at a
        generalize (F.set d v).get t = y at b
        cases x <;> cases y <;> first | rfl | exact absurd rfl (a _) | exact absurd rfl (b _)
    | v y k =>
      cases y with
      | ref id off =>
        simp only
        cases S.objs[id]? with
        | none => rfl
        | some ob => cases ob with
          | cells cs =>
            simp only
            split
            · split
              · rfl
              · match new with
                | [] => rfl
                | [(y, k)] => simp only [toHeap_set]; rfl
                | _ :: _ :: _ => rfl
            · rfl
          | _ => rfl
      | _ => rfl
theorem heavy_set (o : Oper) {free : Bool} {ops : List Oper} {d : Tmp} {v : SV} (hc : 2 ≤ cls T f o) (hE : EqO ops o false F (F.set d v)) (hne : o.dst ≠ some d) (hb : isBox F d = false) :
    evalO P T call f free o (F.set d v) S = (evalO P T call f free o F S).map fun r => (r.1.set d v, r.2) := by
  obtain ⟨dst, op, type, pos, after, guard⟩ := o
  simp only at hne
  have hne' : ∀ e, dst = some e → d ≠ e := fun e he hh => hne (by rw [he, hh])
  cases op with
  | alloc t =>
    simp only [evalO]
    cases zeroOf P t with
    | none => rfl
    | some z =>
      simp only [Option.bind_some]
      cases dst with
      | none => rfl
      | some e =>
        simp only [cls] at hc ⊢
        cases hx : T.esc f e with
        | true => simp only [if_true, Option.map_some]; rw [set_comm _ _ (hne' e rfl)]
        | false => simp [hx] at hc
  | box t x =>
    simp only [evalO, hE.opd x (by simp [Op.operands])]
    cases szOf P t with
    | none => rfl
    | some n =>
      simp only [Option.bind_some]
      cases newCells (opd F x) (aggOf P t) n with
      | none => rfl
      | some cs =>
        simp only [Option.bind_some]
        cases dst with
        | none => rfl
        | some e =>
          simp only [cls] at hc ⊢
          cases hx : T.esc f e with
          | true => simp only [if_true, Option.map_some]; rw [set_comm _ _ (hne' e rfl)]
          | false => simp [hx] at hc
  | store t p x =>
    simp only [evalO, hE.opd p (by simp [Op.operands]), hE.opd x (by simp [Op.operands])]
    cases szOf P t with
    | none => rfl
    | some n =>
      simp only [Option.bind_some]
      rw [sto_set hb (fun t off e => by
        rcases hE.box p (by simp [Op.operands]) t off e with h | ⟨h, _⟩ | h
        · exact .inl h
        · cases h
        · exact .inr h)]
      cases sto F S (aggOf P t) n (opd F p) (opd F x) with
      | none => rfl
      | some r => simp only [Option.map_some]; rw [put_set hne]
  | makeMap t r => cases r with
    | none => simp only [evalO, Option.map_some]; rw [put_set hne]
    | some r => rfl
  | makeSlice t l c =>
    simp only [evalO, opv_eq (hE.opd l (by simp [Op.operands])), opv_eq (hE.opd c (by simp [Op.operands]))]
    cases asInt (opv F l) with
    | none => rfl
    | some l =>
      simp only [Option.bind_some]
      cases asInt (opv F c) with
      | none => rfl
      | some c =>
        simp only [Option.bind_some]
        cases P.underlying t with
        | none => rfl
        | some u => cases u with
          | slice e =>
            simp only
            cases P.info? e with
            | none => rfl
            | some i =>
              simp only [Option.bind_some]
              cases zeroPV P e with
              | none => rfl
              | some z =>
                simp only [Option.bind_some]
                cases chk (decide (l = c) && decide (0 ≤ l) && decide (0 < i.size) && decide (l.toNat * i.bytes ≤ room) && decide (l.toNat ≤ room)) with
                | none => rfl
                | some q =>
                  simp only [Option.bind_some]
                  cases dst with
                  | none => rfl
                  | some e' =>
                    simp only
                    split
                    · simp only [Option.map_some]; rw [set_comm _ _ (hne' e' rfl)]
                    · simp only [Option.map_some]; rw [set_comm _ _ (hne' e' rfl)]
          | _ => rfl
  | mapUpdate t m k v' =>
    simp only [evalO, opv_eq (hE.opd m (by simp [Op.operands])), opv_eq (hE.opd k (by simp [Op.operands])), opv_eq (hE.opd v' (by simp [Op.operands]))]
    cases mapOf P t with
    | none => rfl
    | some ke =>
      simp only [Option.bind_some]
      cases opv F m with
      | mp id =>
        simp only
        cases S.objs[id]? with
        | none => rfl
        | some ob => cases ob with
          | map es =>
            simp only
            cases chk (keyOk P ke.1 (opv F k)) with
            | none => rfl
            | some q =>
              simp only [Option.bind_some]
              cases setKey P S ke.1 (opv F k) (opv F v') es with
              | none => rfl
              | some es' => simp only [Option.map_some]; rw [put_set hne]
          | _ => rfl
      | _ => rfl
  | call c =>
    obtain ⟨callee, as, ts⟩ := c
    cases callee with
    | value g =>
      simp only [evalO, opv_eq (hE.opd g (by simp [Op.operands, Call.operands]))]
      cases opv F g with
      | fn g' caps =>
        simp only
        rw [opvL_eq (F := F) (F1 := F.set d v) fun x hx => hE.opd x (by simp [Op.operands, Call.operands, Array.mem_toList_iff.1 hx])]
        cases call g' (as.toList.map (opv F) ++ caps) S with
        | none => rfl
        | some r => simp only [Option.map_some]; rw [put_set hne]
      | _ => rfl
    | invoke r m => rfl
    | builtin b =>
      cases b with
      | append =>
        obtain ⟨l1⟩ := as
        obtain ⟨l2⟩ := ts
        match l1, l2 with
        | [x, y], [t, t'] =>
          simp only [evalO]
          rw [hE.opd x (by simp [Op.operands, Call.operands]), opv_eq (hE.opd y (by simp [Op.operands, Call.operands]))]
          cases appArg P t t' (opv F y) with
          | none => rfl
          | some y' =>
            simp only [Option.bind_some]
            unfold appendA
            rw [show (F.set d v).toks = F.toks from rfl]
            cases appendT P t F.toks S.htoks (opd F x) y' with
            | none => rfl
            | some r =>
              simp only [Option.map_some]
              rw [show ({ F.set d v with toks := r.2.2.1 } : Fr) = ({ F with toks := r.2.2.1 } : Fr).set d v from rfl, put_set hne]
        | [], _ => rfl
        | [_], _ => rfl
        | [_, _], [] => rfl
        | [_, _], [_] => rfl
        | [_, _], _ :: _ :: _ :: _ => rfl
        | _ :: _ :: _ :: _, _ => rfl
      | len => simp [cls] at hc
      | max => simp [cls] at hc
      | min => simp [cls] at hc
      | _ => rfl
  | _ => first | rfl | (simp [cls] at hc; done)
theorem heavyG_set (o : Oper) {free : Bool} {ops : List Oper} {d : Tmp} {v : SV} (hc : 2 ≤ cls T f o) (hE : EqO ops o false F (F.set d v)) (hne : o.dst ≠ some d) (hb : isBox F d = false) :
    evalG P T call f ops free o (F.set d v) S = (evalG P T call f ops free o F S).map fun r => (r.1.set d v, r.2) := by
  unfold evalG
  cases hg : o.guard with
  | none => exact heavy_set o hc hE hne hb
  | some jw =>
    obtain ⟨j, want⟩ := jw
    simp only
    cases hd : (ops[j]?).bind (·.dst) with
    | none => rfl
    | some e =>
      simp only
      rw [hE.guard j want e hg hd]
      cases guardA (F.get e).pv want with
      | none => rfl
      | some b =>
        simp only [Option.bind_some]
        cases b with
        | true => exact heavy_set o hc hE hne hb
        | false => simp only [Bool.false_eq_true, if_false, Option.map_some]; rw [put_set hne]
def Eff (dst : Option Tmp) (c : Nat) (F F' : Fr) : Prop := ∀ t, F'.get t = F.get t ∨ (c = 3 ∧ isBox F t = true ∧ isBox F' t = true) ∨ (dst = some t ∧ ∃ x k, F'.get t = .v x k)
theorem eff_put {c : Nat} {F0 : Fr} {dst : Option Tmp} {x : PV} {k : Option Tk} (h0 : ∀ t, F0.get t = F.get t ∨ (c = 3 ∧ isBox F t = true ∧ isBox F0 t = true)) : Eff dst c F (F0.put dst (.v x k)) := by
  intro t
  rcases get_put_or (F := F0) (d := dst) (t := t) (x := .v x k) with h | ⟨hd, h⟩
  · rcases h0 t with h1 | ⟨h1, h2, h3⟩
    · exact .inl (h.trans h1)
    · exact .inr (.inl ⟨h1, h2, by unfold isBox; rw [h]; exact h3⟩)
  · exact .inr (.inr ⟨hd, _, _, h⟩)
theorem eff_put0 {c : Nat} {F0 : Fr} {dst : Option Tmp} {x : PV} {k : Option Tk} (h0 : F0.env = F.env) : Eff dst c F (F0.put dst (.v x k)) :=
  eff_put fun t => .inl (by unfold Fr.get; rw [h0])
theorem sto_eff {p x : SV} {agg : Bool} {n : Nat} (h : sto F S agg n p x = some (F', S')) : ∀ t, F'.get t = F.get t ∨ (3 = 3 ∧ isBox F t = true ∧ isBox F' t = true) := by
  unfold sto at h
  obtain ⟨new, _, h⟩ := Option.bind_eq_some_iff.1 h
  cases p with
  | box cs => cases h
  | lp t off =>
    simp only at h
    cases hg : F.get t with
    | box cs =>
      rw [hg] at h
      simp only at h
      split at h
      · cases h
        intro u
        rcases get_set_or (F := F) (d := t) (t := u) (x := .box (setCells cs off new)) with e | ⟨e1, e2⟩
        · exact .inl e
        · subst e1
          exact .inr ⟨rfl, by simp [isBox, hg], by simp [isBox, e2]⟩
      · cases h
    | v y k => rw [hg] at h; cases h
    | lp y k => rw [hg] at h; cases h
  | v y k =>
    cases y with
    | ref id off =>
      simp only at h
      cases ho : S.objs[id]? with
      | none => rw [ho] at h; cases h
      | some ob => cases ob with
        | cells cs =>
          rw [ho] at h
          simp only at h
          split at h
          · split at h
            · cases h; exact fun t => .inl rfl
            · match new, h with
              | [(y, k)], h =>
                simp only at h
                have : ∀ t, (toHeap F S y k).1.get t = F.get t := by
                  intro t
                  unfold toHeap
                  cases k with
                  | none => rfl
                  | some k => cases k with
                    | loc s =>
                      simp only
                      cases F.toks[s]? with
                      | none => rfl
                      | some q => cases q <;> rfl
                    | _ => rfl
                cases h
                exact fun t => .inl (this t)
          · cases h
        | map es => rw [ho] at h; cases h
        | dead => rw [ho] at h; cases h
        | blk => rw [ho] at h; cases h
        | bld _ _ _ => rw [ho] at h; cases h
    | _ => cases h
theorem heavy_eff (o : Oper) {free : Bool} (hc : 2 ≤ cls T f o) (h : evalO P T call f free o F S = some (F', S')) : Eff o.dst (cls T f o) F F' := by
  obtain ⟨dst, op, type, pos, after, guard⟩ := o
  cases op with
  | alloc t =>
    simp only [evalO] at h
    obtain ⟨z, _, h⟩ := Option.bind_eq_some_iff.1 h
    cases dst with
    | none => cases h
    | some e =>
      simp only [cls] at hc h
      cases hx : T.esc f e with
      | true => simp only [hx, if_true] at h; cases h; exact eff_put0 (dst := some e) rfl
      | false => simp [hx] at hc
  | box t x =>
    simp only [evalO] at h
    obtain ⟨z, _, h⟩ := Option.bind_eq_some_iff.1 h
    obtain ⟨z, _, h⟩ := Option.bind_eq_some_iff.1 h
    cases dst with
    | none => cases h
    | some e =>
      simp only [cls] at hc h
      cases hx : T.esc f e with
      | true => simp only [hx, if_true] at h; cases h; exact eff_put0 (dst := some e) rfl
      | false => simp [hx] at hc
  | store t p x =>
    simp only [evalO] at h
    obtain ⟨n, _, h⟩ := Option.bind_eq_some_iff.1 h
    obtain ⟨r, hr, h⟩ := Option.map_eq_some_iff.1 h
    cases h
    exact eff_put (sto_eff (S' := r.2) hr)
  | makeMap t r => cases r with
    | none => simp only [evalO] at h; cases h; exact eff_put0 rfl
    | some r => simp [evalO] at h
  | makeSlice t l c =>
    simp only [evalO] at h
    obtain ⟨l', _, h⟩ := Option.bind_eq_some_iff.1 h
    obtain ⟨c', _, h⟩ := Option.bind_eq_some_iff.1 h
    split at h
    · obtain ⟨i, _, h⟩ := Option.bind_eq_some_iff.1 h
      obtain ⟨z, _, h⟩ := Option.bind_eq_some_iff.1 h
      obtain ⟨q, _, h⟩ := Option.bind_eq_some_iff.1 h
      cases dst with
      | none => cases h
      | some e =>
        simp only at h
        split at h
        · cases h; exact eff_put0 (dst := some e) rfl
        · cases h; exact eff_put0 (dst := some e) rfl
    · cases h
  | mapUpdate t m k v' =>
    simp only [evalO] at h
    obtain ⟨ke, _, h⟩ := Option.bind_eq_some_iff.1 h
    split at h
    · split at h
      · obtain ⟨q, _, h⟩ := Option.bind_eq_some_iff.1 h
        obtain ⟨q, _, h⟩ := Option.map_eq_some_iff.1 h
        cases h; exact eff_put0 rfl
      · cases h
    · cases h
  | call c =>
    obtain ⟨callee, as, ts⟩ := c
    cases callee with
    | value g =>
      simp only [evalO] at h
      split at h
      · obtain ⟨q, _, h⟩ := Option.map_eq_some_iff.1 h
        cases h; exact eff_put0 rfl
      · cases h
    | invoke r m => simp [evalO] at h
    | builtin b =>
      cases b with
      | append =>
        obtain ⟨l1⟩ := as
        obtain ⟨l2⟩ := ts
        match l1, l2, h with
        | [x, y], [t, t'], h =>
          simp only [evalO] at h
          obtain ⟨y', _, h⟩ := Option.bind_eq_some_iff.1 h
          obtain ⟨q, hq, h⟩ := Option.map_eq_some_iff.1 h
          unfold appendA at hq
          obtain ⟨r, _, hq⟩ := Option.map_eq_some_iff.1 hq
          cases hq
          cases h; exact eff_put0 rfl
        | [], _, h => simp [evalO] at h
        | [_], _, h => simp [evalO] at h
        | [_, _], [], h => simp [evalO] at h
        | [_, _], [_], h => simp [evalO] at h
        | [_, _], _ :: _ :: _ :: _, h => simp [evalO] at h
        | _ :: _ :: _ :: _, _, h => simp [evalO] at h
      | len => simp [cls] at hc
      | max => simp [cls] at hc
      | min => simp [cls] at hc
      | _ => simp [evalO] at h
  | _ => first | (simp [cls] at hc; done) | (simp [evalO] at h; done)
theorem heavyG_eff (o : Oper) {free : Bool} {ops : List Oper} (hc : 2 ≤ cls T f o) (h : evalG P T call f ops free o F S = some (F', S')) : Eff o.dst (cls T f o) F F' := by
  unfold evalG at h
  cases hg : o.guard with
  | none => rw [hg] at h; exact heavy_eff o hc h
  | some jw =>
    obtain ⟨j, want⟩ := jw
    rw [hg] at h
    simp only at h
    split at h
    · obtain ⟨b, _, h⟩ := Option.bind_eq_some_iff.1 h
      cases b with
      | true => simp only [if_true] at h; exact heavy_eff o hc h
      | false => simp only [Bool.false_eq_true, if_false] at h; cases h; exact eff_put0 rfl
    · cases h
def isV (F : Fr) (d : Option Tmp) : Prop := ∀ t, d = some t → ∃ x k, F.get t = .v x k
theorem isV.nbox {d : Option Tmp} (h : isV F d) {t : Tmp} (ht : d = some t) : isBox F t = false := by
  obtain ⟨x, k, hx⟩ := h t ht
  simp [isBox, hx]
theorem NoTo.put {d : Option Tmp} {e : Tmp} {u : SV} (h : NoTo F e) (hu : u.notTo e = true) : NoTo (F.put d u) e := by
  intro t
  rcases get_put_or (F := F) (d := d) (t := t) (x := u) with h' | ⟨_, h'⟩
  · rw [h']; exact h t
  · rw [h']; exact hu
theorem NoTo.of_put {d : Option Tmp} {e : Tmp} {u : SV} (h : NoTo (F.put d u) e) (hv : isV F d) : NoTo F e := by
  intro t
  by_cases hd : d = some t
  · obtain ⟨x, k, hx⟩ := hv t hd
    rw [hx]; rfl
  · have := h t
    rwa [get_put_ne hd] at this
theorem box_notTo {e : Tmp} {u : SV} (h : ∃ cs, u = .box cs) : u.notTo e = true := by obtain ⟨cs, rfl⟩ := h; rfl
theorem isBox_notTo {e t : Tmp} (h : isBox F t = true) : (F.get t).notTo e = true := box_notTo (isBox_iff.1 h)
theorem NoTo.eff {d : Option Tmp} {c : Nat} {e : Tmp} (h : NoTo F e) (hE : Eff d c F F') : NoTo F' e := by
  intro t
  rcases hE t with h1 | ⟨_, _, h1⟩ | ⟨_, x, k, h1⟩
  · rw [h1]; exact h t
  · exact isBox_notTo h1
  · rw [h1]; rfl
theorem NoTo.of_eff {d : Option Tmp} {c : Nat} {e : Tmp} (h : NoTo F' e) (hE : Eff d c F F') (hv : isV F d) : NoTo F e := by
  intro t
  rcases hE t with h1 | ⟨_, h1, _⟩ | ⟨hd, _⟩
  · rw [← h1]; exact h t
  · exact isBox_notTo h1
  · obtain ⟨x, k, hx⟩ := hv t hd
    rw [hx]; rfl
theorem close_put {d : Option Tmp} {u : SV} (hv : isV F d) (h : (∃ cs, u = .box cs) → ∀ t, d = some t → NoTo F t) : Close d false F (F.put d u) := by
  refine ⟨fun t ht => .inl (get_put_ne ht), fun t ht => ?_⟩
  by_cases hb : ∃ cs, u = .box cs
  · exact .inr (h hb t ht)
  · refine .inl ⟨hv.nbox ht, ?_⟩
    rcases get_put_or (F := F) (d := d) (t := t) (x := u) with h' | ⟨_, h'⟩
    · unfold isBox; rw [h']; exact hv.nbox ht
    · cases hx : isBox (F.put d u) t with
      | false => rfl
      | true =>
        obtain ⟨cs, hcs⟩ := isBox_iff.1 hx
        exact absurd ⟨cs, h'.symm.trans hcs⟩ hb
theorem close_put' {d : Option Tmp} {u : SV} (hv : isV F d) (h : (∃ cs, u = .box cs) → ∀ t, d = some t → NoTo F t) : Close d false (F.put d u) F := by
  have hc := close_put hv h
  refine ⟨fun t ht => .inl (get_put_ne ht).symm, fun t ht => ?_⟩
  rcases hc.on t ht with ⟨a, b⟩ | hn
  · exact .inl ⟨b, a⟩
  · by_cases hb : ∃ cs, u = .box cs
    · exact .inr (hn.put (box_notTo hb))
    · refine .inl ⟨?_, hv.nbox ht⟩
      rcases get_put_or (F := F) (d := d) (t := t) (x := u) with h' | ⟨_, h'⟩
      · unfold isBox; rw [h']; exact hv.nbox ht
      · cases hx : isBox (F.put d u) t with
        | false => rfl
        | true =>
          obtain ⟨cs, hcs⟩ := isBox_iff.1 hx
          exact absurd ⟨cs, h'.symm.trans hcs⟩ hb
theorem Eff.nbox {d : Option Tmp} {c : Nat} (hE : Eff d c F F') (hv : isV F d) {t : Tmp} (ht : d = some t) : isBox F' t = false := by
  rcases hE t with h1 | ⟨_, h1, _⟩ | ⟨_, x, k, h1⟩
  · unfold isBox; rw [h1]; exact hv.nbox ht
  · rw [hv.nbox ht] at h1; cases h1
  · simp [isBox, h1]
theorem close_eff {d : Option Tmp} {c : Nat} (hE : Eff d c F F') (hv : isV F d) : Close d (decide (c = 3)) F F' := by
  refine ⟨fun t ht => ?_, fun t ht => .inl ⟨hv.nbox ht, hE.nbox hv ht⟩⟩
  rcases hE t with h1 | ⟨h0, h1, h2⟩ | ⟨hd, _⟩
  · exact .inl h1
  · exact .inr ⟨by simp [h0], h1, h2⟩
  · exact absurd hd ht
theorem close_eff' {d : Option Tmp} {c : Nat} (hE : Eff d c F F') (hv : isV F d) : Close d (decide (c = 3)) F' F := by
  refine ⟨fun t ht => ?_, fun t ht => .inl ⟨hE.nbox hv ht, hv.nbox ht⟩⟩
  rcases hE t with h1 | ⟨h0, h1, h2⟩ | ⟨hd, _⟩
  · exact .inl h1.symm
  · exact .inr ⟨by simp [h0], h2, h1⟩
  · exact absurd hd ht
theorem lp_notTo {o : Oper} {ops : Array Oper} {u : SV} {e : Tmp} (h : ∀ s off, u = .lp s off → ∃ x ∈ o.op.operands, ∃ off', opd F x = .lp s off') (he : e ∉ o.looksAt ops) (hn : NoTo F e) : u.notTo e = true := by
  cases u with
  | lp s off =>
    obtain ⟨x, hx, off', ho⟩ := h s off rfl
    have hse : s ≠ e := by
      rintro rfl
      cases x with
      | tmp r =>
        simp only [opd] at ho
        have := hn r
        cases hg : F.get r with
        | v y k => rw [hg] at ho; cases ho
        | box cs =>
          rw [hg] at ho
          cases ho
          exact he (List.mem_append_left _ (List.mem_filterMap.2 ⟨.tmp s, by simpa using hx, rfl⟩))
        | lp s' o' => rw [hg] at ho this; cases ho; simp [SV.notTo] at this
      | const v => simp [opd] at ho
      | global v => simp [opd] at ho
      | func v => simp [opd] at ho
    simp [SV.notTo, hse]
  | _ => rfl
theorem keeps_objs {o : Oper} {free : Bool} {ops : List Oper} (hk : keepsO T f o = true) (h : evalG P T call f ops free o F S = some (F', S')) : S'.objs = S.objs := by
  have op : evalO P T call f free o F S = some (F', S') → S'.objs = S.objs := by
    intro h
    obtain ⟨dst, op, type, pos, after, guard⟩ := o
    unfold keepsO at hk
    split at hk
    · rename_i as ts hop
      simp only at hop
      subst hop
      obtain ⟨l1⟩ := as
      obtain ⟨l2⟩ := ts
      match l1, l2, h with
      | [x, y], [t, t'], h =>
        simp only [evalO] at h
        obtain ⟨y', _, h⟩ := Option.bind_eq_some_iff.1 h
        obtain ⟨q, hq, h⟩ := Option.map_eq_some_iff.1 h
        have ha : T.ad f = false := by simpa using hk
        rw [ha] at h
        cases h
        rfl
      | [], _, h => simp [evalO] at h
      | [_], _, h => simp [evalO] at h
      | [_, _], [], h => simp [evalO] at h
      | [_, _], [_], h => simp [evalO] at h
      | [_, _], _ :: _ :: _ :: _, h => simp [evalO] at h
      | _ :: _ :: _ :: _, _, h => simp [evalO] at h
    · cases hk
  unfold evalG at h
  cases hg : o.guard with
  | none => rw [hg] at h; exact op h
  | some jw =>
    obtain ⟨j, want⟩ := jw
    rw [hg] at h
    simp only at h
    cases hd : (ops[j]?).bind (·.dst) with
    | none => rw [hd] at h; cases h
    | some d =>
      rw [hd] at h
      obtain ⟨b, _, h⟩ := Option.bind_eq_some_iff.1 h
      split at h
      · exact op h
      · cases h; rfl
theorem exchange {ops : Array Oper} {x y : Oper} {fx fy : Bool} {F2 : Fr} {S2 : St} (hap : Oper.apart ops x y = true) (hcl : clsOk (cls T f x) (cls T f y) = true)
    (hfx : cls T f x = 1 → 2 ≤ cls T f y → fx = true ∨ keepsO T f y = true) (hfy : cls T f y = 1 → 2 ≤ cls T f x → fy = true ∨ keepsO T f x = true) (hx0 : isV F x.dst) (hy0 : isV F y.dst)
    (h1 : evalG P T call f ops.toList fx x F S = some (F1, S1)) (h2 : evalG P T call f ops.toList fy y F1 S1 = some (F2, S2)) :
    ∃ F1' S1', evalG P T call f ops.toList fy y F S = some (F1', S1') ∧ evalG P T call f ops.toList fx x F1' S1' = some (F2, S2) := by
  obtain ⟨ha1, ha2, ha3⟩ := Oper.apart_spec hap
  by_cases cx : cls T f x ≤ 1
  · obtain ⟨u, e1, e2, hlp, hbox, hmv⟩ := guarded (ops := ops.toList) x cx h1
    subst e1 e2
    by_cases cy : cls T f y ≤ 1
    · obtain ⟨v, e3, e4, hlp', hbox', hmv'⟩ := guarded (ops := ops.toList) y cy h2
      subst e3 e4
      have hnv : (∃ cs, v = .box cs) → ∀ t, y.dst = some t → NoTo F t := fun hb t ht => (hbox' hb t ht).of_put hx0
      refine ⟨F.put y.dst v, S2, hmv' F S2 false ((close_put' hx0 hbox).eqO ha1) (fun h => by cases h) (fun _ _ => rfl) hnv, ?_⟩
      rw [hmv (F.put y.dst v) S2 false ((close_put hy0 hnv).eqO ha3) (fun h => by cases h) (fun _ _ => rfl) (fun hb d hd => (hbox hb d hd).put
        (lp_notTo hlp' (ha1 d hd) ((hbox hb d hd).put (box_notTo hb))))]
      rw [put_comm _ _ ha2]
    · have cy : 2 ≤ cls T f y := by omega
      have hw : decide (cls T f y = 3) = true → cls T f x = 0 := by
        intro h
        have h3 : cls T f y = 3 := of_decide_eq_true h
        have : cls T f x ≠ 1 := fun h1 => by simp [clsOk, h1, h3] at hcl
        omega
      have hs : ∀ S' : St, (keepsO T f y = true → S'.objs = S1.objs) → cls T f x = 1 → fx = false → S'.objs = S1.objs := fun S' hk h hf => by
        rcases hfx h cy with e | e
        · rw [e] at hf; cases hf
        · exact hk e
      cases hd : x.dst with
      | none =>
        rw [hd] at h2
        have hE := heavyG_eff y cy h2
        refine ⟨F2, S2, h2, ?_⟩
        rw [hmv F2 S2 _ ((close_eff hE hy0).eqO ha3) hw (hs S2 fun hk => keeps_objs hk h2) (fun hb d hd' => by rw [hd] at hd'; cases hd'), hd]
        rfl
      | some d =>
        rw [hd] at h2
        have hcl2 := close_put hx0 hbox
        rw [hd] at hcl2
        have := heavyG_set (S := S1) (F := F) (call := call) (P := P) (free := fy) (v := u) (d := d) y cy (hcl2.eqO fun t ht => ha1 t (by rw [hd]; exact ht)) (fun h => ha2 d hd h) (hx0.nbox hd)
        rw [show F.put (some d) u = F.set d u from rfl, this] at h2
        obtain ⟨r, hr, he⟩ := Option.map_eq_some_iff.1 h2
        cases he
        have hE := heavyG_eff y cy (F' := r.1) (S' := r.2) hr
        refine ⟨r.1, r.2, hr, ?_⟩
        rw [hmv r.1 r.2 _ ((close_eff hE hy0).eqO ha3) hw (hs r.2 fun hk => keeps_objs hk (F' := r.1) (S' := r.2) hr) (fun hb d' hd' => (hbox hb d' hd').eff hE), hd]
        rfl
  · have cx : 2 ≤ cls T f x := by omega
    have cy : cls T f y ≤ 1 := by
      by_cases h : 2 ≤ cls T f y
      · simp [clsOk, cx, h] at hcl
      · omega
    obtain ⟨v, e3, e4, hlp', hbox', hmv'⟩ := guarded (ops := ops.toList) y cy h2
    subst e3 e4
    have hE := heavyG_eff x cx h1
    have hw : decide (cls T f x = 3) = true → cls T f y = 0 := by
      intro h
      have h3 : cls T f x = 3 := of_decide_eq_true h
      have : cls T f y ≠ 1 := fun h1 => by simp [clsOk, h1, h3] at hcl
      omega
    have hs : cls T f y = 1 → fy = false → S.objs = S2.objs := fun h hf => by
      rcases hfy h cx with e | e
      · rw [e] at hf; cases hf
      · exact (keeps_objs e h1).symm
    have hnv : (∃ cs, v = .box cs) → ∀ t, y.dst = some t → NoTo F t := fun hb t ht => (hbox' hb t ht).of_eff hE hx0
    refine ⟨F.put y.dst v, S, hmv' F S _ ((close_eff' hE hx0).eqO ha1) hw hs hnv, ?_⟩
    cases hd : y.dst with
    | none => exact h1
    | some e =>
      have hcl2 := close_put hy0 hnv
      rw [hd] at hcl2
      have := heavyG_set (S := S) (F := F) (call := call) (P := P) (free := fx) (v := v) (d := e) x cx (hcl2.eqO fun t ht => ha3 t (by rw [hd]; exact ht)) (fun h => ha2 e h hd) (hy0.nbox hd)
      rw [show F.put (some e) v = F.set e v from rfl, this, h1]
      rfl
end
end Go.Abs
namespace Go.Abs
section
variable {P : Program} {T : Hints} {call : CallF} {F F' F1 : Fr} {S S' S1 : St} {f : FuncId} {ops : Array Oper}
theorem orL_bit {acc : List Nat} {k : Nat} : ∀ {es : List Edge}, (orL acc es).testBit k = true → ∃ e ∈ es, Region.binds .any e = true ∧ (e.on = k ∨ (acc.getD e.on 0).testBit k = true)
  | [], h => by simp [orL] at h
  | e :: es, h => by
    rw [orL, Nat.testBit_or, Bool.or_eq_true] at h
    rcases h with h | h
    · split at h
      · rename_i hb
        rw [Nat.testBit_or, Bool.or_eq_true] at h
        refine ⟨e, List.mem_cons_self, hb, ?_⟩
        rcases h with h | h
        · left
          rw [Nat.one_shiftLeft, Nat.testBit_two_pow] at h
          exact of_decide_eq_true h
        · exact .inr h
      · simp at h
    · obtain ⟨e', he, h'⟩ := orL_bit h
      exact ⟨e', List.mem_cons_of_mem _ he, h'⟩
theorem ancL_prefix : ∀ (os : List Oper) (acc : List Nat) (i : Nat), i < acc.length → (ancL os acc).getD i 0 = acc.getD i 0
  | [], acc, i, h => rfl
  | o :: os, acc, i, h => by
    rw [ancL, ancL_prefix os _ i (by simp; omega)]
    simp [List.getD, List.getElem?_append_left h]
theorem ancL_at : ∀ (os : List Oper) (acc : List Nat) (m : Nat) (o : Oper), os[m]? = some o →
    ∃ acc' : List Nat, (∀ i k, (acc'.getD i 0).testBit k = true → ((ancL os acc).getD i 0).testBit k = true) ∧ (ancL os acc).getD (acc.length + m) 0 = orL acc' o.after.toList
  | [], acc, m, o, h => by simp at h
  | o' :: os, acc, 0, o, h => by
    cases (show o' = o by simpa using h)
    refine ⟨acc, fun i k hk => ?_, ?_⟩
    · by_cases hi : i < acc.length
      · rw [ancL_prefix _ _ i hi]; exact hk
      · simp [List.getD, List.getElem?_eq_none (Nat.not_lt.1 hi)] at hk
    · rw [ancL, Nat.add_zero, ancL_prefix os _ acc.length (by simp)]
      simp [List.getD]
  | o' :: os, acc, m + 1, o, h => by
    obtain ⟨acc', h1, h2⟩ := ancL_at os (acc ++ [orL acc o'.after.toList]) m o (by simpa using h)
    refine ⟨acc', h1, ?_⟩
    rw [← h2, ancL]
    simp only [List.length_append, List.length_singleton]
    congr 1
    omega
theorem anc_bit {j k : Nat} {o : Oper} (ho : ops[j]? = some o) (h : ((anc ops).getD j 0).testBit k = true) : ∃ e ∈ o.after, Region.binds .any e = true ∧ (e.on = k ∨ ((anc ops).getD e.on 0).testBit k = true) := by
  obtain ⟨acc', h1, h2⟩ := ancL_at ops.toList [] j o (by rw [Array.getElem?_toList]; exact ho)
  simp only [List.length_nil, Nat.zero_add] at h2
  unfold anc at h
  rw [h2] at h
  obtain ⟨e, he, hb, hk⟩ := orL_bit h
  exact ⟨e, Array.mem_toList_iff.1 he, hb, hk.imp id (h1 _ _)⟩
def evalX (P : Program) (T : Hints) (call : CallF) (f : FuncId) (ops : Array Oper) (free : Nat → Bool) : List Nat → Fr → St → Option (Fr × St)
  | [], F, S => some (F, S)
  | i :: is, F, S => (ops[i]?).bind fun o => (evalG P T call f ops.toList (free i) o F S).bind fun r => evalX P T call f ops free is r.1 r.2
theorem evalL_evalX {free : Nat → Bool} : ∀ (l : List Oper) (i : Nat) (F : Fr) (S : St), (∀ (k : Nat) x, l[k]? = some x → ops[i + k]? = some x) →
    evalL P T call f ops.toList free i l F S = evalX P T call f ops free (List.range' i l.length) F S
  | [], i, F, S, _ => rfl
  | o :: l, i, F, S, h => by
    have h0 : ops[i]? = some o := h 0 o rfl
    simp only [List.length_cons, List.range'_succ, evalL, evalX, h0, Option.bind_some]
    cases evalG P T call f ops.toList (free i) o F S with
    | none => rfl
    | some r =>
      exact evalL_evalX l (i + 1) r.1 r.2 fun k x hk => by
        have := h (k + 1) x (by simpa using hk)
        rw [show i + 1 + k = i + (k + 1) by omega]; exact this
theorem isV_after {o : Oper} {free : Bool} {d : Option Tmp} (h : evalG P T call f ops.toList free o F S = some (F', S')) (hv : isV F d) (hne : ∀ t, d = some t → o.dst ≠ some t) : isV F' d := by
  intro t ht
  by_cases hc : cls T f o ≤ 1
  · obtain ⟨u, e1, _⟩ := guarded (ops := ops.toList) o hc h
    rw [e1, get_put_ne (hne t ht)]
    exact hv t ht
  · rcases heavyG_eff o (by omega) h t with h1 | ⟨_, h1, _⟩ | ⟨h1, _⟩
    · rw [h1]; exact hv t ht
    · rw [hv.nbox ht] at h1; cases h1
    · exact absurd h1 (hne t ht)
structure Swap (T : Hints) (f : FuncId) (ops : Array Oper) (free : Nat → Bool) (j i : Nat) (x y : Oper) : Prop where
  ap : Oper.apart ops x y = true
  cl : clsOk (cls T f x) (cls T f y) = true
  fx : cls T f x = 1 → 2 ≤ cls T f y → free j = true ∨ keepsO T f y = true
  fy : cls T f y = 1 → 2 ≤ cls T f x → free i = true ∨ keepsO T f x = true
def Apart (ops : Array Oper) : Prop := ∀ (i j : Nat) x y, i ≠ j → ops[i]? = some x → ops[j]? = some y → ∀ t, x.dst = some t → y.dst ≠ some t
def Clean (ops : Array Oper) (L : List Nat) (F : Fr) : Prop := ∀ i ∈ L, ∀ o, ops[i]? = some o → isV F o.dst
theorem Clean.step {free : Bool} {j : Nat} {o : Oper} {L : List Nat} (hd : Apart ops) (hj : ops[j]? = some o) (hc : Clean ops L F) (hn : j ∉ L) (h : evalG P T call f ops.toList free o F S = some (F', S')) : Clean ops L F' := by
  intro i hi x hx
  exact isV_after h (hc i hi x hx) fun t ht => (fun e => hd j i o x (fun e => hn (e ▸ hi)) hj hx t e ht)
theorem front {free : Nat → Bool} {i : Nat} {y : Oper} (hd : Apart ops) (hi : ops[i]? = some y) {r : Fr × St} : ∀ (A B : List Nat) (F : Fr) (S : St), (A ++ i :: B).Nodup → (∀ j ∈ A, ∀ x, ops[j]? = some x → Swap T f ops free j i x y) →
    Clean ops (A ++ i :: B) F → evalX P T call f ops free (A ++ i :: B) F S = some r → evalX P T call f ops free (i :: (A ++ B)) F S = some r
  | [], B, F, S, _, _, _, h => h
  | j :: A, B, F, S, hn, hs, hc, h => by
    rw [List.cons_append, evalX] at h
    obtain ⟨x, hx, h⟩ := Option.bind_eq_some_iff.1 h
    obtain ⟨r1, hr1, h⟩ := Option.bind_eq_some_iff.1 h
    rw [List.cons_append, List.nodup_cons] at hn
    have hc1 : Clean ops (A ++ i :: B) r1.1 := Clean.step (F' := r1.1) (S' := r1.2) hd hx (fun k hk => hc k (List.mem_cons_of_mem _ hk)) hn.1 hr1
    have := front hd hi A B r1.1 r1.2 hn.2 (fun k hk => hs k (List.mem_cons_of_mem _ hk)) hc1 h
    rw [evalX, hi, Option.bind_some] at this
    obtain ⟨r2, hr2, h2⟩ := Option.bind_eq_some_iff.1 this
    have sw := hs j List.mem_cons_self x hx
    obtain ⟨F1', S1', e1, e2⟩ := exchange (F1 := r1.1) (S1 := r1.2) (F2 := r2.1) (S2 := r2.2) sw.ap sw.cl sw.fx sw.fy (hc j List.mem_cons_self x hx) (hc i (by simp) y hi) hr1 hr2
    rw [evalX, hi, Option.bind_some, e1, Option.bind_some, List.cons_append, evalX, hx, Option.bind_some, e2]
    exact h2
theorem mem_zip {i : Nat} {o : Oper} : (o, i) ∈ ops.toList.zipIdx ↔ ops[i]? = some o := by
  rw [List.mem_zipIdx_iff_getElem?, Array.getElem?_toList]
theorem drawOk_after (h : drawOk T f ops = true) {i : Nat} {o : Oper} (ho : ops[i]? = some o) {e : Edge} (he : e ∈ o.after) (hb : Region.binds .any e = true) : e.on < i := by
  have := List.all_eq_true.1 h (o, i) (mem_zip.2 ho)
  rw [Bool.and_eq_true] at this
  have := Array.all_eq_true'.1 this.1 e he
  simpa [hb] using this
theorem drawOk_pair (h : drawOk T f ops = true) {i j : Nat} {x y : Oper} (hx : ops[j]? = some x) (hy : ops[i]? = some y) (hl : j < i) :
    (x.dst = none ∨ x.dst ≠ y.dst) ∧ (((anc ops).getD i 0).testBit j = true ∨ (Oper.apart ops x y = true ∧ clsOk (cls T f x) (cls T f y) = true)) := by
  have := List.all_eq_true.1 h (y, i) (mem_zip.2 hy)
  rw [Bool.and_eq_true] at this
  have := List.all_eq_true.1 this.2 (x, j) (mem_zip.2 hx)
  simp only [Bool.or_eq_true, Bool.and_eq_true, decide_eq_true_eq] at this
  rcases this with h | ⟨h1, h2⟩
  · omega
  · refine ⟨?_, h2⟩
    rcases h1 with h1 | h1
    · left; cases hd : x.dst with
      | none => rfl
      | some d => rw [hd] at h1; simp at h1
    · right; simpa using h1
theorem drawOk_apart (h : drawOk T f ops = true) : Apart ops := by
  intro i j x y hne hx hy t ht ht'
  rcases Nat.lt_or_gt_of_ne hne with hl | hl
  · rcases (drawOk_pair h hx hy hl).1 with e | e
    · rw [e] at ht; cases ht
    · exact e (ht.trans ht'.symm)
  · rcases (drawOk_pair h hy hx hl).1 with e | e
    · rw [e] at ht'; cases ht'
    · exact e (ht'.trans ht.symm)
theorem drawOk_swap (h : drawOk T f ops = true) {i j : Nat} {x y : Oper} (hx : ops[j]? = some x) (hy : ops[i]? = some y) (hl : j < i) (hb : ((anc ops).getD i 0).testBit j ≠ true) : Swap T f ops (freeAt T f ops) j i x y := by
  rcases (drawOk_pair h hx hy hl).2 with e | ⟨h1, h2⟩
  · exact absurd e hb
  have hb' : ((anc ops).getD i 0).testBit j = false := by simpa using hb
  refine ⟨h1, h2, fun c1 c2 => ?_, fun c1 c2 => ?_⟩
  · cases hk : keepsO T f y with
    | true => exact .inr rfl
    | false =>
      refine .inl ?_
      unfold freeAt
      rw [Array.getElem?_toList, hx]
      simp only [c1, decide_true, Bool.true_and]
      refine List.any_eq_true.2 ⟨(y, i), mem_zip.2 hy, ?_⟩
      simp only [hl, if_true, hb', c2, decide_true, hk, Bool.not_false, Bool.and_self]
  · cases hk : keepsO T f x with
    | true => exact .inr rfl
    | false =>
      refine .inl ?_
      unfold freeAt
      rw [Array.getElem?_toList, hy]
      simp only [c1, decide_true, Bool.true_and]
      refine List.any_eq_true.2 ⟨(x, j), mem_zip.2 hx, ?_⟩
      simp only [Nat.not_lt.2 (Nat.le_of_lt hl), if_false, hb', c2, decide_true, hk, Bool.not_false, Bool.and_self]
def todo (ops : Array Oper) (listed : Array Bool) : List Nat := (List.range ops.size).filter fun i => !listed.getD i true
theorem mem_todo {listed : Array Bool} {i : Nat} : i ∈ todo ops listed ↔ i < ops.size ∧ listed.getD i true = false := by
  simp [todo, List.mem_filter]
theorem todo_sorted (listed : Array Bool) : (todo ops listed).Pairwise (· < ·) := List.Pairwise.filter _ List.pairwise_lt_range
theorem getD_set {listed : Array Bool} {i j : Nat} {d : Bool} (hi : i < listed.size) : (listed.setIfInBounds i true).getD j d = if i = j then true else listed.getD j d := by
  rw [Array.getD_eq_getD_getElem?, Array.getD_eq_getD_getElem?, Array.getElem?_setIfInBounds]
  by_cases h : i = j
  · subst h; simp [hi]
  · simp [h]
theorem todo_set {listed : Array Bool} {i : Nat} (hi : i < listed.size) : todo ops (listed.setIfInBounds i true) = (todo ops listed).filter (fun j => decide (i ≠ j)) := by
  unfold todo
  rw [List.filter_filter]
  refine List.filter_congr fun j hj => ?_
  rw [getD_set hi]
  by_cases h : i = j <;> simp [h]
theorem draw_main (hN : Named P) (hC : CallS P call) (hB : CallB P call) {w : World} {a : Act} {g : Gh} {Q : Exit → Act → World → Prop} (hok : drawOk T f ops = true) :
    ∀ (fuel : Nat) (listed : Array Bool) (F : Fr) (S : St) (g : Gh) (w : World) (a : Act), listed.size = ops.size → (todo ops listed).length ≤ fuel →
      (∀ j, listed.getD j false = true → ∀ k, ((anc ops).getD j 0).testBit k = true → listed.getD k false = true) → Clean ops (todo ops listed) F →
      FrR g F S.htoks w a → StR g S w → evalX P T call f ops (freeAt T f ops) (todo ops listed) F S = some (F', S') → (∀ a' w' g', After g S w F' S' a' w' g' → Q .normal a' w') →
      wpAny P .any ops Q fuel listed a w := by
  intro fuel
  induction fuel with
  | zero =>
    intro listed F S g w a hsz hlen hdc hcl hF hS h hQ
    have hnil : todo ops listed = [] := List.eq_nil_of_length_eq_zero (Nat.le_zero.1 hlen)
    rw [hnil] at h
    cases h
    refine ⟨?_, hQ _ _ g ⟨hF, hS, Tr.refl _ _ _, TokTr.refl _ _ _⟩⟩
    unfold Region.ready
    refine List.filter_eq_nil_iff.2 fun i hi => ?_
    have : i ∉ todo ops listed := by rw [hnil]; simp
    rw [mem_todo] at this
    have hx : listed.getD i true = true := by
      cases hg : listed.getD i true with
      | true => rfl
      | false => exact absurd ⟨List.mem_range.1 hi, hg⟩ this
    simp [hx]
  | succ fuel ih =>
    intro listed F S g w a hsz hlen hdc hcl hF hS h hQ
    have hft : ∀ i, i < ops.size → i ∉ todo ops listed → listed.getD i false = true := by
      intro i hi hn
      rw [mem_todo] at hn
      have : listed.getD i true = true := by
        cases hg : listed.getD i true with
        | true => rfl
        | false => exact absurd ⟨hi, hg⟩ hn
      rw [Array.getD_eq_getD_getElem?, Array.getElem?_eq_getElem (by omega), Option.getD_some] at this ⊢
      exact this
    refine ⟨fun hr => ?_, fun i hi => ?_⟩
    · cases ht : todo ops listed with
      | nil =>
        rw [ht] at h
        cases h
        exact hQ _ _ g ⟨hF, hS, Tr.refl _ _ _, TokTr.refl _ _ _⟩
      | cons i B =>
        exfalso
        have hm : i ∈ todo ops listed := by rw [ht]; exact List.mem_cons_self
        have hsort := todo_sorted (ops := ops) listed
        rw [ht, List.pairwise_cons] at hsort
        obtain ⟨hlt, hu⟩ := mem_todo.1 hm
        have : i ∈ Region.ready .any ops listed := by
          unfold Region.ready
          refine List.mem_filter.2 ⟨List.mem_range.2 hlt, ?_⟩
          simp only [hu, Bool.not_false, Bool.true_and, Array.getElem?_eq_getElem hlt, Option.map_some, Option.getD_some]
          refine Array.all_eq_true'.2 fun e he => ?_
          cases hb : Region.binds .any e with
          | false => rfl
          | true =>
            have hel := drawOk_after hok (Array.getElem?_eq_getElem hlt) he hb
            have : e.on ∉ todo ops listed := by
              rw [ht, List.mem_cons]
              rintro (h | h)
              · omega
              · have := hsort.1 _ h; omega
            simp [hft e.on (by omega) this]
        rw [hr] at this
        cases this
    · unfold Region.ready at hi
      obtain ⟨hi1, hi2⟩ := List.mem_filter.1 hi
      have hlt : i < ops.size := List.mem_range.1 hi1
      simp only [Array.getElem?_eq_getElem hlt, Option.map_some, Option.getD_some, Bool.and_eq_true] at hi2
      have hu : listed.getD i true = false := by simpa using hi2.1
      have hpre : ∀ e ∈ ops[i].after, Region.binds .any e = true → listed.getD e.on false = true := by
        intro e he hb
        have := Array.all_eq_true'.1 hi2.2 e he
        simpa [hb] using this
      have hanc : ∀ k, ((anc ops).getD i 0).testBit k = true → listed.getD k false = true := by
        intro k hk
        obtain ⟨e, he, hb, h1⟩ := anc_bit (Array.getElem?_eq_getElem hlt) hk
        rcases h1 with h1 | h1
        · rw [← h1]; exact hpre e he hb
        · exact hdc _ (hpre e he hb) k h1
      have hm : i ∈ todo ops listed := mem_todo.2 ⟨hlt, hu⟩
      obtain ⟨A, B, hAB⟩ := List.append_of_mem hm
      have hsort := todo_sorted (ops := ops) listed
      rw [hAB] at hsort
      have hnd : (A ++ i :: B).Nodup := hsort.imp (fun h => Nat.ne_of_lt h)
      rw [hAB] at h hcl
      have hA : ∀ j ∈ A, j < i := fun j hj => (List.pairwise_append.1 hsort).2.2 j hj i List.mem_cons_self
      have hfr := front (drawOk_apart hok) (Array.getElem?_eq_getElem hlt) A B F S hnd (fun j hj x hx => by
        refine drawOk_swap hok hx (Array.getElem?_eq_getElem hlt) (hA j hj) (fun hb => ?_)
        have hl := hanc j hb
        have : j ∈ todo ops listed := by rw [hAB]; simp [hj]
        obtain ⟨hj1, hj2⟩ := mem_todo.1 this
        rw [Array.getD_eq_getD_getElem?, Array.getElem?_eq_getElem (by omega), Option.getD_some] at hl hj2
        rw [hl] at hj2; cases hj2) hcl h
      rw [evalX, Array.getElem?_eq_getElem hlt, Option.bind_some] at hfr
      obtain ⟨r, hr, h2⟩ := Option.bind_eq_some_iff.1 hfr
      have hmid : (A ++ i :: B).filter (fun j => decide (i ≠ j)) = A ++ B := by
        rw [List.filter_append, List.filter_cons]
        have hnA : ∀ j ∈ A, i ≠ j := fun j hj => by have := hA j hj; omega
        have hnB : ∀ j ∈ B, i ≠ j := fun j hj => by
          have := (List.pairwise_cons.1 (List.pairwise_append.1 hsort).2.1).1 j hj; omega
        rw [List.filter_eq_self.2 (fun j hj => by simp [hnA j hj]), List.filter_eq_self.2 (fun j hj => by simp [hnB j hj])]
        simp
      have htodo : todo ops (listed.setIfInBounds i true) = A ++ B := by rw [todo_set (by omega), hAB, hmid]
      have hclean : Clean ops (A ++ B) r.1 := by
        refine Clean.step (F' := r.1) (S' := r.2) (drawOk_apart hok) (Array.getElem?_eq_getElem hlt) (fun k hk => hcl k ?_) ?_ hr
        · rw [List.mem_append] at hk ⊢
          exact hk.imp id (List.mem_cons_of_mem _)
        · intro hk
          rw [List.nodup_append] at hnd
          rcases List.mem_append.1 hk with hk | hk
          · exact hnd.2.2 i hk i List.mem_cons_self rfl
          · exact (List.nodup_cons.1 hnd.2.1).1 hk
      refine guard_sound hN hC hB (F' := r.1) (S' := r.2) (Array.getElem?_eq_getElem hlt) hF hS hr (fun a' w' g' hA' => ?_)
      refine ih (listed.setIfInBounds i true) r.1 r.2 g' w' a' (by simpa using hsz) ?_ ?_ (by rw [htodo]; exact hclean) hA'.fr hA'.st (by rw [htodo]; exact h2) (fun a'' w'' g'' hA'' => hQ _ _ _ (hA'.trans hA''))
      · rw [htodo]
        rw [hAB] at hlen
        simp only [List.length_append, List.length_cons] at hlen ⊢
        omega
      · intro j hj k hk
        rw [getD_set (by omega)] at hj ⊢
        split
        · rfl
        · split at hj
          · rename_i e; subst e; exact hanc k hk
          · exact hdc j hj k hk
theorem drawS (hN : Named P) (hC : CallS P call) (hB : CallB P call) : DrawS P T call := by
  intro f ops F S F' S' g w a Q hok hst hF hS hL h hQ
  have hall : todo ops (Array.replicate ops.size false) = List.range ops.size := by
    unfold todo
    refine List.filter_eq_self.2 fun i hi => ?_
    have := List.mem_range.1 hi
    simp [this]
  refine draw_main hN hC hB (g := g) (w := w) (a := a) hok ops.size _ F S g w a (by simp) ?_ ?_ ?_ hF hS ?_ hQ
  · rw [hall]; simp
  · intro j hj
    by_cases hlt : j < ops.size
    · simp [hlt] at hj
    · simp [Array.getD, hlt] at hj
  · intro i hi o ho t ht
    have hm : o ∈ ops.toList := by
      have := (Array.getElem?_eq_some_iff.1 ho).2
      rw [← this]; simp
    have := List.all_eq_true.1 hst o hm
    rw [ht] at this
    simp only [Bool.not_eq_true'] at this
    have hclr : (F.get t).clr = F.get t := by
      cases hx : F.env[t]? with
      | none => simp [Fr.get, List.getD, hx, SV.clr]
      | some x => rw [env_get hx]; exact hL x (List.mem_of_getElem? hx)
    cases hg : F.get t with
    | v x k => exact ⟨x, k, rfl⟩
    | box cs => simp [isBox, hg] at this
    | lp s off => rw [hg] at hclr; cases hclr
  · rw [hall, List.range_eq_range']
    have := evalL_evalX (P := P) (T := T) (call := call) (f := f) (ops := ops) (free := freeAt T f ops) ops.toList 0 F S (fun k x hk => by rw [Nat.zero_add, ← Array.getElem?_toList]; exact hk)
    rw [Array.length_toList] at this
    rw [← this]; exact h
end
end Go.Abs
namespace Go.Abs
section
variable {P : Program} {T : Hints} {call : CallF} {g g' g1 : Gh} {F : Fr} {S S1 : St} {w w' w1 : World} {a : Act}
def Gh.enter (g : Gh) : Gh := { g with ψ := [], O := fun b => match g.O b with
  | some (.box _) => some .foreign
  | some (.tok _) => some .foreign
  | x => x }
theorem enter_none (b : Nat) : g.enter.O b = none ↔ g.O b = none := by
  unfold Gh.enter
  simp only
  split <;> simp_all
theorem enter_imm (b o : Nat) : g.enter.imm b o ↔ g.imm b o := by
  unfold Gh.imm
  rw [enter_none]; rfl
theorem enter_obj {b : Nat} {o : Own} (h : heapO o) : g.enter.O b = some o ↔ g.O b = some o := by
  unfold Gh.enter
  simp only
  rcases h with ⟨_, rfl⟩ | ⟨_, rfl⟩ <;> split <;> simp_all
theorem enter_foreign {b : Nat} {o : Own} (h : g.O b = some o) (hn : ¬ heapO o) : g.enter.O b = some .foreign := by
  unfold Gh.enter
  simp only [h]
  cases o with
  | obj id => exact absurd (.inl ⟨_, rfl⟩) hn
  | htok t => exact absurd (.inr ⟨_, rfl⟩) hn
  | _ => rfl
theorem VR.ghost {x : PV} {v : Value} (h : g.VR w x v) (hσ : g'.σ = g.σ) (hI : ∀ b o, g.imm b o → g'.imm b o) (hN : ∀ b, g.O b = none → g'.O b = none) : g'.VR w x v :=
  VR.mono (by rw [hσ]; exact fun _ _ h => h) (fun b o v hv hi => ⟨hv, hI b o hi⟩) (fun b ⟨h1, h2⟩ => ⟨hN b h1, h2⟩) h
theorem StR.ghost (h : StR g S w) (hσ : g'.σ = g.σ) (hτ : g'.τ = g.τ) (hI : ∀ b o, g.imm b o → g'.imm b o) (hN : ∀ b, g.O b = none → g'.O b = none) (hO : ∀ b o, heapO o → g.O b = some o → g'.O b = some o) (hM : g'.M = g.M) (hFr : ∀ b, Free g b → Free g' b) : StR g' S w := by
  have cell : ∀ (c : Cell) v, CellR g [] S.htoks w c v → noLoc c.2 → CellR g' [] S.htoks w c v := by
    intro c v ⟨h1, h2, h3⟩ hn
    refine ⟨VR.ghost h1 hσ hI hN, ?_, h3⟩
    obtain ⟨x, k⟩ := c
    cases k with
    | none => trivial
    | some k => cases k with
      | full => exact h2
      | loc t => cases hn
      | hp t =>
        show OwnR w S.htoks g'.τ t x v
        rw [hτ]; exact h2
  refine ⟨by rw [hσ]; exact h.sigma, by rw [hτ]; exact h.tau, fun id cs hid => ?_, fun id es hid => ?_, fun t n sz ht => ?_, fun id hid => ?_, blds_keep h (by rw [hσ]; exact fun _ _ h => h) (fun id T e l hid => ⟨hid, fun c _ ho => ⟨hO c _ (.inl ⟨id, rfl⟩) ho, by rw [hM], rfl⟩⟩), fun id id' b h1 h2 h3 h4 => h.binj id id' b h1 h2 (by rw [← hσ]; exact h3) (by rw [← hσ]; exact h4)⟩
  rotate_right
  · obtain ⟨b, b1, b2, b3⟩ := h.blks id hid
    exact ⟨b, by rw [hσ]; exact b1, hFr b b2, b3⟩
  · obtain ⟨⟨b, b1, b2, b3, arr, ty, b4, b5, b6⟩, b7⟩ := h.cells id cs hid
    exact ⟨⟨b, by rw [hσ]; exact b1, hO _ _ (.inl ⟨_, rfl⟩) b2, by rw [hM]; exact b3, arr, ty, b4, b5, fun i c hc => cell _ _ (b6 i c hc) (b7 c (List.mem_of_getElem? hc))⟩, b7⟩
  · obtain ⟨b, ents, clock, b1, b2, b3, b4, b5⟩ := h.maps id es hid
    exact ⟨b, ents, clock, by rw [hσ]; exact b1, ⟨hO _ _ (.inl ⟨_, rfl⟩) b2.1, by rw [hM]; exact b2.2⟩, b3, b4, fun i e he => ⟨VR.ghost (b5 i e he).1 hσ hI hN, VR.ghost (b5 i e he).2 hσ hI hN⟩⟩
  · obtain ⟨b, b1, b2, b3, b4⟩ := h.toks t n sz ht
    exact ⟨b, by rw [hτ]; exact b1, hO _ _ (.inr ⟨_, rfl⟩) b2, by rw [hM]; exact b3, b4⟩
theorem enter_free (b : Nat) (h : Free g b) : Free g.enter b := fun id hid => h id ((enter_obj (.inl ⟨id, rfl⟩)).1 hid)
theorem StR.enter (h : StR g S w) : StR g.enter S w :=
  h.ghost rfl rfl (fun b o => (enter_imm b o).2) (fun b => (enter_none b).2) (fun b o ho => (enter_obj ho).2) rfl enter_free
theorem VR.enter {x : PV} {v : Value} (h : g.VR w x v) : g.enter.VR w x v := VR.ghost h rfl (fun b o => (enter_imm b o).2) (fun b => (enter_none b).2)
def clean : Option Own → Option Own
  | some (.box _) => none
  | some (.tok _) => none
  | x => x
def leaveO (n : Nat) (o o1 : Nat → Option Own) (b : Nat) : Option Own :=
  if b < n then (match o b with
    | some (.box s) => some (.box s)
    | some (.tok t) => some (.tok t)
    | _ => clean (o1 b)) else clean (o1 b)
def Gh.leave (g g1 : Gh) (n : Nat) : Gh := { g1 with ψ := g.ψ, O := leaveO n g.O g1.O }
theorem leave_cases (g g1 : Gh) (n b : Nat) : ((b < n ∧ ((∃ s, g.O b = some (.box s)) ∨ ∃ t, g.O b = some (.tok t))) ∧ (g.leave g1 n).O b = g.O b) ∨
    (¬ (b < n ∧ ((∃ s, g.O b = some (.box s)) ∨ ∃ t, g.O b = some (.tok t))) ∧ (g.leave g1 n).O b = clean (g1.O b)) := by
  unfold Gh.leave leaveO
  simp only
  by_cases h : b < n
  · rw [if_pos h]
    cases ho : g.O b with
    | none => exact .inr ⟨(by rintro ⟨_, ⟨s, hs⟩ | ⟨s, hs⟩⟩ <;> cases hs), rfl⟩
    | some o => cases o with
      | box s => exact .inl ⟨⟨h, .inl ⟨s, rfl⟩⟩, rfl⟩
      | tok t => exact .inl ⟨⟨h, .inr ⟨t, rfl⟩⟩, rfl⟩
      | _ => exact .inr ⟨(by rintro ⟨_, ⟨s, hs⟩ | ⟨s, hs⟩⟩ <;> cases hs), rfl⟩
  · rw [if_neg h]; exact .inr ⟨fun hh => h hh.1, rfl⟩
theorem leave_sound (hS : StR g S w) (hA : StR g1 S1 w1) (t : Tr nf g.enter g1 w w1) (tk : TokTr S.htoks S1.htoks g.τ g1.τ w w1) {r : PV} {v : Value} (hv : g1.VR w1 r v) : CallR g S w r S1 v w1 (g.leave g1 w.heap.size) := by
  have own : ∀ b, (b < w.heap.size ∧ ((∃ s, g.O b = some (.box s)) ∨ ∃ t, g.O b = some (.tok t))) → g1.O b = some .foreign ∧ g1.M b = g.M b ∧ w1.heap[b]? = w.heap[b]? := by
    rintro b ⟨hb, ho⟩
    have hf : g.enter.O b = some .foreign := by
      rcases ho with ⟨s, hs⟩ | ⟨s, hs⟩
      · exact enter_foreign hs (by rintro (⟨_, h⟩ | ⟨_, h⟩) <;> cases h)
      · exact enter_foreign hs (by rintro (⟨_, h⟩ | ⟨_, h⟩) <;> cases h)
    exact t.oth b _ hb hf (by intro h; exact h rfl)
  have hI : ∀ b o, g1.imm b o → (g.leave g1 w.heap.size).imm b o := by
    intro b o hi
    rcases leave_cases g g1 w.heap.size b with ⟨h1, h2⟩ | ⟨h1, h2⟩
    · obtain ⟨q1, _, _⟩ := own b h1
      rcases hi with hi | hi
      · rw [q1] at hi; cases hi
      · exact .inr hi
    · rcases hi with hi | hi
      · exact .inl (by rw [h2, hi]; rfl)
      · exact .inr hi
  have hN : ∀ b, g1.O b = none → (g.leave g1 w.heap.size).O b = none := by
    intro b hb
    rcases leave_cases g g1 w.heap.size b with ⟨h1, h2⟩ | ⟨h1, h2⟩
    · obtain ⟨q1, _, _⟩ := own b h1; rw [q1] at hb; cases hb
    · rw [h2, hb]; rfl
  have hO : ∀ b o, heapO o → g1.O b = some o → (g.leave g1 w.heap.size).O b = some o := by
    intro b o ho hb
    rcases leave_cases g g1 w.heap.size b with ⟨h1, h2⟩ | ⟨h1, h2⟩
    · obtain ⟨q1, _, _⟩ := own b h1; rw [q1] at hb; cases hb; rcases ho with ⟨_, h⟩ | ⟨_, h⟩ <;> cases h
    · rw [h2, hb]; rcases ho with ⟨_, rfl⟩ | ⟨_, rfl⟩ <;> rfl
  have hFr : ∀ b, Free g1 b → Free (g.leave g1 w.heap.size) b := by
    intro b hb id hid
    rcases leave_cases g g1 w.heap.size b with ⟨h1, h2⟩ | ⟨h1, h2⟩
    · rw [h2] at hid
      rcases h1.2 with ⟨s, hs⟩ | ⟨s, hs⟩ <;> rw [hs] at hid <;> cases hid
    · rw [h2] at hid
      refine hb id ?_
      generalize g1.O b = q at hid
      cases q with
      | none => cases hid
      | some q => cases q <;> simp [clean] at hid <;> rw [hid]
  refine ⟨hA.ghost rfl rfl hI hN hO rfl hFr, VR.ghost hv rfl hI hN, ⟨t.os, t.tape, t.output, t.size, t.sigma, fun b o u hu hi => ?_, fun b hb hn => ?_, fun b o hb ho hne => ?_, fun b arr ty hb hf => ?_⟩, tk, rfl⟩
  rotate_right
  · obtain ⟨q1, q2⟩ := t.cz b arr ty hb (enter_free b hf)
    exact ⟨q1, hFr b q2⟩
  · obtain ⟨q1, q2⟩ := t.imm b o u hu ((enter_imm b o).2 hi)
    exact ⟨q1, hI b o q2⟩
  · obtain ⟨q1, q2⟩ := t.none b hb ((enter_none b).2 hn)
    exact ⟨hN b q1, q2⟩
  · obtain ⟨q1, q2, q3⟩ := t.oth b _ hb (enter_foreign ho hne) (by intro h; exact h rfl)
    refine ⟨?_, q2, q3⟩
    rcases leave_cases g g1 w.heap.size b with ⟨h1, h2⟩ | ⟨h1, h2⟩
    · rw [h2]; exact ho
    · rw [h2, q1]
      cases o with
      | box s => exact absurd ⟨hb, .inl ⟨s, ho⟩⟩ h1
      | tok s => exact absurd ⟨hb, .inr ⟨s, ho⟩⟩ h1
      | foreign => rfl
      | obj id => exact absurd (.inl ⟨_, rfl⟩) hne
      | htok s => exact absurd (.inr ⟨_, rfl⟩) hne
def adBound (n : Nat) : Option AAd → Prop
  | some (.ob id _) => id < n
  | _ => True
theorem AdR.bound {σ : List Nat} {N : Nat → Prop} {a : Option AAd} {b o : Nat} (h : AdR σ N a b o) : adBound σ.length a := by
  rcases h with rfl | ⟨rfl, _⟩ | ⟨id, rfl, h⟩
  · trivial
  · trivial
  · exact (List.getElem?_eq_some_iff.1 h).1
theorem AdR.trim {σ σ' : List Nat} {N N' : Nat → Prop} {n : Nat} (hσ : ∀ (id b : Nat), id < n → σ[id]? = some b → σ'[id]? = some b) (hN : ∀ b, N b → N' b) {a : Option AAd} {b o : Nat} (h : AdR σ N a b o) (hb : adBound n a) : AdR σ' N' a b o := by
  rcases h with h | ⟨h, h'⟩ | ⟨id, h, h'⟩
  · exact .inl h
  · exact .inr (.inl ⟨h, hN _ h'⟩)
  · rw [h] at hb
    exact .inr (.inr ⟨id, h, hσ _ _ hb h'⟩)
mutual
def PV.bound (n : Nat) : PV → Prop
  | .ref id _ => id < n
  | .ar id _ _ _ => id < n
  | .mp id => id < n
  | .ip a cs => adBound n a ∧ PV.boundL n cs
  | .sl a _ es => adBound n a ∧ PV.boundL n es
  | .fn _ cs => PV.boundL n cs
  | .agg cs => PV.boundL n cs
  | .tup cs => PV.boundL n cs
  | _ => True
def PV.boundL (n : Nat) : List PV → Prop
  | [] => True
  | x :: xs => x.bound n ∧ PV.boundL n xs
end
theorem boundL_get {n : Nat} : ∀ {cs : List PV}, PV.boundL n cs → ∀ i, (cs.getD i .undef).bound n
  | [], _, i => by simp [PV.bound]
  | c :: cs, h, i => by
    cases i with
    | zero => simpa using h.1
    | succ i => simpa using boundL_get h.2 i
theorem boundL_of {n : Nat} : ∀ {cs : List PV}, (∀ i, i < cs.length → (cs.getD i .undef).bound n) → PV.boundL n cs
  | [], _ => trivial
  | c :: cs, h => ⟨h 0 (by simp), boundL_of fun i hi => by have := h (i + 1) (by simpa using hi); simpa using this⟩
theorem bound_cell {n : Nat} {e : PV} (h : e.bound n) (i : Nat) : (e.cell i).bound n := by
  unfold PV.cell PV.cells
  split
  · rename_i cs; rw [PV.bound] at h; exact boundL_get h i
  · cases i with
    | zero => simpa using h
    | succ i => simp [PV.bound]
theorem bound_of_cells {n : Nat} {e : PV} (h : ∀ j, j < e.cells.length → (e.cell j).bound n) : e.bound n := by
  unfold PV.cell PV.cells at h
  split at h
  · rename_i cs
    rw [PV.bound]
    exact boundL_of h
  · simpa using h 0 (by simp)
theorem VR.bound {σ : List Nat} {I : Nat → Nat → Prop} {N : Nat → Prop} {x : PV} {v : Value} (h : VR σ I N w x v) : x.bound σ.length := by
  induction h with
  | bool b => trivial
  | int k n => trivial
  | str s => trivial
  | nilp => trivial
  | snil => trivial
  | mnil => trivial
  | fnil => trivial
  | ref id off b h => exact (List.getElem?_eq_some_iff.1 h).1
  | mp id b h => exact (List.getElem?_eq_some_iff.1 h).1
  | ar id sz off len b cap h hc => exact (List.getElem?_eq_some_iff.1 h).1
  | ip a cs b o g ha hc _ ih => rw [PV.bound]; exact ⟨ha.bound, boundL_of ih⟩
  | sl a sz es b o cap g hsz ha hcap hl hc _ ih =>
    rw [PV.bound]
    refine ⟨ha.bound, boundL_of fun i hi => bound_of_cells fun j hj => ih i j hi (by rw [hl i hi] at hj; exact hj)⟩
  | sl0 sz p h => rw [PV.bound]; exact ⟨trivial, trivial⟩
  | fn f cs vs hl _ ih => rw [PV.bound]; exact boundL_of ih
  | agg cs vs hl h1 _ ih => rw [PV.bound]; exact boundL_of ih
  | tup cs vs hl _ ih => rw [PV.bound]; exact boundL_of ih
  | undef v => trivial
theorem VR.trim {σ σ' : List Nat} {I I' : Nat → Nat → Prop} {N N' : Nat → Prop} {n : Nat} (hσ : ∀ (id b : Nat), id < n → σ[id]? = some b → σ'[id]? = some b) (hI : ∀ b o, I b o → I' b o) (hN : ∀ b, N b → N' b)
    {x : PV} {v : Value} (h : VR σ I N w x v) (hb : x.bound n) : VR σ' I' N' w x v := by
  induction h with
  | bool b => exact .bool b
  | int k n => exact .int k n
  | str s => exact .str s
  | nilp => exact .nilp
  | snil => exact .snil
  | mnil => exact .mnil
  | fnil => exact .fnil
  | ref id off b h => exact .ref id off b (hσ _ _ hb h)
  | mp id b h => exact .mp id b (hσ _ _ hb h)
  | ar id sz off len b cap h hc => exact .ar id sz off len b cap (hσ _ _ hb h) hc
  | ip a cs b o g ha hc _ ih => rw [PV.bound] at hb; exact .ip a cs b o g (ha.trim hσ hN hb.1) (fun i hi => let ⟨p, q, r⟩ := hc i hi; ⟨p, hI _ _ q, r⟩) (fun i hi => ih i hi (boundL_get hb.2 i))
  | sl a sz es b o cap g hsz ha hcap hl hc _ ih =>
    rw [PV.bound] at hb
    exact .sl a sz es b o cap g hsz (ha.trim hσ hN hb.1) hcap hl (fun i hi => let ⟨p, q, r⟩ := hc i hi; ⟨p, hI _ _ q, r⟩) (fun i j hi hj => ih i j hi hj (bound_cell (boundL_get hb.2 i) j))
  | sl0 sz p h => exact .sl0 sz p h
  | fn f cs vs hl _ ih => rw [PV.bound] at hb; exact .fn f cs vs hl (fun i hi => ih i hi (boundL_get hb i))
  | agg cs vs hl h1 _ ih => rw [PV.bound] at hb; exact .agg cs vs hl h1 (fun i hi => ih i hi (boundL_get hb i))
  | tup cs vs hl _ ih => rw [PV.bound] at hb; exact .tup cs vs hl (fun i hi => ih i hi (boundL_get hb i))
  | undef v => exact .undef v
def Gh.trim (g g' : Gh) (n m : Nat) : Gh := { g' with σ := g.σ, τ := g.τ, O := fun b => match g'.O b with
  | some (.obj id) => if id < n then some (.obj id) else none
  | some (.htok t) => if t < m then some (.htok t) else none
  | x => x }
theorem trim_sound (hS : StR g S w) {r : PV} {v : Value} (h : CallR g S w r S1 v w1 g') (ho : S1.objs.take S.objs.length = S.objs) (ht : S1.htoks.take S.htoks.length = S.htoks) (hp : r.pure = true) :
    CallR g S w r S v w1 (g.trim g' S.objs.length S.htoks.length) := by
  have getO : ∀ (id : Nat) (x : Ob), S.objs[id]? = some x → S1.objs[id]? = some x := by
    intro id x hx
    rw [← ho, List.getElem?_take] at hx
    split at hx
    · exact hx
    · cases hx
  have getT : ∀ (t : Nat) (x : Option (Nat × Nat)), S.htoks[t]? = some x → S1.htoks[t]? = some x := by
    intro t x hx
    rw [← ht, List.getElem?_take] at hx
    split at hx
    · exact hx
    · cases hx
  have hσ : ∀ (id b : Nat), id < S.objs.length → g'.σ[id]? = some b → g.σ[id]? = some b := by
    intro id b hid hb
    have hlt : id < g.σ.length := by rw [hS.sigma]; exact hid
    have := h.tr.sigma id _ (List.getElem?_eq_getElem hlt)
    rw [this] at hb; cases hb
    exact List.getElem?_eq_getElem hlt
  have tokSame : ∀ (t n sz : Nat), S.htoks[t]? = some (some (n, sz)) → ∀ (b : Nat), g.τ[t]? = some b → g'.τ[t]? = some b ∧ w1.heap[b]? = w.heap[b]? := by
    intro t n sz hn b hb
    have hlt := (List.getElem?_eq_some_iff.1 hn).1
    obtain ⟨n0, q1, q2⟩ := h.tok.2 t n sz hlt (getT _ _ hn)
    rw [hn] at q1; cases q1
    rcases q2 with q2 | ⟨_, q2⟩
    · omega
    · exact q2 b hb
  let g2 := g.trim g' S.objs.length S.htoks.length
  have hI : ∀ b o, g'.imm b o → g2.imm b o := by
    intro b o hi
    by_cases hg2 : g2.O b = none
    · exact .inl hg2
    · rcases hi with hi | hi
      · exact .inl (by show (match g'.O b with | some (.obj id) => _ | some (.htok t) => _ | x => x) = none; rw [hi])
      · exact .inr hi
  have hN : ∀ b, g'.O b = none → g2.O b = none := by
    intro b hb
    show (match g'.O b with | some (.obj id) => _ | some (.htok t) => _ | x => x) = none
    rw [hb]
  have hPl : ∀ b, g'.plain w1 b → g2.plain w1 b := fun b ⟨h1, h2⟩ => ⟨hN b h1, h2⟩
  have vr : ∀ {x : PV} {u : Value}, g'.VR w1 x u → x.bound S.objs.length → g2.VR w1 x u := fun hx hb => VR.trim hσ hI hPl hx hb
  have bnd : ∀ {x : PV} {u : Value}, g.VR w x u → x.bound S.objs.length := fun hx => by have := VR.bound hx; rw [hS.sigma] at this; exact this
  have hFr : ∀ b, Free g' b → Free g2 b := by
    intro b hb id hid
    have hid : (match g'.O b with | some (.obj id) => if id < S.objs.length then some (Own.obj id) else none | some (.htok t) => if t < S.htoks.length then some (Own.htok t) else none | x => x) = some (.obj id) := hid
    refine hb id ?_
    generalize g'.O b = q at hid
    cases q with
    | none => cases hid
    | some q => cases q <;> simp at hid <;> first | rw [hid.2] | skip
  refine ⟨⟨hS.sigma, hS.tau, fun id cs hid => ?_, fun id es hid => ?_, fun t n sz hn => ?_, fun id hid => ?_, fun id T e l hid => ?_, hS.binj⟩, VR.pure (σ := g'.σ) (VR.trim (fun _ _ _ h => h) hI hPl h.vr (VR.bound h.vr)) hp, ⟨h.tr.os, h.tr.tape, h.tr.output, h.tr.size, fun _ _ h => h, fun b o u hu hi => ?_, fun b hb hn => ?_, fun b o hb ho' hne => ?_, fun b arr ty hb hf => ?_⟩, ?_, h.psi⟩
  rotate_left 3
  · obtain ⟨b, b1, b2, arr, ty, b3⟩ := hS.blks id hid
    obtain ⟨⟨arr', c1⟩, c2⟩ := h.tr.cz b arr ty b3 b2
    exact ⟨b, b1, hFr b c2, arr', ty, c1⟩
  · have hlt := (List.getElem?_eq_some_iff.1 hid).1
    obtain ⟨b, b1, b2, b3, b4⟩ := h.st.blds id T e l (getO _ _ hid)
    have hob : ∀ c, g'.O c = some (.obj id) → g2.O c = some (.obj id) := by
      intro c hc
      show (match g'.O c with | some (.obj id) => _ | some (.htok t) => _ | x => x) = _
      rw [hc]; simp [hlt]
    exact ⟨b, hσ _ _ hlt b1, hob b b2, b3, b4.keep b2 (fun c _ hc => ⟨hob c hc, rfl, rfl⟩)⟩
  rotate_left 3
  · obtain ⟨q1, q2⟩ := h.tr.cz b arr ty hb hf
    exact ⟨q1, hFr b q2⟩
  rotate_left 1
  · have hlt := (List.getElem?_eq_some_iff.1 hid).1
    obtain ⟨⟨b0, c1, c2, c3, arr0, ty0, c4, c5, c6⟩, c7⟩ := hS.cells id cs hid
    obtain ⟨⟨b, b1, b2, b3, arr, ty, b4, b5, b6⟩, b7⟩ := h.st.cells id cs (getO _ _ hid)
    refine ⟨⟨b, hσ _ _ hlt b1, ?_, b3, arr, ty, b4, b5, fun i c hc => ?_⟩, b7⟩
    · show (match g'.O b with | some (.obj id) => _ | some (.htok t) => _ | x => x) = _
      rw [b2]; simp [hlt]
    · obtain ⟨d1, d2, d3⟩ := c6 i c hc
      obtain ⟨e1, e2, e3⟩ := b6 i c hc
      refine ⟨vr e1 (bnd d1), ?_, e3⟩
      obtain ⟨x, k⟩ := c
      cases k with
      | none => trivial
      | some k => cases k with
        | full => exact e2
        | loc t => exact (b7 (x, some (.loc t)) (List.mem_of_getElem? hc)).elim
        | hp t =>
          refine ⟨d2.1, fun n sz hn => ?_⟩
          obtain ⟨m, m1, m2, m3⟩ := e2.2 n sz (getT _ _ hn)
          refine ⟨m, m1, m2, fun e => ?_⟩
          obtain ⟨e', vals, b', p1, p2, p3⟩ := m3 e
          obtain ⟨b0', z1, _, _, _⟩ := hS.toks t n sz hn
          have := (tokSame t n sz hn b0' z1).1
          rw [this] at p2; cases p2
          exact ⟨e', vals, _, p1, z1, p3⟩
  · have hlt := (List.getElem?_eq_some_iff.1 hid).1
    obtain ⟨b0, ents0, clock0, c1, c2, c3, c4, c5⟩ := hS.maps id es hid
    obtain ⟨b, ents, clock, b1, b2, b3, b4, b5⟩ := h.st.maps id es (getO _ _ hid)
    refine ⟨b, ents, clock, hσ _ _ hlt b1, ⟨?_, b2.2⟩, b3, b4, fun i e he => ⟨vr (b5 i e he).1 (bnd (c5 i e he).1), vr (b5 i e he).2 (bnd (c5 i e he).2)⟩⟩
    show (match g'.O b with | some (.obj id) => _ | some (.htok t) => _ | x => x) = _
    rw [b2.1]; simp [hlt]
  · have hlt := (List.getElem?_eq_some_iff.1 hn).1
    obtain ⟨b0, z1, _, _, _⟩ := hS.toks t n sz hn
    obtain ⟨b, b1, b2, b3, b4⟩ := h.st.toks t n sz (getT _ _ hn)
    have := (tokSame t n sz hn b0 z1).1
    rw [this] at b1; cases b1
    refine ⟨_, z1, ?_, b3, b4⟩
    show (match g'.O _ with | some (.obj id) => _ | some (.htok t) => _ | x => x) = _
    rw [b2]; simp [hlt]
  · obtain ⟨q1, q2⟩ := h.tr.imm b o u hu hi
    exact ⟨q1, hI b o q2⟩
  · obtain ⟨q1, q2⟩ := h.tr.none b hb hn
    exact ⟨hN b q1, q2⟩
  · obtain ⟨q1, q2, q3⟩ := h.tr.oth b o hb ho' hne
    refine ⟨?_, q2, q3⟩
    show (match g'.O b with | some (.obj id) => _ | some (.htok t) => _ | x => x) = _
    rw [q1]
    cases o with
    | obj id => exact absurd (.inl ⟨_, rfl⟩) hne
    | htok t => exact absurd (.inr ⟨_, rfl⟩) hne
    | _ => rfl
  · refine ⟨Nat.le_refl _, fun t n sz hlt hn => ⟨n, hn, .inr ⟨rfl, fun b hb => ⟨hb, (tokSame t n sz hn b hb).2⟩⟩⟩⟩
end
end Go.Abs
namespace Go.Abs
def resOne (tmps : Array Value) : ResultVar → Sem Value
  | .tmp t => pure (tmps.getD t Go.undef)
  | .cell c t => do loadVar t (← asAddr (tmps.getD c Go.undef))
theorem results_eq (fn : Func) (tmps : Array Value) : results fn tmps = (do let vs ← fn.results.mapM (resOne tmps); pure (if h : vs.size = 1 then vs[0] else .tuple vs)) := by
  unfold results
  congr 1
section
variable {P : Program} {T : Hints} {call : CallF} {g g' g1 : Gh} {F : Fr} {S S1 : St} {w w' w1 : World} {a : Act}
theorem results_sound (hF : FrR g F S.htoks w a) (hS : StR g S w) : ∀ (rs : List ResultVar) (xs : List PV), resL P F S rs = some xs →
    ∃ vs : List Value, (rs.mapM (resOne a.tmps)).run P w = .ok vs w ∧ vs.length = xs.length ∧
      ∀ i, i < xs.length → g.VR w (xs.getD i .undef) (vs.getD i Go.undef)
  | [], xs, h => by cases h; exact ⟨[], rfl, rfl, fun i hi => by simp at hi⟩
  | r :: rs, xs, h => by
    simp only [resL] at h
    obtain ⟨x, hx, h1⟩ := Option.bind_eq_some_iff.1 h
    obtain ⟨xs', hxs, rfl⟩ := Option.map_eq_some_iff.1 h1
    obtain ⟨vs, hvs, hl, hv⟩ := results_sound hF hS rs xs' hxs
    have one : ∃ v, (resOne a.tmps r).run P w = .ok v w ∧ g.VR w x v := by
      cases r with
      | tmp t =>
        simp only [resOf, Option.some.injEq] at hx
        subst hx
        refine ⟨_, rfl, ?_⟩
        cases he : F.env[t]? with
        | none =>
          have : F.get t = .v .undef none := by simp [Fr.get, List.getD_eq_getElem?_getD, he]
          rw [this]; exact .undef _
        | some y =>
          rw [env_get he]
          cases y with
          | v y k => exact (hF.vals t y k he).1
          | box cs => exact .undef _
          | lp s o => exact .undef _
      | cell c t =>
        simp only [resOf] at hx
        obtain ⟨n, hn, hx⟩ := Option.bind_eq_some_iff.1 hx
        obtain ⟨y, hy, rfl⟩ := Option.map_eq_some_iff.1 hx
        obtain ⟨v, hr, y', k, rfl, hv', _⟩ := ld_sound (.inr rfl) hF hS (opdR hF (.tmp c)) hn hy
        refine ⟨v, ?_, hv'⟩
        have he : a.eval (.tmp c) = a.tmps.getD c Go.undef := rfl
        rw [he] at hr
        simp only [Instr.loadAt, Sem.run_bind] at hr
        simp only [resOne, Sem.run_bind]
        generalize a.tmps.getD c Go.undef = p at *
        cases p with
        | pointer ad => cases ad with
          | none => simp [Instr.sureAddr] at hr
          | some ad => simpa [Instr.sureAddr, asAddr] using hr
        | _ => simp [Instr.sureAddr] at hr
    obtain ⟨v, hr, hxv⟩ := one
    refine ⟨v :: vs, ?_, by simp [hl], fun i hi => ?_⟩
    · rw [List.mapM_cons, Sem.run_bind, hr]
      simp only [Result.andThen_ok, Sem.run_bind, hvs, Sem.run_pure]
    · cases i with
      | zero => exact hxv
      | succ i => have := hv i (by simpa using hi); simpa using this
theorem results_run {fn : Func} (hF : FrR g F S.htoks w a) (hS : StR g S w) {xs : List PV} (h : resL P F S fn.results.toList = some xs) : ∃ v, (results fn a.tmps).run P w = .ok v w ∧ g.VR w (resV xs) v := by
  obtain ⟨vs, hvs, hl, hv⟩ := results_sound hF hS _ xs h
  rw [results_eq, Sem.run_bind, Array.mapM_eq_mapM_toList, Sem.run_map, hvs]
  simp only [Result.andThen_ok, Sem.run_pure]
  match xs, hl, hv with
  | [x], hl, hv =>
    match vs, hl with
    | [v], _ => exact ⟨v, by simp, hv 0 (by simp)⟩
  | [], hl, hv =>
    have : vs = [] := List.eq_nil_of_length_eq_zero (by simpa using hl)
    subst this
    exact ⟨.tuple #[], by simp, .tup [] #[] rfl (fun i hi => by simp at hi)⟩
  | x :: y :: xs, hl, hv =>
    refine ⟨.tuple vs.toArray, ?_, .tup _ _ (by simp at hl ⊢; omega) (fun i hi => ?_)⟩
    · have : ¬ vs.length = 1 := by simp at hl; omega
      simp [this]
    · have := hv i hi
      simpa [Array.getD_eq_getD_getElem?, List.getD_eq_getElem?_getD] using this
theorem fin_sound {r r' : PV} {S' : St} {v : Value} (hS : StR g S w) (h : CallR g S w r S1 v w1 g') {tr : Bool} (hf : fin tr S r S1 = (r', S')) : ∃ g2, CallR g S w r' S' v w1 g2 := by
  cases tr with
  | false => simp only [fin] at hf; cases hf; exact ⟨g', h⟩
  | true =>
    simp only [fin] at hf
    split at hf
    · rename_i hc
      cases hf
      exact ⟨_, trim_sound hS h hc.1 hc.2.1 hc.2.2⟩
    · cases hf; exact ⟨g', h⟩
structure ExtS (P : Program) (T : Hints) : Prop where
  calls : ∀ f h, T.ext f = some h → ∀ args S r S' g w (vs : Array Value), h args S = some (r, S') → StR g S w → args.length = vs.size →
    (∀ i, i < args.length → g.VR w (args.getD i .undef) (vs.getD i Go.undef)) → Calls P f vs w fun e w' => ∃ v g', e = .returned v ∧ CallR g S w r S' v w' g'
  body : ∀ f h, T.ext f = some h → ∃ fn : Func, P.funcs[f]? = some fn ∧ fn.body.isSome = true
theorem run_B (hX : ExtS P T) (k : Nat) : CallB P (run P T k) := by
  intro f args S r h
  cases k with
  | zero => cases h
  | succ k =>
    rw [run] at h
    cases hx : T.ext f with
    | some x => exact hX.body f x hx
    | none =>
    rw [hx] at h
    simp only at h
    obtain ⟨fn, hf, h1⟩ := Option.bind_eq_some_iff.1 h
    obtain ⟨c, hb, h2⟩ := Option.bind_eq_some_iff.1 h1
    exact ⟨fn, hf, by rw [hb]; rfl⟩
theorem run_sound (hN : Named P) (hX : ExtS P T) (hm : P.follows .mixedOrders = true) : ∀ k, CallS P (run P T k)
  | 0 => fun f args S r S' g w vs h => by cases h
  | k + 1 => by
    intro f args S r S' g w vs h hS hl hv
    have ih := run_sound hN hX hm k
    rw [run] at h
    cases hx : T.ext f with
    | some x => rw [hx] at h; exact hX.calls f x hx args S r S' g w vs h hS hl hv
    | none =>
    rw [hx] at h
    simp only at h
    obtain ⟨fn, hf, h1⟩ := Option.bind_eq_some_iff.1 h
    obtain ⟨c, hb, h2⟩ := Option.bind_eq_some_iff.1 h1
    obtain ⟨x, hx, h3⟩ := Option.bind_eq_some_iff.1 h2
    obtain ⟨e, F1, S1⟩ := x
    refine calls_of_wp hf hb ?_
    have hinit : FrR g.enter (initF fn args) S.htoks w { tmps := vs ++ Array.replicate (fn.ntmps - vs.size) Go.undef, defers := [] } := by
      refine ⟨by simp [initF, hl], rfl, fun t x k ht => ?_, fun t cs ht => ?_, fun t s o cs ht => ?_, fun t n sz ht => by simp [initF] at ht, rfl⟩
      · simp only [initF] at ht
        by_cases hlt : t < args.length
        · rw [List.getElem?_append_left (by simpa using hlt), List.getElem?_map, List.getElem?_eq_getElem hlt] at ht
          simp at ht
          obtain ⟨rfl, rfl⟩ := ht
          refine ⟨?_, trivial⟩
          have := VR.enter (hv t hlt)
          rw [List.getD_eq_getElem?_getD, List.getElem?_eq_getElem hlt, Option.getD_some] at this
          rw [Array.getD_eq_getD_getElem?, Array.getElem?_append_left (by omega), ← Array.getD_eq_getD_getElem?]
          exact this
        · rw [List.getElem?_append_right (by simpa using Nat.not_lt.1 hlt)] at ht
          rw [List.getElem?_replicate] at ht
          split at ht
          · cases ht; exact ⟨.undef _, trivial⟩
          · cases ht
      · simp only [initF] at ht
        have := List.mem_of_getElem? ht
        simp at this
      · simp only [initF] at ht
        have := List.mem_of_getElem? ht
        simp at this
    have hL : NoLp (initF fn args) := by
      intro x hx
      simp only [initF, List.mem_append, List.mem_map, List.mem_replicate] at hx
      rcases hx with ⟨y, _, rfl⟩ | ⟨_, rfl⟩ <;> rfl
    refine wp_mono (evalD_sound hN ih (run_B hX k) (drawS hN ih (run_B hX k)) hm c hinit hS.enter hL hx) (fun e' a' w' hq => ?_)
    obtain ⟨g1, hE, hA, _⟩ := hq
    have key : e ≠ .normal → e ≠ .ret → False := by
      intro n1 n2
      cases e with
      | normal => exact n1 rfl
      | ret => exact n2 rfl
      | exit id => simp [finish] at h3
    have hres : ∃ xs, resL P F1 S1 fn.results.toList = some xs ∧ fin T.trim S (resV xs) S1 = (r, S') := by
      cases e with
      | normal => obtain ⟨xs, hxs, he⟩ := Option.map_eq_some_iff.1 h3; exact ⟨xs, hxs, he⟩
      | ret => obtain ⟨xs, hxs, he⟩ := Option.map_eq_some_iff.1 h3; exact ⟨xs, hxs, he⟩
      | exit id => cases h3
    obtain ⟨xs, hxs, hfin⟩ := hres
    obtain ⟨v, hrun, hvr⟩ := results_run (fn := fn) hA.fr hA.st hxs
    have hcall := leave_sound hS hA.st hA.tr hA.tok hvr
    obtain ⟨g2, hR⟩ := fin_sound hS hcall hfin
    have fin : a'.defers = [] ∧ ∃ v, (results fn a'.tmps).run P w' = .ok v w' ∧ ∃ v_1 g', Ending.returned v = .returned v_1 ∧ CallR g S w r S' v_1 w' g' :=
      ⟨hA.fr.defers, v, hrun, v, g2, rfl, hR⟩
    cases e' with
    | normal => exact fin
    | ret => exact fin
    | _ => cases e <;> first | exact hE.elim | exact (key (by simp) (by simp)).elim
end
end Go.Abs
namespace Go.Abs
def extWriteByte (T0 e0 : TypeId) : List PV → St → Option (PV × St)
  | [.ref id 0, .int .u8 c], S => match S.objs[id]? with
    | some (.bld T e l) => if T = T0 ∧ e = e0 ∧ 0 ≤ c ∧ c < 256 ∧ l.length + 1 ≤ room then some (.undef, { S with objs := S.objs.set id (.bld T e (l ++ [UInt8.ofNat c.toNat])) }) else none
    | _ => none
  | _, _ => none
def extWriteString (T0 e0 : TypeId) : List PV → St → Option (PV × St)
  | [.ref id 0, .str s], S => match S.objs[id]? with
    | some (.bld T e l) => if T = T0 ∧ e = e0 ∧ l.length + s.size ≤ room then some (.tup [.int .i64 s.size, .undef], { S with objs := S.objs.set id (.bld T e (l ++ s.data.toList)) }) else none
    | _ => none
  | _, _ => none
def extString (T0 e0 : TypeId) : List PV → St → Option (PV × St)
  | [.ref id 0], S => match S.objs[id]? with
    | some (.bld T e l) => if T = T0 ∧ e = e0 then some (.str ⟨l.toArray⟩, { S with objs := S.objs.set id .dead }) else none
    | _ => none
  | _, _ => none
end Go.Abs
namespace Go.Abs
section
variable {P : Program} {g g' : Gh} {S S' : St} {w w' : World}
def RowAt (w w' : World) (e : TypeId) (v v' : Value) (l' : List UInt8) : Prop :=
  (v' = .slice none 0 0 ∧ l' = []) ∨ ∃ b2 cap cur, v' = .slice (some ⟨b2, 0, none⟩) l'.length cap ∧ (v.ownBlock = some b2 ∨ w.heap.size ≤ b2) ∧ w'.heap[b2]? = some (.cells cur e (0, 0)) ∧
    l' ≠ [] ∧ l'.length ≤ cap ∧ cap ≤ maxLen ∧ cur.size = cap ∧ cur.toList.take l'.length = l'.map fun x => Value.int .u8 x.toNat
structure BldTr (b : Nat) (v : Value) (w w' : World) : Prop where
  os : w'.os = w.os
  tape : w'.tape = w.tape
  output : w'.output = w.output
  size : w.heap.size ≤ w'.heap.size
  old : ∀ k, k < w.heap.size → k ≠ b → v.ownBlock ≠ some k → w'.heap[k]? = w.heap[k]?
theorem bld_core (hS : StR g S w) {id : Nat} {T e : TypeId} {l : List UInt8} (hid : S.objs[id]? = some (.bld T e l)) {b : Nat} (hσ : g.σ[id]? = some b) {p v : Value} (hb : w.heap[b]? = some (.cells #[p, v] T (0, 0)))
    (ht : BldTr b v w w') {ob : Ob} (hnb : ob ≠ Ob.blk) (hnc : ∀ cs, ob ≠ .cells cs) (hnm : ∀ es, ob ≠ .map es) (c : Nat) (hc : c < w.heap.size → g.O c = some (.obj id) ∧ g.M c = 0)
    (hbl : ∀ T' e' l', ob = .bld T' e' l' → BldR { g with O := upd g.O c (some (.obj id)), M := upd g.M c 0 } w' id b T' e' l')
    {r : PV} {rv : Value} (hr : ∀ g' : Gh, g'.VR w' r rv) : ∃ g', CallR g S w r { S with objs := S.objs.set id ob } rv w' g' := by
  obtain ⟨b', h1, hOb, hMb, q, v0, h2, hTe, hq, hrow⟩ := hS.blds id T e l hid
  rw [hσ] at h1; cases h1
  rw [hb] at h2
  simp at h2
  obtain ⟨rfl, rfl⟩ := h2
  have hblt : b < w.heap.size := (Array.getElem?_eq_some_iff.1 hb).1
  have hidl : id < S.objs.length := (List.getElem?_eq_some_iff.1 hid).1
  have hown : ∀ k, v.ownBlock = some k → g.O k = some (.obj id) ∧ g.M k = 0 := by
    intro k hk
    rcases hrow with ⟨rfl, _⟩ | ⟨b2, cap, cur, rfl, ⟨o1, o2⟩, o3, o4, _⟩
    · cases hk
    · simp only [Value.ownBlock, Option.some.injEq] at hk
      subst hk
      exact ⟨o1, o2⟩
  let g' : Gh := { g with O := upd g.O c (some (.obj id)), M := upd g.M c 0 }
  have hOM : ∀ k, k < w.heap.size → g'.O k = g.O k ∧ g'.M k = g.M k := by
    intro k hk
    by_cases e : k = c
    · subst e
      obtain ⟨q1, q2⟩ := hc hk
      exact ⟨by show upd g.O k _ k = _; rw [upd_same, q1], by show upd g.M k _ k = _; rw [upd_same, q2]⟩
    · exact ⟨upd_ne _ _ e, upd_ne _ _ e⟩
  have same : ∀ k, k < w.heap.size → (g.O k ≠ some (.obj id) ∨ g.M k ≠ 0) → w'.heap[k]? = w.heap[k]? := by
    intro k hk hne
    refine ht.old k hk ?_ ?_
    · rintro rfl; rcases hne with h | h
      · exact h hOb
      · exact h hMb
    · intro h
      obtain ⟨q1, q2⟩ := hown k h
      rcases hne with h | h
      · exact h q1
      · exact h q2
  have tr : Tr heapO g g' w w' := by
    refine ⟨ht.os, ht.tape, ht.output, ht.size, fun _ _ h => h, fun k o u hu hi => ?_, fun k hk hn => ⟨(hOM k hk).1.trans hn, same k hk (.inl (by rw [hn]; simp))⟩, fun k o hk ho hne => ?_, fun k arr ty hk hf => ?_⟩
    · have hk : k < w.heap.size := World.block_lt_of_cell? w _ hu
      have hne : g.O k ≠ some (.obj id) ∨ g.M k ≠ 0 := by
        rcases hi with hi | hi
        · exact .inl (by rw [hi]; simp)
        · exact .inr (by omega)
      refine ⟨?_, ?_⟩
      · rw [World.cell?_of_block (w := w) (a := ⟨k, o, none⟩) (same k hk hne)]; exact hu
      · unfold Gh.imm at hi ⊢; rw [(hOM k hk).1, (hOM k hk).2]; exact hi
    · exact ⟨(hOM k hk).1.trans ho, (hOM k hk).2, same k hk (.inl (by rw [ho]; intro h; cases h; exact hne (.inl ⟨_, rfl⟩)))⟩
    · have hlt : k < w.heap.size := (Array.getElem?_eq_some_iff.1 hk).1
      exact ⟨⟨arr, (same k hlt (.inl (hf id))).trans hk⟩, fun i => by rw [(hOM k hlt).1]; exact hf i⟩
  have hnil : TokTr [] [] g.ψ g'.ψ w w' := ⟨Nat.le_refl _, fun t n sz ht => by simp at ht⟩
  have htok : TokTr S.htoks S.htoks g.τ g'.τ w w' := by
    refine ⟨Nat.le_refl _, fun t n sz _ hn => ⟨n, hn, .inr ⟨rfl, fun k hk => ⟨hk, ?_⟩⟩⟩⟩
    obtain ⟨k', q1, q2, _, q4⟩ := hS.toks t n sz hn
    rw [hk] at q1; cases q1
    exact same k q4 (.inl (by rw [q2]; simp))
  have other : ∀ id', id' ≠ id → ∀ k, k < w.heap.size → g.O k = some (.obj id') → g'.O k = some (.obj id') ∧ g'.M k = g.M k ∧ w'.heap[k]? = w.heap[k]? := by
    intro id' hne k hk ho
    exact ⟨(hOM k hk).1.trans ho, (hOM k hk).2, same k hk (.inl (by rw [ho]; intro h; cases h; exact hne rfl))⟩
  refine ⟨g', ⟨by simp [hS.sigma]; exact hS.sigma, hS.tau, fun i cs hi => ?_, fun i es hi => ?_, fun t n sz hn => ?_, (blks_keep hS tr (blk_set hnb)).1, fun i T' e' l' hi => ?_, (blks_keep hS tr (blk_set hnb)).2⟩, hr g', tr, htok, rfl⟩
  · simp only at hi
    rw [set_get _ _ _ _ hidl] at hi
    split at hi
    · exact absurd (Option.some.inj hi) (hnc cs)
    · rename_i hne
      obtain ⟨⟨k, b1, b2, b3, b4⟩, b5⟩ := hS.cells i cs hi
      obtain ⟨q1, q2, q3⟩ := other i hne k b4.lt b2
      exact ⟨⟨k, b1, q1, q2.trans b3, b4.keep tr hnil htok q3⟩, b5⟩
  · simp only at hi
    rw [set_get _ _ _ _ hidl] at hi
    split at hi
    · exact absurd (Option.some.inj hi) (hnm es)
    · rename_i hne
      obtain ⟨k, ents, clock, b1, b2, b3, b4, b5⟩ := hS.maps i es hi
      obtain ⟨q1, q2, q3⟩ := other i hne k (Array.getElem?_eq_some_iff.1 b3).1 b2.1
      exact ⟨k, ents, clock, b1, ⟨q1, q2.trans b2.2⟩, q3.trans b3, b4, fun j x hx => ⟨tr.vr (b5 j x hx).1, tr.vr (b5 j x hx).2⟩⟩
  · obtain ⟨k, q1, q2, q3, q4⟩ := hS.toks t n sz hn
    exact ⟨k, q1, (hOM k q4).1.trans q2, (hOM k q4).2.trans q3, Nat.lt_of_lt_of_le q4 ht.size⟩
  · simp only at hi
    rw [set_get _ _ _ _ hidl] at hi
    split at hi
    · rename_i e1
      subst e1
      exact ⟨b, hσ, (hOM b hblt).1.trans hOb, (hOM b hblt).2.trans hMb, hbl T' e' l' (Option.some.inj hi)⟩
    · rename_i hne
      obtain ⟨k, b1, b2, b3, b4⟩ := hS.blds i T' e' l' hi
      have hlt : k < w.heap.size := by obtain ⟨p', v', q1, _⟩ := b4; exact (Array.getElem?_eq_some_iff.1 q1).1
      obtain ⟨q1, q2, _⟩ := other i hne k hlt b2
      exact ⟨k, b1, q1, q2.trans b3, b4.keep b2 (other i hne)⟩
theorem bld_end (hS : StR g S w) {id : Nat} {T e : TypeId} {l : List UInt8} (hid : S.objs[id]? = some (.bld T e l)) {b : Nat} (hσ : g.σ[id]? = some b) {p v : Value} (hb : w.heap[b]? = some (.cells #[p, v] T (0, 0)))
    (ht : BldTr b v w w') {r : PV} {rv : Value} (hr : ∀ g' : Gh, g'.VR w' r rv) : ∃ g', CallR g S w r { S with objs := S.objs.set id .dead } rv w' g' := by
  obtain ⟨b', h1, hOb, hMb, _⟩ := hS.blds id T e l hid
  rw [hσ] at h1; cases h1
  exact bld_core hS hid hσ hb ht (by simp) (by simp) (by simp) b (fun _ => ⟨hOb, hMb⟩) (fun _ _ _ h => by cases h) hr
theorem bld_write (hS : StR g S w) {id : Nat} {T e : TypeId} {l l' : List UInt8} (hid : S.objs[id]? = some (.bld T e l)) {b : Nat} (hσ : g.σ[id]? = some b) {p v v' : Value} (hb : w.heap[b]? = some (.cells #[p, v] T (0, 0)))
    (ht : BldTr b v w w') (hb' : w'.heap[b]? = some (.cells #[.pointer (some ⟨b, 0, none⟩), v'] T (0, 0))) (hrow' : RowAt w w' e v v' l')
    {r : PV} {rv : Value} (hr : ∀ g' : Gh, g'.VR w' r rv) : ∃ g', CallR g S w r { S with objs := S.objs.set id (.bld T e l') } rv w' g' := by
  obtain ⟨b', h1, hOb, hMb, q, v0, h2, hTe, hq, hrow⟩ := hS.blds id T e l hid
  rw [hσ] at h1; cases h1
  rw [hb] at h2
  simp at h2
  obtain ⟨rfl, rfl⟩ := h2
  have hblt : b < w.heap.size := (Array.getElem?_eq_some_iff.1 hb).1
  have hown : ∀ k, v.ownBlock = some k → g.O k = some (.obj id) ∧ g.M k = 0 ∧ k ≠ b := by
    intro k hk
    rcases hrow with ⟨rfl, _⟩ | ⟨b2, cap, cur, rfl, ⟨o1, o2⟩, o3, o4, _⟩
    · cases hk
    · simp only [Value.ownBlock, Option.some.injEq] at hk
      subst hk
      exact ⟨o1, o2, o3⟩
  rcases hrow' with ⟨rfl, rfl⟩ | ⟨b2, cap, cur, rfl, r2, r3, r4⟩
  · refine bld_core hS hid hσ hb ht (by simp) (by simp) (by simp) b (fun _ => ⟨hOb, hMb⟩) (fun _ _ _ h => ?_) hr
    cases h
    exact ⟨_, _, hb', hTe, .inr rfl, .inl ⟨rfl, rfl⟩⟩
  · have hne : b2 ≠ b := by
      rcases r2 with r2 | r2
      · exact (hown _ r2).2.2
      · omega
    refine bld_core hS hid hσ hb ht (by simp) (by simp) (by simp) b2 (fun hlt => ?_) (fun _ _ _ h => ?_) hr
    · rcases r2 with r2 | r2
      · exact ⟨(hown _ r2).1, (hown _ r2).2.1⟩
      · omega
    · cases h
      exact ⟨_, _, hb', hTe, .inr rfl, .inr ⟨b2, cap, cur, rfl, ⟨by show upd _ _ _ _ = _; simp, by show upd _ _ _ _ = _; simp⟩, hne, r3, r4⟩⟩
def RowOf (w : World) (e : TypeId) (v : Value) (l : List UInt8) : Prop :=
  (v = .slice none 0 0 ∧ l = []) ∨ ∃ b2 cap cur, v = .slice (some ⟨b2, 0, none⟩) l.length cap ∧ w.heap[b2]? = some (.cells cur e (0, 0)) ∧
    l ≠ [] ∧ l.length ≤ cap ∧ cap ≤ maxLen ∧ cur.size = cap ∧ cur.toList.take l.length = l.map fun x => Value.int .u8 x.toNat
theorem wpList_append_run {ops : Array Oper} {rest : List Oper} {o : Oper} {a : Act} {Q : Exit → Act → World → Prop} (hgd : o.guard = none) (sl x : Operand) (t u : TypeId)
    (ho : o.op = .call { callee := .builtin .append, args := #[sl, x], argTypes := #[t, u] }) (v y : Value) (hs : a.eval sl = v) (hx : a.eval x = y) {v' : Value} {w' : World}
    (hr : (Builtin.append_ #[t, u] o.type #[v, y]).run P w = .ok v' w') (h : wpList P ops Q rest (a.put o.dst v') w') : wpList P ops Q (o :: rest) a w := by
  refine wpList_plain hgd fun K hK => ?_
  unfold Oper.wp execOp
  simp only [ho, resolve, invoke, builtin, Sem.run_bind, Sem.run_pure, Result.andThen_ok, List.map_toArray, List.map_cons, List.map_nil, hs, hx, hr]
  exact hK _ _ h
theorem row_write {t u e ty : TypeId} {i : TypeInfo} {z : Value} (hz : i.zero = some z) (hzs : z.cells.size = 1) {v : Value} {l news : List UInt8} (hrow : RowOf w e v l) (hne : news ≠ []) (hlen : l.length + news.length ≤ room) {yv : Value}
    (hput : ∀ (b : Nat) (cur : Array Value) (cap n : Nat), w.heap[b]? = some (.cells cur e (0, 0)) → n + news.length ≤ cap → n + news.length ≤ cur.size →
      (Builtin.append_ #[t, u] ty #[.slice (some ⟨b, 0, none⟩) n cap, yv]).run P w = .ok (.slice (some ⟨b, 0, none⟩) (n + news.length) cap) (w.setRow b (cur.toList.take n ++ (news.map fun x => Value.int .u8 x.toNat) ++ cur.toList.drop (n + news.length)).toArray))
    (hgrow : ∀ (ad : Addr) (cap n : Nat) (vals : List Value), vals.length = n → (∀ (j : Nat) (x : Value), vals[j]? = some x → w.cell? (ad.add j) = some x) → cap < n + news.length → n + news.length ≤ room →
      (Builtin.append_ #[t, u] ty #[.slice (some ad) n cap, yv]).run P w = .ok (.slice (some ⟨w.heap.size, 0, none⟩) (n + news.length) (grownCap w (n + news.length) cap e))
        (w.drew.alloc (.cells (vals.toArray ++ (news.map fun x => Value.int .u8 x.toNat).toArray ++ Builtin.zeroCells z.cells (grownCap w (n + news.length) cap e - (n + news.length))) e)))
    (hnil : news.length ≤ room → (Builtin.append_ #[t, u] ty #[.slice none 0 0, yv]).run P w = .ok (.slice (some ⟨w.heap.size, 0, none⟩) news.length (grownCap w news.length 0 e))
        (w.drew.alloc (.cells ((news.map fun x => Value.int .u8 x.toNat).toArray ++ Builtin.zeroCells z.cells (grownCap w news.length 0 e - news.length)) e))) :
    ∃ v' w', (Builtin.append_ #[t, u] ty #[v, yv]).run P w = .ok v' w' ∧ RowAt w w' e v v' (l ++ news) ∧ w'.os = w.os ∧ w'.tape = w.tape ∧ w'.output = w.output ∧ w.heap.size ≤ w'.heap.size ∧
      ∀ k, k < w.heap.size → v.ownBlock ≠ some k → w'.heap[k]? = w.heap[k]? := by
  have hn0 : 0 < news.length := by cases news with | nil => exact absurd rfl hne | cons _ _ => simp
  have hcap : ∀ n old, n ≤ room → grownCap w n old e ≤ maxLen := fun n old h => grownCap_le_maxLen w n old e (by unfold maxLen; unfold room at h; omega)
  have newrow : ∀ (vals : List Value) (n old : Nat), vals.length = n → n = l.length → vals = (l.map fun x => Value.int .u8 x.toNat) → n + news.length ≤ room →
      RowAt w (w.drew.alloc (.cells (vals.toArray ++ (news.map fun x => Value.int .u8 x.toNat).toArray ++ Builtin.zeroCells z.cells (grownCap w (n + news.length) old e - (n + news.length))) e)) e v
        (.slice (some ⟨w.heap.size, 0, none⟩) (n + news.length) (grownCap w (n + news.length) old e)) (l ++ news) := by
    intro vals n old h1 h2 h3 h4
    have hge := grownCap_ge w (n + news.length) old e
    refine .inr ⟨w.heap.size, _, _, by rw [List.length_append, ← h2], .inr (Nat.le_refl _), heap_alloc_new w.drew _, by simp [hne], by rw [List.length_append, ← h2]; exact hge, hcap _ _ h4, ?_, ?_⟩
    · simp only [Array.size_append, List.size_toArray, size_zeroCells, hzs, h1, List.length_map]
      omega
    · simp only [Array.toList_append, List.append_assoc]
      rw [← List.append_assoc, h3, ← List.map_append]
      rw [show (l ++ news).length = ((l ++ news).map fun x : UInt8 => Value.int .u8 x.toNat).length by simp]
      exact List.take_left
  rcases hrow with ⟨rfl, rfl⟩ | ⟨b2, cap, cur, rfl, hb, hl, hle, hmax, hsz, htake⟩
  · have h1 : news.length ≤ room := by simpa using hlen
    refine ⟨_, _, hnil h1, ?_, rfl, rfl, rfl, by simp, fun k hk _ => heap_alloc_old w.drew _ k hk⟩
    have := newrow [] 0 0 rfl rfl rfl (by simpa using h1)
    simpa using this
  · by_cases hroom : l.length + news.length ≤ cap
    · refine ⟨_, _, hput b2 cur cap l.length hb hroom (by omega), ?_, rfl, rfl, rfl, by simp, fun k hk hne' => setRow_other w b2 k _ (fun e => hne' (by simp [Value.ownBlock, e]))⟩
      refine .inr ⟨b2, cap, _, by rw [List.length_append], .inl rfl, setRow_heap w b2 cur _ e _ hb, by simp [hne], by rw [List.length_append]; exact hroom, hmax, ?_, ?_⟩
      · simp only [List.size_toArray, List.length_append, List.length_take, List.length_drop, List.length_map, Array.length_toList]
        omega
      · rw [htake, ← List.map_append]
        rw [show (l ++ news).length = ((l ++ news).map fun x : UInt8 => Value.int .u8 x.toNat).length by simp]
        exact List.take_left
    · have hcells : ∀ (j : Nat) (x : Value), (cur.toList.take l.length)[j]? = some x → w.cell? ((⟨b2, 0, none⟩ : Addr).add j) = some x := by
        intro j x hx
        rw [addr_add, cell_of_row _ _ _ _ _ _ hb, Nat.zero_add]
        rw [List.getElem?_take] at hx
        split at hx
        · rwa [Array.getElem?_toList] at hx
        · cases hx
      refine ⟨_, _, hgrow ⟨b2, 0, none⟩ cap l.length (cur.toList.take l.length) (by simp; omega) hcells (by omega) hlen, ?_, rfl, rfl, rfl, by simp, fun k hk _ => heap_alloc_old w.drew _ k hk⟩
      exact newrow _ l.length cap (by simp; omega) rfl htake hlen
end
end Go.Abs
namespace Go.Abs
section
variable {P : Program} {T : Hints}
theorem closed_bool (hN : Named P) (hX : ExtS P T) (hm : P.follows .mixedOrders = true) {f : FuncId} {b : Bool} {S1 : St} (h : Run P T f [] ⟨[], []⟩ = some (.bool b, S1)) {S : St} {g : Gh} {w : World} (hS : StR g S w) :
    Calls P f #[] w fun e w' => ∃ v g', e = .returned v ∧ CallR g S w (.bool b) S v w' g' := by
  obtain ⟨k, h⟩ := Run_some.1 h
  let g0 : Gh := { σ := [], τ := [], ψ := [], O := fun c => (g.O c).map fun _ => .foreign, M := g.M }
  have hS0 : StR g0 ⟨[], []⟩ w := by
    refine ⟨rfl, rfl, fun id cs h => ?_, fun id cs h => ?_, fun t n sz h => ?_, fun id h => ?_, fun id T e l h => ?_, fun id id' b h => ?_⟩ <;> simp at h
  refine (run_sound hN hX hm k f [] ⟨[], []⟩ _ _ g0 w #[] h hS0 rfl (fun i hi => by simp at hi)).mono ?_
  rintro e w' ⟨v, g1, rfl, hst, hvr, htr, htok, hpsi⟩
  have hv : v = .bool b := by cases hvr; rfl
  subst hv
  have hG : Grow w w' := ⟨htr.os, htr.tape, htr.output, htr.size, fun c hc => by
    cases hO : g.O c with
    | none => exact (htr.none c hc (by simp [g0, hO])).2
    | some o => exact (htr.oth c .foreign hc (by simp [g0, hO]) (by rintro (⟨_, h⟩ | ⟨_, h⟩) <;> cases h)).2.2⟩
  exact ⟨_, g, rfl, hG.st (fun _ _ => ⟨rfl, rfl⟩) rfl rfl hS, .bool b, hG.tr heapO (fun _ _ => ⟨rfl, rfl⟩) (fun _ _ h => h), hG.tok hS.toks, rfl⟩
end
end Go.Abs
namespace Go.Abs
def Sl (sz : Nat) (es : List PV) (v : PV) : Prop := (v = .snil ∧ es = []) ∨ ∃ a, v = .sl a sz es ∧ es.length < 4611686018427387904
variable {sz : Nat} {es : List PV} {v : PV}
theorem Sl.len (h : Sl sz es v) : lenSl v = some (es.length : Int) := by
  rcases h with ⟨rfl, rfl⟩ | ⟨a, rfl, _⟩ <;> rfl
theorem Sl.max (h : Sl sz es v) : es.length < 4611686018427387904 := by
  rcases h with ⟨rfl, rfl⟩ | ⟨a, rfl, h⟩
  · decide
  · exact h
theorem Sl.iadr (h : Sl sz es v) {pre suf : List PV} {e : PV} (he : es = pre ++ e :: suf) : ∃ a, Abs.iadr sz v (pre.length : Int) = some (.ip a (e.proj sz)) := by
  rcases h with ⟨rfl, rfl⟩ | ⟨a, rfl, _⟩
  · simp at he
  · subst he
    refine ⟨a.map (·.add (pre.length * sz)), ?_⟩
    simp [Abs.iadr, chk, List.getD_eq_getElem?_getD]
    omega
theorem PV.proj_length (e : PV) (n : Nat) : (e.proj n).length = n := by simp [PV.proj]
theorem ldP_ip (S : Option St) (a : Option AAd) (cs : List PV) {n : Nat} (hn : cs.length = n) : ldP S true n (.ip a cs) = some (.agg cs) := by
  subst hn
  unfold ldP ldV part aggV
  simp
  simp [Function.comp_def]
theorem Sl.elt (h : Sl sz es v) {pre suf : List PV} {e : PV} (he : es = pre ++ e :: suf) (S : Option St) {α : Type} (K : PV → Option α) :
    ((Abs.iadr sz v (pre.length : Int)).bind fun y => (ldP S true sz y).bind K) = K (.agg (e.proj sz)) := by
  obtain ⟨a, ha⟩ := h.iadr he
  rw [ha]
  simp only [Option.bind_some]
  rw [ldP_ip S a _ (PV.proj_length e sz)]
  rfl
theorem Sl.eltV (h : Sl 1 es v) {pre suf : List PV} {e : PV} (he : es = pre ++ e :: suf) (S : Option St) {α : Type} (K : PV × Option Tk → Option α) :
    ((Abs.iadr 1 v (pre.length : Int)).bind fun y => (ldV S false 1 y).bind K) = K (e.cell 0, none) := by
  obtain ⟨a, ha⟩ := h.iadr he
  rw [ha]
  rfl
theorem okCells_agg (cs : List PV) {n : Nat} (h : cs.length = n) : chk (PV.okCells (.agg cs) n) = some () := by
  simp [PV.okCells, chk, h]
theorem cell_agg_proj (e : PV) (n i : Nat) (h : i < n) : (PV.agg (e.proj n)).cell i = e.cell i := by
  unfold PV.cell PV.cells PV.proj
  simp [List.getD_eq_getElem?_getD, h]
  cases e <;> rfl
theorem fin_self (tr : Bool) (S : St) (r : PV) : fin tr S r S = (r, S) := by
  cases tr with
  | false => rfl
  | true => simp [fin]
theorem idx_next (pre : List PV) (e : PV) (suf : List PV) (h : (pre ++ e :: suf).length < 4611686018427387904) : IntKind.wrap .i64 ((pre.length : Int) + 1) = ((pre ++ [e]).length : Int) := by
  rw [IntWalk.i64_in _ (by simp at h; omega)]
  simp
theorem lt_more (pre : List PV) (e : PV) (suf : List PV) : decide ((pre.length : Int) < ((pre ++ e :: suf).length : Int)) = true := by
  simp; omega
theorem lt_done (pre : List PV) : decide ((pre.length : Int) < ((pre ++ []).length : Int)) = false := by simp
def Cnt (S : St) (id : Nat) (k : Int) : Prop := S.objs[id]? = some (.cells [(.int .i64 k, none)])
def St.put (S : St) (id : Nat) (k : Int) : St := { S with objs := S.objs.set id (.cells [(.int .i64 k, none)]) }
theorem Cnt.ld {S : St} {id : Nat} {k : Int} (h : Cnt S id k) : (ldP (some S) false 1 (.ref id 0)).bind (intOf .i64) = some k := by
  unfold Cnt at h
  simp [ldP, ldV, h, part, aggV, intOf]
theorem Cnt.sto {S : St} {id : Nat} {k k' : Int} (h : Cnt S id k) (ts : Toks) : stoP ts S false 1 (.ref id 0) [(.int .i64 k', none)] = some (ts, S.put id k') := by
  unfold Cnt at h
  simp [stoP, stoRef, h, toHeap, setCells, St.put]
theorem Cnt.lt {S : St} {id : Nat} {k : Int} (h : Cnt S id k) : id < S.objs.length := (List.getElem?_eq_some_iff.1 h).1
theorem Cnt.put {S : St} {id : Nat} {k : Int} (h : Cnt S id k) (k' : Int) : Cnt (S.put id k') id k' := by
  unfold Cnt St.put
  simp [h.lt]
theorem St.put_put (S : St) (id : Nat) (k k' : Int) : (S.put id k).put id k' = S.put id k' := by simp [St.put]
theorem fin_len (tr : Bool) {S S' : St} (r : PV) (h1 : S'.objs.length = S.objs.length) (h2 : S'.htoks = S.htoks) : fin tr S r S' = (r, S') := by
  cases tr with
  | false => rfl
  | true =>
    unfold fin
    simp only
    split
    · rename_i h
      obtain ⟨h3, _⟩ := h
      rw [← h1, List.take_length] at h3
      cases S; cases S'
      simp only at h2 h3
      subst h2; subst h3
      rfl
    · rfl
theorem fin_put (tr : Bool) (S : St) (r : PV) (id : Nat) (k : Int) : fin tr S r (S.put id k) = (r, S.put id k) := fin_len tr r (by simp [St.put]) rfl
theorem fin_new {S S' : St} {r : PV} {l : List Ob} {ts : Toks} (h1 : S'.objs = S.objs ++ l) (h2 : S'.htoks = S.htoks ++ ts) (hp : r.pure = true) : fin true S r S' = (r, S) := by
  unfold fin
  simp only
  rw [if_pos]
  rw [h1, h2]
  exact ⟨by simp, by simp, hp⟩
theorem Cnt.new (S : St) (k : Int) : Cnt (S.new [(.int .i64 k, none)]) S.objs.length k := by simp [Cnt, St.new]
theorem St.new_put (S : St) (cs : List Cell) (k : Int) : ((S.new cs).put S.objs.length k).objs = S.objs ++ [.cells [(.int .i64 k, none)]] := by simp [St.put, St.new]
end Go.Abs
namespace Go.Abs
open Go
theorem c0 (x : PV) (l : List PV) : (PV.agg (x :: l)).cell 0 = x := rfl
theorem c1 (x y : PV) (l : List PV) : (PV.agg (x :: y :: l)).cell 1 = y := rfl
theorem c2 (x y z : PV) (l : List PV) : (PV.agg (x :: y :: z :: l)).cell 2 = z := rfl
theorem c3 (x y z u : PV) (l : List PV) : (PV.agg (x :: y :: z :: u :: l)).cell 3 = u := rfl
theorem c4 (x y z u v : PV) (l : List PV) : (PV.agg (x :: y :: z :: u :: v :: l)).cell 4 = v := rfl
theorem chk_true : chk true = some () := rfl
theorem chkT0 (x y : PV) : chk (decide (0 < (PV.tup [x, y]).comps.length)) = some () := rfl
theorem chkT1 (x y : PV) : chk (decide (1 < (PV.tup [x, y]).comps.length)) = some () := rfl
theorem getT0 (x y : PV) : (PV.tup [x, y]).comps.getD 0 .undef = x := rfl
theorem getT1 (x y : PV) : (PV.tup [x, y]).comps.getD 1 .undef = y := rfl
theorem Sl.ok1 {sz : Nat} {es : List PV} {v : PV} (h : Sl sz es v) : chk (v.okCells 1) = some () := by
  rcases h with ⟨rfl, rfl⟩ | ⟨a, rfl, _⟩ <;> rfl
theorem Sl.cell0 {sz : Nat} {es : List PV} {v : PV} (h : Sl sz es v) : v.cell 0 = v := by
  rcases h with ⟨rfl, rfl⟩ | ⟨a, rfl, _⟩ <;> rfl
theorem Sl.one {sz : Nat} {es : List PV} {v : PV} (h : Sl sz es v) : v.one = true := by
  rcases h with ⟨rfl, rfl⟩ | ⟨a, rfl, _⟩ <;> rfl
theorem idxc {s : ByteArray} {i : Nat} (h : i < s.size) : (idx (.str s) (i : Int)).bind (intOf .u8) = some (byteAt s i) := by
  unfold idx
  have : decide ((i : Int) < (s.size : Int)) = true := by simpa using h
  simp [this, chk, intOf, byteAt, h]
theorem idxc0 {s : ByteArray} (h : 0 < s.size) : (idx (.str s) 0).bind (intOf .u8) = some (byteAt s 0) := idxc h
theorem lss_i64 (P : Program) (t : TypeId) (a b : Int) : (binA P .lss t (.int .i64 a) (.int .i64 b)).bind asBool = some (decide (a < b)) := rfl
theorem gtr_i64 (P : Program) (t : TypeId) (a b : Int) : (binA P .gtr t (.int .i64 a) (.int .i64 b)).bind asBool = some (decide (a > b)) := rfl
theorem eqb (a b : ByteArray) : (a == b) = decide (a = b) := by
  cases a with | mk a => cases b with | mk b =>
  show (a == b) = _
  by_cases h : a = b
  · subst h; simp
  · simp [h]
theorem eql_str (P : Program) (t : TypeId) (a b : ByteArray) : (binA P .eql t (.str a) (.str b)).bind asBool = some (decide (a = b)) := by
  rw [← eqb, beq_toListBytes]
  rfl
theorem neq_str (P : Program) (t : TypeId) (a b : ByteArray) : (binA P .neq t (.str a) (.str b)).bind asBool = some (!decide (a = b)) := by
  rw [← eqb, beq_toListBytes]
  rfl
def St.withMap (S : St) (es : List (PV × PV)) : St := { S with objs := S.objs ++ [.map es] }
theorem St.newMap_eq (S : St) : S.newMap = S.withMap [] := rfl
theorem mapEs_with (S : St) (es : List (PV × PV)) : mapEs (S.withMap es) (.mp S.objs.length) = some es := by simp [mapEs, St.withMap]
def nameEs (seen : List ByteArray) : List (PV × PV) := seen.map fun s => (.str s, .bool true)
theorem findName {P : Program} {S : St} {t : TypeId} (ht : P.underlying t = some .string) (s : ByteArray) : ∀ seen : List ByteArray,
    findKey P S t (.str s) (nameEs seen) = some (if seen.any fun x => decide (s = x) then some (.bool true) else none)
  | [] => rfl
  | x :: seen => by
    have ih := findName (S := S) ht s seen
    unfold nameEs at ih ⊢
    have hk : keyEqT P S t (.str s) (.str x) = some (decide (s = x)) := by
      unfold keyEqT keyEq
      rw [ht]
      simp only [eqb]
    rw [List.map_cons, findKey, hk, List.any_cons]
    simp only [Option.bind_some]
    by_cases h : s = x
    · simp [h]
    · rw [decide_eq_false h, Bool.false_or, if_neg (by decide)]
      exact ih
theorem setName {P : Program} {S : St} {t : TypeId} (ht : P.underlying t = some .string) (s : ByteArray) : ∀ seen : List ByteArray, (seen.any fun x => decide (s = x)) = false →
    setKey P S t (.str s) (.bool true) (nameEs seen) = some (nameEs (seen ++ [s]))
  | [], _ => rfl
  | x :: seen, h => by
    rw [List.any_cons, Bool.or_eq_false_iff] at h
    have ih := setName (S := S) ht s seen h.2
    unfold nameEs at ih ⊢
    have hk : keyEqT P S t (.str s) (.str x) = some false := by
      unfold keyEqT keyEq
      rw [ht]
      simp only [eqb, h.1]
    rw [List.map_cons, setKey, hk]
    simp only [Option.bind_some]
    rw [if_neg (by decide), ih]
    rfl
theorem upName {P : Program} {t : TypeId} (ht : P.underlying t = some .string) (S : St) (s : ByteArray) (seen : List ByteArray) (h : (seen.any fun x => decide (s = x)) = false) :
    upMap P (S.withMap (nameEs seen)) t (.mp S.objs.length) (.str s) (.bool true) = some (S.withMap (nameEs (seen ++ [s]))) := by
  have hk : keyOk P t (.str s) = true := by unfold keyOk; rw [ht]
  unfold upMap
  dsimp only
  rw [show (S.withMap (nameEs seen)).objs[S.objs.length]? = some (.map (nameEs seen)) from by simp [St.withMap]]
  simp only [hk, chk, if_true, Option.bind_some]
  rw [setName ht s seen h]
  simp [St.withMap]
theorem fin_map {S : St} {r : PV} (es : List (PV × PV)) (hp : r.pure = true) : fin true S r (S.withMap es) = (r, S) :=
  fin_new (ts := []) rfl (by simp [St.withMap]) hp
theorem St.ht_self (S : St) : S.ht S.htoks = S := rfl
def AppSt (sz : Nat) (es : List PV) (p : PV) (k : Option Tk) (ts : Toks) : Prop :=
  (es = [] ∧ p = .snil ∧ k = none ∧ ts = []) ∨ (es ≠ [] ∧ p = .sl none sz es ∧ k = some (.loc 0) ∧ ts = [some (es.length, sz)])
theorem AppSt.nil (sz : Nat) : AppSt sz [] .snil none [] := .inl ⟨rfl, rfl, rfl, rfl⟩
theorem AppSt.sl {sz : Nat} {es : List PV} {p : PV} {k : Option Tk} {ts : Toks} (h : AppSt sz es p k ts) (hl : es.length < 4611686018427387904) : Sl sz es p := by
  rcases h with ⟨rfl, rfl, _, _⟩ | ⟨_, rfl, _, _⟩
  · exact .inl ⟨rfl, rfl⟩
  · exact .inr ⟨none, rfl, hl⟩
theorem AppSt.one {sz : Nat} {es : List PV} {p : PV} {k : Option Tk} {ts : Toks} (h : AppSt sz es p k ts) : p.one = true := by
  rcases h with ⟨rfl, rfl, _, _⟩ | ⟨_, rfl, _, _⟩ <;> rfl
theorem AppSt.step {P : Program} {t : TypeId} {sz bytes : Nat} {agg : Bool} (he : elemOf P t = some (sz, bytes, agg)) (hz : zeroOk P t = true) (h0 : 0 < sz) (hb : bytes ≤ 1000) {es : List PV} {p : PV} {k : Option Tk} {ts : Toks}
    (h : AppSt sz es p k ts) (hl : es.length < 1000000000) (hs : Toks) (y : PV) :
    ∃ p' k' ts', appendT P t ts hs (.v p k) (.sl none sz [y]) = some (p', k', ts', hs) ∧ AppSt sz (es ++ [y]) p' k' ts' := by
  have hm : (es.length + 1) * bytes ≤ room := by
    have : (es.length + 1) * bytes ≤ 1000000000 * 1000 := Nat.mul_le_mul (by omega) hb
    unfold room; omega
  have hr : es.length + 1 ≤ room := by unfold room; omega
  rcases h with ⟨rfl, rfl, rfl, rfl⟩ | ⟨hn, rfl, rfl, rfl⟩
  · refine ⟨.sl none sz [y], some (.loc 0), [some (1, sz)], ?_, .inr ⟨by simp, rfl, rfl, rfl⟩⟩
    simp at hm hr
    simp [appendT, he, hz, chk, h0, hm, hr]
  · refine ⟨.sl none sz (es ++ [y]), some (.loc 0), [some (es.length + 1, sz)], ?_, .inr ⟨by simp, rfl, rfl, by simp⟩⟩
    simp [appendT, he, hz, chk, h0, hm, hr]
end Go.Abs
namespace Go.Vir
open Go Go.Abs
inductive Srt where
  | mk (args : List Srt)
mutual
def SrtV : Srt → PV → Prop
  | .mk l, v => ∃ es, Sl 1 es v ∧ SrtL l es
def SrtL : List Srt → List PV → Prop
  | [], es => es = []
  | a :: l, es => ∃ e es', es = e :: es' ∧ SrtV a (e.cell 0) ∧ SrtL l es'
end
mutual
def Srt.nodes : Srt → Int → Int
  | .mk l, most => Srt.nodesL l most 1
def Srt.nodesL : List Srt → Int → Int → Int
  | [], _, n => n
  | a :: l, most, n => if n ≤ most then Srt.nodesL l most (IntKind.wrap .i64 (n + a.nodes (IntKind.wrap .i64 (most - n)))) else n
end
mutual
def Srt.depth : Srt → Int
  | .mk l => IntKind.wrap .i64 (Srt.depthL l 0 + 1)
def Srt.depthL : List Srt → Int → Int
  | [], d => d
  | a :: l, d => Srt.depthL l (maxI d a.depth)
end
mutual
def Srt.few : Srt → Bool
  | .mk l => Srt.fewL l && decide ((l.length : Int) ≤ 8)
def Srt.fewL : List Srt → Bool
  | [] => true
  | a :: l => a.few && Srt.fewL l
end
mutual
def Srt.measure : Srt → Int → Int × Int
  | .mk l, k => Srt.measureL l (IntKind.wrap .i64 (k - 1)) 0
def Srt.measureL : List Srt → Int → Int → Int × Int
  | [], k, d => (IntKind.wrap .i64 (d + 1), k)
  | a :: l, k, d => if k < 0 then (0, k) else Srt.measureL l (a.measure k).2 (maxI d (a.measure k).1)
end
def Srt.size (s : Srt) : Int × Int := if (s.measure 60).2 < 0 then (61, 0) else (IntKind.wrap .i64 (60 - (s.measure 60).2), (s.measure 60).1)
def Srt.check (s : Srt) : Int := if s.size.1 > 60 then 6 else if s.size.2 > 30 then 6 else if s.few then 0 else 6
def Srt.is (s : Srt) : Bool := decide (s.nodes 60 ≤ 60) && (decide (s.depth ≤ 30) && s.few)
theorem SrtL.len : ∀ {l : List Srt} {es : List PV}, SrtL l es → es.length = l.length
  | [], _, h => by unfold SrtL at h; subst h; rfl
  | a :: l, _, h => by
    unfold SrtL at h
    obtain ⟨e, es', rfl, _, h⟩ := h
    simp [h.len]
mutual
def Srt.n : Srt → Nat
  | .mk l => Srt.nL l + 1
def Srt.nL : List Srt → Nat
  | [] => 0
  | a :: l => a.n + Srt.nL l
end
mutual
def Srt.d : Srt → Nat
  | .mk l => Srt.dL l 0 + 1
def Srt.dL : List Srt → Nat → Nat
  | [], d => d
  | a :: l, d => Srt.dL l (max d a.d)
end
theorem Srt.n_pos (s : Srt) : 1 ≤ s.n := by cases s; rw [Srt.n]; omega
theorem wrap_in {n : Int} (h : -9223372036854775808 ≤ n ∧ n ≤ 9223372036854775807) : IntKind.wrap .i64 n = n := IntWalk.i64_in n h
theorem maxI_nat (a b : Nat) : maxI (a : Int) (b : Int) = ((max a b : Nat) : Int) := by
  unfold maxI
  split <;> omega
mutual
theorem d_le (s : Srt) : s.d ≤ s.n := by
  match s with
  | .mk l =>
    rw [Srt.d, Srt.n]
    have := dL_le l 0
    omega
theorem dL_le (l : List Srt) (d : Nat) : Srt.dL l d ≤ max d (Srt.nL l) := by
  match l with
  | [] => rw [Srt.dL]; omega
  | a :: l =>
    rw [Srt.dL, Srt.nL]
    have h1 := d_le a
    have h2 := dL_le l (max d a.d)
    omega
end
mutual
theorem depth_eq (s : Srt) (h : s.n < 4611686018427387904) : s.depth = (s.d : Int) := by
  match s, h with
  | .mk l, h =>
    rw [Srt.depth, Srt.d]
    rw [Srt.n] at h
    have := depthL_eq l 0 (by omega)
    have h2 := dL_le l 0
    rw [show (0 : Int) = ((0 : Nat) : Int) from rfl, this, wrap_in (by omega)]
    omega
theorem depthL_eq (l : List Srt) (d : Nat) (h : Srt.nL l < 4611686018427387904) : Srt.depthL l (d : Int) = ((Srt.dL l d : Nat) : Int) := by
  match l, h with
  | [], h => rw [Srt.depthL, Srt.dL]
  | a :: l, h =>
    rw [Srt.nL] at h
    rw [Srt.depthL, Srt.dL, depth_eq a (by omega), maxI_nat]
    exact depthL_eq l _ (by omega)
end
mutual
theorem nodes_eq (s : Srt) (most : Int) (h0 : 0 ≤ most) (h1 : most < 4611686018427387904) (h : s.n < 4611686018427387904) :
    ((s.n : Int) ≤ most → s.nodes most = s.n) ∧ (most < s.n → most < s.nodes most) ∧ s.nodes most ≤ s.n := by
  match s, h with
  | .mk l, h =>
    rw [Srt.n] at h
    have := nodesL_eq l most 1 h0 h1 (by omega) (by omega) (by omega)
    rw [Srt.nodes, Srt.n]
    refine ⟨fun hh => ?_, fun hh => ?_, ?_⟩
    · rw [this.1 (by omega)]; omega
    · exact this.2.1 (by omega)
    · have := this.2.2; omega
theorem nodesL_eq (l : List Srt) (most n : Int) (h0 : 0 ≤ most) (h1 : most < 4611686018427387904) (h2 : 1 ≤ n) (h3 : n < 4611686018427387904) (h : (Srt.nL l : Int) + n < 4611686018427387904) :
    (n + (Srt.nL l : Int) ≤ most → Srt.nodesL l most n = n + Srt.nL l) ∧ (most < n + Srt.nL l → most < Srt.nodesL l most n) ∧ Srt.nodesL l most n ≤ n + Srt.nL l := by
  match l, h with
  | [], h =>
    rw [Srt.nodesL, Srt.nL]
    exact ⟨fun _ => by simp, fun q => by simpa using q, by simp⟩
  | a :: l, h =>
    rw [Srt.nL] at h ⊢
    rw [Srt.nodesL]
    have hp := Srt.n_pos a
    by_cases hc : n ≤ most
    · rw [if_pos hc, wrap_in (n := most - n) (by omega)]
      have ha := nodes_eq a (most - n) (by omega) (by omega) (by omega)
      have hr : n + a.nodes (most - n) ≤ n + a.n := by have := ha.2.2; omega
      have hl : 1 ≤ n + a.nodes (most - n) := by
        by_cases hh : (a.n : Int) ≤ most - n
        · rw [ha.1 hh]; omega
        · have := ha.2.1 (by omega); omega
      rw [wrap_in (by omega)]
      have hb := nodesL_eq l most (n + a.nodes (most - n)) h0 h1 hl (by omega) (by omega)
      by_cases hh : (a.n : Int) ≤ most - n
      · rw [ha.1 hh] at hb ⊢
        refine ⟨fun q => ?_, fun q => ?_, ?_⟩
        · rw [hb.1 (by omega)]; omega
        · exact hb.2.1 (by omega)
        · have := hb.2.2; omega
      · have h5 := ha.2.1 (by omega)
        refine ⟨fun q => by omega, fun q => hb.2.1 (by omega), ?_⟩
        have := hb.2.2; omega
    · rw [if_neg hc]
      exact ⟨fun q => by omega, fun q => by omega, by omega⟩
end
mutual
theorem measure_eq (s : Srt) (k : Int) (h0 : 0 ≤ k) (h1 : k < 4611686018427387904) (h : s.n < 4611686018427387904) :
    ((s.n : Int) ≤ k → s.measure k = ((s.d : Int), k - s.n)) ∧ (k < s.n → (s.measure k).2 < 0) ∧ k - s.n ≤ (s.measure k).2 ∧ (s.measure k).2 ≤ k := by
  match s, h with
  | .mk l, h =>
    rw [Srt.n] at h
    rw [Srt.measure, Srt.n, wrap_in (by omega)]
    have := measureL_eq l (k - 1) 0 (by omega) (by omega) (by omega)
    rw [show ((0 : Nat) : Int) = 0 from rfl] at this
    refine ⟨fun hh => ?_, fun hh => this.2.1 (by omega), ?_, ?_⟩
    · have h2 := this.1 (by omega) (by omega)
      have h3 := dL_le l 0
      rw [h2, wrap_in (by omega), Srt.d]
      congr 1 <;> omega
    · have := this.2.2.1; omega
    · have := this.2.2.2; omega
theorem measureL_eq (l : List Srt) (k : Int) (d : Nat) (h0 : -1 ≤ k) (h1 : k < 4611686018427387904) (h : Srt.nL l < 4611686018427387904) :
    (0 ≤ k - Srt.nL l → d < 4611686018427387904 → Srt.measureL l k (d : Int) = (IntKind.wrap .i64 (((Srt.dL l d : Nat) : Int) + 1), k - Srt.nL l)) ∧ (k - Srt.nL l < 0 → (Srt.measureL l k (d : Int)).2 < 0) ∧ k - Srt.nL l ≤ (Srt.measureL l k (d : Int)).2 ∧ (Srt.measureL l k (d : Int)).2 ≤ k := by
  match l, h with
  | [], h =>
    rw [Srt.measureL, Srt.nL, Srt.dL]
    exact ⟨fun _ _ => by simp, fun q => by simpa using q, by simp, by simp⟩
  | a :: l, h =>
    rw [Srt.nL] at h ⊢
    rw [Srt.measureL, Srt.dL]
    have hp := Srt.n_pos a
    by_cases hc : k < 0
    · rw [if_pos hc]
      exact ⟨fun q => by omega, fun q => hc, by simp only; omega, by simp⟩
    · rw [if_neg hc]
      have ha := measure_eq a k (by omega) h1 (by omega)
      by_cases hh : (a.n : Int) ≤ k
      · rw [ha.1 hh]
        dsimp only
        rw [maxI_nat]
        have hb := measureL_eq l (k - a.n) (max d a.d) (by omega) (by omega) (by omega)
        have hd := d_le a
        refine ⟨fun q q2 => ?_, fun q => hb.2.1 (by omega), ?_, ?_⟩
        · rw [hb.1 (by omega) (by omega)]
          congr 1; omega
        · have := hb.2.2.1; omega
        · have := hb.2.2.2; omega
      · have h5 := ha.2.1 (by omega)
        have h6 := ha.2.2.1
        refine ⟨fun q => by omega, fun q => ?_, ?_, ?_⟩
        · cases l with
          | nil => rw [Srt.measureL]; exact h5
          | cons b l => rw [Srt.measureL, if_pos h5]; exact h5
        · cases l with
          | nil => rw [Srt.measureL]; simp only [Srt.nL]; omega
          | cons b l => rw [Srt.measureL, if_pos h5]; simp only; omega
        · cases l with
          | nil => rw [Srt.measureL]; exact ha.2.2.2
          | cons b l => rw [Srt.measureL, if_pos h5]; exact ha.2.2.2
end
theorem is_eq (s : Srt) (h : s.n < 4611686018427387904) : s.is = (decide (s.n ≤ 60) && (decide (s.d ≤ 30) && s.few)) := by
  rw [Srt.is, depth_eq s h]
  have := nodes_eq s 60 (by omega) (by omega) h
  congr 1
  · by_cases hh : s.n ≤ 60
    · rw [this.1 (by omega)]; simp only [decide_eq_decide]; omega
    · have h2 := this.2.1 (by omega); simp only [decide_eq_decide]; omega
  · congr 1
    simp only [decide_eq_decide]; omega
theorem check_eq (s : Srt) (h : s.n < 4611686018427387904) : s.check = if s.is then 0 else 6 := by
  rw [is_eq s h, Srt.check]
  have := measure_eq s 60 (by omega) (by omega) h
  by_cases hh : s.n ≤ 60
  · have hp := Srt.n_pos s
    have hs : s.size = ((s.n : Int), (s.d : Int)) := by
      rw [Srt.size, this.1 (by omega)]
      dsimp only
      rw [if_neg (by omega), wrap_in (by omega)]
      congr 1; omega
    rw [hs]
    dsimp only
    rw [if_neg (by omega)]
    by_cases h2 : s.d ≤ 30
    · rw [if_neg (by omega)]; simp [h2, hh]
    · rw [if_pos (by omega)]; simp [h2]
  · have hs : s.size = (61, 0) := by rw [Srt.size, if_pos (this.2.1 (by omega))]
    rw [hs, if_pos (by decide)]
    simp [hh]
end Go.Vir
namespace Go.Vir
open Go Go.Abs
inductive Typ where
  | mk (st : Int) (args : List (List Typ))
def Typ.st : Typ → Int
  | .mk s _ => s
mutual
def TypV : Typ → PV → Prop
  | .mk _ a, v => ∃ es, Sl 1 es v ∧ SetsL a es
def SetsL : List (List Typ) → List PV → Prop
  | [], es => es = []
  | l :: a, es => ∃ e es', es = e :: es' ∧ (∃ xs, Sl 2 xs (e.cell 0) ∧ TypL l xs) ∧ SetsL a es'
def TypL : List Typ → List PV → Prop
  | [], es => es = []
  | t :: l, es => ∃ e es', es = e :: es' ∧ (∃ v, e.proj 2 = [.int .i64 t.st, v] ∧ TypV t v) ∧ TypL l es'
end
def SetV (l : List Typ) (v : PV) : Prop := ∃ xs, Sl 2 xs v ∧ TypL l xs
theorem SetsL.len : ∀ {l : List (List Typ)} {es : List PV}, SetsL l es → es.length = l.length
  | [], _, h => by unfold SetsL at h; subst h; rfl
  | a :: l, _, h => by
    unfold SetsL at h
    obtain ⟨e, es', rfl, _, h⟩ := h
    simp [h.len]
theorem TypL.len : ∀ {l : List Typ} {es : List PV}, TypL l es → es.length = l.length
  | [], _, h => by unfold TypL at h; subst h; rfl
  | a :: l, _, h => by
    unfold TypL at h
    obtain ⟨e, es', rfl, _, h⟩ := h
    simp [h.len]
mutual
def Typ.nodes : Typ → Int → Int
  | .mk _ a, most => Typ.nodesS a most 1
def Typ.nodesS : List (List Typ) → Int → Int → Int
  | [], _, n => n
  | l :: a, most, n => if n ≤ most then Typ.nodesS a most (Typ.nodesT l most n) else n
def Typ.nodesT : List Typ → Int → Int → Int
  | [], _, n => n
  | t :: l, most, n => if n ≤ most then Typ.nodesT l most (IntKind.wrap .i64 (n + t.nodes (IntKind.wrap .i64 (most - n)))) else n
end
mutual
def Typ.meas : Typ → Int → Int
  | .mk _ a, k => Typ.measS a (IntKind.wrap .i64 (k - 1))
def Typ.measS : List (List Typ) → Int → Int
  | [], k => k
  | l :: a, k => Typ.measS a (Typ.measT l k)
def Typ.measT : List Typ → Int → Int
  | [], k => k
  | t :: l, k => if k < 0 then k else Typ.measT l (t.meas k)
end
theorem measT_neg {k : Int} (h : k < 0) : ∀ l : List Typ, Typ.measT l k = k
  | [] => by rw [Typ.measT]
  | t :: l => by rw [Typ.measT, if_pos h]
theorem measS_neg {k : Int} (h : k < 0) : ∀ a : List (List Typ), Typ.measS a k = k
  | [] => by rw [Typ.measS]
  | l :: a => by rw [Typ.measS, measT_neg h]; exact measS_neg h a
def Typ.size (t : Typ) : Int := IntKind.wrap .i64 (2000 - maxI (t.meas 2000) (-1))
def Typ.large (t : Typ) : Bool := decide (t.size > 2000)
def Typ.large' (t : Typ) : Bool := decide (t.nodes 2000 > 2000)
def less (a b : Int) : Int := if a < b then -1 else if a > b then 1 else 0
mutual
def Typ.cmp : Typ → Typ → Int
  | .mk s a, .mk s' a' => if s ≠ s' then (if s < s' then -1 else 1) else Typ.cmpS a a'
def Typ.cmpS : List (List Typ) → List (List Typ) → Int
  | [], [] => 0
  | [], _ :: _ => -1
  | _ :: _, [] => 1
  | x :: a, y :: b => if Typ.cmpT x y ≠ 0 then Typ.cmpT x y else Typ.cmpS a b
def Typ.cmpT : List Typ → List Typ → Int
  | [], [] => 0
  | [], _ :: _ => -1
  | _ :: _, [] => 1
  | x :: a, y :: b => if x.cmp y ≠ 0 then x.cmp y else Typ.cmpT a b
end
mutual
def Typ.fits : Typ → Srt → Int → Bool
  | .mk st a, .mk l, q => !(decide (st < 0) || decide (st ≥ q) || decide (a.length ≠ l.length)) && Typ.fitS a l q
def Typ.fitS : List (List Typ) → List Srt → Int → Bool
  | [], _, _ => true
  | x :: a, s :: l, q => Typ.fitT x none s q && Typ.fitS a l q
  | _ :: _, [], _ => true
def Typ.fitT : List Typ → Option Typ → Srt → Int → Bool
  | [], _, _, _ => true
  | t :: l, p, s, q => t.fits s q && (match p with | none => true | some p => decide (p.cmp t < 0)) && Typ.fitT l (some t) s q
end
mutual
def Typ.n : Typ → Nat
  | .mk _ a => Typ.nS a + 1
def Typ.nS : List (List Typ) → Nat
  | [] => 0
  | l :: a => Typ.nT l + Typ.nS a
def Typ.nT : List Typ → Nat
  | [] => 0
  | t :: l => t.n + Typ.nT l
end
theorem Typ.n_pos (t : Typ) : 1 ≤ t.n := by cases t; rw [Typ.n]; omega
mutual
theorem tnodes_eq (t : Typ) (most : Int) (h0 : 0 ≤ most) (h1 : most < 4611686018427387904) (h : t.n < 4611686018427387904) :
    ((t.n : Int) ≤ most → t.nodes most = t.n) ∧ (most < t.n → most < t.nodes most) ∧ t.nodes most ≤ t.n ∧ 1 ≤ t.nodes most := by
  match t, h with
  | .mk st a, h =>
    rw [Typ.n] at h
    have := tnodesS_eq a most 1 h0 h1 (by omega) (by omega)
    rw [Typ.nodes, Typ.n]
    refine ⟨fun hh => ?_, fun hh => ?_, ?_, this.2.2.2⟩
    · rw [this.1 (by omega)]; omega
    · exact this.2.1 (by omega)
    · have := this.2.2.1; omega
theorem tnodesS_eq (a : List (List Typ)) (most n : Int) (h0 : 0 ≤ most) (h1 : most < 4611686018427387904) (h2 : 1 ≤ n) (h : (Typ.nS a : Int) + n < 4611686018427387904) :
    (n + (Typ.nS a : Int) ≤ most → Typ.nodesS a most n = n + Typ.nS a) ∧ (most < n + Typ.nS a → most < Typ.nodesS a most n) ∧ Typ.nodesS a most n ≤ n + Typ.nS a ∧ n ≤ Typ.nodesS a most n := by
  match a, h with
  | [], h =>
    rw [Typ.nodesS, Typ.nS]
    exact ⟨fun _ => by simp, fun q => by simpa using q, by simp, by simp⟩
  | l :: a, h =>
    rw [Typ.nS] at h ⊢
    rw [Typ.nodesS]
    by_cases hc : n ≤ most
    · rw [if_pos hc]
      have ha := tnodesT_eq l most n h0 h1 h2 (by omega)
      have hb := tnodesS_eq a most (Typ.nodesT l most n) h0 h1 (by omega) (by omega)
      by_cases hh : n + (Typ.nT l : Int) ≤ most
      · rw [ha.1 hh] at hb ⊢
        refine ⟨fun q => ?_, fun q => ?_, ?_, ?_⟩
        · rw [hb.1 (by omega)]; omega
        · exact hb.2.1 (by omega)
        · have := hb.2.2.1; omega
        · have := hb.2.2.2; omega
      · have h5 := ha.2.1 (by omega)
        refine ⟨fun q => by omega, fun q => hb.2.1 (by omega), ?_, ?_⟩
        · have := hb.2.2.1; omega
        · have := hb.2.2.2; omega
    · rw [if_neg hc]
      exact ⟨fun q => by omega, fun q => by omega, by omega, by omega⟩
theorem tnodesT_eq (l : List Typ) (most n : Int) (h0 : 0 ≤ most) (h1 : most < 4611686018427387904) (h2 : 1 ≤ n) (h : (Typ.nT l : Int) + n < 4611686018427387904) :
    (n + (Typ.nT l : Int) ≤ most → Typ.nodesT l most n = n + Typ.nT l) ∧ (most < n + Typ.nT l → most < Typ.nodesT l most n) ∧ Typ.nodesT l most n ≤ n + Typ.nT l ∧ n ≤ Typ.nodesT l most n := by
  match l, h with
  | [], h =>
    rw [Typ.nodesT, Typ.nT]
    exact ⟨fun _ => by simp, fun q => by simpa using q, by simp, by simp⟩
  | t :: l, h =>
    rw [Typ.nT] at h ⊢
    rw [Typ.nodesT]
    have hp := Typ.n_pos t
    by_cases hc : n ≤ most
    · rw [if_pos hc, wrap_in (n := most - n) (by omega)]
      have ha := tnodes_eq t (most - n) (by omega) (by omega) (by omega)
      rw [wrap_in (by omega)]
      have hb := tnodesT_eq l most (n + t.nodes (most - n)) h0 h1 (by omega) (by omega)
      by_cases hh : (t.n : Int) ≤ most - n
      · rw [ha.1 hh] at hb ⊢
        refine ⟨fun q => ?_, fun q => ?_, ?_, ?_⟩
        · rw [hb.1 (by omega)]; omega
        · exact hb.2.1 (by omega)
        · have := hb.2.2.1; omega
        · have := hb.2.2.2; omega
      · have h5 := ha.2.1 (by omega)
        refine ⟨fun q => by omega, fun q => hb.2.1 (by omega), ?_, ?_⟩
        · have := hb.2.2.1; omega
        · have := hb.2.2.2; omega
    · rw [if_neg hc]
      exact ⟨fun q => by omega, fun q => by omega, by omega, by omega⟩
end
mutual
theorem meas_eq (t : Typ) (k : Int) (h0 : 0 ≤ k) (h1 : k < 4611686018427387904) (h : t.n < 4611686018427387904) :
    ((t.n : Int) ≤ k → t.meas k = k - t.n) ∧ (k < t.n → t.meas k < 0) ∧ k - t.n ≤ t.meas k := by
  match t, h with
  | .mk st a, h =>
    rw [Typ.n] at h
    rw [Typ.meas, Typ.n, wrap_in (by omega)]
    have := measS_eq a (k - 1) (by omega) (by omega) (by omega)
    refine ⟨fun hh => ?_, fun hh => this.2.1 (by omega), ?_⟩
    · rw [this.1 (by omega)]; omega
    · have := this.2.2; omega
theorem measS_eq (a : List (List Typ)) (k : Int) (h0 : -4611686018427387904 ≤ k) (h1 : k < 4611686018427387904) (h : Typ.nS a < 4611686018427387904) :
    (0 ≤ k - Typ.nS a → Typ.measS a k = k - Typ.nS a) ∧ (k - Typ.nS a < 0 → Typ.measS a k < 0) ∧ k - Typ.nS a ≤ Typ.measS a k := by
  match a, h with
  | [], h =>
    rw [Typ.measS, Typ.nS]
    exact ⟨fun _ => by simp, fun q => by simpa using q, by simp⟩
  | l :: a, h =>
    rw [Typ.nS] at h ⊢
    rw [Typ.measS]
    have ha := measT_eq l k h0 h1 (by omega)
    by_cases hh : (Typ.nT l : Int) ≤ k
    · rw [ha.1 (by omega)]
      have hb := measS_eq a (k - Typ.nT l) (by omega) (by omega) (by omega)
      refine ⟨fun q => ?_, fun q => hb.2.1 (by omega), ?_⟩
      · rw [hb.1 (by omega)]; omega
      · have := hb.2.2; omega
    · have h5 := ha.2.1 (by omega)
      rw [measS_neg h5]
      refine ⟨fun q => by omega, fun q => h5, ?_⟩
      have := ha.2.2; omega
theorem measT_eq (l : List Typ) (k : Int) (h0 : -4611686018427387904 ≤ k) (h1 : k < 4611686018427387904) (h : Typ.nT l < 4611686018427387904) :
    (0 ≤ k - Typ.nT l → Typ.measT l k = k - Typ.nT l) ∧ (k - Typ.nT l < 0 → Typ.measT l k < 0) ∧ k - Typ.nT l ≤ Typ.measT l k := by
  match l, h with
  | [], h =>
    rw [Typ.measT, Typ.nT]
    exact ⟨fun _ => by simp, fun q => by simpa using q, by simp⟩
  | t :: l, h =>
    rw [Typ.nT] at h ⊢
    rw [Typ.measT]
    have hp := Typ.n_pos t
    by_cases hc : k < 0
    · rw [if_pos hc]
      exact ⟨fun q => by omega, fun q => hc, by omega⟩
    · rw [if_neg hc]
      have ha := meas_eq t k (by omega) h1 (by omega)
      by_cases hh : (t.n : Int) ≤ k
      · rw [ha.1 hh]
        have hb := measT_eq l (k - t.n) (by omega) (by omega) (by omega)
        refine ⟨fun q => ?_, fun q => hb.2.1 (by omega), ?_⟩
        · rw [hb.1 (by omega)]; omega
        · have := hb.2.2; omega
      · have h5 := ha.2.1 (by omega)
        rw [measT_neg h5]
        refine ⟨fun q => by omega, fun q => h5, ?_⟩
        have := ha.2.2; omega
end
theorem large_eq (t : Typ) (h : t.n < 4611686018427387904) : t.large = decide (2000 < t.n) := by
  have := meas_eq t 2000 (by omega) (by omega) h
  unfold Typ.large Typ.size maxI
  by_cases hh : t.n ≤ 2000
  · rw [this.1 (by omega), if_neg (by omega), wrap_in (by omega)]
    simp only [decide_eq_decide]; omega
  · have h2 := this.2.1 (by omega)
    by_cases h3 : -1 > t.meas 2000
    · rw [if_pos h3, wrap_in (by omega)]; simp only [decide_eq_decide]; omega
    · rw [if_neg h3, wrap_in (by omega)]; simp only [decide_eq_decide]; omega
theorem large'_eq (t : Typ) (h : t.n < 4611686018427387904) : t.large' = decide (2000 < t.n) := by
  have := tnodes_eq t 2000 (by omega) (by omega) h
  unfold Typ.large'
  by_cases hh : t.n ≤ 2000
  · rw [this.1 (by omega)]; simp only [decide_eq_decide]; omega
  · have h2 := this.2.1 (by omega); simp only [decide_eq_decide]; omega
end Go.Vir
namespace Go.Vir
open Go Go.Abs
abbrev Nd := Int × Int
def IntL : List Int → List PV → Prop
  | [], es => es = []
  | n :: l, es => ∃ e es', es = e :: es' ∧ e.cell 0 = .int .i64 n ∧ IntL l es'
def NdL : List Nd → List PV → Prop
  | [], es => es = []
  | x :: l, es => ∃ e es', es = e :: es' ∧ e.proj 2 = [.int .i64 x.1, .int .i64 x.2] ∧ NdL l es'
def LiL {α : Type} (R : α → PV → Prop) : List α → List PV → Prop
  | [], es => es = []
  | x :: l, es => ∃ e es', es = e :: es' ∧ R x (e.cell 0) ∧ LiL R l es'
def IntV (l : List Int) (v : PV) : Prop := ∃ es, Sl 1 es v ∧ IntL l es
def NdV (l : List Nd) (v : PV) : Prop := ∃ es, Sl 2 es v ∧ NdL l es
def LiV {α : Type} (R : α → PV → Prop) (l : List α) (v : PV) : Prop := ∃ es, Sl 1 es v ∧ LiL R l es
theorem IntL.len : ∀ {l : List Int} {es : List PV}, IntL l es → es.length = l.length
  | [], _, h => by unfold IntL at h; subst h; rfl
  | a :: l, _, h => by
    unfold IntL at h
    obtain ⟨e, es', rfl, _, h⟩ := h
    simp [h.len]
theorem NdL.len : ∀ {l : List Nd} {es : List PV}, NdL l es → es.length = l.length
  | [], _, h => by unfold NdL at h; subst h; rfl
  | a :: l, _, h => by
    unfold NdL at h
    obtain ⟨e, es', rfl, _, h⟩ := h
    simp [h.len]
theorem LiL.len {α : Type} {R : α → PV → Prop} : ∀ {l : List α} {es : List PV}, LiL R l es → es.length = l.length
  | [], _, h => by unfold LiL at h; subst h; rfl
  | a :: l, _, h => by
    unfold LiL at h
    obtain ⟨e, es', rfl, _, h⟩ := h
    simp [h.len]
def rksE (l : List Int) : Bool := l.all (fun r => !(decide (r < 0) || decide (r > 4))) && decide ((l.length : Int) ≤ 24)
def nd1 (x y : Nd) : Int := if x.1 ≠ y.1 then IntKind.wrap .i64 (x.1 - y.1) else IntKind.wrap .i64 (x.2 - y.2)
def nd2 (x y : Nd) : Int := if x.1 < y.1 ∨ (x.1 = y.1 ∧ x.2 < y.2) then -1 else if x = y then 0 else 1
def cmpL {α : Type} (f : α → α → Int) : List α → List α → Int
  | [], [] => 0
  | [], _ :: _ => -1
  | _ :: _, [] => 1
  | x :: a, y :: b => if f x y ≠ 0 then f x y else cmpL f a b
def risL {α : Type} (f : α → α → Int) : α → List α → Bool
  | _, [] => true
  | p, x :: l => if f p x ≥ 0 then false else risL f x l
def risE {α : Type} (f : α → α → Int) : List α → Bool
  | [] => true
  | x :: l => risL f x l
end Go.Vir
namespace Go.Vir
open Go Go.Abs
inductive Trm where
  | mk (k n : Int) (args : List Trm)
def Trm.k : Trm → Int
  | .mk k _ _ => k
def Trm.i : Trm → Int
  | .mk _ n _ => n
mutual
def TrmV : Trm → PV → Prop
  | .mk _ _ a, v => ∃ es, Sl 3 es v ∧ TrmL a es
def TrmL : List Trm → List PV → Prop
  | [], es => es = []
  | t :: l, es => ∃ e es', es = e :: es' ∧ (∃ v, e.proj 3 = [.int .i64 t.k, .int .i64 t.i, v] ∧ TrmV t v) ∧ TrmL l es'
end
theorem TrmL.len : ∀ {l : List Trm} {es : List PV}, TrmL l es → es.length = l.length
  | [], _, h => by unfold TrmL at h; subst h; rfl
  | a :: l, _, h => by
    unfold TrmL at h
    obtain ⟨e, es', rfl, _, h⟩ := h
    simp [h.len]
mutual
def Trm.sh : Trm → Srt
  | .mk _ _ a => .mk (Trm.shL a)
def Trm.shL : List Trm → List Srt
  | [] => []
  | t :: l => t.sh :: Trm.shL l
end
def Trm.size (t : Trm) : Int × Int := if (t.sh.measure 100000).2 < 0 then (100001, 0) else (IntKind.wrap .i64 (100000 - (t.sh.measure 100000).2), (t.sh.measure 100000).1)
def badc (c : Int) : Bool := (decide (c < 97) || decide (c > 122)) && ((decide (c < 48) || decide (c > 57)) && (c != 95))
def nameL (s : ByteArray) : Nat → Nat → Bool
  | _, 0 => true
  | i, k + 1 => !badc (byteAt s i) && nameL s (i + 1) k
def nameE (s : ByteArray) : Bool := !(decide ((s.size : Int) < 1) || (decide ((s.size : Int) > 24) || (decide (byteAt s 0 < 97) || decide (byteAt s 0 > 122)))) && nameL s 0 s.size
abbrev Sym := ByteArray × Int
def SymL : List Sym → List PV → Prop
  | [], es => es = []
  | x :: l, es => ∃ e es', es = e :: es' ∧ e.proj 2 = [.str x.1, .int .i64 x.2] ∧ SymL l es'
def SymV (l : List Sym) (v : PV) : Prop := ∃ es, Sl 2 es v ∧ SymL l es
theorem SymL.len : ∀ {l : List Sym} {es : List PV}, SymL l es → es.length = l.length
  | [], _, h => by unfold SymL at h; subst h; rfl
  | a :: l, _, h => by
    unfold SymL at h
    obtain ⟨e, es', rfl, _, h⟩ := h
    simp [h.len]
def hasN (seen : List ByteArray) (s : ByteArray) : Bool := seen.any fun x => decide (s = x)
def symP : List ByteArray → List Sym → Bool
  | _, [] => true
  | seen, x :: l => !(!nameE x.1 || (hasN seen x.1 || (decide (x.2 < 0) || decide (x.2 > 4)))) && symP (seen ++ [x.1]) l
def symsE (l : List Sym) : Bool := symP [] l && decide ((l.length : Int) ≤ 24)
structure Fn where
  name : ByteArray
  sort : Srt
  body : Trm
def FnL : List Fn → List PV → Prop
  | [], es => es = []
  | f :: l, es => ∃ e es', es = e :: es' ∧ (∃ sv av, e.proj 5 = [.str f.name, sv, .int .i64 f.body.k, .int .i64 f.body.i, av] ∧ SrtV f.sort sv ∧ TrmV f.body av) ∧ FnL l es'
def FnV (l : List Fn) (v : PV) : Prop := ∃ es, Sl 5 es v ∧ FnL l es
theorem FnL.len : ∀ {l : List Fn} {es : List PV}, FnL l es → es.length = l.length
  | [], _, h => by unfold FnL at h; subst h; rfl
  | a :: l, _, h => by
    unfold FnL at h
    obtain ⟨e, es', rfl, _, h⟩ := h
    simp [h.len]
def Srt.args : Srt → List Srt
  | .mk l => l
mutual
def Srt.eq : Srt → Srt → Bool
  | .mk a, .mk b => if a.length ≠ b.length then false else Srt.eqL a b
def Srt.eqL : List Srt → List Srt → Bool
  | [], _ => true
  | x :: a, y :: b => if x.eq y then Srt.eqL a b else false
  | _ :: _, [] => true
end
def Srt.same (a b : Srt) : Bool := decide (a.size.1 ≤ 60) && (decide (a.size.1 = b.size.1) && a.eq b)
def hd (syms : List Sym) (funs params : List Srt) (k n : Int) : Option Srt :=
  if n < 0 then none
  else if k = 0 ∧ n < (params.length : Int) then params[n.toNat]?
  else if k = 1 ∧ n < (funs.length : Int) then funs[n.toNat]?
  else if k = 2 ∧ n < (syms.length : Int) then syms[n.toNat]?.map fun x => .mk (List.replicate x.2.toNat (.mk []))
  else none
mutual
def Trm.of (q : Srt → Srt → Bool) (h : Int → Int → Option Srt) : Trm → Option Srt
  | .mk k n a => match h k n with
    | none => none
    | some s => if (a.length : Int) > (s.args.length : Int) then none else if Trm.ofL q h a s.args then some (.mk (s.args.drop a.length)) else none
def Trm.ofL (q : Srt → Srt → Bool) (h : Int → Int → Option Srt) : List Trm → List Srt → Bool
  | [], _ => true
  | t :: a, s :: l => match t.of q h with
    | none => false
    | some x => if q x s then Trm.ofL q h a l else false
  | _ :: _, [] => true
end
def bodyE (q : Srt → Srt → Bool) (h : Int → Int → Option Srt) (t : Trm) : Bool := match t.of q h with
  | none => false
  | some s => s.args.isEmpty
def funP : List ByteArray → List Fn → Bool
  | _, [] => true
  | seen, f :: l => !(!nameE f.name || (hasN seen f.name || decide (f.sort.check ≠ 0))) && funP (seen ++ [f.name]) l
def bodyP (syms : List Sym) (funs : List Fn) (f : Fn) : Bool :=
  !(decide (f.body.size.1 > 400) || decide (f.body.size.2 > 30)) && bodyE Srt.same (hd syms (funs.map (·.sort)) f.sort.args) f.body
def arity0 : List Fn → Nat
  | [] => 0
  | f :: _ => f.sort.args.length
def schE (syms : List Sym) (funs : List Fn) : Bool :=
  !(decide ((syms.length : Int) > 24) || (!symsE syms || (decide ((funs.length : Int) = 0) || (decide ((funs.length : Int) > 64) || decide ((arity0 funs : Int) > 0))))) &&
    (funP [] funs && funs.all (bodyP syms funs))
def funR : List ByteArray → List Fn → Bool
  | _, [] => true
  | seen, f :: l => !(!nameE f.name || (!f.sort.is || (decide (f.body.sh.nodes 400 > 400) || decide (f.body.sh.depth > 30)))) && (!hasN seen f.name && funR (seen ++ [f.name]) l)
def bodyR (syms : List Sym) (funs : List Fn) (f : Fn) : Bool := bodyE Srt.eq (hd syms (funs.map (·.sort)) f.sort.args) f.body
def schR (syms : List Sym) (funs : List Fn) : Bool :=
  !(!symsE syms || (decide ((funs.length : Int) < 1) || decide ((funs.length : Int) > 64))) &&
    (funR [] funs && (!decide ((arity0 funs : Int) > 0) && funs.all (bodyR syms funs)))
mutual
theorem Srt.eq_iff (a b : Srt) : a.eq b = true ↔ a = b := by
  match a, b with
  | .mk a, .mk b =>
    rw [Srt.eq]
    by_cases h : a.length = b.length
    · rw [if_neg (by simpa using h), Srt.eqL_iff a b h]
      simp
    · rw [if_pos h]
      simp only [Bool.false_eq_true, Srt.mk.injEq, false_iff]
      intro e
      exact h (by rw [e])
theorem Srt.eqL_iff (a b : List Srt) (h : a.length = b.length) : Srt.eqL a b = true ↔ a = b := by
  match a, b, h with
  | [], [], _ => simp [Srt.eqL]
  | x :: a, y :: b, h =>
    rw [Srt.eqL]
    have h1 := Srt.eq_iff x y
    have h2 := Srt.eqL_iff a b (by simpa using h)
    by_cases c : x.eq y = true
    · rw [if_pos c, h2, h1.1 c]; simp
    · rw [if_neg c]
      simp only [Bool.false_eq_true, List.cons.injEq, false_iff, not_and]
      intro e
      exact absurd (h1.2 e) c
end
theorem size_eq (s : Srt) (h : s.n < 4611686018427387904) : s.size.1 = if s.n ≤ 60 then (s.n : Int) else 61 := by
  have := measure_eq s 60 (by omega) (by omega) h
  by_cases hh : s.n ≤ 60
  · have hp := Srt.n_pos s
    rw [Srt.size, this.1 (by omega)]
    dsimp only
    rw [if_neg (by omega), wrap_in (by omega), if_pos hh]
    dsimp only
    omega
  · rw [Srt.size, if_pos (this.2.1 (by omega)), if_neg hh]
theorem same_eq {a b : Srt} (ha : a.n ≤ 60) (hb : b.n ≤ 60) : a.same b = a.eq b := by
  rw [Srt.same, size_eq a (by omega), size_eq b (by omega), if_pos ha, if_pos hb, decide_eq_true (show (a.n : Int) ≤ 60 by omega)]
  by_cases c : a.eq b = true
  · rw [(Srt.eq_iff a b).1 c]; simp
  · simp only [Bool.not_eq_true] at c
    rw [c]; simp
theorem nL_drop : ∀ (l : List Srt) (k : Nat), Srt.nL (l.drop k) ≤ Srt.nL l
  | [], k => by simp
  | a :: l, 0 => by simp
  | a :: l, k + 1 => by
    rw [List.drop_succ_cons, Srt.nL]
    have := nL_drop l k
    omega
theorem n_mem : ∀ (l : List Srt), ∀ s ∈ l, s.n ≤ Srt.nL l
  | a :: l, s, h => by
    rw [Srt.nL]
    rcases List.mem_cons.1 h with rfl | h
    · omega
    · have := n_mem l s h; omega
mutual
theorem of_eq {h : Int → Int → Option Srt} (hh : ∀ k n s, h k n = some s → s.n ≤ 60) (t : Trm) : t.of Srt.same h = t.of Srt.eq h ∧ ∀ x, t.of Srt.eq h = some x → x.n ≤ 60 := by
  match t with
  | .mk k n a =>
    rw [Trm.of, Trm.of]
    cases hs : h k n with
    | none => simp
    | some s =>
      dsimp only
      have hn := hh k n s hs
      have hl : Srt.nL s.args < 60 := by have : s.n = Srt.nL s.args + 1 := by { cases s; rfl }
                                         omega
      by_cases c : (a.length : Int) > (s.args.length : Int)
      · rw [if_pos c, if_pos c]; simp
      · rw [if_neg c, if_neg c, ofL_eq hh a s.args (fun x hx => by have := n_mem s.args x hx; omega)]
        refine ⟨rfl, fun x hx => ?_⟩
        split at hx
        · cases hx
          rw [Srt.n]
          have := nL_drop s.args a.length
          omega
        · cases hx
theorem ofL_eq {h : Int → Int → Option Srt} (hh : ∀ k n s, h k n = some s → s.n ≤ 60) (a : List Trm) (l : List Srt) (hl : ∀ s ∈ l, s.n ≤ 60) : Trm.ofL Srt.same h a l = Trm.ofL Srt.eq h a l := by
  match a, l, hl with
  | [], _, _ => rw [Trm.ofL, Trm.ofL]
  | _ :: _, [], _ => rw [Trm.ofL, Trm.ofL]
  | t :: a, s :: l, hl =>
    have h1 := of_eq hh t
    rw [Trm.ofL, Trm.ofL, h1.1]
    cases hx : t.of Srt.eq h with
    | none => rfl
    | some x =>
      dsimp only
      rw [same_eq (h1.2 x hx) (hl s (by simp)), ofL_eq hh a l (fun s hs => hl s (by simp [hs]))]
end
theorem hd_le {syms : List Sym} {funs params : List Srt} (h1 : ∀ x ∈ syms, x.2 ≤ 4) (h2 : ∀ s ∈ funs, s.n ≤ 60) (h3 : ∀ s ∈ params, s.n ≤ 60) {k n : Int} {s : Srt} (h : hd syms funs params k n = some s) : s.n ≤ 60 := by
  unfold hd at h
  have hr : ∀ k : Nat, Srt.nL (List.replicate k (.mk [])) = k := by
    intro k
    induction k with
    | zero => rfl
    | succ k ih => rw [List.replicate_succ, Srt.nL, ih, Srt.n, Srt.nL]; omega
  split at h
  · cases h
  · split at h
    · exact h3 s (List.mem_of_getElem? h)
    · split at h
      · exact h2 s (List.mem_of_getElem? h)
      · split at h
        · rw [Option.map_eq_some_iff] at h
          obtain ⟨x, hx, rfl⟩ := h
          have := h1 x (List.mem_of_getElem? hx)
          rw [Srt.n, hr]; omega
        · cases h
theorem symP_rank : ∀ (l : List Sym) (seen : List ByteArray), symP seen l = true → ∀ x ∈ l, 0 ≤ x.2 ∧ x.2 ≤ 4
  | y :: l, seen, h, x, hx => by
    rw [symP, Bool.and_eq_true] at h
    rcases List.mem_cons.1 hx with rfl | hx
    · have := h.1
      simp at this
      omega
    · exact symP_rank l _ h.2 x hx
theorem is_n {s : Srt} (hn : s.n < 4611686018427387904) (h : s.is = true) : s.n ≤ 60 := by
  rw [is_eq s hn, Bool.and_eq_true] at h
  simpa using h.1
theorem tsz_eq (t : Trm) (h : t.sh.n < 4611686018427387904) : (decide (t.size.1 > 400) || decide (t.size.2 > 30)) = (decide (t.sh.nodes 400 > 400) || decide (t.sh.depth > 30)) := by
  have h1 := measure_eq t.sh 100000 (by omega) (by omega) h
  have h2 := nodes_eq t.sh 400 (by omega) (by omega) h
  have h3 := depth_eq t.sh h
  have hp := Srt.n_pos t.sh
  have hd := d_le t.sh
  rw [h3]
  by_cases hh : t.sh.n ≤ 100000
  · have hs : t.size = ((t.sh.n : Int), (t.sh.d : Int)) := by
      rw [Trm.size, h1.1 (by omega)]
      dsimp only
      rw [if_neg (by omega), wrap_in (by omega)]
      congr 1; omega
    rw [hs]
    dsimp only
    congr 1
    by_cases h4 : t.sh.n ≤ 400
    · rw [h2.1 (by omega)]
    · have := h2.2.1 (by omega)
      simp only [decide_eq_decide]; omega
  · have hs : t.size = (100001, 0) := by rw [Trm.size, if_pos (h1.2.1 (by omega))]
    rw [hs]
    have := h2.2.1 (by omega)
    rw [decide_eq_true this]
    rfl
theorem funR_eq : ∀ (l : List Fn) (seen : List ByteArray), (∀ f ∈ l, f.sort.n < 4611686018427387904 ∧ f.body.sh.n < 4611686018427387904) →
    funR seen l = (funP seen l && l.all fun f => !(decide (f.body.size.1 > 400) || decide (f.body.size.2 > 30)))
  | [], _, _ => rfl
  | f :: l, seen, h => by
    rw [funR, funP, funR_eq l _ (fun g hg => h g (by simp [hg])), List.all_cons, ← tsz_eq f.body (h f (by simp)).2, check_eq f.sort (h f (by simp)).1]
    cases nameE f.name <;> cases hasN seen f.name <;> cases f.sort.is <;> cases (decide (f.body.size.1 > 400) || decide (f.body.size.2 > 30)) <;> simp
theorem funP_sort : ∀ (l : List Fn) (seen : List ByteArray), (∀ f ∈ l, f.sort.n < 4611686018427387904) → funP seen l = true → ∀ f ∈ l, f.sort.n ≤ 60
  | g :: l, seen, h0, h, f, hf => by
    rw [funP, Bool.and_eq_true] at h
    rcases List.mem_cons.1 hf with rfl | hf
    · have h1 := h.1
      rw [check_eq f.sort (h0 f (by simp))] at h1
      refine is_n (h0 f (by simp)) ?_
      cases hi : f.sort.is with
      | true => rfl
      | false => rw [hi] at h1; simp at h1
    · exact funP_sort l _ (fun f hf => h0 f (by simp [hf])) h.2 f hf
theorem all_both {α : Type} (p q : α → Bool) : ∀ l : List α, (l.all fun x => p x && q x) = (l.all p && l.all q)
  | [] => rfl
  | x :: l => by
    rw [List.all_cons, List.all_cons, List.all_cons, all_both p q l]
    cases p x <;> cases q x <;> cases l.all p <;> rfl
theorem sch_eq (syms : List Sym) (funs : List Fn) (h : ∀ f ∈ funs, f.sort.n < 4611686018427387904 ∧ f.body.sh.n < 4611686018427387904) : schE syms funs = schR syms funs := by
  rw [schE, schR, funR_eq funs [] h]
  cases hs : symsE syms with
  | false => simp
  | true =>
    have hs' := hs
    rw [symsE, Bool.and_eq_true] at hs'
    have hr := symP_rank syms [] hs'.1
    have h24 : ¬ ((syms.length : Int) > 24) := by have := hs'.2; simp at this ⊢; omega
    have hz : decide ((funs.length : Int) = 0) = decide ((funs.length : Int) < 1) := by simp only [decide_eq_decide]; omega
    rw [decide_eq_false h24, hz]
    cases hp : funP [] funs with
    | false => simp
    | true =>
      have hn := funP_sort funs [] (fun f hf => (h f hf).1) hp
      have hb : funs.all (bodyP syms funs) = (funs.all (fun f => !(decide (f.body.size.1 > 400) || decide (f.body.size.2 > 30))) && funs.all (bodyR syms funs)) := by
        rw [← all_both]
        rw [Bool.eq_iff_iff, List.all_eq_true, List.all_eq_true]
        refine forall_congr' fun f => forall_congr' fun hf => ?_
        rw [bodyP, bodyR, bodyE, bodyE, (of_eq (h := hd syms (funs.map (·.sort)) f.sort.args) (fun k n s hh => hd_le (fun x hx => (hr x hx).2) (fun s hs => by
          obtain ⟨g, hg, rfl⟩ := List.mem_map.1 hs
          exact hn g hg) (fun s hs => by
          have h1 := hn f hf
          have : f.sort.n = Srt.nL f.sort.args + 1 := by cases f.sort; rfl
          have := n_mem f.sort.args s hs
          omega) hh) f.body).1]
      rw [hb]
      generalize decide ((arity0 funs : Int) > 0) = b1
      generalize decide ((funs.length : Int) < 1) = b2
      generalize decide ((funs.length : Int) > 64) = b3
      generalize funs.all (bodyR syms funs) = b4
      generalize (funs.all fun f => !(decide (f.body.size.1 > 400) || decide (f.body.size.2 > 30))) = b5
      cases b1 <;> cases b2 <;> cases b3 <;> cases b4 <;> cases b5 <;> rfl
end Go.Vir
