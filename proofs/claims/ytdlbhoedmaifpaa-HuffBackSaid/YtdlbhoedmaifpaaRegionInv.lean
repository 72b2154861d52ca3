/- A rule for regions that draw their order: one look at each operation, whatever the order. What each operation leaves in its slot is said by a predicate that stays true while the others run. -/
import Derived.WalkKit
import Derived.Orders
namespace Go.Proofs.Ytdlbhoedmaifpaa
open Go

section
variable {P : Program} {ops : Array Oper} {Q : Exit → Act → World → Prop}
theorem ready_mem {listed : Array Bool} {i : Nat} (h : i ∈ Region.ready .any ops listed) :
    i < ops.size ∧ listed.getD i true = false ∧ ∃ o, ops[i]? = some o ∧ ∀ e ∈ o.after, Region.binds .any e = true → listed.getD e.on false = true := by
  unfold Region.ready at h
  simp only [List.mem_filter, List.mem_range, Bool.and_eq_true, Bool.not_eq_true'] at h
  obtain ⟨h1, h2, h3⟩ := h
  refine ⟨h1, h2, ops[i], Array.getElem?_eq_getElem h1, fun e he hb => ?_⟩
  rw [Array.getElem?_eq_getElem h1] at h3
  simp only [Option.map_some, Option.getD_some, Array.all_eq_true] at h3
  obtain ⟨k, hk, rfl⟩ := Array.getElem_of_mem he
  have := h3 k hk
  simpa [hb] using this
theorem ready_of {listed : Array Bool} {i : Nat} (h1 : i < ops.size) (h2 : listed.getD i true = false) (h3 : ∀ e ∈ ops[i].after, Region.binds .any e = true → listed.getD e.on false = true) : i ∈ Region.ready .any ops listed := by
  unfold Region.ready
  simp only [List.mem_filter, List.mem_range, Bool.and_eq_true, Bool.not_eq_true']
  refine ⟨h1, h2, ?_⟩
  rw [Array.getElem?_eq_getElem h1]
  simp only [Option.map_some, Option.getD_some, Array.all_eq_true]
  intro k hk
  cases hb : Region.binds .any ops[i].after[k] with
  | false => rfl
  | true => simpa using h3 _ (Array.getElem_mem hk) hb
theorem wpAny_inv (I : Array Bool → Act → World → Prop)
    (hstep : ∀ listed a w i, listed.size = ops.size → I listed a w → i ∈ Region.ready .any ops listed → wpOp P ops Q i (I (listed.setIfInBounds i true)) a w)
    (hend : ∀ listed a w, listed.size = ops.size → I listed a w → Region.ready .any ops listed = [] → Q .normal a w) :
    ∀ (fuel : Nat) (listed : Array Bool) (a : Act) (w : World), listed.size = ops.size → listed.toList.count false ≤ fuel → I listed a w → wpAny P .any ops Q fuel listed a w
  | 0, listed, a, w, hs, hc, hI => by
    have hr : Region.ready .any ops listed = [] := by
      rcases hr : Region.ready .any ops listed with _ | ⟨i, r⟩
      · rfl
      · have := ready_mem (ops := ops) (listed := listed) (i := i) (by rw [hr]; exact List.mem_cons_self ..)
        obtain ⟨h1, h2, _⟩ := this
        have hm : false ∈ listed.toList := by
          have h3 : i < listed.size := by omega
          rw [Array.getD_eq_getD_getElem?, Array.getElem?_eq_getElem h3] at h2
          have h4 : listed[i] = false := by simpa using h2
          rw [← h4]; simp
        have := List.count_pos_iff.2 hm
        omega
    exact ⟨hr, hend _ _ _ hs hI hr⟩
  | fuel + 1, listed, a, w, hs, hc, hI => by
    refine ⟨hend _ _ _ hs hI, fun i hi => wpOp_mono (fun a' w' hI' => ?_) (hstep _ _ _ i hs hI hi)⟩
    refine wpAny_inv I hstep hend fuel _ a' w' (by simpa using hs) ?_ hI'
    obtain ⟨h1, h2, _⟩ := ready_mem hi
    have h3 : i < listed.size := by omega
    rw [Array.getD_eq_getD_getElem?, Array.getElem?_eq_getElem h3] at h2
    have h4 : listed[i] = false := by simpa using h2
    have hm : false ∈ listed.toList := by rw [← h4]; simp
    have hp := List.count_pos_iff.2 hm
    rw [Array.toList_setIfInBounds, List.count_set (by simpa using h3), if_pos (by simp [h4]), if_neg (by decide)]
    omega
end
/-- the slots that the operations write, with these values in them (from number k on). -/
def putAll (a : Act) : List (Option Tmp) → Nat → (Nat → Value) → Act
  | [], _, _ => a
  | d :: ds, k, x => putAll (a.put d (x k)) ds (k + 1) x
theorem put_put (a : Act) (d : Option Tmp) (x y : Value) : (a.put d x).put d y = a.put d y := by
  cases d with
  | none => rfl
  | some d => simp [Act.put]
theorem putAll_put (d : Option Tmp) (v : Value) (x : Nat → Value) : ∀ (ds : List (Option Tmp)) (k : Nat) (a : Act), (∀ t, d = some t → some t ∉ ds) → (putAll a ds k x).put d v = putAll (a.put d v) ds k x
  | [], _, _, _ => rfl
  | e :: ds, k, a, h => by
    unfold putAll
    rw [putAll_put d v x ds _ _ (fun t ht hm => h t ht (List.mem_cons_of_mem _ hm))]
    congr 1
    exact (Act.put_comm a v (x k) fun t ht he => h t ht (by rw [he]; exact List.mem_cons_self ..)).symm
theorem putAll_same (ds : List (Option Tmp)) (x y : Nat → Value) : ∀ (k : Nat) (a : Act), (∀ j, k ≤ j → x j = y j) → putAll a ds k x = putAll a ds k y := by
  induction ds with
  | nil => intro k a _; rfl
  | cons d ds ih =>
    intro k a h
    unfold putAll
    rw [h k (Nat.le_refl _)]
    exact ih _ _ fun j hj => h j (by omega)
/-- all slots that are written differ. -/
def Distinct : List (Option Tmp) → Prop
  | [] => True
  | d :: ds => (∀ t, d = some t → some t ∉ ds) ∧ Distinct ds
instance Distinct.dec : (ds : List (Option Tmp)) → Decidable (Distinct ds)
  | [] => isTrue trivial
  | d :: ds => by
    unfold Distinct
    have := Distinct.dec ds
    cases d with
    | none => exact (if h : Distinct ds then isTrue ⟨(fun _ h => by cases h), h⟩ else isFalse fun hh => h hh.2)
    | some t =>
      exact (if h : some t ∉ ds ∧ Distinct ds then isTrue ⟨fun u hu => by cases hu; exact h.1, h.2⟩ else isFalse fun hh => h ⟨hh.1 t rfl, hh.2⟩)
def setX (x : Nat → Value) (i : Nat) (v : Value) : Nat → Value := fun j => if j = i then v else x j
theorem putAll_set (x : Nat → Value) (v : Value) : ∀ (ds : List (Option Tmp)) (k : Nat) (a : Act) (i : Nat), Distinct ds → i < ds.length → (putAll a ds k x).put (ds.getD i none) v = putAll a ds k (setX x (k + i) v)
  | [], _, _, _, _, hl => by simp at hl
  | d :: ds, k, a, 0, h, _ => by
    show (putAll (a.put d (x k)) ds (k + 1) x).put d v = putAll (a.put d (setX x (k + 0) v k)) ds (k + 1) _
    rw [putAll_put d v x ds _ _ h.1, put_put]
    have e : setX x (k + 0) v k = v := by simp [setX]
    rw [e]
    exact putAll_same ds _ _ _ _ fun j hj => by unfold setX; rw [if_neg (by omega)]
  | d :: ds, k, a, i + 1, h, hl => by
    have := putAll_set x v ds (k + 1) (a.put d (x k)) i h.2 (by simpa using hl)
    show (putAll (a.put d (x k)) ds (k + 1) x).put (ds.getD i none) v = putAll (a.put d (setX x (k + (i + 1)) v k)) ds (k + 1) _
    have e : setX x (k + (i + 1)) v k = x k := by unfold setX; rw [if_neg (by omega)]
    rw [e, this, show k + 1 + i = k + (i + 1) by omega]
/-- what the slots hold at the beginning. -/
def base (a : Act) (ds : List (Option Tmp)) (i : Nat) : Value := match ds.getD i none with | some t => a.tmps.getD t undef | none => undef
theorem putAll_self (x : Nat → Value) : ∀ (ds : List (Option Tmp)) (k : Nat) (a : Act), (∀ i, i < ds.length → x (k + i) = base a ds i) → putAll a ds k x = a
  | [], _, _, _ => rfl
  | d :: ds, k, a, hx => by
    have h0 := hx 0 (by simp)
    have h : a.put d (x k) = a := by
      rw [show x k = base a (d :: ds) 0 from h0]
      cases d with
      | none => rfl
      | some t =>
        simp only [Act.put, base, List.getD_cons_zero]
        congr 1
        apply Array.ext
        · simp
        · intro i h1 h2
          rw [Array.getElem_setIfInBounds]
          split
          · rename_i he; subst he; simp [Array.getD, h2]
          · rfl
    show putAll (a.put d (x k)) ds (k + 1) x = a
    rw [h]
    refine putAll_self x ds (k + 1) a fun i hi => ?_
    have := hx (i + 1) (by simpa using hi)
    rw [show k + 1 + i = k + (i + 1) by omega]
    exact this
/-- What one operation has done. -/
def DoneAt (T : World → World → Prop) (S : Nat → Value → World → Prop) (i : Nat) (a : Act) (d : Option Tmp) (w : World) (a' : Act) (w' : World) : Prop := ∃ v, a' = a.put d v ∧ T w w' ∧ S i v w'
section
variable {P : Program} {Q : Exit → Act → World → Prop}
theorem upon_exits {o : Oper} {a : Act} {K K' : Act → World → Prop} {r : Result Next} (h : o.upon P a K (Exit.then K' Q) r) : o.upon P a K Q r := by
  cases r with
  | ok n w' =>
    cases n <;> simp only [Oper.upon] at h ⊢ <;> exact h
  | halt x w' => cases x <;> simp only [Oper.upon] at h ⊢ <;> exact h
/-- ONE LOOK AT EACH OPERATION, WHATEVER THE ORDER. T: how the world may go on (from the region's start, too). S i: what operation i leaves in its slot; it stays true as the world goes on. -/
theorem wp_region_inv {id : Nat} {l : List Oper} {a0 : Act} {w0 : World}
    (T : World → World → Prop) (S : Nat → Value → World → Prop)
    (ds : List (Option Tmp)) (pre : List (List Nat)) (hm : P.follows .mixedOrders = true)
    (hds : l.map (·.dst) = ds) (hdist : Distinct ds)
    (hpre : (l.map fun o => (o.after.toList.filter (Region.binds .any ·)).map (·.on)) = pre)
    (hback : ((List.range pre.length).all fun i => (pre.getD i []).all (· < i)) = true)
    (hTr : ∀ w, T w w) (hTt : ∀ w w1 w2, T w w1 → T w1 w2 → T w w2)
    (hst : ∀ i v w w', S i v w → T w w' → S i v w')
    (hstep : ∀ (i : Nat) (o : Oper), l[i]? = some o → ∀ (x : Nat → Value) (w : World) (A : Act), A = putAll a0 ds 0 x → T w0.drew w →
      (∀ j ∈ pre.getD i [], S j (x j) w) → (∀ j, i ∈ pre.getD j [] → x j = base a0 ds j) →
      wpList P l.toArray (Exit.then (DoneAt T S i A o.dst w) Q) [o] A w)
    (hend : ∀ (x : Nat → Value) (w : World) (A : Act), A = putAll a0 ds 0 x → T w0.drew w → (∀ i, i < l.length → S i (x i) w) → Q .normal A w) :
    (Code.region id l.toArray true).wp P Q a0 w0 := by
  have hdl : ds.length = l.length := by rw [← hds]; simp
  have hpl : pre.length = l.length := by rw [← hpre]; simp
  have hsz : l.toArray.size = l.length := by simp
  have hpe : ∀ i o, l[i]? = some o → ∀ e ∈ o.after, Region.binds .any e = true → e.on ∈ pre.getD i [] := by
    intro i o ho e he hb
    rw [← hpre, List.getD_eq_getElem?_getD, List.getElem?_map, ho]
    simp only [Option.map_some, Option.getD_some, List.mem_map, List.mem_filter]
    exact ⟨e, ⟨by simpa using he, hb⟩, rfl⟩
  have hpe' : ∀ i o, l[i]? = some o → ∀ j ∈ pre.getD i [], ∃ e ∈ o.after, Region.binds .any e = true ∧ e.on = j := by
    intro i o ho j hj
    rw [← hpre, List.getD_eq_getElem?_getD, List.getElem?_map, ho] at hj
    simp only [Option.map_some, Option.getD_some, List.mem_map, List.mem_filter] at hj
    obtain ⟨e, ⟨he, hb⟩, hj⟩ := hj
    exact ⟨e, by simpa using he, hb, hj⟩
  refine wp_region_any hm ?_
  let I : Array Bool → Act → World → Prop := fun listed a w => ∃ x : Nat → Value, a = putAll a0 ds 0 x ∧ T w0.drew w ∧
    (∀ i, i < l.length → listed.getD i false = true → S i (x i) w ∧ ∀ j ∈ pre.getD i [], listed.getD j false = true) ∧ (∀ i, listed.getD i false = false → x i = base a0 ds i)
  refine wpAny_inv I ?_ ?_ _ _ _ _ (by simp) (by simp) ?_
  · rintro listed a w i hs ⟨x, rfl, hT, hdone, hun⟩ hi
    obtain ⟨h1, h2, o, ho, haft⟩ := ready_mem hi
    have hil : i < l.length := by simpa using h1
    have ho' : l[i]? = some o := by simpa using ho
    have hli : listed.getD i false = false := by
      have : i < listed.size := by omega
      rw [Array.getD_eq_getD_getElem?, Array.getElem?_eq_getElem this] at h2 ⊢
      simpa using h2
    have hpd : ∀ j ∈ pre.getD i [], listed.getD j false = true := fun j hj => by
      obtain ⟨e, he, hb, rfl⟩ := hpe' i o ho' j hj
      exact haft e he hb
    have hjl : ∀ j ∈ pre.getD i [], j < l.length := fun j hj => by
      have hb := List.all_eq_true.1 hback i (by simp; omega)
      have := List.all_eq_true.1 hb j hj
      have : j < i := by simpa using this
      omega
    have hs1 := hstep i o ho' x w _ rfl hT (fun j hj => (hdone j (hjl j hj) (hpd j hj)).1) (fun j hj => by
      refine hun j ?_
      cases hc : listed.getD j false with
      | false => rfl
      | true =>
        have hjlen : j < l.length := by
          rcases Nat.lt_or_ge j l.length with h | h
          · exact h
          · rw [List.getD_eq_getElem?_getD, List.getElem?_eq_none (by omega)] at hj; simp at hj
        have := (hdone j hjlen hc).2 i hj
        rw [hli] at this; cases this)
    have key : ∀ a' w', DoneAt T S i (putAll a0 ds 0 x) o.dst w a' w' → I (listed.setIfInBounds i true) a' w' := by
      rintro a' w' ⟨v, rfl, hT', hS⟩
      have hset : ∀ j, (listed.setIfInBounds i true).getD j false = if j = i then true else listed.getD j false := fun j => by
        rw [Array.getD_eq_getD_getElem?, Array.getD_eq_getD_getElem?, Array.getElem?_setIfInBounds]
        by_cases hji : i = j
        · subst hji
          have : i < listed.size := by omega
          simp [this]
        · rw [if_neg hji, if_neg (Ne.symm hji)]
      have hget : ∀ j, j ≠ i → setX x i v j = x j := fun j hj => by unfold setX; rw [if_neg hj]
      refine ⟨setX x i v, ?_, hTt _ _ _ hT hT', fun j hj hlj => ?_, fun j hlj => ?_⟩
      · have hd : o.dst = ds.getD i none := by
          rw [← hds, List.getD_eq_getElem?_getD, List.getElem?_map, ho']; rfl
        rw [hd, putAll_set x v ds 0 a0 i hdist (by omega), Nat.zero_add]
      · by_cases hji : j = i
        · subst hji
          refine ⟨by unfold setX; rw [if_pos rfl]; exact hS, fun k hk => ?_⟩
          rw [hset]; split
          · rfl
          · exact hpd k hk
        · rw [hset, if_neg hji] at hlj
          obtain ⟨q1, q2⟩ := hdone j hj hlj
          refine ⟨by rw [hget j hji]; exact hst _ _ _ _ q1 hT', fun k hk => ?_⟩
          rw [hset]; split
          · rfl
          · exact q2 k hk
      · rw [hset] at hlj
        by_cases hji : j = i
        · rw [if_pos hji] at hlj; cases hlj
        · rw [if_neg hji] at hlj
          rw [hget j hji]; exact hun j hlj
    unfold wpOp
    simp only [ho]
    unfold wpList at hs1
    split at hs1
    · rename_i hw
      rw [if_pos hw]
      rcases hs1 with h | ⟨h, h'⟩
      · exact .inl (Oper.wp_mono (fun a' w' hh => key a' w' hh) (upon_exits h))
      · exact .inr ⟨h, h'⟩
    · rename_i hw
      rw [if_neg hw]
      exact key _ _ hs1
  · rintro listed a w hs ⟨x, rfl, hT, hdone, hun⟩ hr
    have hall : ∀ i, i < l.length → listed.getD i false = true := by
      intro i
      induction i using Nat.strongRecOn with
      | _ i ih =>
        intro hi
        cases hc : listed.getD i false with
        | true => rfl
        | false =>
          exfalso
          have hlt : i < l.toArray.size := by simpa using hi
          have : i ∈ Region.ready .any l.toArray listed := by
            refine ready_of hlt ?_ fun e he hb => ?_
            · have : i < listed.size := by omega
              rw [Array.getD_eq_getD_getElem?, Array.getElem?_eq_getElem this] at hc ⊢
              simpa using hc
            · have ho' : l[i]? = some l.toArray[i] := by simp [hi]
              have hm := hpe i _ ho' e he hb
              have hb2 := List.all_eq_true.1 hback i (by simp; omega)
              have hlt2 := List.all_eq_true.1 hb2 _ hm
              have hlt3 : e.on < i := by simpa using hlt2
              exact ih _ hlt3 (by omega)
          rw [hr] at this
          cases this
    exact hend x w _ rfl hT fun i hi => (hdone i hi (hall i hi)).1
  · refine ⟨base a0 ds, (putAll_self _ ds 0 a0 fun i _ => by rw [Nat.zero_add]).symm, hTr _, fun i _ hc => ?_, fun i _ => rfl⟩
    exfalso
    rw [Array.getD_eq_getD_getElem?] at hc
    simp [Array.getElem?_replicate] at hc
    split at hc <;> simp at hc
/-- What is to be shown of each operation, one behind the other. -/
def StepAll (P : Program) (Q : Exit → Act → World → Prop) (T : World → World → Prop) (S : Nat → Value → World → Prop) (ds : List (Option Tmp)) (pre : List (List Nat)) (a0 : Act) (w0 : World) (ops : Array Oper) : Nat → List Oper → Prop
  | _, [] => True
  | i, o :: os => (∀ (x : Nat → Value) (w : World) (A : Act), A = putAll a0 ds 0 x → T w0.drew w →
      (∀ j ∈ pre.getD i [], S j (x j) w) → (∀ j, i ∈ pre.getD j [] → x j = base a0 ds j) →
      wpList P ops (Exit.then (DoneAt T S i A o.dst w) Q) [o] A w) ∧ StepAll P Q T S ds pre a0 w0 ops (i + 1) os
theorem stepAll_get {T : World → World → Prop} {S : Nat → Value → World → Prop} {ds : List (Option Tmp)} {pre : List (List Nat)} {a0 : Act} {w0 : World} {ops : Array Oper} : ∀ (l : List Oper) (k i : Nat) (o : Oper), StepAll P Q T S ds pre a0 w0 ops k l → l[i]? = some o →
    ∀ (x : Nat → Value) (w : World) (A : Act), A = putAll a0 ds 0 x → T w0.drew w →
      (∀ j ∈ pre.getD (k + i) [], S j (x j) w) → (∀ j, k + i ∈ pre.getD j [] → x j = base a0 ds j) →
      wpList P ops (Exit.then (DoneAt T S (k + i) A o.dst w) Q) [o] A w
  | [], _, _, _, _, h => by simp at h
  | o :: os, k, 0, o', hs, h => by
    have : o = o' := by simpa using h
    subst this
    exact hs.1
  | o :: os, k, i + 1, o', hs, h => by
    have := stepAll_get os (k + 1) i o' hs.2 (by simpa using h)
    rw [show k + 1 + i = k + (i + 1) by omega] at this
    exact this
theorem stepAll_nil {T : World → World → Prop} {S : Nat → Value → World → Prop} {ds : List (Option Tmp)} {pre : List (List Nat)} {a0 : Act} {w0 : World} {ops : Array Oper} {k : Nat} : StepAll P Q T S ds pre a0 w0 ops k [] := trivial
theorem stepAll_cons {T : World → World → Prop} {S : Nat → Value → World → Prop} {ds : List (Option Tmp)} {pre : List (List Nat)} {a0 : Act} {w0 : World} {ops : Array Oper} {k : Nat} {o : Oper} {os : List Oper}
    (h : ∀ (x : Nat → Value) (w : World) (A : Act), A = putAll a0 ds 0 x → T w0.drew w →
      (∀ j ∈ pre.getD k [], S j (x j) w) → (∀ j, k ∈ pre.getD j [] → x j = base a0 ds j) →
      wpList P ops (Exit.then (DoneAt T S k A o.dst w) Q) [o] A w) (hs : StepAll P Q T S ds pre a0 w0 ops (k + 1) os) : StepAll P Q T S ds pre a0 w0 ops k (o :: os) := ⟨h, hs⟩
/-- The same rule, the operations one behind the other. -/
theorem wp_region_each {id : Nat} {l : List Oper} {a0 : Act} {w0 : World}
    (T : World → World → Prop) (S : Nat → Value → World → Prop)
    (ds : List (Option Tmp)) (pre : List (List Nat)) (hm : P.follows .mixedOrders = true)
    (hds : l.map (·.dst) = ds) (hdist : Distinct ds)
    (hpre : (l.map fun o => (o.after.toList.filter (Region.binds .any ·)).map (·.on)) = pre)
    (hback : ((List.range pre.length).all fun i => (pre.getD i []).all (· < i)) = true)
    (hTr : ∀ w, T w w) (hTt : ∀ w w1 w2, T w w1 → T w1 w2 → T w w2)
    (hst : ∀ i v w w', S i v w → T w w' → S i v w')
    (hstep : StepAll P Q T S ds pre a0 w0 l.toArray 0 l)
    (hend : ∀ (x : Nat → Value) (w : World) (A : Act), A = putAll a0 ds 0 x → T w0.drew w → (∀ i, i < l.length → S i (x i) w) → Q .normal A w) :
    (Code.region id l.toArray true).wp P Q a0 w0 :=
  wp_region_inv T S ds pre hm hds hdist hpre hback hTr hTt hst (fun i o ho x w A hA hT hp hu => by
    have := stepAll_get l 0 i o hstep ho x w A hA hT (by rw [Nat.zero_add]; exact hp) (by rw [Nat.zero_add]; exact hu)
    rwa [Nat.zero_add] at this) hend
end
theorem done_of {T : World → World → Prop} {S : Nat → Value → World → Prop} {i : Nat} {A a' : Act} {d : Option Tmp} {w w' : World} (v : Value) (hS : S i v w') (hT : T w w') (h : A.put d v = a') : DoneAt T S i A d w a' w' := ⟨v, h.symm, hT, hS⟩
end Go.Proofs.Ytdlbhoedmaifpaa
