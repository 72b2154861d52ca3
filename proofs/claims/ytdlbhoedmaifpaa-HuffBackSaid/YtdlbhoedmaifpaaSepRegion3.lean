/- SepRegion3: a region that draws its order, by pieces; a slot that is read may be written by an operation behind. -/
import Derived.Test.YtdlbhoedmaifpaaSepRegion
namespace Go.Proofs.Ytdlbhoedmaifpaa
open Go.RowKit
section
variable {P : Program} {Q : Exit → Act → World → Prop}
/-- Whether slot t is as it was when operation i goes: those that write it stand behind i. -/
def freeAt (ds : List (Option Tmp)) (anc : List (List Nat)) (i t : Nat) : Bool := (List.range ds.length).all fun j => if ds.getD j none = some t then (anc.getD j []).contains i else true
/-- What is to be shown of each operation, one behind the other: the frame is a letter, of which the slots that are listed are known. -/
def StepsSq (P : Program) (Q : Exit → Act → World → Prop) (S : Nat → Value → Prop) (R : Nat → Value → List Pr) (I : Nat → List Pr) (ds : List (Option Tmp)) (ac : List (List Nat)) (env : List (Nat × Value)) (w0 : World) (L : List Pr) : Nat → List Oper → List (List Nat) → List (List Nat) → List (List Nat) → Prop
  | i, o :: os, an :: ans, us :: uss, se :: ses => (∀ (x : Nat → Value) (w : World) (A : Act) (rest : List Pr),
      (∀ p, p ∈ env → freeAt ds ac i p.1 = true → A.tmps[p.1]?.getD undef = p.2) → (∀ j, j ∈ an → S j (x j) ∧ ∀ t, ds.getD j none = some t → A.tmps[t]?.getD undef = x j) → (∀ φ, Ent L φ → Ent rest φ) →
      Sp w0 (I i ++ (us.flatMap (fun j => R j (x j)) ++ (se.flatMap I ++ rest))) w →
      ∀ K : Act → World → Prop, (∀ v w', S i v → Sp w0 (R i v ++ (se.flatMap I ++ rest)) w' → K (A.put o.dst v) w') →
      StepOb P Q o x A w K) ∧ StepsSq P Q S R I ds ac env w0 L (i + 1) os ans uss ses
  | _, [], [], [], [] => True
  | _, _, _, _, _ => False
theorem stepsSq_get {S : Nat → Value → Prop} {R : Nat → Value → List Pr} {I : Nat → List Pr} {ds : List (Option Tmp)} {ac : List (List Nat)} {env : List (Nat × Value)} {w0 : World} {L : List Pr} :
    ∀ (l : List Oper) (k i : Nat) (o : Oper) (ans uss ses : List (List Nat)), StepsSq P Q S R I ds ac env w0 L k l ans uss ses → l[i]? = some o →
    ∀ (x : Nat → Value) (w : World) (A : Act) (rest : List Pr),
      (∀ p, p ∈ env → freeAt ds ac (k + i) p.1 = true → A.tmps[p.1]?.getD undef = p.2) → (∀ j, j ∈ ans.getD i [] → S j (x j) ∧ ∀ t, ds.getD j none = some t → A.tmps[t]?.getD undef = x j) → (∀ φ, Ent L φ → Ent rest φ) →
      Sp w0 (I (k + i) ++ ((uss.getD i []).flatMap (fun j => R j (x j)) ++ ((ses.getD i []).flatMap I ++ rest))) w →
      ∀ K : Act → World → Prop, (∀ v w', S (k + i) v → Sp w0 (R (k + i) v ++ ((ses.getD i []).flatMap I ++ rest)) w' → K (A.put o.dst v) w') →
      StepOb P Q o x A w K
  | [], _, _, _, _, _, _, _, h => by simp at h
  | o :: os, k, i, o', [], uss, ses, hs, h => by simp [StepsSq] at hs
  | o :: os, k, i, o', an :: ans, [], ses, hs, h => by simp [StepsSq] at hs
  | o :: os, k, i, o', an :: ans, us :: uss, [], hs, h => by simp [StepsSq] at hs
  | o :: os, k, 0, o', an :: ans, us :: uss, se :: ses, hs, h => by
    have : o = o' := by simpa using h
    subst this
    exact hs.1
  | o :: os, k, i + 1, o', an :: ans, us :: uss, se :: ses, hs, h => by
    have := stepsSq_get os (k + 1) i o' ans uss ses hs.2 (by simpa using h)
    rw [show k + 1 + i = k + (i + 1) by omega] at this
    exact this
/-- A region that draws its order, by pieces. S: what an operation leaves; R: the pieces it gives; I: those it has at the beginning; use: whose pieces it takes; see: whose first pieces it looks at; env: slots of old. -/
theorem wp_region_sq {rid : Nat} {l : List Oper} {a0 : Act} {w w0 : World} {L : List Pr}
    (S : Nat → Value → Prop) (R : Nat → Value → List Pr) (I : Nat → List Pr) (n sz : Nat)
    (ds : List (Option Tmp)) (pre anc use see : List (List Nat)) (env : List (Nat × Value)) (hm : P.follows .mixedOrders = true)
    (hds : l.map (·.dst) = ds) (hdist : Distinct ds)
    (hpre : (l.map fun o => (o.after.toList.filter (Region.binds .any ·)).map (·.on)) = pre)
    (hn : pre.length = n) (hanc : ancOk pre anc = true) (hflow : flowOk n anc use see = true) (hgu : guardsOk l ds anc = true) (hanl : anc.length = n)
    (hsz : a0.tmps.size = sz) (hlt : ds.all (fun d => match d with | some t => decide (t < sz) | none => true) = true)
    (henv : ∀ p, p ∈ env → a0.tmps[p.1]?.getD undef = p.2)
    (H : Sp w0 ((List.range n).flatMap I ++ L) w)
    (hstep : StepsSq P Q S R I ds anc env w0 L 0 l anc use see)
    (hend : ∀ (x : Nat → Value) (w : World) (A : Act), A = putAll a0 ds 0 x → (∀ i, i < n → S i (x i)) →
      Sp w0 ((List.range n).flatMap (fun i => if (List.range n).any (fun k => (use.getD k []).contains i) then [] else R i (x i)) ++ L) w → Q .normal A w) :
    (Code.region rid l.toArray true).wp P Q a0 w := by
  have hdl : ds.length = l.length := by rw [← hds]; simp
  have hpl : pre.length = l.length := by rw [← hpre]; simp
  refine wp_region_sp0 S R I n ds pre anc use see hm hds hdist hpre hn hanc hflow H (fun i o ho x w A rest hA hS hu hE hH => ?_) hend
  have hil : i < l.length := (List.getElem?_eq_some_iff.1 ho).1
  have hslot : ∀ j, j < n → ∀ t, ds.getD j none = some t → A.tmps[t]? = some (x j) := fun j hj t ht => by
    have hj' : j < ds.length := by omega
    rw [List.getD_eq_getElem?_getD, List.getElem?_eq_getElem hj'] at ht
    simp only [Option.getD_some] at ht
    have htl := List.all_eq_true.1 hlt _ (List.getElem_mem hj')
    rw [ht] at htl
    replace htl : t < sz := by simpa using htl
    rw [hA, putAll_eval x ds 0 j t a0 hdist (by rw [List.getElem?_eq_getElem hj', ht]) (Nat.lt_of_lt_of_eq htl hsz.symm), Nat.zero_add]
  have hanlt : ∀ j, j ∈ anc.getD i [] → j < n := fun j hj => by
    have h := List.all_eq_true.1 hanc i (by simp; omega)
    simp only [Bool.and_eq_true] at h
    have := List.all_eq_true.1 h.2 j hj
    simp only [Bool.and_eq_true, decide_eq_true_eq] at this
    omega
  have hob := stepsSq_get l 0 i o anc use see hstep ho x w A rest (fun p hp hfr => by
      rw [Nat.zero_add] at hfr
      rw [← henv p hp, hA]
      by_cases hm : some p.1 ∈ ds
      · obtain ⟨j, hj, hjt⟩ := List.getElem_of_mem hm
        have hfj := List.all_eq_true.1 hfr j (by simpa using hj)
        have hdj : ds.getD j none = some p.1 := by rw [List.getD_eq_getElem?_getD, List.getElem?_eq_getElem hj, hjt]; rfl
        rw [if_pos hdj] at hfj
        have hb := hu j (by simpa using hfj)
        have hpt : p.1 < a0.tmps.size := by
          have htl := List.all_eq_true.1 hlt _ (List.getElem_mem hj)
          rw [hjt] at htl
          replace htl : p.1 < sz := by simpa using htl
          omega
        rw [putAll_eval x ds 0 j p.1 a0 hdist (by rw [List.getElem?_eq_getElem hj, hjt]) hpt, Nat.zero_add, hb]
        unfold base
        rw [hdj]
        show (some (a0.tmps.getD p.1 undef)).getD undef = _
        rw [Array.getD_eq_getD_getElem?]; rfl
      · rw [putAll_eval_far x p.1 ds 0 a0 hm]) (fun j hj => ⟨hS j hj, fun t ht => by rw [hslot j (hanlt j hj) t ht]; rfl⟩) hE (by rw [Nat.zero_add]; exact hH)
    (Gave w0 S R i A o.dst ((see.getD i []).flatMap I ++ rest)) (fun v w' h1 h2 => ⟨v, rfl, by rwa [Nat.zero_add] at h1, by rwa [Nat.zero_add] at h2⟩)
  unfold StepOb at hob
  unfold wpList
  cases hg : o.guard with
  | none =>
    rw [hg] at hob
    have hw : Region.wanted o (yielded l.toArray A.tmps) = true := by simp [Region.wanted, hg]
    rw [if_pos hw]
    refine .inl ?_
    refine Oper.wp_mono (fun a w h => ?_) (upon_exits' hob)
    exact h
  | some p =>
    obtain ⟨j, b⟩ := p
    rw [hg] at hob
    obtain ⟨c, hc, hob⟩ := hob
    have hg2 := List.all_eq_true.1 hgu (o, anc.getD i []) (by
      rw [List.mem_iff_getElem?]
      refine ⟨i, ?_⟩
      rw [List.getElem?_zip_eq_some]
      refine ⟨ho, ?_⟩
      rw [List.getD_eq_getElem?_getD, List.getElem?_eq_getElem (by omega)]; rfl)
    simp only [hg, Bool.and_eq_true, List.contains_iff_mem] at hg2
    obtain ⟨hja, hjs⟩ := hg2
    have hjn := hanlt j hja
    obtain ⟨t, ht⟩ := Option.isSome_iff_exists.1 hjs
    have hy : yielded l.toArray A.tmps j = c := by
      unfold yielded
      have hdj : (l.toArray[j]?).bind (·.dst) = some t := by
        have hj' : j < ds.length := by omega
        rw [List.getD_eq_getElem?_getD, List.getElem?_eq_getElem hj'] at ht
        simp only [Option.getD_some] at ht
        subst hds
        have hj2 : j < l.length := by simpa using hj'
        rw [List.getElem_map] at ht
        simp [hj2, ht]
      rw [hdj]
      simp only [Option.bind_some, hslot j hjn t ht]
      rw [← hc]
      cases x j <;> rfl
    have hw : Region.wanted o (yielded l.toArray A.tmps) = (c == some b) := by simp [Region.wanted, hg, hy]
    rw [hw]
    by_cases hcb : c = some b
    · rw [if_pos hcb] at hob
      rw [if_pos (by simp [hcb])]
      exact .inl (upon_exits' hob)
    · rw [if_neg hcb] at hob
      rw [if_neg (by simpa using hcb)]
      exact hob
end
end Go.Proofs.Ytdlbhoedmaifpaa
