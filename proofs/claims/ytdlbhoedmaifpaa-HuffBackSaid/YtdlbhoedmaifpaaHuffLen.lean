/- HuffLen: lengths from counts, as plain functions. -/
import Derived.Test.YtdlbhoedmaifpaaHuffN
namespace Go.Proofs.Ytdlbhoedmaifpaa
set_option linter.unusedVariables false
namespace PL
abbrev Pk := Nat × List Nat
def keyP (p : Pk) : Int := (p.1 : Int)
def pk0 : Pk := (0, [])
def comb (a b : Pk) : Pk := (a.1 + b.1, a.2 ++ b.2)
def pairsTo (l : List Pk) (j : Nat) : List Pk := (List.range j).map fun i => comb (l.getD (2 * i) pk0) (l.getD (2 * i + 1) pk0)
def pairs (l : List Pk) : List Pk := pairsTo l (l.length / 2)
theorem pairsTo_succ (l : List Pk) (j : Nat) : pairsTo l (j + 1) = pairsTo l j ++ [comb (l.getD (2 * j) pk0) (l.getD (2 * j + 1) pk0)] := by
  unfold pairsTo; rw [List.range_succ, List.map_append]; rfl
def itemsTo (cs : List Nat) (k : Nat) : List Pk := ((List.range k).filter fun i => decide (0 < cs.getD i 0)).map fun i => (cs.getD i 0, [i])
def items (cs : List Nat) : List Pk := itemsTo cs cs.length
theorem itemsTo_succ (cs : List Nat) (k : Nat) : itemsTo cs (k + 1) = if 0 < cs.getD k 0 then itemsTo cs k ++ [(cs.getD k 0, [k])] else itemsTo cs k := by
  unfold itemsTo
  rw [List.range_succ, List.filter_append]
  by_cases h : 0 < cs.getD k 0
  · rw [if_pos h, List.filter_cons, decide_eq_true h]; simp
  · rw [if_neg h, List.filter_cons, decide_eq_false h]; simp
theorem itemsTo_len (cs : List Nat) (k : Nat) : (itemsTo cs k).length ≤ k := by
  unfold itemsTo
  rw [List.length_map]
  exact Nat.le_trans (List.length_filter_le _ _) (by simp)
theorem itemsTo_mem (cs : List Nat) (k : Nat) : ∀ p ∈ itemsTo cs k, p.1 ∈ cs ∧ p.2.length = 1 ∧ 0 < p.1 ∧ ∀ s ∈ p.2, s < k := by
  intro p hp
  unfold itemsTo at hp
  obtain ⟨i, hi, rfl⟩ := List.mem_map.1 hp
  obtain ⟨h1, h2⟩ := List.mem_filter.1 hi
  have h3 := of_decide_eq_true h2
  refine ⟨?_, rfl, h3, fun s hs => by rw [List.mem_singleton.1 hs]; exact List.mem_range.1 h1⟩
  rcases Nat.lt_or_ge i cs.length with h | h
  · show cs.getD i 0 ∈ cs
    rw [List.getD_eq_getElem?_getD, List.getElem?_eq_getElem h]; exact List.getElem_mem h
  · rw [List.getD_eq_getElem?_getD, List.getElem?_eq_none h] at h3
    simp at h3
def nxt (it l : List Pk) : List Pk := SS.isort keyP (it ++ pairs l)
def lst (it : List Pk) : Nat → List Pk
  | 0 => it
  | i + 1 => nxt it (lst it i)
/-- A weight that two packs together have as much of as both. -/
def wt (f : Pk → Nat) (l : List Pk) : Nat := (l.map f).sum
theorem wt_append (f : Pk → Nat) (a b : List Pk) : wt f (a ++ b) = wt f a + wt f b := by unfold wt; simp
theorem wt_put (f : Pk → Nat) (l : List Pk) (p : Pk) : wt f (SS.put keyP l p) = wt f l + f p := by
  induction l with
  | nil => simp [SS.put, wt]
  | cons x l ih =>
    unfold SS.put
    split
    · show f x + wt f (SS.put keyP l p) = f x + wt f l + f p
      rw [ih]; omega
    · show f p + (f x + wt f l) = f x + wt f l + f p
      omega
theorem wt_mrg (f : Pk → Nat) (u v : List Pk) : wt f (SS.mrg keyP u v) = wt f u + wt f v := by
  unfold SS.mrg
  induction v generalizing u with
  | nil => simp [wt]
  | cons y v ih =>
    rw [List.foldl_cons, ih, wt_put]
    show _ = wt f u + (f y + wt f v)
    omega
theorem wt_isort (f : Pk → Nat) (l : List Pk) : wt f (SS.isort keyP l) = wt f l := by unfold SS.isort; rw [wt_mrg]; simp [wt]
theorem wt_mem (f : Pk → Nat) {l : List Pk} {p : Pk} (h : p ∈ l) : f p ≤ wt f l := by
  induction l with
  | nil => cases h
  | cons x l ih =>
    show _ ≤ f x + wt f l
    rcases List.mem_cons.1 h with rfl | h
    · omega
    · have := ih h; omega
theorem wt_take (f : Pk → Nat) (l : List Pk) (i : Nat) : wt f (l.take i) ≤ wt f l := by
  have h := wt_append f (l.take i) (l.drop i)
  rw [List.take_append_drop] at h; omega
theorem wt_pairsTo (f : Pk → Nat) (hf : ∀ a b, f (comb a b) = f a + f b) (l : List Pk) (j : Nat) (hj : j ≤ l.length / 2) : wt f (pairsTo l j) = wt f (l.take (2 * j)) := by
  induction j with
  | zero => rfl
  | succ j ih =>
    have h1 : 2 * j < l.length := by omega
    have h2 : 2 * j + 1 < l.length := by omega
    rw [pairsTo_succ, wt_append, ih (by omega), show 2 * (j + 1) = 2 * j + 1 + 1 by omega, List.take_succ_eq_append_getElem h2, List.take_succ_eq_append_getElem h1, wt_append, wt_append]
    have e1 : l.getD (2 * j) pk0 = l[2 * j] := by rw [List.getD_eq_getElem?_getD, List.getElem?_eq_getElem h1]; rfl
    have e2 : l.getD (2 * j + 1) pk0 = l[2 * j + 1] := by rw [List.getD_eq_getElem?_getD, List.getElem?_eq_getElem h2]; rfl
    rw [e1, e2]
    simp only [wt, List.map_cons, List.map_nil, List.sum_cons, List.sum_nil, hf]
    omega
theorem wt_pairs (f : Pk → Nat) (hf : ∀ a b, f (comb a b) = f a + f b) (l : List Pk) : wt f (pairs l) ≤ wt f l := by
  unfold pairs
  rw [wt_pairsTo f hf l _ (Nat.le_refl _)]
  exact wt_take f l _
theorem wt_lst (f : Pk → Nat) (hf : ∀ a b, f (comb a b) = f a + f b) (it : List Pk) (i : Nat) : wt f (lst it i) ≤ (i + 1) * wt f it := by
  induction i with
  | zero => simp [lst]
  | succ i ih =>
    show wt f (nxt it (lst it i)) ≤ _
    unfold nxt
    rw [wt_isort, wt_append, Nat.succ_mul]
    have := wt_pairs f hf (lst it i)
    omega
theorem pairs_len (l : List Pk) : (pairs l).length = l.length / 2 := by unfold pairs pairsTo; simp
theorem lst_len (it : List Pk) (i : Nat) : (lst it (i + 1)).length = it.length + (lst it i).length / 2 := by
  show (nxt it (lst it i)).length = _
  unfold nxt
  rw [SS.len_isort, List.length_append, pairs_len]
theorem lst_le (it : List Pk) (i : Nat) : (lst it i).length ≤ 2 * it.length := by
  induction i with
  | zero => show it.length ≤ _; omega
  | succ i ih => rw [lst_len]; omega
/-- What is wanting of twice the items, in steps of halves. -/
theorem lst_gap (it : List Pk) (i : Nat) (e : Nat) (h : it.length ≤ 2 ^ (i + e)) : 2 * it.length ≤ (lst it i).length + 2 ^ e := by
  induction i generalizing e with
  | zero => show 2 * it.length ≤ it.length + _; rw [Nat.zero_add] at h; omega
  | succ i ih =>
    have h2 := ih (e + 1) (by rw [show i + (e + 1) = i + 1 + e by omega]; exact h)
    rw [lst_len]
    rw [Nat.pow_succ] at h2
    omega
theorem lst_enough (it : List Pk) (m : Nat) (hm : 1 ≤ m) (h : it.length ≤ 2 ^ m) : 2 * it.length - 2 ≤ (lst it (m - 1)).length := by
  have := lst_gap it (m - 1) 1 (by rw [show m - 1 + 1 = m by omega]; exact h)
  omega
theorem lst_mem (P : Pk → Prop) (hc : ∀ a b, P a → P b → P (comb a b)) (it : List Pk) (hi : ∀ p ∈ it, P p) (i : Nat) : ∀ p ∈ lst it i, P p := by
  induction i with
  | zero => exact hi
  | succ i ih =>
    intro p hp
    have hp : p ∈ SS.isort keyP (it ++ pairs (lst it i)) := hp
    rcases List.mem_append.1 (SS.mem_isort.1 hp) with hp | hp
    · exact hi p hp
    · unfold pairs pairsTo at hp
      obtain ⟨j, hj, rfl⟩ := List.mem_map.1 hp
      have hj := List.mem_range.1 hj
      refine hc _ _ (ih _ ?_) (ih _ ?_)
      · rw [List.getD_eq_getElem?_getD, List.getElem?_eq_getElem (show 2 * j < _ by omega)]; exact List.getElem_mem _
      · rw [List.getD_eq_getElem?_getD, List.getElem?_eq_getElem (show 2 * j + 1 < _ by omega)]; exact List.getElem_mem _
def sorted (cs : List Nat) : List Pk := SS.isort keyP (items cs)
/-- The symbols, each as often as its length says. -/
def flat (cs : List Nat) (m : Nat) : List Nat := if (items cs).length < 2 then (items cs).flatMap Prod.snd else ((lst (sorted cs) (m - 1)).take (2 * (items cs).length - 2)).flatMap Prod.snd
def lens (cs : List Nat) (m : Nat) : List Nat := (List.range cs.length).map fun i => (flat cs m).count i
theorem lens_len (cs : List Nat) (m : Nat) : (lens cs m).length = cs.length := by simp [lens]
/-- What may be handed in. -/
def may (l : List Int) (m : Int) : Bool := decide (l.length ≤ 1024) && (decide (1 ≤ m ∧ m ≤ 15) && (l.all (fun n => decide (0 ≤ n ∧ n ≤ 4294967296)) && decide ((items (l.map Int.toNat)).length ≤ 2 ^ m.toNat)))
end PL
/-- Two rows, place by place. -/
def All2 {α β : Type} (R : α → β → Prop) : List α → List β → Prop
  | [], [] => True
  | a :: us, b :: vs => R a b ∧ All2 R us vs
  | _, _ => False
section
variable {α β : Type} {R : α → β → Prop}
theorem All2.len : ∀ {us : List α} {vs : List β}, All2 R us vs → us.length = vs.length
  | [], [], _ => rfl
  | a :: us, b :: vs, h => by rw [List.length_cons, List.length_cons, All2.len h.2]
theorem All2.get (d : α) (e : β) : ∀ {us : List α} {vs : List β}, All2 R us vs → ∀ i, i < us.length → R (us.getD i d) (vs.getD i e)
  | [], [], _, i, h => by simp at h
  | a :: us, b :: vs, h, 0, _ => h.1
  | a :: us, b :: vs, h, i + 1, hi => All2.get d e h.2 i (by simpa using hi)
theorem All2.append : ∀ {us : List α} {vs : List β} {cs : List α} {ds : List β}, All2 R us vs → All2 R cs ds → All2 R (us ++ cs) (vs ++ ds)
  | [], [], _, _, _, h => h
  | a :: us, b :: vs, _, _, h, k => ⟨h.1, All2.append h.2 k⟩
theorem All2.snoc {us : List α} {vs : List β} {a : α} {b : β} (h : All2 R us vs) (k : R a b) : All2 R (us ++ [a]) (vs ++ [b]) := h.append ⟨k, trivial⟩
theorem All2.mono {R' : α → β → Prop} (hR : ∀ a b, R a b → R' a b) : ∀ {us : List α} {vs : List β}, All2 R us vs → All2 R' us vs
  | [], [], _ => trivial
  | a :: us, b :: vs, h => ⟨hR _ _ h.1, All2.mono hR h.2⟩
theorem All2.put {ka : α → Int} {kb : β → Int} (hk : ∀ a b, R a b → ka a = kb b) : ∀ {us : List α} {vs : List β} {a : α} {b : β}, All2 R us vs → R a b → All2 R (SS.put ka us a) (SS.put kb vs b)
  | [], [], _, _, _, h => ⟨h, trivial⟩
  | x :: us, y :: vs, a, b, h, k => by
    unfold SS.put
    rw [hk _ _ h.1, hk _ _ k]
    split
    · exact ⟨h.1, All2.put hk h.2 k⟩
    · exact ⟨k, h⟩
theorem All2.mrg {ka : α → Int} {kb : β → Int} (hk : ∀ a b, R a b → ka a = kb b) : ∀ {cs : List α} {ds : List β} {us : List α} {vs : List β}, All2 R us vs → All2 R cs ds → All2 R (SS.mrg ka us cs) (SS.mrg kb vs ds)
  | [], [], _, _, h, _ => h
  | c :: cs, d :: ds, _, _, h, k => by
    show All2 R (SS.mrg ka (SS.put ka _ c) cs) (SS.mrg kb (SS.put kb _ d) ds)
    exact All2.mrg hk (h.put hk k.1) k.2
theorem All2.isort {ka : α → Int} {kb : β → Int} (hk : ∀ a b, R a b → ka a = kb b) {us : List α} {vs : List β} (h : All2 R us vs) : All2 R (SS.isort ka us) (SS.isort kb vs) := All2.mrg hk (show All2 R [] [] from trivial) h
end
/-- Packs as they lie. -/
def EncL (F : PoolT) (ts : List PL.Pk) (xs : List PK) : Prop := All2 (fun t x => Enc F t.1 t.2 x) ts xs
theorem EncL.isort {F : PoolT} {ts : List PL.Pk} {xs : List PK} (h : EncL F ts xs) : EncL F (SS.isort PL.keyP ts) (SS.isort keyK xs) := All2.isort (fun _ _ h => by show _ = PK.c _; rw [h.count]; rfl) h
theorem EncL.mono {F F' : PoolT} {ts : List PL.Pk} {xs : List PK} (h : EncL F ts xs) (k : ∀ e ∈ F, e ∈ F') : EncL F' ts xs := All2.mono (fun _ _ h => Enc.mono h k) h
def leafs (cs : List Nat) (k : Nat) : List PK := (PL.itemsTo cs k).map fun p => ⟨(p.1 : Int), ((p.2.getD 0 0 : Nat) : Int), none⟩
theorem leafs_len (cs : List Nat) (k : Nat) : (leafs cs k).length = (PL.itemsTo cs k).length := by simp [leafs]
theorem leafs_succ (cs : List Nat) (k : Nat) : leafs cs (k + 1) = if 0 < cs.getD k 0 then leafs cs k ++ [⟨((cs.getD k 0 : Nat) : Int), (k : Int), none⟩] else leafs cs k := by
  unfold leafs
  rw [PL.itemsTo_succ]
  split
  · rw [List.map_append]; rfl
  · rfl
theorem leafs_enc (F : PoolT) (cs : List Nat) (k : Nat) : EncL F (PL.itemsTo cs k) (leafs cs k) := by
  have h : ∀ l : List PL.Pk, (∀ p ∈ l, p.2.length = 1) → EncL F l (l.map fun p => ⟨(p.1 : Int), ((p.2.getD 0 0 : Nat) : Int), none⟩) := by
    intro l
    induction l with
    | nil => intro _; trivial
    | cons p l ih =>
      intro hp
      refine ⟨?_, ih fun q hq => hp q (List.mem_cons_of_mem _ hq)⟩
      obtain ⟨c, s⟩ := p
      obtain ⟨x, rfl⟩ := List.length_eq_one_iff.1 (hp (c, s) (List.mem_cons_self ..))
      exact .leaf c x
  exact h _ fun p hp => (PL.itemsTo_mem cs k p hp).2.1
end Go.Proofs.Ytdlbhoedmaifpaa
