/- CrcGoes: the walk of the law. -/
import Derived.Test.YtkgnihpcldgedaaDoorCrcTails
import Derived.Test.YtkgnihpcldgedaaDoorCrcBurst
namespace Go.Proofs.YtkgnihpcldgedaaDoor
open Go.RowKit

theorem field_addr (a : Addr) (m j : Nat) (hj : 0 < j) : (⟨(a.add m).block, (a.add m).off + j, none⟩ : Addr) = a.add (m + j) := by
  unfold Addr.add
  rw [if_neg (show ¬ (m + j = 0) by omega)]
  by_cases hm : m = 0
  · subst hm; simp
  · rw [if_neg hm]; simp [Nat.add_assoc]
/-- The parts that came in. -/
structure GoesArg (w : World) (A : Option Addr) (len : Nat) (rs : List Bool) (bs : List (List UInt8)) : Prop where
  rlen : rs.length = len
  blen : bs.length = len
  small : len ≤ 9223372036854775807
  flag : ∀ (i : Nat) (h : i < rs.length), ∃ ad, A = some ad ∧ w.cell? (ad.add (i * 2)) = some (.bool rs[i])
  byt : ∀ (i : Nat) (h : i < bs.length), ∃ ad v, A = some ad ∧ w.cell? (ad.add (i * 2 + 1)) = some v ∧ Byt w v bs[i]

/-- What holds at a round's head: the pieces since the last Reset. -/
structure GoesAt (w wr : World) (all : Value) (ls : List (List UInt8)) (vs : List Value) : Prop where
  vlen : vs.length = ls.length
  rows : wr.ownsRow (w.heap.size + 1) 22 1 all vs.length vs
  each : ∀ (i : Nat) (h : i < ls.length) (h' : i < vs.length), wr.ownsRow (w.heap.size + 1) 5 1 vs[i] ls[i].length (cells8 ls[i])
  short : ∀ l ∈ ls, l.length ≤ 300
  run : RunIs wr w.heap.size (PCrc.of ls.flatten) (total ls)
  below : Below w.heap.size w wr
theorem GoesAt.drewN {w wr : World} {all : Value} {ls : List (List UInt8)} {vs : List Value} (h : GoesAt w wr all ls vs) (n : Nat) : GoesAt w (wr.drewN n) all ls vs :=
  ⟨h.vlen, h.rows, h.each, h.short, h.run, bel_drewN h.below n⟩
/-- Behind 'own := append(nil, b...)': b's row stands beside. -/
structure GoesMid (w wr : World) (all own : Value) (ls : List (List UInt8)) (vs : List Value) (b : List UInt8) (s m : Nat) : Prop where
  vlen : vs.length = ls.length
  rows : wr.ownsRow (w.heap.size + 1) 22 1 all vs.length vs
  each : ∀ (i : Nat) (h : i < ls.length) (h' : i < vs.length), wr.ownsRow (w.heap.size + 1) 5 1 vs[i] ls[i].length (cells8 ls[i])
  mine : wr.ownsRow (w.heap.size + 1) 5 1 own b.length (cells8 b)
  short : ∀ l ∈ ls, l.length ≤ 300
  run : RunIs wr w.heap.size s m
  below : Below w.heap.size w wr
theorem GoesAt.mid {w wr w' : World} {all own : Value} {ls : List (List UInt8)} {vs : List Value} {b : List UInt8} (h : GoesAt w wr all ls vs) (hg : wr.grownBy w' none) (hown : w'.ownsRow (w.heap.size + 1) 5 1 own b.length (cells8 b)) :
    GoesMid w w' all own ls vs b (PCrc.of ls.flatten) (total ls) :=
  ⟨h.vlen, own_keep h.rows fun g cur hh => hg.block g (heap_lt hh) (by simp), fun i h1 h2 => own_keep (h.each i h1 h2) fun g cur hh => hg.block g (heap_lt hh) (by simp), hown, h.short,
    (hg.block _ h.run.lt (by simp)).trans h.run, h.below.grown hg h.below.size (by simp)⟩
theorem GoesMid.alloc {w wr : World} {all own : Value} {ls : List (List UInt8)} {vs : List Value} {b : List UInt8} {s m : Nat} (h : GoesMid w wr all own ls vs b s m) (o : Obj) : GoesMid w (wr.alloc o) all own ls vs b s m :=
  ⟨h.vlen, h.rows.alloc _, fun i h1 h2 => (h.each i h1 h2).alloc _, h.mine.alloc _, h.short, Blk.alloc h.run _, h.below.alloc h.below.size _⟩
theorem GoesMid.drewN {w wr : World} {all own : Value} {ls : List (List UInt8)} {vs : List Value} {b : List UInt8} {s m : Nat} (h : GoesMid w wr all own ls vs b s m) (n : Nat) : GoesMid w (wr.drewN n) all own ls vs b s m :=
  ⟨h.vlen, h.rows, h.each, h.mine, h.short, h.run, bel_drewN h.below n⟩
/-- Add turns the run alone. -/
theorem GoesMid.added {w wr w' : World} {all own : Value} {ls : List (List UInt8)} {vs : List Value} {b : List UInt8} {s m s' m' : Nat} (h : GoesMid w wr all own ls vs b s m) (hM : Mod (· = w.heap.size) wr w') (hr : RunIs w' w.heap.size s' m') :
    GoesMid w w' all own ls vs b s' m' :=
  ⟨h.vlen, own_keep h.rows fun g cur hh => mod_kind h.run hM (by decide) hh, fun i h1 h2 => own_keep (h.each i h1 h2) fun g cur hh => mod_kind h.run hM (by decide) hh,
    own_keep h.mine fun g cur hh => mod_kind h.run hM (by decide) hh, h.short, hr, h.below.trans (hM.below h.below.size (fun b hb hc => by omega))⟩
theorem of_more (ls : List (List UInt8)) (b : List UInt8) (p : List (List UInt8)) (hp : p.flatten = b) : PCrc.inv (PCrc.reg (PCrc.inv (PCrc.of ls.flatten)) p.flatten) = PCrc.of (ls ++ [b]).flatten := by
  have hM : (4294967295 : Nat) < 4294967296 := by omega
  have h1 : PCrc.inv (PCrc.of ls.flatten) = PCrc.reg 4294967295 ls.flatten := PCrc.inv_inv _ (PCrc.reg_lt ls.flatten 4294967295 hM)
  rw [h1, hp, ← PCrc.reg_append]
  simp [PCrc.of]
theorem total_more (ls : List (List UInt8)) (b : List UInt8) : total (ls ++ [b]) = total ls + b.length := by simp [total]
theorem Parts.drew {w : World} {v : Value} {ls : List (List UInt8)} (h : Parts w v ls) : Parts w.drew v ls := h.keep fun _ _ _ _ => rfl
theorem Byt.drop {w : World} {A : Option Addr} {n c : Nat} {l : List UInt8} (h : Byt w (.slice A n c) l) (k : Nat) (hk : k ≤ n) : Byt w (.slice (A.map (·.add k)) (n - k) (c - k)) (l.drop k) := by
  obtain ⟨A', c', e, hr, h1, h2⟩ := h
  injection e with e1 e2 e3
  subst e1 e2 e3
  refine ⟨_, _, by rw [List.length_drop], fun hn => ?_, by simp; omega, by omega⟩
  obtain ⟨ad, rfl, hc⟩ := hr (by intro h0; apply hn; unfold cells8 at h0 ⊢; rw [List.map_drop, h0, List.drop_nil])
  refine ⟨ad.add k, rfl, fun j u hu => ?_⟩
  unfold cells8 at hu
  rw [List.map_drop, List.getElem?_drop] at hu
  rw [Go.Addr.add_add]
  exact hc _ u hu
theorem Byt.drop0 {w : World} {A : Option Addr} {n c : Nat} {l : List UInt8} (h : Byt w (.slice A n c) l) (k : Nat) (hk : k ≤ n) (hc : c = k) : Byt w (.slice A (n - k) (c - k)) (l.drop k) := by
  obtain ⟨A', c', e, hr, h1, h2⟩ := h
  injection e with e1 e2 e3
  subst e1 e2 e3
  have : l.drop k = [] := List.drop_eq_nil_iff.2 (by omega)
  rw [this]
  exact ⟨A, c - k, by simp; omega, Rd.nil, by simp, by omega⟩
theorem total_td (b : List UInt8) (k : Nat) : total [b.take k, b.drop k] = b.length := by simp [total]
/-- string(b). -/
def strOf (l : List UInt8) : ByteArray := ⟨l.toArray⟩
theorem run_str {P : Program} (w : World) (src dst e : TypeId) (v : Value) (l : List UInt8) (hs : P.underlying src = some (.slice e)) (he : P.underlying e = some (.int .u8)) (hd : P.underlying dst = some .string) (h : Byt w v l) :
    (convert src dst v).run P w = .ok (.string (strOf l)) w := by
  obtain ⟨A, c, rfl, hr, _, _⟩ := h
  have hnil : l = [] → strOf l = ByteArray.empty := fun h => by subst h; rfl
  rcases A with _ | ad
  · have hl : l = [] := by
      rcases l with _ | ⟨x, l⟩
      · rfl
      · obtain ⟨ad, h, _⟩ := hr (by simp [cells8]); cases h
    rw [hnil hl]
    exact run_convert_bytes_nil w src e hs he _ _ dst hd
  · have hload : (loadCells ad l.length).run P w = .ok ((l.map fun c : UInt8 => (c.toNat : Int)).map (Value.int .u8)).toArray w := by
      have := run_loadCells_list (P := P) w ad ((l.map fun c : UInt8 => (c.toNat : Int)).map (Value.int .u8)) (fun j v hj => by
        obtain ⟨ad', h, hc⟩ := hr (by rintro h0; unfold cells8 at h0; rw [List.map_map] at hj; have : l = [] := by simpa using h0
                                      subst this; simp at hj)
        injection h with h
        subst h
        refine hc j v ?_
        rw [List.map_map] at hj
        exact hj)
      simpa using this
    rw [run_convert_bytes_string w src dst e _ _ _ hs he hd, run_bytesToString w _ _ _ _ hload, foldl_push_bytes]
    congr 2
    simp [strOf, ByteArray.empty, ByteArray.emptyWithCapacity, List.map_map, Function.comp_def]
    rfl
theorem GoesMid.next {w wr w' : World} {all own all' : Value} {ls : List (List UInt8)} {vs : List Value} {b : List UInt8} (h : GoesMid w wr all own ls vs b (PCrc.of (ls ++ [b]).flatten) (total (ls ++ [b]))) (hb : b.length ≤ 300)
    (hg : wr.grownBy w' all.ownBlock) (hrows : w'.ownsRow (w.heap.size + 1) 22 1 all' (vs ++ [own]).length (vs ++ [own])) : GoesAt w w' all' (ls ++ [b]) (vs ++ [own]) := by
  have hk : ∀ (g : Nat) (cur : Array Value), wr.heap[g]? = some (Obj.cells cur 5 (0, 0)) → w'.heap[g]? = wr.heap[g]? := fun g cur hh => grown_kind h.rows hg (by decide) hh
  refine ⟨by simp [h.vlen], hrows, fun i h1 h2 => ?_, fun l hl => ?_, ?_, h.below.grown hg h.below.size fun k hk => ?_⟩
  · by_cases hi : i < ls.length
    · have hi' : i < vs.length := by rw [h.vlen]; exact hi
      rw [List.getElem_append_left hi, List.getElem_append_left hi']
      exact own_keep (h.each i hi hi') hk
    · have e1 : i = ls.length := by simp at h1; omega
      subst e1
      have e2 : (ls ++ [b])[ls.length]'h1 = b := by simp
      have e3 : (vs ++ [own])[ls.length]'h2 = own := by simp [← h.vlen]
      rw [e2, e3]
      exact own_keep h.mine hk
  · rcases List.mem_append.1 hl with hl | hl
    · exact h.short l hl
    · have : l = b := by simpa using hl
      subst this; exact hb
  · exact (grown_kind h.rows hg (by decide) h.run).trans h.run
  · obtain ⟨cur, hc⟩ := own_block h.rows hk
    rcases h.rows.2 with ⟨rfl, _⟩ | ⟨g, cap, cur', rfl, hb', _⟩
    · simp [Value.ownBlock] at hk
    · have : g = k := by simpa [Value.ownBlock] using hk
      omega
theorem GoesAt.parts {w wr : World} {all : Value} {ls : List (List UInt8)} {vs : List Value} (h : GoesAt w wr all ls vs) (hm : ls.length ≤ 1000) : Parts wr all ls := by
  rcases h.rows.2 with ⟨rfl, h0⟩ | ⟨g, cap, cur, rfl, hb, hh, h1, h2, h3, h4⟩
  · have hl : ls = [] := List.eq_nil_of_length_eq_zero (by rw [← h.vlen]; exact h0)
    subst hl
    exact parts_nil wr
  · refine ⟨_, cap, vs, by rw [h.vlen], fun _ => ⟨_, rfl, fun j u hu => ?_⟩, h.vlen, by unfold maxLen; omega, fun u hu => ?_, fun i h1 h2 => own_byt (h.each i h1 h2)⟩
    · have hj := (List.getElem?_eq_some_iff.1 hu).1
      have e1 : (Addr.add ⟨g, 0, none⟩ j) = ⟨g, j, none⟩ := by
        unfold Addr.add; split
        · rename_i h0; subst h0; rfl
        · simp
      rw [e1, h.rows.cellAt j (by omega)]
      exact hu
    · obtain ⟨i, hi, rfl⟩ := List.getElem_of_mem hu
      obtain ⟨A, c, e, _⟩ := own_byt (h.each i (by rw [← h.vlen]; exact hi) hi)
      exact ⟨A, _, c, e⟩
theorem infoS : (Tryd.prog.info? 22).map (fun i => (i.zero, i.size, i.bytes)) = some (some (.slice none 0 0), 1, 24) := by kernel_rfl
theorem total_le (ls : List (List UInt8)) (h : ∀ l ∈ ls, l.length ≤ 300) : total ls ≤ 300 * ls.length := by
  unfold total
  induction ls with
  | nil => simp
  | cons l ls ih =>
    have h1 := h l (List.mem_cons_self ..)
    have h2 := ih fun m hm => h m (List.mem_cons_of_mem _ hm)
    simp only [List.flatten_cons, List.length_append, List.length_cons]
    omega
theorem GoesAt.later {w wr w' : World} {all : Value} {ls : List (List UInt8)} {vs : List Value} (h : GoesAt w wr all ls vs) (hB : Below wr.heap.size wr w') : GoesAt w w' all ls vs :=
  ⟨h.vlen, own_keep h.rows fun g _ hh => hB.block g (heap_lt hh), fun i h1 h2 => own_keep (h.each i h1 h2) fun g _ hh => hB.block g (heap_lt hh), h.short,
    (hB.block _ h.run.lt).trans h.run, h.below.trans (hB.mono h.below.size)⟩

set_option maxRecDepth 100000 in
set_option maxHeartbeats 2000000 in
theorem goes_any (A : Option Addr) (ca len : Nat) (rs : List Bool) (bs : List (List UInt8)) (w : World) (ht : CrcTab w) (ha : GoesArg w A len rs bs) :
    Calls Tryd.prog 5 #[.slice A len ca] w fun r w' => r = .returned (.bool true) ∧ Below w.heap.size w w' := by
  have hlen := ha.small
  go_enter Tryd.func5, Tryd.ntmps5
  go_wp2
  go_loopw [4, 5, 6, 7] (fun s m v i wr => ∃ (k : Nat) (ls : List (List UInt8)) (vs : List Value), k ≤ len ∧ k ≤ 30 ∧ ls.length ≤ k ∧ i = .int .i64 k ∧ s = .int .u32 (PCrc.of ls.flatten : Nat) ∧ m = .int .i64 (total ls : Nat) ∧ GoesAt w wr v ls vs) (fun _ _ _ i _ => 30 - (intOf i).toNat)
  case atStart =>
    refine ⟨0, [], [], by omega, by omega, by simp, rfl, by rw [show ([] : List (List UInt8)).flatten = [] from rfl, of_0]; rfl, rfl, rfl, own_nil _ _ _ _, fun i h => by simp at h, fun l hl => by simp at hl, ?_, (Below.refl _ _).alloc (Nat.le_refl _) _⟩
    rw [show ([] : List (List UInt8)).flatten = [] from rfl, of_0]
    exact Blk.new w _ _
  case round =>
    obtain ⟨k, ls, vs, hk, hk30, hlk, rfl, rfl, rfl, hG⟩ := hrel
    by_cases hkl : k < len
    · by_cases hk3 : k < 30
      · have hrl := ha.rlen
        have hbl := ha.blen
        obtain ⟨ad, rfl, hf⟩ := ha.flag k (by omega)
        obtain ⟨_, v, e1, hv, hby⟩ := ha.byt k (by omega)
        injection e1 with e1
        subst e1
        have hBe := hG.below
        replace hf := (hBe.cell (cell_lt hf)).trans hf
        replace hv := (hBe.cell (cell_lt hv)).trans hv
        rw [← field_addr ad (k * 2) 1 (by omega)] at hv
        obtain ⟨B, cb, rfl, rb, cb1, cb2⟩ := id hby
        obtain ⟨r, er⟩ : ∃ r, rs[k] = r := ⟨_, rfl⟩
        obtain ⟨b0, eb⟩ : ∃ b0, bs[k] = b0 := ⟨_, rfl⟩
        rw [er] at hf
        rw [eb] at hv hby rb cb1
        clear er eb hrl hbl
        unfold maxLen at cb2
        obtain ⟨n, hn⟩ : ∃ n : Nat, n = min b0.length 300 := ⟨_, rfl⟩
        have hmn : ∀ W : World, (Builtin.min_ #[3, 3] 3 #[.int .i64 (b0.length : Int), .int .i64 300]).run Tryd.prog W = .ok (.int .i64 (n : Int)) W := fun W => by
          simp [Builtin.min_, Builtin.min2]
          split <;> omega
        have hna : n ≤ b0.length := by omega
        have hnk : n ≤ 300 := by omega
        clear hn
        have hb := hby.take n hna
        obtain ⟨b, ebb⟩ : ∃ b, b0.take n = b := ⟨_, rfl⟩
        have hbl : b.length = n := by rw [← ebb]; simp; omega
        rw [ebb] at hb
        have HL := Lib.hid hbl
        clear hbl ebb
        go_wp2
        go_quiet (fail)
        go_upto_if 37 with fail
        go_cut [4, 5, 6] (fun s m v wx => ∃ (ls : List (List UInt8)) (vs : List Value), ls.length ≤ k ∧ s = .int .u32 (PCrc.of ls.flatten : Nat) ∧ m = .int .i64 (total ls : Nat) ∧ GoesAt w wx v ls vs)
        case first =>
          clear hmn
          cases r with
          | false =>
            go_wp2
            go_meet
            exact ⟨ls, vs, hlk, rfl, rfl, hG.drewN _⟩
          | true =>
            go_wp2_with fail
            refine (reset_any _ _ _ _ (hG.run.drewN _)).mono ?_
            rintro e w1 ⟨rfl, hr1, hM1⟩
            go_wp2
            go_meet
            refine ⟨[], [], by simp, by rw [show ([] : List (List UInt8)).flatten = [] from rfl, of_0]; rfl, rfl, rfl, own_nil _ _ _ _, fun i h => by simp at h, fun l hl => by simp at hl, ?_, ?_⟩
            · rw [show ([] : List (List UInt8)).flatten = [] from rfl, of_0]
              exact hr1
            · exact (bel_drewN hG.below nq).trans (hM1.below (B := w.heap.size) hG.below.size (fun b hb hc => by omega))
        case rest =>
          clear hmn hG
          obtain ⟨ls', vs', hlk', rfl, rfl, hG⟩ := hcut
          obtain ⟨i8, hi, hz, hs8, hby8⟩ := info_parts info8
          have hbc := hb.below hG.below
          have rbc : Rd wc B (cells8 b) := by
            obtain ⟨_, _, e1, rbc, _, _⟩ := id hbc
            injection e1 with e1 e2 e3
            subst e1
            exact rbc
          go_upto_region 12 with fail
          go_wp2_with (at_builtin; refine wpList_append_rd _ rfl _ _ 22 rfl (w.heap.size + 1) 5 i8 (.int .u8 0) 1 1 Tryd.underlying22 hi hz hs8 hby8 rfl (by decide) (.slice none 0 0) 0 [] rfl (own_nil _ _ _ _) B n cb (cells8 b) rfl (by simp [cells8, HL.out]) rbc (cells8_one b) (by simp [maxLen]; omega) (by omega) (by have := hG.below.size; have := hG.run.lt; omega) ?_)
          intro ov w1 hown hg _ _
          have hMid := hG.mid hg (show w1.ownsRow (w.heap.size + 1) 5 1 ov b.length (cells8 b) by rw [HL.out]; exact hown)
          clear hG hown hg
          obtain ⟨Ao, co, rfl, hco1, hco2⟩ : ∃ Ao co, ov = .slice Ao n co ∧ n ≤ co ∧ co ≤ maxLen := by
            obtain ⟨Ao, co, e, _, c1, c2⟩ := own_byt hMid.mine
            rw [HL.out] at e c1
            exact ⟨Ao, co, e, c1, c2⟩
          unfold maxLen at hco2
          have htl := total_le ls' hMid.short
          go_upto_if 43 with fail
          go_cut [] (fun wx => GoesMid w wx u6 (.slice Ao n co) ls' vs' b (PCrc.of (ls' ++ [b]).flatten) (total (ls' ++ [b])))
          case first =>
            by_cases hp : k % 2 = 0
            · have hpp : ((k : Int) % 2 == 0) = true := by rw [beq_iff_eq]; omega
              go_wp2_with fail
              refine (add_any w.heap.size (PCrc.of ls'.flatten) (total ls') _ [b] _ (PCrc.of_lt _) (by rw [tot_one, HL.out]; omega) ?ga ?gb ?gc (by have := ht.lt; omega)).mono ?_
              case ga => exact (ht.below hMid.below (Nat.le_refl _)).alloc _
              case gb => exact Blk.alloc hMid.run _
              case gc => exact Parts.one (own_byt hMid.mine) _ rfl
              rintro e w2 ⟨rfl, hr2, hM2⟩
              rw [of_more ls' b [b] (by simp), tot_one, ← total_more] at hr2
              go_wp2
              go_meet
              exact (hMid.alloc _).added hM2 hr2
            · have hpp : ((k : Int) % 2 == 0) = false := by rw [beq_eq_false_iff_ne]; omega
              have hbo := own_byt hMid.mine
              by_cases hc : co = n / 2
              · have n0 : n ≤ 0 := by omega
                have c0 : co ≤ 0 := by omega
                obtain rfl : n = 0 := by omega
                obtain rfl : co = 0 := by omega
                clear hc n0 c0
                have hbn : b = [] := List.eq_nil_of_length_eq_zero HL.out
                have HB := Lib.hid hbn
                clear hbn
                have d7 : IntKind.i64.wrap 0 = 0 := by decide
                go_wp2
                go_still_tail 10, (by kernel_rfl)
                change wpList _ _ _ _ _ w1.drew
                go_wp2_with fail
                refine (add_any w.heap.size (PCrc.of ls'.flatten) (total ls') _ [b, b] _ (PCrc.of_lt _) ?_ ?_ ?_ ?_ (by have := ht.lt; omega)).mono ?_
                · rw [HB.out, show total [[], []] = 0 from rfl]; omega
                · exact (ht.below hMid.below (Nat.le_refl _)).alloc _
                · exact Blk.alloc hMid.run _
                · exact (Parts.two hbo hbo _ rfl).drew
                · rintro e w2 ⟨rfl, hr2, hM2⟩
                  rw [of_more ls' b [b, b] (by simp [HB.out]), show total [b, b] = b.length by rw [HB.out]; rfl, ← total_more] at hr2
                  go_wp2
                  go_meet
                  exact ((hMid.alloc _).drewN 1).added hM2 hr2
              · have d1 : n / 2 ≤ n := by omega
                have d2 : (n : Int) / 2 ≤ n := by omega
                have d3 : (n : Int) / 2 ≤ co := by omega
                have d4 : n / 2 ≤ co := by omega
                have d5 : (0 : Int) ≤ (n : Int) / 2 := by omega
                have d6 : ((n : Int) / 2).toNat = n / 2 := by omega
                have d7 : IntKind.i64.wrap ((n : Int) / 2) = (n : Int) / 2 := IntWalk.i64_in _ (by omega)
                go_wp2
                go_still_tail 10, (by kernel_rfl)
                change wpList _ _ _ _ _ w1.drew
                go_wp2_with fail
                refine (add_any w.heap.size (PCrc.of ls'.flatten) (total ls') _ [b.take (n / 2), b.drop (n / 2)] _ (PCrc.of_lt _) ?_ ?_ ?_ ?_ (by have := ht.lt; omega)).mono ?_
                · rw [total_td, HL.out]; omega
                · exact (ht.below hMid.below (Nat.le_refl _)).alloc _
                · exact Blk.alloc hMid.run _
                · exact (Parts.two (hbo.take (n / 2) (by rw [HL.out]; exact d1)) (hbo.drop (n / 2) d1) _ rfl).drew
                · rintro e w2 ⟨rfl, hr2, hM2⟩
                  rw [of_more ls' b [b.take (n / 2), b.drop (n / 2)] (by simp), total_td, ← total_more] at hr2
                  go_wp2
                  go_meet
                  exact ((hMid.alloc _).drewN 1).added hM2 hr2
          case rest =>
            clear hMid htl
            obtain ⟨iS, hiS, hzS, hsS, hbS⟩ := info_parts infoS
            have hbw := hb.below hcut.below
            have hvl := hcut.vlen
            go_wp2_with fail
            refine (ron_any (PCrc.of ls'.flatten) _ b _ (PCrc.of_lt _) hbw).mono ?_
            rintro e w2 ⟨rfl, rfl⟩
            rw [show PCrc.inv (PCrc.reg (PCrc.inv (PCrc.of ls'.flatten)) b) = PCrc.of (ls' ++ [b]).flatten by rw [← of_more ls' b [b] (by simp)]; simp]
            have htl := total_le ls' hcut.short
            have htot : IntKind.i64.wrap ((total ls' : Nat) + (n : Int)) = ((total (ls' ++ [b]) : Nat) : Int) := by
              rw [total_more, HL.out, IntWalk.i64_in _ (by omega)]; omega
            obtain ⟨q, hq⟩ : ∃ q, PCrc.of (ls' ++ [b]).flatten = q := ⟨_, rfl⟩
            obtain ⟨mm, hmm⟩ : ∃ mm, total (ls' ++ [b]) = mm := ⟨_, rfl⟩
            rw [hmm] at htot
            rw [hq]
            rw [hq, hmm] at hcut
            have HQ := Lib.hid hq
            have HM := Lib.hid hmm
            clear hq hmm
            go_upto_region 18 with fail
            go_wp2_with (at_builtin; refine wpList_append_rd _ rfl _ _ 33 rfl (w.heap.size + 1) 22 iS (.slice none 0 0) 1 24 Tryd.underlying33 hiS hzS hsS hbS rfl (by decide) u6 vs'.length vs' rfl (hcut.rows.alloc _) (some ⟨_, 0, none⟩) 1 1 [.slice Ao n co] rfl rfl (Rd.new _ _ _ rfl) (by simp [Value.oneCell']) (by unfold maxLen; omega) (by omega) (hcut.alloc _).run.lt ?_)
            intro all' w3 hown' hg' _ _
            have hMa : GoesMid w (wc.alloc (.cells #[.slice Ao n co] 22)) u6 (.slice Ao n co) ls' vs' b q mm := hcut.alloc _
            have hN := GoesMid.next (by rw [HQ.out, HM.out]; exact hMa) (by rw [HL.out]; exact hnk) hg' (by have h := hown'; rw [show ls'.length + 1 = (vs' ++ [Value.slice Ao n co]).length by simp [hvl]] at h; exact h)
            have hown3 := own_keep hMa.mine fun g cur hh => grown_kind hMa.rows hg' (by decide) hh
            have hbo := own_byt hown3
            have hrun : RunIs w3 w.heap.size q mm := by have := hN.run; rwa [HQ.out, HM.out] at this
            have hb3 := hb.below hN.below
            have hll : (ls' ++ [b]).length ≤ k + 1 := by simp; omega
            have htl2 := total_le (ls' ++ [b]) hN.short
            have HO := Lib.hid hown'
            have HV := Lib.hid hvl
            clear hown' hg' hown3 hcut hMa hvl htot htl
            go_wp2_with fail
            refine (sum_any w.heap.size q mm _ hrun).mono ?_
            rintro e w4 ⟨rfl, rfl⟩
            go_wp2_with fail
            refine (len_any w.heap.size q mm _ hrun).mono ?_
            rintro e w4 ⟨rfl, rfl⟩
            go_wp2_with fail
            refine (of_val all' (ls' ++ [b]) q _ HQ.out (by omega) (ht.below hN.below (Nat.le_refl _)) (hN.parts (by omega))).mono ?_
            rintro e w5 ⟨rfl, hB5⟩
            have hbo5 := hbo.below hB5
            have hb5 := hb3.below hB5
            have hN5 := hN.later hB5
            have hs1 : (convert 22 9 (.slice Ao n co)).run Tryd.prog w5 = .ok (.string (strOf b)) w5 := run_str w5 _ _ 5 _ b Tryd.underlying22 Tryd.underlying5 Tryd.underlying9 hbo5
            have hs2 : (convert 22 9 (.slice B n cb)).run Tryd.prog w5 = .ok (.string (strOf b)) w5 := run_str w5 _ _ 5 _ b Tryd.underlying22 Tryd.underlying5 Tryd.underlying9 hb5
            clear hrun hbo hb3 hbo5 hb5
            go_wp2
            refine ⟨⟨k + 1, ls' ++ [b], vs' ++ [.slice Ao n co], by omega, by omega, hll, by simp, by rw [HQ.out], by rw [HM.out], hN5⟩, ?_⟩
            simp only [intOf]
            omega
      · obtain rfl : k = 30 := by omega
        have hBe := hG.below
        go_wp2_with fail
        refine (tells_any _ (ht.below hBe (Nat.le_refl _))).mono ?_
        rintro e w2 ⟨rfl, hB2⟩
        have hB3 := hBe.trans (hB2.mono hBe.size)
        go_wp2
        go_ret
        exact ⟨rfl, hB3⟩
    · have hBe := hG.below
      obtain rfl : k = len := by omega
      clear hkl
      go_wp2_with fail
      refine (tells_any _ (ht.below hBe (Nat.le_refl _))).mono ?_
      rintro e w2 ⟨rfl, hB2⟩
      have hB3 := hBe.trans (hB2.mono hBe.size)
      go_wp2
      go_ret
      exact ⟨rfl, hB3⟩
end Go.Proofs.YtkgnihpcldgedaaDoor
