import Derived.Test.YtfeecdhjcnghhaaGreatAbtE
import Derived.Shelf.GgSortFunc.RowK
import Derived.Shelf.SlLaysE0
import Derived.Shelf.RegionOpenPlain
import Derived.WalkKit
import Derived.Deep.LoopGhost
import Derived.Deep.RegionLaw
import Derived.Lib.Walk
import Derived.Sort.WalkB12
import Derived.Lib.SliceRun
import Derived.Lib.SlicesDelete
namespace Go.Abs
set_option linter.unusedSimpArgs false
set_option linter.unusedVariables false
open Go.RowKit Go.Proofs Go.Sort Go.Lib Go.Shelf

theorem clear_cells {P : Program} (w : World) (t e ty : TypeId) (cs : Array Value) (ht : P.underlying t = some (.slice e)) (hv : ∀ w, (zeroValue e).run P w = .ok (.agg cs) w) (b o n c : Nat) (hn : 0 < n) (h1 : ∀ v ∈ (Builtin.zeroCells cs n).toList, v.oneCell' = true)
   (hc : ∀ j, j < n * cs.size → (w.cell? ⟨b, o + j, none⟩).isSome = true) (hf : ∀ j, j < n * cs.size → w.frozen? ⟨b, o + j, none⟩ = false) :
   (Builtin.clear_ #[t] ty #[.slice (some ⟨b, o, none⟩) n c]).run P w = .ok (.tuple #[]) (w.setCells b o (Builtin.zeroCells cs n).toList) := by
 have hl : (Builtin.zeroCells cs n).toList.length = n * cs.size := by simp [Builtin.zeroCells]
 have hst := run_storeCells_cells (P := P) b o (Builtin.zeroCells cs n).toList 0 w (fun j hj => by rw [Nat.add_zero]; exact hc j (by rw [← hl]; exact hj)) (fun j hj => by rw [Nat.add_zero]; exact hf j (by rw [← hl]; exact hj)) h1
 simp only [Nat.add_zero] at hst
 obtain ⟨m, rfl⟩ : ∃ m, n = m + 1 := ⟨n - 1, by omega⟩
 simp [Builtin.clear_, run_underlying ht, hv, Value.cells, hst]
theorem lay_del (F : Array Value) (I J : Nat) (zs : List Value) (hij : I ≤ J) (hj : J ≤ F.size) (hz : zs.length = J - I) :
   lay (lay F I (F.toList.drop J)) (I + (F.size - J)) zs = (F.toList.take I ++ F.toList.drop J ++ zs).toArray := by
 apply Array.ext_getElem?
 intro t
 have l1 : (F.toList.take I).length = I := by simp; omega
 have l2 : (F.toList.drop J).length = F.size - J := by simp
 rw [lay_get? _ _ _ _ (by rw [lay_size, hz]; omega), lay_get? _ _ _ _ (by rw [l2]; omega), show (F.toList.take I ++ F.toList.drop J ++ zs).toArray[t]? = (F.toList.take I ++ F.toList.drop J ++ zs)[t]? from List.getElem?_toArray]
 by_cases c1 : t < I
 · rw [if_neg (by omega), if_neg (by omega), List.getElem?_append_left (by rw [List.length_append, l1]; omega), List.getElem?_append_left (by omega), List.getElem?_take, if_pos c1, Array.getElem?_toList]
 · by_cases c2 : t < I + (F.size - J)
   · rw [if_neg (by omega), if_pos (by rw [l2]; omega), List.getElem?_append_left (by rw [List.length_append, l1, l2]; omega), List.getElem?_append_right (by omega), l1]
   · rw [List.getElem?_append_right (by rw [List.length_append, l1, l2]; omega), List.length_append, l1, l2]
     by_cases c3 : t < F.size
     · rw [if_pos (by rw [hz]; omega)]
     · rw [if_neg (by rw [hz]; omega), if_neg (by omega), Array.getElem?_eq_none (by omega), List.getElem?_eq_none (by rw [hz]; omega)]
set_option maxHeartbeats 4000000 in
set_option maxRecDepth 1000000 in
theorem del_walk {P : Program} {ρ : Shelf.Ren} (L0 : SlLaysE0.n45 P ρ) (k : Nat) (zE : ∀ w, (Go.sizeOf (ρ.t 23)).run P w = .ok k w) (cs : Array Value) (v23 : ∀ w, (zeroValue (ρ.t 23)).run P w = .ok (.agg cs) w) (hzk : cs.size = k) (hz1 : ∀ v ∈ cs, v.oneCell' = true)
   (i0 : TypeInfo) (hi0 : P.info? (ρ.t 23) = some i0) (hz : i0.size = k) (blk off cap n i j : Nat) (F : Array Value) (hF : F.size = n * k) (hone : ∀ v ∈ F.toList, v.oneCell' = true) (w : World) (hH : Holds id w blk off F) (hcap : n ≤ cap) (hij : i ≤ j) (hj : j ≤ n) :
   Calls P (ρ.f 45) #[.slice (some ⟨blk, off, none⟩) n cap, .int .i64 i, .int .i64 j] w fun e w' => e = .returned (.slice (some ⟨blk, off, none⟩) (n - (j - i)) cap) ∧ ∃ (q : Nat) (zs : List Value), zs.length = (j - i) * k ∧ (∀ v ∈ zs, v.oneCell' = true) ∧
     w' = putRow id (Sort.ahead w q) blk off (F.toList.take (i * k) ++ F.toList.drop (j * k) ++ zs).toArray := by
 have mixed := L0.mixed; have t0 := L0.t0; have a0 := L0.a0; have z0 := L0.z0; have v0 := L0.v0; have t3 := L0.t3; have a3 := L0.a3; have z3 := L0.z3; have v3 := L0.v3; have t4 := L0.t4; have a4 := L0.a4; have z4 := L0.z4; have v4 := L0.v4; have t22 := L0.t22; have a22 := L0.a22; have z22 := L0.z22; have v22 := L0.v22
 by_cases heq : i = j
 · subst heq
   have h0 : Calls P (ρ.f 45) #[.slice (some ⟨blk, off, none⟩) n cap, .int .i64 i, .int .i64 i] w fun e w' => e = .returned (.slice (some ⟨blk, off, none⟩) n cap) ∧ w' = w := by
     clear hH
     obtain ⟨_, _, FG⟩ := L0.f45
     go_enter FG, SlBodyN.n45_ntmps ρ
     go_wp2
     all_goals (go_ret; exact ⟨rfl, rfl⟩)
   refine h0.mono ?_
   rintro e w' ⟨rfl, rfl⟩
   refine ⟨by rw [Nat.sub_self, Nat.sub_zero], 0, [], by simp, fun v hv => (by cases hv), ?_⟩
   rw [List.append_nil, List.take_append_drop]
   exact (putRow_self id (Sort.ahead w' 0) blk off F hH).symm
 · have hlt : i < j := by omega
   have hI : i * k ≤ j * k := Nat.mul_le_mul_right k hij
   have hJ : j * k ≤ F.size := by rw [hF]; exact Nat.mul_le_mul_right k hj
   have hNJ : (n - j) * k = F.size - j * k := by rw [Nat.sub_mul, hF]
   have hJI : (j - i) * k = j * k - i * k := Nat.sub_mul _ _ _
   obtain ⟨news, hnews⟩ : ∃ news, news = F.toList.drop (j * k) := ⟨_, rfl⟩
   have hlen : news.length = F.size - j * k := by rw [hnews]; simp
   have hget : ∀ t, t < F.size - j * k → news[t]? = some F[j * k + t]! := by
     intro t ht
     rw [hnews, List.getElem?_drop, Array.getElem?_toList, getElem!_pos F (j * k + t) (by omega), Array.getElem?_eq_getElem (by omega)]
   obtain ⟨A, hA, hsrc⟩ : ∃ A : Addr, (if cap = j then some (⟨blk, off, none⟩ : Addr) else some ⟨blk, off + j * k, none⟩) = some A ∧ Hid (∀ t u, news[t]? = some u → w.drew.cell? (A.add t) = some u) := by
     by_cases h : cap = j
     · refine ⟨⟨blk, off, none⟩, by simp [h], fun t u hu => ?_⟩
       have h0 : news.length = 0 := by
         have : n = j := by omega
         rw [hlen, hF, this]; omega
       rw [List.length_eq_zero_iff.1 h0] at hu
       simp at hu
     · refine ⟨⟨blk, off + j * k, none⟩, by simp [h], fun t u hu => ?_⟩
       have ht : t < F.size - j * k := by
         have := (List.getElem?_eq_some_iff.1 hu).1
         rwa [hlen] at this
       rw [hget t ht] at hu
       rw [Addr.add_lit, show off + j * k + t = off + (j * k + t) by omega]
       exact (hH (j * k + t) (by omega)).1.trans hu
   have s1 : Hid (news.length = (n - j) * k) := by rw [hNJ]; exact hlen
   have s2 : Hid (∀ u ∈ news, u.oneCell' = true) := fun u hu => hone u (by rw [hnews] at hu; exact List.mem_of_mem_drop hu)
   have s3 : Hid (∀ t, t < news.length → (w.drew.cell? ⟨blk, off + i * k + t, none⟩).isSome = true ∧ w.drew.frozen? ⟨blk, off + i * k + t, none⟩ = false) := by
     intro t ht
     rw [hlen] at ht
     rw [Nat.add_assoc]
     exact ⟨by show (w.cell? _).isSome = true; rw [(hH (i * k + t) (by omega)).1]; rfl, (hH (i * k + t) (by omega)).2⟩
   obtain ⟨W1, hW1⟩ : ∃ W1, W1 = w.drew.setCells blk (off + i * k) news := ⟨_, rfl⟩
   have hW1' : W1 = putRow id (Sort.ahead w 1) blk off (lay F (i * k) (F.toList.drop (j * k))) := by
     rw [← putRow_setCells id (Sort.ahead w 1) blk off _ F (i * k) (by simp; omega), putRow_self id (Sort.ahead w 1) blk off F (holds_ahead id w 1 blk off F hH), List.map_id, hW1, hnews]
     rfl
   have hH1 : Holds id W1 blk off (lay F (i * k) (F.toList.drop (j * k))) := by rw [hW1']; exact holds_putRow id _ blk off F _ (holds_ahead id w 1 blk off F hH) (lay_size _ _ _)
   have hd : (n - (i + (n - j))) * k = j * k - i * k := by rw [show n - (i + (n - j)) = j - i by omega]; exact hJI
   have hs : (i + (n - j)) * k = i * k + (F.size - j * k) := by rw [Nat.add_mul, hNJ]
   have hzl : (Builtin.zeroCells cs (n - (i + (n - j)))).toList.length = j * k - i * k := by simp [Builtin.zeroCells, hzk, hd]
   have hzo : ∀ v ∈ (Builtin.zeroCells cs (n - (i + (n - j)))).toList, v.oneCell' = true := by
     intro v hv
     simp only [Builtin.zeroCells, Array.toList_map, List.mem_map] at hv
     obtain ⟨t, ht, rfl⟩ := hv
     by_cases h0 : cs.size = 0
     · simp [h0] at ht
     · have hlt : t % cs.size < cs.size := Nat.mod_lt _ (by omega)
       rw [getElem!_pos cs _ hlt]
       exact hz1 _ (Array.getElem_mem hlt)
   have hcl : ∀ ty, (Builtin.clear_ #[ρ.t 22] ty #[.slice (some ⟨blk, off + (i + (n - j)) * k, none⟩) (n - (i + (n - j))) (cap - (i + (n - j)))]).run P W1 = .ok (.tuple #[]) (W1.setCells blk (off + (i + (n - j)) * k) (Builtin.zeroCells cs (n - (i + (n - j)))).toList) :=
     fun ty => clear_cells W1 _ _ ty _ t22 v23 blk (off + (i + (n - j)) * k) _ _ (by omega) hzo (fun t ht => by rw [hzk, hd] at ht; rw [show off + (i + (n - j)) * k + t = off + ((i + (n - j)) * k + t) by omega, (hH1 _ (by rw [lay_size, hs]; omega)).1]; rfl) (fun t ht => by rw [hzk, hd] at ht; rw [show off + (i + (n - j)) * k + t = off + ((i + (n - j)) * k + t) by omega]; exact (hH1 _ (by rw [lay_size, hs]; omega)).2)
   have X : Aside (W1 = putRow id (Sort.ahead w 1) blk off (lay F (i * k) (F.toList.drop (j * k)))) := hW1'
   have hW : Hid (W1 = w.drew.setCells blk (off + i * k) news) := hW1
   have fin : Hid ((W1.setCells blk (off + (i + (n - j)) * k) (Builtin.zeroCells cs (n - (i + (n - j)))).toList) = putRow id (Sort.ahead w 1) blk off (F.toList.take (i * k) ++ F.toList.drop (j * k) ++ (Builtin.zeroCells cs (n - (i + (n - j)))).toList).toArray) := by
     show _ = _
     rw [← lay_del F (i * k) (j * k) _ hI hJ hzl, hW1', hs]
     have := putRow_setCells id (Sort.ahead w 1) blk off (Builtin.zeroCells cs (n - (i + (n - j)))).toList (lay F (i * k) (F.toList.drop (j * k))) (i * k + (F.size - j * k)) (by rw [lay_size, hzl]; omega)
     rwa [List.map_id] at this
   have zl : Hid ((Builtin.zeroCells cs (n - (i + (n - j)))).toList.length = (j - i) * k) := by rw [hJI]; exact hzl
   have zo : Hid (∀ v ∈ (Builtin.zeroCells cs (n - (i + (n - j)))).toList, v.oneCell' = true) := hzo
   have hic : i ≤ cap := by omega
   have hjc : j ≤ cap := by omega
   clear hW1 hW1' hH1 hH hget hnews hlen hI hJ hNJ hJI hF hd hs hzl hzo hone
   obtain ⟨_, _, FG⟩ := L0.f45
   go_enter FG, SlBodyN.n45_ntmps ρ
   go_wp2_with fail
   go_region_law_o (refine step_append_room rfl (.tmp 22) (.tmp 25) (ρ.t 22) rfl (ρ.t 23) i0 k t22 hi0 hz blk off i cap (by simp [Act.eval, Act.put]) A (n - j) (cap - j) news (by simp [Act.eval, Act.put]) s1.out hsrc.out s2.out (by omega) s3.out ?_; rw [← hW.out])
   go_wp2
   go_ret
   exact ⟨by rw [show n - (j - i) = i + (n - j) by omega]; rfl, 1, _, zl.out, zo.out, fin.out⟩
set_option maxHeartbeats 4000000 in
set_option maxRecDepth 1000000 in
theorem del_same {P : Program} {ρ : Shelf.Ren} (L0 : SlLaysE0.n45 P ρ) (k : Nat) (zE : ∀ w, (Go.sizeOf (ρ.t 23)).run P w = .ok k w) (a : Option Addr) (n cap i : Nat) (hi : i ≤ n) (hcap : n ≤ cap) (w : World) :
   Calls P (ρ.f 45) #[.slice a n cap, .int .i64 i, .int .i64 i] w fun e w' => e = .returned (.slice a n cap) ∧ w' = w := by
 have mixed := L0.mixed; have t0 := L0.t0; have a0 := L0.a0; have z0 := L0.z0; have v0 := L0.v0; have t3 := L0.t3; have a3 := L0.a3; have z3 := L0.z3; have v3 := L0.v3; have t4 := L0.t4; have a4 := L0.a4; have z4 := L0.z4; have v4 := L0.v4; have t22 := L0.t22; have a22 := L0.a22; have z22 := L0.z22; have v22 := L0.v22
 obtain ⟨_, _, FG⟩ := L0.f45
 cases a with
 | none =>
   go_enter FG, SlBodyN.n45_ntmps ρ
   go_wp2
   all_goals (go_ret; exact ⟨rfl, rfl⟩)
 | some ad =>
   go_enter FG, SlBodyN.n45_ntmps ρ
   go_wp2
   all_goals (go_ret; exact ⟨rfl, rfl⟩)
theorem del_empty {P : Program} {ρ : Shelf.Ren} (L0 : SlLaysE0.n45 P ρ) (k : Nat) (zE : ∀ w, (Go.sizeOf (ρ.t 23)).run P w = .ok k w) (a : Option Addr) (w : World) :
   Calls P (ρ.f 45) #[.slice a 0 0, .int .i64 ((0 : Nat) : Int), .int .i64 ((0 : Nat) : Int)] w fun e w' => e = .returned (.slice a 0 0) ∧ w' = w := del_same L0 k zE a 0 0 0 (Nat.le_refl _) (Nat.le_refl _) w
theorem RowsC.split {w : World} {own : Bool} {r : RT} : ∀ (i : Nat) {ds : List r.den} {ks : List (List L)} {vs : List Value}, RowsC w own r ds ks vs → RowsC w own r (ds.take i) (ks.take i) (vs.take (i * r.size)) ∧ RowsC w own r (ds.drop i) (ks.drop i) (vs.drop (i * r.size))
 | 0, ds, ks, vs, h => by simpa [RowsC] using h
 | i + 1, [], ks, vs, h => by
   obtain ⟨rfl, rfl⟩ := h
   simp [RowsC]
 | i + 1, d :: ds, ks, vs, h => by
   obtain ⟨k, k2, v, v2, rfl, rfl, h1, h2⟩ := h
   obtain ⟨a1, a2⟩ := RowsC.split i h2
   have hl := h1.length
   have e1 : (v ++ v2).take ((i + 1) * r.size) = v ++ v2.take (i * r.size) := by
     rw [List.take_append, List.take_of_length_le (by rw [hl, Nat.add_mul]; omega), hl, show (i + 1) * r.size - r.size = i * r.size by rw [Nat.add_mul]; omega]
   have e2 : (v ++ v2).drop ((i + 1) * r.size) = v2.drop (i * r.size) := by
     rw [List.drop_append, List.drop_of_length_le (by rw [hl, Nat.add_mul]; omega), hl, show (i + 1) * r.size - r.size = i * r.size by rw [Nat.add_mul]; omega, List.nil_append]
   rw [e1, e2]
   exact ⟨⟨k, k2.take i, v, v2.take (i * r.size), rfl, rfl, h1, a1⟩, a2⟩
section
variable {B : Base} {G : Gh} {h : Heap} {w w' : World} {nb : Nat}
theorem del_cut (s : Sim B G h w) {id : Nat} {r : RT} {rows : List r.den} {loc : Loc} {kids : List (List L)} {v : Value} (ho : getO h id = some (.row r rows)) (hg : G id = some (.row (.sl loc kids))) (hc : CellV w true (.sl r) rows (.sl loc kids) v) {i j : Nat} (hij : i ≤ j) (hj : j ≤ rows.length) :
   Held B G (setO h id (.part false [] r rows (i : Int) (j : Int))) w (loc.bl ++ Lss.bl (kids.take i ++ kids.drop j)) ∧ Sim B G (setO h id (.part false [] r rows (i : Int) (j : Int))) w := by
 have hp := hc.toPart
 have hk := hp.len
 have x := Held.take s Held.nil ho rfl hg (List.Sublist.refl _)
 rw [List.nil_append] at x
 have x : Held B G (delO h id) w (loc.bl ++ Lss.bl kids) := x
 have hmid : kids = kids.take i ++ ((kids.take j).drop i ++ kids.drop j) := by
   have e : kids.take i = (kids.take j).take i := by rw [List.take_take, Nat.min_eq_left hij]
   rw [← List.append_assoc, e, List.take_append_drop, List.take_append_drop]
 have l1 : (kids.take i).length = i := by rw [List.length_take]; omega
 have l2 : ((kids.take j).drop i).length = j - i := by rw [List.length_drop, List.length_take]; omega
 have hob : obl (.part false [] r rows (i : Int) (j : Int)) (.row (.sl loc kids)) = Lss.bl ((kids.take j).drop i) := by
   show (bif false then loc.bl else []) ++ Lss.blP [] (i : Int) (j : Int) 0 kids = _
   rw [cond_false, List.nil_append]
   conv => lhs; rw [hmid]
   rw [Lss.blP_append, Lss.blP_append, l1, l2, Lss.blP_out (kids.take i) 0 (.inl (by rw [l1]; omega)), Lss.blP_out (kids.drop j) _ (.inr (by omega)), Lss.blP_all _ _ (by omega) (by rw [l2]; omega), List.nil_append, List.append_nil]
 have hper : (loc.bl ++ Lss.bl kids).Perm (obl (.part false [] r rows (i : Int) (j : Int)) (.row (.sl loc kids)) ++ (loc.bl ++ Lss.bl (kids.take i ++ kids.drop j))) := by
   rw [hob]
   conv => lhs; rw [hmid]
   rw [Lss.bl_app, Lss.bl_app, Lss.bl_app]
   refine List.perm_iff_count.2 fun b => ?_
   simp only [List.count_append]
   omega
 have y := Sim.put (s.heap (del_sub h id)) hg (o := .part false [] r rows (i : Int) (j : Int)) ⟨loc, kids, hg, hp.less (fun e => by cases e) (by omega) (by omega)⟩ rfl (x.perm hper)
 have same : ∀ k o, getO (setO h id (.part false [] r rows (i : Int) (j : Int))) k = some o → getO (setO (delO h id) id (.part false [] r rows (i : Int) (j : Int))) k = some o := by
   intro k o hx
   rw [getO_setO] at hx ⊢
   by_cases e : id = k
   · rw [if_pos e] at hx ⊢; exact hx
   · rw [if_neg e] at hx ⊢; rw [getO_delO, if_neg e]; exact hx
 exact ⟨y.2.heap same, y.1.heap same⟩
theorem del_post (s : Sim B G h w) (hn : G nb = none) {id : Nat} {r : RT} {rows : List r.den} {loc : Loc} {kids : List (List L)} {v v' : Value} (ho : getO h id = some (.row r rows)) (hg : G id = some (.row (.sl loc kids))) (hc : CellV w true (.sl r) rows (.sl loc kids) v) {i j : Nat} (hij : i ≤ j) (hj : j ≤ rows.length)
   (t : Turn w w' loc.bl) (hc' : CellV w' true (.sl r) (rows.take i ++ rows.drop j : List r.den) (.sl loc (kids.take i ++ kids.drop j)) v') :
   Post B G nb (.ref nb [] none) [] (setO (setO h id (.part false [] r rows (i : Int) (j : Int))) nb (.row r (rows.take i ++ rows.drop j))) v' w' := by
 obtain ⟨hh, s1⟩ := del_cut s ho hg hc hij hj
 have s2 := s1.turn t (fun b hb => (hh.mine b (List.mem_append_left _ hb)).2) fun k o go h1 h2 h3 b hb hm => hh.apart k o go h1 h2 h3 b (List.mem_append_left _ hm) hb
 exact Post.row s2 hn hc' (hh.grow t.size)
theorem del_calls {P : Program} {ρ : Shelf.Ren} (L0 : SlLaysE0.n45 P ρ) {r : RT} (zE : ∀ w, (Go.sizeOf (ρ.t 23)).run P w = .ok r.size w) (cs : Array Value) (v23 : ∀ w, (zeroValue (ρ.t 23)).run P w = .ok (.agg cs) w) (hzk : cs.size = r.size) (hz1 : ∀ v ∈ cs, v.oneCell' = true)
   (i0 : TypeInfo) (hi0 : P.info? (ρ.t 23) = some i0) (hz : i0.size = r.size) (s : Sim B G h w) (hn : G nb = none) {id : Nat} {rows : List r.den} {loc : Loc} {kids : List (List L)} {v : Value} (ho : getO h id = some (.row r rows)) (hg : G id = some (.row (.sl loc kids))) (hc : CellV w true (.sl r) rows (.sl loc kids) v) {i j : Nat} (hij : i ≤ j) (hj : j ≤ rows.length) :
   Calls P (ρ.f 45) #[v, .int .i64 i, .int .i64 j] w (Ret fun u w' => Post B G nb (.ref nb [] none) [] (setO (setO h id (.part false [] r rows (i : Int) (j : Int))) nb (.row r (rows.take i ++ rows.drop j))) u w') := by
 have hc0 := hc
 obtain ⟨loc', kids', e1, hv, hk, hloc, hrow⟩ := hc
 cases e1
 have empty : ∀ a, v = .slice a 0 0 → rows = [] → loc.bl = [] → Calls P (ρ.f 45) #[v, .int .i64 i, .int .i64 j] w (Ret fun u w' => Post B G nb (.ref nb [] none) [] (setO (setO h id (.part false [] r rows (i : Int) (j : Int))) nb (.row r (rows.take i ++ rows.drop j))) u w') := by
   intro a hva hr hbl
   have hr0 : rows.length = 0 := by rw [hr]; rfl
   have hj0 : j = 0 := by omega
   have hi0' : i = 0 := by omega
   have hk0 : kids = [] := List.eq_nil_of_length_eq_zero (hk.trans hr0)
   have er : (rows.take i ++ rows.drop j : List r.den) = rows := by rw [hr]; simp
   have ek : kids.take i ++ kids.drop j = kids := by rw [hk0]; simp
   have base := del_empty L0 r.size zE a w
   have hpost : Post B G nb (.ref nb [] none) [] (setO (setO h id (.part false [] r rows (i : Int) (j : Int))) nb (.row r (rows.take i ++ rows.drop j))) v w :=
     del_post s hn ho hg hc0 hij hj (by rw [hbl]; exact Turn.refl w) (by rw [er, ek]; exact hc0)
   subst hj0 hi0'
   rw [hva]
   refine base.mono fun e w' hx => ?_
   obtain ⟨rfl, rfl⟩ := hx
   rw [hva] at hpost
   exact hpost
 cases loc with
 | nil =>
   have : rows.length = 0 := by simpa [LocOk] using hloc
   exact empty none hv (List.eq_nil_of_length_eq_zero this) rfl
 | emp a c =>
   obtain ⟨h1, h2, -⟩ := hloc
   have := h2 rfl
   subst this
   exact empty a hv (List.eq_nil_of_length_eq_zero h1) rfl
 | «at» b off cap sz =>
   obtain ⟨rfl, hcp, hb⟩ := hloc
   obtain ⟨vals, e, hvals, hfit⟩ := hb rfl
   have hv : v = .slice (some ⟨b, off, none⟩) rows.length cap := hv
   subst hv
   obtain ⟨vs, hvs, hcell⟩ := RowsC.of rows kids b off hk (hrow b off cap r.size rfl)
   obtain ⟨hl, -⟩ := hvs.length
   have hbk : b ∉ Lss.bl kids := by
     have hnd := s.nodup id _ _ ho rfl hg
     have hnd : ([b] ++ Lss.bl kids).Nodup := hnd
     exact fun hm => (List.nodup_append.1 hnd).2.2 b (by simp) b hm rfl
   have hH : Holds _root_.id w b off vs.toArray := by
     intro t ht
     have ht : t < vs.length := by simpa using ht
     refine ⟨?_, by simp [World.frozen?, hvals]⟩
     rw [hcell t vs[t] (by rw [List.getElem?_eq_getElem ht])]
     simp [getElem!_pos vs.toArray t (by simpa using ht)]
   have hcall := del_walk L0 r.size zE cs v23 hzk hz1 i0 hi0 hz b off cap rows.length i j vs.toArray (by simpa using hl) (fun u hu => hvs.oneCell u (by simpa using hu)) w hH hcp hij hj
   refine hcall.mono fun e' w' hx => ?_
   obtain ⟨rfl, q, zs, hzl, hzo, rfl⟩ := hx
   have hs1 := hvs.split i
   have hs2 := hvs.split j
   have hrs := hs1.1.append hs2.2
   have hI : i * r.size ≤ j * r.size := Nat.mul_le_mul_right _ hij
   have hJ : j * r.size ≤ vs.length := by rw [hl]; exact Nat.mul_le_mul_right _ hj
   have hD : (vs.toArray.toList.take (i * r.size) ++ vs.toArray.toList.drop (j * r.size) ++ zs).toArray.size = vs.toArray.size := by
     simp only [List.size_toArray, List.length_append, List.length_take, List.length_drop, hzl, Nat.sub_mul]
     omega
   have hother : ∀ b', b' ≠ b → (putRow _root_.id (Sort.ahead w q) b off (vs.toArray.toList.take (i * r.size) ++ vs.toArray.toList.drop (j * r.size) ++ zs).toArray).heap[b']? = w.heap[b']? := by
     intro b' hne
     simp [putRow, mapBlock, Sort.ahead, Array.getElem?_modify, Ne.symm hne]
   have t : Turn w (putRow _root_.id (Sort.ahead w q) b off (vs.toArray.toList.take (i * r.size) ++ vs.toArray.toList.drop (j * r.size) ++ zs).toArray) (Loc.at b off cap r.size).bl :=
     ⟨rfl, rfl, rfl, by simp [putRow, mapBlock, Sort.ahead], fun b' _ hx => hother b' fun e => hx (by rw [e]; simp [Loc.bl])⟩
   have hHr := holds_putRow _root_.id (Sort.ahead w q) b off vs.toArray _ (holds_ahead _root_.id w q b off vs.toArray hH) hD
   have hrl : (rows.take i ++ rows.drop j : List r.den).length = rows.length - (j - i) := by rw [List.length_append, List.length_take, List.length_drop]; omega
   show Post B G nb _ _ _ _ _
   refine del_post s hn ho hg hc0 hij hj t ?_
   rw [← hrl]
   refine CellV.ofRows (hrs.keep fun b' hm => hother b' fun e => hbk ?_) (fun k u hu => ?_) (by rw [hrl]; omega) (cur := putCells _root_.id off (vs.toArray.toList.take (i * r.size) ++ vs.toArray.toList.drop (j * r.size) ++ zs).toArray vals) (e := e) (by simp [putRow, mapBlock, Sort.ahead, Array.getElem?_modify, hvals, onCells]) (by simpa [putCells] using hfit)
   · rw [← e]
     rw [Lss.bl_app] at hm
     have hsplit : Lss.bl kids = Lss.bl (kids.take i) ++ Lss.bl (kids.drop i) := by rw [← Lss.bl_app, List.take_append_drop]
     have hsplit2 : Lss.bl kids = Lss.bl (kids.take j) ++ Lss.bl (kids.drop j) := by rw [← Lss.bl_app, List.take_append_drop]
     rcases List.mem_append.1 hm with hm | hm
     · rw [hsplit]; exact List.mem_append_left _ hm
     · rw [hsplit2]; exact List.mem_append_right _ hm
   · have hkl := (List.getElem?_eq_some_iff.1 hu).1
     have hkD : k < (vs.toArray.toList.take (i * r.size) ++ vs.toArray.toList.drop (j * r.size) ++ zs).toArray.size := by
       simp only [List.size_toArray, List.length_append] at hkl ⊢
       omega
     rw [(hHr k hkD).1, getElem!_pos _ k hkD]
     have : (vs.toArray.toList.take (i * r.size) ++ vs.toArray.toList.drop (j * r.size) ++ zs)[k]? = some u := by
       rw [List.getElem?_append_left hkl]; exact hu
     obtain ⟨h1, h2⟩ := List.getElem?_eq_some_iff.1 this
     exact congrArg some (by rw [← h2]; simp)
end
theorem ConS.delete {P : Program} {ρ : Shelf.Ren} {tb : Tb} (L0 : SlLaysE0.n45 P ρ) (hty : tyCheck P tb = true) {t : Nat} {r : RT} (hs : isSlT0 tb t = true) (hr : rtOf (tyOf tb (tyOf tb t).elem).cells = some r) (he : ρ.t 23 = (tyOf tb t).elem)
   (zE : ∀ w, (Go.sizeOf (ρ.t 23)).run P w = .ok r.size w) {cs : Array Value} (v23 : ∀ w, (zeroValue (ρ.t 23)).run P w = .ok (.agg cs) w) (hzk : cs.size = r.size) (hz1 : (cs.toList.all Value.oneCell') = true) (en : Enters P (ρ.f 45)) :
   ConS P (ρ.f 45) ⟨[], [], [.sl r], [], fun _ => none⟩ := by
 refine ⟨en, fun B G h w nb vs us av z h' hP s hv hf hrun => ?_⟩
 subst hP
 obtain ⟨-, i0, zz, hi0, hz, -⟩ := elem_info hty hs hr
 rw [← he] at hi0
 have hz1 : ∀ v ∈ cs, v.oneCell' = true := fun v hv => List.all_eq_true.1 hz1 v (by simpa using hv)
 have hrun : (delOp r nb vs).Has h (av, z) h' := hrun
 unfold delOp at hrun
 split at hrun
 · rename_i id i j _
   obtain ⟨u0, us1, rfl, ⟨loc, n, hG, hu0⟩, hv1⟩ := VRelF.cons hv
   obtain ⟨u1, us2, rfl, hu1, hv2⟩ := VRelF.cons hv1
   obtain ⟨u2, us3, rfl, hu2, hv3⟩ := VRelF.cons hv2
   have hu1 : u1 = .int .i64 i := hu1
   have hu2 : u2 = .int .i64 j := hu2
   have e3 : us3 = [] := by
     cases us3 with
     | nil => rfl
     | cons a b => exact hv3.elim
   subst hu0 hu1 hu2 e3
   rw [has_getD] at hrun
   split at hrun
   · rename_i q rows ho
     cases hq : q.same r with
     | false => rw [hq] at hrun; exact hrun.elim
     | true =>
       have eq := RT.eq_of_same hq
       subst eq
       rw [hq, cond_true] at hrun
       rcases hrun with ⟨hb, hrun⟩ | ⟨_, hrun⟩
       · obtain ⟨y, hy, hrun⟩ := hrun
         have hy := Option.some.inj hy
         subst hy
         rw [has_markD, has_putD] at hrun
         obtain ⟨h1, h2⟩ := hrun
         cases h1
         subst h2
         simp only [Bool.and_eq_true, decide_eq_true_eq] at hb
         obtain ⟨b0, b1, b2⟩ := hb
         obtain ⟨l, v, hg, hc⟩ := s.obj id _ ho
         have hc0 := hc
         obtain ⟨loc', kids, rfl, hv', hk, -⟩ := hc
         have hG : (match G id with | some (.row l) => l.at [] | _ => none) = some (loc, n) := hG
         rw [hg] at hG
         have hG : some (loc', kids.length) = some (loc, n) := hG
         cases hG
         have hvn : loc.val kids.length = v := by rw [hv', hk]
         have hcall := del_calls L0 zE cs v23 hzk hz1 i0 hi0 hz s (hf nb (Nat.le_refl _) (by omega)) ho hg hc0 (i := i.toNat) (j := j.toNat) (by omega) (by omega)
         rw [show ((i.toNat : Nat) : Int) = i by omega, show ((j.toNat : Nat) : Int) = j by omega, ← hvn] at hcall
         rw [ho]
         exact hcall
       · exact hrun.elim
   · exact hrun.elim
 · exact hrun.elim
end Go.Abs


