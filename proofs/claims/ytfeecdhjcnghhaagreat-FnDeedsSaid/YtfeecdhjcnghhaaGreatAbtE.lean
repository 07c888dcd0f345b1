import Derived.Test.YtfeecdhjcnghhaaGreatAbtD
import Derived.Shelf.SlicesQ.Reverse
namespace Go.Abs
set_option linter.unusedSimpArgs false
set_option linter.unusedVariables false
open Go.RowKit Go.Proofs Go.Sort

abbrev RowT (k : Nat) := { l : List Value // l.length = k ∧ ∀ v ∈ l, v.oneCell' = true }
instance (k : Nat) : Inhabited (RowT k) := ⟨⟨List.replicate k (.bool false), List.length_replicate, fun v hv => by rw [List.eq_of_mem_replicate hv]; rfl⟩⟩
theorem Lss.bl_append : ∀ a b : List (List L), Lss.bl (a ++ b) = Lss.bl a ++ Lss.bl b
 | [], b => rfl
 | x :: a, b => by simp only [List.cons_append, Lss.bl, Lss.bl_append a b, List.append_assoc]
theorem Lss.bl_reverse : ∀ a : List (List L), (Lss.bl a.reverse).Perm (Lss.bl a)
 | [] => .refl _
 | x :: a => by
   rw [List.reverse_cons, Lss.bl_append]
   simp only [Lss.bl, List.append_nil]
   exact List.perm_append_comm.trans ((Lss.bl_reverse a).append_left _)
theorem getD_rev {α : Type} (x : List α) (d : α) (i : Nat) (h : i < x.length) : x.reverse.getD i d = x.getD (x.length - 1 - i) d := by
 rw [List.getD_eq_getElem?_getD, List.getD_eq_getElem?_getD, List.getElem?_reverse h]
theorem rev_out {w w' : World} {r : RT} {x : List r.den} {loc : Loc} {kids : List (List L)} {kids' : List (List L)} {v : Value} {bx : List (Option Nat)} {fn : Tup [.sl r] → Option (Tup [.sl r])} (hp : (Lss.bl kids').Perm (Lss.bl kids)) (hl : kids'.length = kids.length)
   (hbx : bx = [none]) (hc : CellV w' true (.sl r) (List.reverse x : List r.den) (.sl loc kids') v) (hn : (L.sl loc kids).bl.Nodup) (ho : ∀ b ∈ (L.sl loc kids).bl, b < w.heap.size) (ht : Turn w w' (L.sl loc kids).bl) :
   OutG w ⟨[(.I, false, [.sl r])], [], [.sl r], [.sl r], fn⟩ bx [v] [.sl loc kids] (List.reverse x : List r.den) (.tuple #[]) w' := by
 subst hbx
 have hper : (L.sl loc kids').bl.Perm (L.sl loc kids).bl := hp.append_left _
 have e1 : ownBl (ksOf [(Mode.I, false, [CT.sl r])]) [L.sl loc kids] ++ mineB [(Mode.I, false, [CT.sl r])] [none] = (L.sl loc kids).bl := by simp [ownBl, ksOf, Mode.ks, CK.own, mineB, Mode.isP]
 have e2 : Ls.bl ([] ++ [L.sl loc kids']) = (L.sl loc kids').bl := by simp [Ls.bl]
 refine ⟨⟨[], [], [], [v], [.sl loc kids'], rfl, ⟨rfl, rfl⟩, ⟨v, _, rfl, rfl, hc⟩, rfl, ?_, ?_, fun b hb => ?_⟩, ?_⟩
 · refine ⟨[.sl loc kids'], [], [], rfl, rfl, ⟨⟨fun view u hu => ?_, fun i c u hu => ?_⟩, trivial⟩, rfl, rfl⟩
   · have ea : (L.sl loc kids').at [] = (L.sl loc kids).at [] := by simp [L.at, hl]
     cases view with
     | none => obtain ⟨l1, n1, h1, h2⟩ := hu; exact ⟨l1, n1, ea.trans h1, h2⟩
     | some om => obtain ⟨l1, n1, h1, h2⟩ := hu; exact ⟨l1, n1, ea.trans h1, h2⟩
   · have ea : (L.sl loc kids').at [] = (L.sl loc kids).at [] := by simp [L.at, hl]
     obtain ⟨b, off, cap, sz, n, h1, h2⟩ := hu
     exact ⟨b, off, cap, sz, n, ea.trans h1, h2⟩
 · show (Ls.bl ([] ++ [L.sl loc kids']) ++ mineB [(Mode.I, false, [CT.sl r])] [none]).Nodup
   rw [e2]
   simp only [mineB, Mode.isP, Option.toList_none, cond_false, List.append_nil]
   exact hper.nodup_iff.2 hn
 · rw [e2] at hb
   have hb' := hper.mem_iff.1 hb
   refine ⟨.inr ?_, Nat.lt_of_lt_of_le (ho b hb') ht.size⟩
   show b ∈ ownBl (ksOf [(Mode.I, false, [CT.sl r])]) [L.sl loc kids] ++ mineB [(Mode.I, false, [CT.sl r])] [none]
   rw [e1]; exact hb'
 · show Turn w w' (ownBl (ksOf [(Mode.I, false, [CT.sl r])]) [L.sl loc kids] ++ mineB [(Mode.I, false, [CT.sl r])] [none])
   rw [e1]; exact ht
theorem ConG.reverse {P : Program} {ρ : Shelf.Ren} (L0 : SlLaysE0.n35 P ρ) {r : RT} (aE : ∀ w, (Go.isAgg (ρ.t 23)).run P w = .ok true w) (zE : ∀ w, (Go.sizeOf (ρ.t 23)).run P w = .ok r.size w) (he : Enters P (ρ.f 35)) :
   ConG P (ρ.f 35) ⟨[(.I, false, [.sl r])], [], [.sl r], [.sl r], fun x => bif Nat.ble (List.length (x : List r.den)) 9223372036854775807 then some (List.reverse (x : List r.den)) else none⟩ := by
 refine ⟨he, fun w us cvs bx ls x y ha hy => ?_⟩
 obtain ⟨hargs, hcells, hread, hnd, hown⟩ := ha
 obtain ⟨u, us', own, rest, ob, bx', rfl, rfl, h5, rfl, hu, rfl, rfl, rfl⟩ := hargs
 obtain ⟨m, l, v, hm, rfl, hv, hcell⟩ := hcells
 have hm : [true] = [m] := hm
 cases hm
 have hv : own = [v] := by simpa using hv
 subst hv
 obtain ⟨rfl, hu, -⟩ := hu
 have hu : v = u := hu.symm
 subst hu
 have hx : (List.length (x : List r.den)) ≤ 9223372036854775807 ∧ y = (List.reverse (x : List r.den) : List r.den) := by
   have hy : (bif Nat.ble (List.length (x : List r.den)) 9223372036854775807 then some (List.reverse (x : List r.den)) else none) = some y := hy
   cases hb : Nat.ble (List.length (x : List r.den)) 9223372036854775807 with
   | false => rw [hb] at hy; exact no_some hy
   | true => rw [hb] at hy; exact ⟨Nat.le_of_ble_eq_true hb, (Option.some.inj hy).symm⟩
 obtain ⟨hlen, rfl⟩ := hx
 obtain ⟨loc, kids, rfl, hv, hk, hloc, hrow⟩ := hcell
 have hnd' : (L.sl loc kids).bl.Nodup := by
   have : ownBl (ksOf [(Mode.I, false, [CT.sl r])]) [L.sl loc kids] ++ mineB [(Mode.I, false, [CT.sl r])] [none] = (L.sl loc kids).bl := by simp [ownBl, ksOf, Mode.ks, CK.own, mineB, Mode.isP]
   have hnd : (ownBl (ksOf [(Mode.I, false, [CT.sl r])]) [L.sl loc kids] ++ mineB [(Mode.I, false, [CT.sl r])] [none]).Nodup := hnd
   rwa [this] at hnd
 have hown' : ∀ b ∈ (L.sl loc kids).bl, b < w.heap.size := by
   have : ownBl (ksOf [(Mode.I, false, [CT.sl r])]) [L.sl loc kids] ++ mineB [(Mode.I, false, [CT.sl r])] [none] = (L.sl loc kids).bl := by simp [ownBl, ksOf, Mode.ks, CK.own, mineB, Mode.isP]
   have hown : ∀ b ∈ ownBl (ksOf [(Mode.I, false, [CT.sl r])]) [L.sl loc kids] ++ mineB [(Mode.I, false, [CT.sl r])] [none], b < w.heap.size := hown
   rwa [this] at hown
 have empty : ∀ a cap, v = .slice a 0 cap → (List.length (x : List r.den)) = 0 → Calls P (ρ.f 35) [v].toArray w (Ret fun u w' => OutG w ⟨[(.I, false, [.sl r])], [], [.sl r], [.sl r], fun x => bif Nat.ble (List.length (x : List r.den)) 9223372036854775807 then some (List.reverse (x : List r.den)) else none⟩ [none] [v] [L.sl loc kids] (List.reverse (x : List r.den) : List r.den) u w') := by
   intro a cap e hx0
   have hx1 : (x : List r.den) = [] := List.eq_nil_of_length_eq_zero hx0
   have hk0 : kids = [] := List.eq_nil_of_length_eq_zero (hk.trans hx0)
   have hc : Calls P (ρ.f 35) #[.slice a 0 cap] w fun e w' => e = .returned (.tuple #[]) ∧ w' = w := AnyQ.slices_Reverse_empty L0 a cap w
   subst e
   refine hc.mono fun e w' h => ?_
   obtain ⟨rfl, rfl⟩ := h
   refine rev_out (kids' := kids) (.refl _) rfl rfl ?_ hnd' hown' ((Turn.refl _).mono fun b hb => by cases hb)
   rw [hx1] at hv hk hloc hrow ⊢
   exact ⟨loc, kids, rfl, hv, hk, hloc, hrow⟩
 show Calls P (ρ.f 35) [v].toArray w _
 cases loc with
 | nil => exact empty none 0 hv (by simpa [LocOk] using hloc)
 | emp a cap => exact empty a cap hv hloc.1
 | «at» b off cap sz =>
   obtain ⟨rfl, hcap, hb⟩ := hloc
   obtain ⟨vals, e, hvals, hfit⟩ := hb rfl
   have hv : v = .slice (some ⟨b, off, none⟩) (List.length (x : List r.den)) cap := hv
   subst hv
   have hex : ∀ i, i < (List.length (x : List r.den)) → ∃ vs, RowC w true r (List.getD (x : List r.den) i r.dflt) (kids.getD i []) vs ∧ ∀ j v, vs[j]? = some v → w.cell? ⟨b, off + i * r.size + j, none⟩ = some v := fun i hi => RowV.vals (hrow b off cap r.size rfl i hi)
   let f : Nat → List Value := fun i => if h : i < (List.length (x : List r.den)) then Classical.choose (hex i h) else []
   have hf : ∀ i, i < (List.length (x : List r.den)) → RowC w true r (List.getD (x : List r.den) i r.dflt) (kids.getD i []) (f i) ∧ ∀ j v, (f i)[j]? = some v → w.cell? ⟨b, off + i * r.size + j, none⟩ = some v := by
     intro i hi
     have := Classical.choose_spec (hex i hi)
     simp only [f, dif_pos hi]
     exact this
   let g : Nat → RowT r.size := fun i => if h : (f i).length = r.size ∧ ∀ v ∈ f i, v.oneCell' = true then ⟨f i, h⟩ else default
   have hg : ∀ i, i < (List.length (x : List r.den)) → (g i).1 = f i := by
     intro i hi
     simp only [g, dif_pos (show (f i).length = r.size ∧ ∀ v ∈ f i, v.oneCell' = true from ⟨(hf i hi).1.length, (hf i hi).1.oneCell⟩)]
   let d : Array (RowT r.size) := ((List.range (List.length (x : List r.den))).map g).toArray
   have hds : d.size = (List.length (x : List r.den)) := by simp [d]
   have hd : ∀ i, i < (List.length (x : List r.den)) → d[i]! = g i := by
     intro i hi
     rw [getElem!_pos d i (by rw [hds]; exact hi)]
     simp [d]
   have hdr : ∀ i, i < (List.length (x : List r.den)) → d.reverse[i]! = g ((List.length (x : List r.den)) - 1 - i) := by
     intro i hi
     rw [getElem!_pos d.reverse i (by rw [Array.size_reverse, hds]; exact hi), Array.getElem_reverse, ← getElem!_pos d, hds]
     exact hd _ (by omega)
   have hH : HoldsK (fun t : RowT r.size => t.1) r.size w b off d := by
     intro t ht
     rw [size_flatK, hds] at ht
     have k0 : 0 < r.size := by
       rcases Nat.eq_zero_or_pos r.size with h | h
       · rw [h] at ht; simp at ht
       · exact h
     have hi : t / r.size < (List.length (x : List r.den)) := (Nat.div_lt_iff_lt_mul k0).2 ht
     have hj : t % r.size < r.size := Nat.mod_lt _ k0
     rw [get_flatK _ _ _ _ (by rw [hds]; exact ht), hd _ hi, hg _ hi]
     have hl := (hf _ hi).1.length
     have hc := (hf _ hi).2 (t % r.size) (f (t / r.size))[t % r.size]! (by rw [List.getElem!_eq_getElem?_getD, List.getElem?_eq_getElem (by rw [hl]; exact hj)]; rfl)
     rw [show off + t / r.size * r.size + t % r.size = off + t by have := Nat.div_add_mod t r.size; rw [Nat.mul_comm] at this; omega] at hc
     exact ⟨hc, by simp [World.frozen?, hvals]⟩
   have hcall := AnyQ.slices_Reverse L0 r.size aE zE (fun t : RowT r.size => t.1) (fun t => t.2.1) (fun t => t.2.2) b off cap d w hH (by rw [hds]; exact hlen)
   rw [hds] at hcall
   refine hcall.mono fun e' w' h => ?_
   obtain ⟨rfl, n, rfl⟩ := h
   have hother : ∀ b', b' ≠ b → (putRowK (fun t : RowT r.size => t.1) r.size (Sort.ahead w n) b off d.reverse).heap[b']? = w.heap[b']? := by
     intro b' hne
     simp [putRowK, putRow, mapBlock, Sort.ahead, Array.getElem?_modify, Ne.symm hne]
   have hHr := holdsK_putRowK (fun t : RowT r.size => t.1) r.size (Sort.ahead w n) b off d d.reverse (holdsK_ahead _ _ w n b off d hH) (by simp)
   have hbk : b ∉ Lss.bl kids := by
     have h2 : ([b] ++ Lss.bl kids).Nodup := hnd'
     have := List.nodup_append.1 h2
     exact fun hm => this.2.2 b (by simp) b hm rfl
   refine rev_out (kids' := kids.reverse) (Lss.bl_reverse kids) (by simp) rfl ?_ hnd' hown' ⟨rfl, rfl, rfl, by simp [putRowK, putRow, mapBlock, Sort.ahead], fun b' _ hn => hother b' fun h => hn (by rw [h]; simp [L.bl, Loc.bl])⟩
   have hxr : List.length (List.reverse (x : List r.den)) = List.length (x : List r.den) := List.length_reverse
   refine ⟨.at b off cap r.size, kids.reverse, rfl, by show _ = Value.slice _ _ _; rw [hxr], by rw [hxr, List.length_reverse]; exact hk, ⟨rfl, by rw [hxr]; exact hcap, fun _ => ?_⟩, fun b1 off1 cap1 sz1 e1 i hi => ?_⟩
   · refine ⟨putCells id off (flatK (fun t : RowT r.size => t.1) r.size d.reverse) vals, e, ?_, ?_⟩
     · simp [putRowK, putRow, mapBlock, Sort.ahead, Array.getElem?_modify, hvals, onCells]
     · simpa [putCells] using hfit
   · cases e1
     rw [hxr] at hi
     have hi2 : (List.length (x : List r.den)) - 1 - i < (List.length (x : List r.den)) := by omega
     rw [getD_rev _ _ _ hi, getD_rev _ _ _ (by rw [hk]; exact hi), hk]
     refine RowC.mem (vs := f ((List.length (x : List r.den)) - 1 - i)) ((hf _ hi2).1.keep fun b' hm => hother b' fun h => hbk (by rw [← h]; exact Lss.bl_getD kids _ b' hm)) fun j v hj => ?_
     have hl := (hf _ hi2).1.length
     have hjl : j < r.size := by
       have := (List.getElem?_eq_some_iff.1 hj).1
       rwa [hl] at this
     have hc := (hHr.cell (i := i) (c := j) (by rw [Array.size_reverse, hds]; exact hi) hjl).1
     rw [hdr i hi, hg _ hi2] at hc
     rw [hc, List.getElem!_eq_getElem?_getD, hj]
     rfl
end Go.Abs


