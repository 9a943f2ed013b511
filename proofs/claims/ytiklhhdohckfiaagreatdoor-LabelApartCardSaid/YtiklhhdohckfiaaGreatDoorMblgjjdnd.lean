/- Texts that go together: DcE DcF Plain19B DcG DcH SLaw07 ObP ObQ ObR STexts OcTx SSame SApart Plain07B Plain07C ObS0 ObT DcI LbF LbG Plain38B LbH LbI Plain38C LbJ Plain38D LbK EngV SLaw38 LbL Plain38E Plain38F Plain38G. -/
import Derived.Test.YtiklhhdohckfiaaGreatDoorRows
import Derived.Test.YtiklhhdohckfiaaGreatDoorMjggdabcl
import Derived.Test.YtiklhhdohckfiaaGreatDoorMjhfdamlk
import Derived.Test.YtiklhhdohckfiaaGreatDoorMbojonekf
import Derived.Test.YtiklhhdohckfiaaGreatDoorMmkkfpika
namespace Go.Proofs.YtiklhhdohckfiaaGreatDoor
set_option linter.unusedVariables false
set_option linter.unusedSimpArgs false
set_option linter.defProp false
set_option maxRecDepth 20000
open Eng Go.RowKit

def IV (A : Nat → Prop) (w : World) (v : Value) (i : It) : Prop := ∃ vk vc, v = itV i vk vc ∧ OV A w (obV i.obj vk vc) i.obj
theorem Vl.got_wt {o v : Ob} {k : List UInt8} (h : Vl.get o k = some v) : v.wt ≤ o.wt := by
  unfold Vl.get at h
  split at h
  · split at h
    · rename_i h1 h2
      obtain ⟨hl, rfl⟩ := List.getElem?_eq_some_iff.1 h
      have := kid_wt hl
      omega
    · cases h
  · cases h
theorem str_at {M : Mem} {v : Value} {l : List (List UInt8)} (hs : SlA M.A M.w v 1 l.length (strsV l)) {i : Nat} (hi : i < l.length) :
    ∃ p, ∀ W, M.has W → (mIA 22 v (.int .i64 (i : Int))).run Tryz.prog W = .ok (.value (.pointer (some p))) W ∧ (mLoad 9 (.pointer (some p))).run Tryz.prog W = .ok (.value (.string ⟨l[i].toArray⟩)) W := by
  obtain ⟨b, off, cap, rfl, _⟩ := sl_open hs.1 (by omega)
  refine ⟨⟨b, off + i, none⟩, fun W hk => ⟨?_, ?_⟩⟩
  · have := run_ia (P := Tryz.prog) (T := 22) (b := b) (off := off) (cap := cap) (n := l.length) (k := .i64) (i := (i : Int)) (w := W) Tryz.underlying22 (show _ = some 1 by kernel_rfl) (by omega) (by omega)
    rw [Int.toNat_natCast, Nat.mul_one] at this
    exact this
  · obtain ⟨b', off', cap', he, hc⟩ := sl_open (hs.now hk) (by omega)
    cases he
    exact run_load_cell nStr5 (hc i _ (strsV_get hi))
section
variable {w : World} {S : Nat → Prop} {w0 : World} {L : List Ent}
theorem ret_it {K : Ending → World → Prop} {b : Nat} {o : It} {vk vc : Value} (i : Nat) (ho : OwnS S w0 w L) (hi : L[i]? = some (itE b o vk vc)) (k : K (.returned (itV o vk vc)) w) : RetX Tryz.prog [.cell (.pointer (some ⟨b, 0, none⟩)) 102] w K :=
  ret_v1 (rv_cell (ho.agg i hi aggIt)) k
theorem o_nb {PK : List PanicEntry → World → Prop} {K : Value → World → Prop} (n : Int) (ho : OwnS S w0 w L) (k : ∀ b w', OwnS S w0 w' (.cells b [.int .i64 n] 3 :: L) → K (.pointer (some ⟨b, 0, none⟩)) w') : DoX Tryz.prog (mBox 3 (.int .i64 n)) w PK K :=
  o_new (fun b => .pointer (some ⟨b, 0, none⟩)) [.int .i64 n] 3 (fun _ => by kernel_rfl) ho k
end
theorem copied_ret (i : It) {vk vc : Value} (M : Mem) (w : World) (hw : i.obj.wt ≤ 100000000000) (hM : M.has w) (hv : OV M.A M.w (obV i.obj vk vc) i.obj) :
    RetM Tryz.prog 126 #[itV i vk vc] M w (fun r N => IV N.A N.w r i) := by
  refine retM_of hM fun K hK => S_docs_copied_ok ?_
  unfold S_docs_copied
  refine o_itb i hv.oneK hv.oneC (OwnS.memS hM) fun b w1 ho => ?_
  refine o_ita ho fun b2 w2 ho => ?_
  rw [fa_i2, it_obj ho 1 rfl]
  refine c_mem ho 2 rfl (clone_ret i.obj _ M w2 hw (ho.hasM 2 rfl) hv) fun y N w3 hle hy ho => ?_
  obtain ⟨yk, yc, ycs, rfl, hya⟩ := hy.open
  rw [fa_i2]
  refine it_putO 1 hy.oneK hy.oneC ho rfl fun w4 ho => ?_
  rw [it_v ho 1 rfl]
  refine it_put 0 hy.oneK hy.oneC ho rfl fun w5 ho => ?_
  exact ret_it 0 ho rfl (hK _ _ N _ 2 ho rfl hle ⟨yk, yc, rfl, hy⟩)
theorem dget_ret (d : Dc) (n : Int) (dv : Value) (M : Mem) (w : World) (hd : Dk.Ok d) (hM : M.has w) (hdv : DV M.A M.w dv d) :
    RetM Tryz.prog 76 #[dv, .int .i64 n] M w (fun r N => ∃ v', r = getV v' (Dk.find d.items n).isSome ∧ IV N.A N.w v' ((Dk.find d.items n).getD Dk.it0)) := by
  obtain ⟨vi, tk, tc, cs, rfl, hda⟩ := hdv
  refine retM_of hM fun K hK => S_docs_Get_ok ?_
  unfold S_docs_Get
  refine o_dcb d hda.items.one hda.trailer.oneK hda.trailer.oneC (OwnS.memS hM) fun b2 w1 ho => ?_
  refine o_nb n ho fun b3 w2 ho => ?_
  refine o_ita ho fun b4 w3 ho => ?_
  rw [fa_d0, dc_items ho 2 rfl]
  have hfi : Dk.find d.items n = d.items[d.items.findIdx (fun i => decide (i.num = n))]? := find_idx _ _
  simp only [m_func]
  refine c_below ho (R := fun v => v = ixV d.items (fun i => decide (i.num = n))) (ixf_ret d.items vi cs M w3 125 #[.pointer (some ⟨b3, 0, none⟩)] (fun i => decide (i.num = n)) (fun W => (Ent.cells b3 [.int .i64 n] 3).is W ∧ M.has W) get1_plain hd.len hda.items hda.all
    ⟨ho.at_ 1 rfl, ho.hasM 3 rfl⟩ (fun W W' h hb => ⟨(Ent.cells b3 [.int .i64 n] 3).keep h.1 fun k hk => hb.block k ((Ent.cells b3 [.int .i64 n] 3).lt h.1 k hk), Mem.has_below h.2 hb⟩) (fun W h => h.2)
    (fun i xk xc W h hk hc => get1_ret i n W h.1 hk hc)) ?_
  rintro _ w4 rfl ho
  unfold ixV
  by_cases hix : d.items.findIdx (fun i => decide (i.num = n)) < d.items.length
  · rw [if_pos hix]
    rw [List.getElem?_eq_getElem hix] at hfi
    have hwi := hd.items _ (List.getElem_mem hix)
    generalize d.items.findIdx (fun i => decide (i.num = n)) = ix at *
    have hn : ¬ ((ix : Int) < 0) := by omega
    simp only [rs, hn, decide_false]
    rw [fa_d0, dc_items ho 2 rfl]
    obtain ⟨xk, xc, bi, oi, hx, hr⟩ := item_at hda.items hda.all hix
    obtain ⟨r1, r2⟩ := hr w4 (ho.hasM 3 rfl)
    refine do_eq r1 |>.mpr (do_eq (run_it r2) |>.mpr ?_)
    refine c_mem ho 3 rfl (copied_ret d.items[ix] M w4 (by omega) (ho.hasM 3 rfl) hx) ?_
    rintro _ N w5 hle ⟨yk, yc, rfl, hy⟩ ho
    refine it_put 0 hy.oneK hy.oneC ho rfl fun w6 ho => ?_
    refine ret_it2 0 ho rfl (hK _ _ N _ 3 ho rfl hle ⟨itV d.items[ix] yk yc, ?_, yk, yc, ?_, ?_⟩)
    · rw [hfi]; rfl
    · rw [hfi]; rfl
    · rw [hfi]; exact hy
  · rw [if_neg hix]
    rw [List.getElem?_eq_none (by omega)] at hfi
    have hn : ((-1 : Int) < 0) := by omega
    simp only [rs, hn, decide_true]
    rw [m_it0]
    refine it_put 0 rfl rfl ho rfl fun w5 ho => ?_
    refine ret_it2 0 ho rfl (hK _ _ M _ 3 ho rfl M.le_refl ⟨itV Dk.it0 nilS nilS, ?_, nilS, nilS, ?_, ?_⟩)
    · rw [hfi]; rfl
    · rw [hfi]; rfl
    · rw [hfi]; exact it0_ov M
theorem Dk.path_none (d : Dc) (o : Ob) {l : List (List UInt8)} {i : Nat} (h : i < l.length) (hg : Vl.get o l[i] = none) : Dk.path d o (l.drop i) = Vl.ob0 := by
  rw [List.drop_eq_getElem_cons h, Dk.path, hg]
theorem Dk.path_some (d : Dc) (o : Ob) {v : Ob} {l : List (List UInt8)} {i : Nat} (h : i < l.length) (hg : Vl.get o l[i] = some v) : Dk.path d o (l.drop i) = Dk.path d (Dk.follow d v) (l.drop (i + 1)) := by
  rw [List.drop_eq_getElem_cons h, Dk.path, hg]
theorem Dk.path_wt {d : Dc} (h : Dk.Ok d) : ∀ (ks : List (List UInt8)) {o : Ob}, o.wt ≤ 1000000000 → (Dk.path d o ks).wt ≤ 1000000000
  | [], o, ho => ho
  | k :: ks, o, ho => by
    rw [Dk.path]
    split
    · rw [ob0_wt]; omega
    · rename_i v hv
      have := Vl.got_wt hv
      exact Dk.path_wt h ks (Dk.follow_wt h (by omega))
theorem dpath_ret (d : Dc) (o : Ob) (ks : List (List UInt8)) (dv v kv : Value) (M : Mem) (w : World) (hd : Dk.Ok d) (hw : o.wt ≤ 1000000000) (hl : ks.length ≤ 1000000000) (hM : M.has w) (hdv : DV M.A M.w dv d) (hv : OV M.A M.w v o) (hk : SlA M.A M.w kv 1 ks.length (strsV ks)) :
    RetM Tryz.prog 62 #[dv, v, kv] M w (fun r N => OV N.A N.w r (Dk.path d (Dk.follow d o) ks)) := by
  obtain ⟨vk, vc, ocs, rfl, ha⟩ := hv.open
  obtain ⟨vi, tk, tc, cs, rfl, hda⟩ := hdv
  refine retM_of hM fun K hK => S_docs_Path_ok ?_
  unfold S_docs_Path
  refine o_dcb d hda.items.one hda.trailer.oneK hda.trailer.oneC (OwnS.memS hM) fun b2 w1 ho => ?_
  refine o_obb o ha.keys.one ha.kids.one ho fun b3 w2 ho => ?_
  refine o_oba ho fun b4 w3 ho => ?_
  rw [dc_v ho 2 rfl, ob_v ho 1 rfl]
  refine c_mem ho 3 rfl (dfollow_ret d o _ _ M w3 hd hw (ho.hasM 3 rfl) hda.dv hv) fun y N w4 hle hy ho => ?_
  obtain ⟨yk, yc, ycs, rfl, hya⟩ := hy.open
  refine ob_put 1 hya.keys.one hya.kids.one ho rfl fun w5 ho => ?_
  rw [sl_len Tryz.underlying22 (hk.now (Mem.has_of hle (ho.hasM 3 rfl)))]
  refine loop (fun vs W => ∃ (i : Nat) (N : Mem) (cur : Ob) (ck cc : Value), vs = [.int .i64 i] ∧ i ≤ ks.length ∧ M.le N ∧ cur.wt ≤ 1000000000 ∧ OV N.A N.w (obV cur ck cc) cur ∧ Dk.path d (Dk.follow d o) ks = Dk.path d cur (ks.drop i) ∧ OwnS M.A w W [obE b4 ob0 nilS nilS, obE b3 cur ck cc, dcE b2 d vi tk tc, .mem N]) (fun vs _ => ks.length - n0 vs)
    ⟨0, N, Dk.follow d o, yk, yc, rfl, by omega, hle, Dk.follow_wt hd hw, hy, by rw [List.drop_zero], ho⟩ ?_
  clear ho
  rintro vs w6 ⟨i, N, cur, ck, cc, rfl, hi, hle, hcw, hc, he, ho⟩ _
  simp only [S_docs_Path_0, gd, rs]
  by_cases hlt : (i : Int) < (ks.length : Int)
  · have hi' : i < ks.length := by omega
    simp only [hlt, decide_true, i_t]
    obtain ⟨p, hr⟩ := str_at hk hi'
    obtain ⟨r1, r2⟩ := hr w6 (Mem.has_of hle (ho.hasM 3 rfl))
    refine do_eq r1 |>.mpr (do_eq r2 |>.mpr ?_)
    rw [ob_v ho 1 rfl]
    refine c_mem ho 3 rfl (vget_ret cur _ ks[i] N w6 (by omega) (ho.hasM 3 rfl) hc) ?_
    rintro _ N2 w7 hle2 ⟨t, rfl, ht⟩ ho
    obtain ⟨tk', tc', rfl, ht⟩ := getD_ov ht
    simp only [getV, ex]
    refine o_oba ho fun b6 w8 ho => ?_
    refine ob_put 0 ht.oneK ht.oneC ho rfl fun w9 ho => ?_
    cases hg : Vl.get cur ks[i] with
    | none =>
      rw [Dk.path_none d cur hi' hg] at he
      simp only [rs, Option.isSome_none, Bool.not_false]
      rw [m_ob0]
      refine ob_put 1 rfl rfl ho rfl fun w10 ho => ?_
      exact ret_obi 1 ho rfl (hK _ _ N2 _ 4 ho rfl (hle.trans hle2) (by rw [he]; exact ob0_ov N2))
    | some x =>
      rw [Dk.path_some d cur hi' hg] at he
      rw [hg] at ht ho
      have hxw := Vl.got_wt hg
      simp only [rs, Option.isSome_some, Bool.not_true]
      rw [dc_v ho 3 rfl, ob_v ho 0 rfl]
      refine c_mem ho 4 rfl (dfollow_ret d x _ _ N2 w9 hd (by omega) (ho.hasM 4 rfl) ((hda.le (hle.trans hle2)).dv) ht) fun y N3 w10 hle3 hy ho => ?_
      obtain ⟨yk, yc, ycs, rfl, hya⟩ := hy.open
      refine ob_put 2 hya.keys.one hya.kids.one ho rfl fun w11 ho => ?_
      rw [wrap64_id (by omega) (by omega)]
      exact nextX ⟨i + 1, N3, Dk.follow d x, yk, yc, rfl, by omega, (hle.trans hle2).trans hle3, Dk.follow_wt hd (by omega), hy, he, ho.tail⟩ (by simp [n0, intOf]; omega)
  · simp only [hlt, decide_false, i_f]
    rw [List.drop_eq_nil_of_le (by omega)] at he
    rw [ob_v ho 1 rfl]
    refine ob_put 0 hc.oneK hc.oneC ho rfl fun w7 ho => ?_
    exact ret_obi 0 ho rfl (hK _ _ N _ 3 ho rfl hle (by rw [he]; exact hc))
theorem rpath_ret (d : Dc) (o : Ob) (ks : List (List UInt8)) (dv v kv : Value) (M : Mem) (w : World) (hd : Dk.Ok d) (hw : o.wt ≤ 1000000000) (hl : ks.length ≤ 1000000000) (hM : M.has w) (hdv : DV M.A M.w dv d) (hv : OV M.A M.w v o) (hk : SlA M.A M.w kv 1 ks.length (strsV ks)) :
    RetM Tryz.prog 65 #[dv, v, kv] M w (fun r N => OV N.A N.w r (Dk.path d (Dk.follow d o) ks)) := by
  obtain ⟨vk, vc, ocs, rfl, ha⟩ := hv.open
  obtain ⟨vi, tk, tc, cs, rfl, hda⟩ := hdv
  refine retM_of hM fun K hK => S_foliantref19_Path_ok ?_
  unfold S_foliantref19_Path
  refine o_dcb d hda.items.one hda.trailer.oneK hda.trailer.oneC (OwnS.memS hM) fun b2 w1 ho => ?_
  refine o_obb o ha.keys.one ha.kids.one ho fun b3 w2 ho => ?_
  refine o_oba ho fun b4 w3 ho => ?_
  rw [dc_v ho 2 rfl, ob_v ho 1 rfl]
  refine c_mem ho 3 rfl (rfollow_ret d o _ _ M w3 hd (ho.hasM 3 rfl) hda.dv hv) fun y N w4 hle hy ho => ?_
  obtain ⟨yk, yc, ycs, rfl, hya⟩ := hy.open
  refine ob_put 1 hya.keys.one hya.kids.one ho rfl fun w5 ho => ?_
  rw [sl_len Tryz.underlying22 (hk.now (Mem.has_of hle (ho.hasM 3 rfl)))]
  refine loop (fun vs W => ∃ (i : Nat) (N : Mem) (cur : Ob) (ck cc : Value), vs = [.int .i64 i] ∧ i ≤ ks.length ∧ M.le N ∧ cur.wt ≤ 1000000000 ∧ OV N.A N.w (obV cur ck cc) cur ∧ Dk.path d (Dk.follow d o) ks = Dk.path d cur (ks.drop i) ∧ OwnS M.A w W [obE b4 ob0 nilS nilS, obE b3 cur ck cc, dcE b2 d vi tk tc, .mem N]) (fun vs _ => ks.length - n0 vs)
    ⟨0, N, Dk.follow d o, yk, yc, rfl, by omega, hle, Dk.follow_wt hd hw, hy, by rw [List.drop_zero], ho⟩ ?_
  clear ho
  rintro vs w6 ⟨i, N, cur, ck, cc, rfl, hi, hle, hcw, hc, he, ho⟩ _
  simp only [S_foliantref19_Path_0, gd, rs]
  by_cases hlt : (i : Int) < (ks.length : Int)
  · have hi' : i < ks.length := by omega
    simp only [hlt, decide_true, i_t]
    obtain ⟨p, hr⟩ := str_at hk hi'
    obtain ⟨r1, r2⟩ := hr w6 (Mem.has_of hle (ho.hasM 3 rfl))
    refine do_eq r1 |>.mpr (do_eq r2 |>.mpr ?_)
    rw [ob_v ho 1 rfl]
    refine c_mem ho 3 rfl (rget_ret cur _ ks[i] N w6 (by omega) (ho.hasM 3 rfl) hc) ?_
    rintro _ N2 w7 hle2 ⟨t, rfl, ht⟩ ho
    obtain ⟨tk', tc', rfl, ht⟩ := getD_ov ht
    simp only [getV, ex]
    refine o_oba ho fun b6 w8 ho => ?_
    refine ob_put 0 ht.oneK ht.oneC ho rfl fun w9 ho => ?_
    cases hg : Vl.get cur ks[i] with
    | none =>
      rw [Dk.path_none d cur hi' hg] at he
      simp only [rs, Option.isSome_none, Bool.not_false]
      rw [m_ob0]
      refine ob_put 1 rfl rfl ho rfl fun w10 ho => ?_
      exact ret_obi 1 ho rfl (hK _ _ N2 _ 4 ho rfl (hle.trans hle2) (by rw [he]; exact ob0_ov N2))
    | some x =>
      rw [Dk.path_some d cur hi' hg] at he
      rw [hg] at ht ho
      have hxw := Vl.got_wt hg
      simp only [rs, Option.isSome_some, Bool.not_true]
      rw [dc_v ho 3 rfl, ob_v ho 0 rfl]
      refine c_mem ho 4 rfl (rfollow_ret d x _ _ N2 w9 hd (ho.hasM 4 rfl) ((hda.le (hle.trans hle2)).dv) ht) fun y N3 w10 hle3 hy ho => ?_
      obtain ⟨yk, yc, ycs, rfl, hya⟩ := hy.open
      refine ob_put 2 hya.keys.one hya.kids.one ho rfl fun w11 ho => ?_
      rw [wrap64_id (by omega) (by omega)]
      exact nextX ⟨i + 1, N3, Dk.follow d x, yk, yc, rfl, by omega, (hle.trans hle2).trans hle3, Dk.follow_wt hd (by omega), hy, he, ho.tail⟩ (by simp [n0, intOf]; omega)
  · simp only [hlt, decide_false, i_f]
    rw [List.drop_eq_nil_of_le (by omega)] at he
    rw [ob_v ho 1 rfl]
    refine ob_put 0 hc.oneK hc.oneC ho rfl fun w7 ho => ?_
    exact ret_obi 0 ho rfl (hK _ _ N _ 3 ho rfl hle (by rw [he]; exact hc))
end Go.Proofs.YtiklhhdohckfiaaGreatDoor
namespace Go.Proofs.YtiklhhdohckfiaaGreatDoor
set_option linter.unusedVariables false
set_option linter.unusedSimpArgs false
set_option linter.defProp false
set_option maxRecDepth 20000
open Eng Go.RowKit

theorem contains_ret (va : Value) (l : List (List UInt8)) (x : List UInt8) (w : World) (ha : Sl w va 1 l.length (strsV l)) (hl : l.length ≤ 1099511627776) :
    Ret Tryz.prog 178 #[va, .string ⟨x.toArray⟩] w (fun v w' => v = .bool (decide (x ∈ l)) ∧ w = w') := by
  refine ret_of fun K hK => S_slices_Contains_string_string_ok ?_
  unfold S_slices_Contains_string_string
  refine c_eq (sindex_ret va l x w ha hl) ?_
  by_cases h : l.idxOf x < l.length
  · rw [if_pos h]
    simp only [rs]
    refine hK _ _ ⟨?_, rfl⟩
    have hm : x ∈ l := List.idxOf_lt_length_iff.1 h
    rw [decide_eq_true hm, decide_eq_true (by omega)]
  · rw [if_neg h]
    simp only [rs]
    refine hK _ _ ⟨?_, rfl⟩
    have hm : x ∉ l := fun hm => h (List.idxOf_lt_length_iff.2 hm)
    rw [decide_eq_false hm, decide_eq_false (by omega)]
def Dk.knownL : List (List UInt8) := [Dk.idK, Dk.infoK, Dk.rootK]
theorem Dk.known_mem (k : List UInt8) : decide (k ∈ Dk.knownL) = Dk.known k := by
  rw [Bool.eq_iff_iff]
  simp [Dk.knownL, Dk.known, or_assoc]
theorem known_ret (M : Mem) (w : World) (hM : M.has w) : RetM Tryz.prog 179 #[] M w (fun r N => SlA N.A N.w r 1 3 (strsV Dk.knownL)) := by
  refine retM_of hM fun K hK => S_docs_known_ok ?_
  unfold S_docs_known
  refine o_new (fun b => .slice (some ⟨b, 0, none⟩) 3 3) (strsV Dk.knownL) 9 (fun _ => by kernel_rfl) (OwnS.memS hM) fun b w1 ho => ?_
  obtain ⟨N, hle, hrow, ho⟩ := OwnS.freezeU (L := [.mem M]) (ho.toU 1 3 3 (by decide) (by omega) (by omega)) 0 rfl
  exact hK _ _ N _ 0 ho rfl hle hrow
theorem Dk.trail_keys (d : Dc) (hc : Vl.check 1 d.trailer = 0) (h7 : d.trailer.k = 7) (h : d.trailer.keys.all Dk.known = false) : Dk.trail d = 3 := by
  unfold Dk.trail
  rw [if_neg (by simp [hc]), if_neg (by simp [h7]), if_pos h]
theorem Dk.trail_end (d : Dc) (hc : Vl.check 1 d.trailer = 0) (h7 : d.trailer.k = 7) (h : d.trailer.keys.all Dk.known = true) : Dk.trail d = if (Dk.root d).k ≠ 8 ∨ (Dk.follow d (Dk.root d)).k ≠ 7 then 22 else 0 := by
  unfold Dk.trail
  rw [if_neg (by simp [hc]), if_neg (by simp [h7]), if_neg (by simp [h])]
theorem Dk.all_false {l : List (List UInt8)} {i : Nat} (hi : i < l.length) (h : Dk.known l[i] = false) : l.all Dk.known = false := by
  rw [List.all_eq_false]
  exact ⟨l[i], List.getElem_mem hi, by simp [h]⟩
theorem Dk.all_true {l : List (List UInt8)} {i : Nat} (hi : l.length ≤ i) (h : ∀ m (hm : m < l.length), m < i → Dk.known l[m] = true) : l.all Dk.known = true := by
  rw [List.all_eq_true]
  intro x hx
  obtain ⟨m, hm, rfl⟩ := List.getElem_of_mem hx
  exact h m hm (by omega)
theorem dtrail_ret (d : Dc) (dv : Value) (M : Mem) (w : World) (hd : Dk.Ok d) (hM : M.has w) (hdv : DV M.A M.w dv d) :
    RetM Tryz.prog 113 #[dv] M w (fun r _ => r = .int .i64 (Dk.trail d)) := by
  obtain ⟨vi, tk, tc, cs, rfl, hda⟩ := hdv
  obtain ⟨ocs, hta⟩ := hda.trailer.slices
  have htw := hd.trailer
  have hkt : Pl.tot d.trailer.keys ≤ 1000000000 := by have := d.trailer.wt_eq; omega
  have hkl := Pl.length_tot d.trailer.keys
  refine retM_of hM fun K hK => S_docs_trail_ok ?_
  unfold S_docs_trail
  refine o_dcb d hda.items.one hda.trailer.oneK hda.trailer.oneC (OwnS.memS hM) fun b w1 ho => ?_
  rw [fa_d1, dc_tr ho 0 rfl]
  refine c_below ho (R := fun v => v = .int .i64 (Vl.check 1 d.trailer)) (vCheck_ret d.trailer _ w1 (OV.inw (ho.hasM 1 rfl) hda.trailer) (by omega)) ?_
  rintro _ w2 rfl ho
  simp only [n_err]
  by_cases hc : Vl.check 1 d.trailer = 0
  case neg =>
    simp only [hc, ne_eq, not_false_eq_true, decide_true, i_t]
    exact hK _ _ M _ 1 ho rfl M.le_refl (by unfold Dk.trail; rw [if_pos hc])
  simp only [hc, ne_eq, not_true, decide_false, i_f]
  rw [fa_d1, fa_o0, dc_trk ho 0 rfl]
  simp only [rs]
  by_cases h7 : d.trailer.k = 7
  case neg =>
    simp only [h7, ne_eq, not_false_eq_true, decide_true, i_t]
    exact hK _ _ M _ 1 ho rfl M.le_refl (by unfold Dk.trail; rw [if_neg (by simp [hc]), if_pos h7])
  simp only [h7, ne_eq, not_true, decide_false, i_f]
  rw [fa_d1, fa_o4, dc_trkeys ho 0 rfl, sl_len Tryz.underlying22 (hta.keys.now (ho.hasM 1 rfl))]
  refine loop (fun vs W => ∃ (i : Nat) (N : Mem), vs = [.int .i64 i] ∧ i ≤ d.trailer.keys.length ∧ M.le N ∧ (∀ m (hm : m < d.trailer.keys.length), m < i → Dk.known d.trailer.keys[m] = true) ∧ OwnS M.A w W [dcE b d vi tk tc, .mem N]) (fun vs _ => d.trailer.keys.length - n0 vs)
    ⟨0, M, rfl, by omega, M.le_refl, fun m _ h => by omega, ho⟩ ?_
  clear ho
  rintro vs w3 ⟨i, N, rfl, hi, hle, hlo, ho⟩ _
  simp only [S_docs_trail_0, gd, rs]
  by_cases hlt : (i : Int) < (d.trailer.keys.length : Int)
  · have hi' : i < d.trailer.keys.length := by omega
    simp only [hlt, decide_true, i_t]
    obtain ⟨p, hr⟩ := str_at hta.keys hi'
    obtain ⟨r1, r2⟩ := hr w3 (Mem.has_of hle (ho.hasM 1 rfl))
    refine do_eq r1 |>.mpr (do_eq r2 |>.mpr ?_)
    refine c_mem ho 1 rfl (known_ret N w3 (ho.hasM 1 rfl)) fun y N2 w4 hle2 hy ho => ?_
    refine c_eq (contains_ret y Dk.knownL d.trailer.keys[i] w4 (hy.now (ho.hasM 1 rfl)) (by decide)) ?_
    rw [Dk.known_mem]
    cases hk : Dk.known d.trailer.keys[i] with
    | false =>
      simp only [rs, Bool.not_false]
      exact hK _ _ N2 _ 1 ho rfl (hle.trans hle2) (by rw [Dk.trail_keys d hc h7 (Dk.all_false hi' hk)])
    | true =>
      simp only [rs, Bool.not_true]
      rw [wrap64_id (by omega) (by omega)]
      refine nextX ⟨i + 1, N2, rfl, by omega, hle.trans hle2, fun m hm hmi => ?_, ho⟩ (by simp [n0, intOf]; omega)
      rcases Nat.lt_or_ge m i with h | h
      · exact hlo m hm h
      · have : m = i := by omega
        subst this; exact hk
  · simp only [hlt, decide_false, i_f]
    have he := Dk.trail_end d hc h7 (Dk.all_true (by omega) hlo)
    rw [fa_d1, dc_tr ho 0 rfl]
    refine c_mem ho 1 rfl (vget_ret d.trailer _ Dk.rootK N w3 (by omega) (ho.hasM 1 rfl) (hda.trailer.le hle)) ?_
    rintro _ N2 w4 hle2 ⟨t, rfl, ht⟩ ho
    obtain ⟨xk, xc, rfl, ht⟩ := getD_ov ht
    have hrw : (Dk.root d).wt ≤ 1000000000 := by have := Vl.get_wt (o := d.trailer) (key := Dk.rootK); unfold Dk.root; omega
    rw [show (Vl.get d.trailer Dk.rootK).getD Vl.ob0 = Dk.root d from rfl] at ht ⊢
    simp only [getV, ex]
    refine o_oba ho fun b6 w5 ho => ?_
    refine ob_put 0 ht.oneK ht.oneC ho rfl fun w6 ho => ?_
    rw [fa_o0, ob_k ho 0 rfl]
    simp only [rs]
    by_cases h8 : (Dk.root d).k = 8
    case neg =>
      simp only [h8, ne_eq, not_false_eq_true, decide_true, rs, g_un]
      exact hK _ _ N2 _ 2 ho rfl (hle.trans hle2) (by rw [he, if_pos (Or.inl h8)])
    simp only [h8, ne_eq, not_true, decide_false, rs]
    rw [dc_v ho 1 rfl, ob_v ho 0 rfl]
    refine c_mem ho 2 rfl (dfollow_ret d (Dk.root d) _ _ N2 w6 hd hrw (ho.hasM 2 rfl) ((hda.le (hle.trans hle2)).dv) ht) fun y N3 w7 hle3 hy ho => ?_
    obtain ⟨yk, yc, ycs, rfl, hya⟩ := hy.open
    rw [fld_k]
    simp only [rs]
    by_cases hf : (Dk.follow d (Dk.root d)).k = 7
    · simp only [hf, ne_eq, not_true, decide_false, rs]
      exact hK _ _ N3 _ 2 ho rfl ((hle.trans hle2).trans hle3) (by rw [he, if_neg (by simp [h8, hf])])
    · simp only [hf, ne_eq, not_false_eq_true, decide_true, rs]
      exact hK _ _ N3 _ 2 ho rfl ((hle.trans hle2).trans hle3) (by rw [he, if_pos (Or.inr hf)])
theorem rtrail_ret (d : Dc) (dv : Value) (M : Mem) (w : World) (hd : Dk.Ok d) (hM : M.has w) (hdv : DV M.A M.w dv d) :
    RetM Tryz.prog 117 #[dv] M w (fun r _ => r = .int .i64 (Dk.trail d)) := by
  obtain ⟨vi, tk, tc, cs, rfl, hda⟩ := hdv
  obtain ⟨ocs, hta⟩ := hda.trailer.slices
  have htw := hd.trailer
  have hkt : Pl.tot d.trailer.keys ≤ 1000000000 := by have := d.trailer.wt_eq; omega
  have hkl := Pl.length_tot d.trailer.keys
  refine retM_of hM fun K hK => S_foliantref19_trail_ok ?_
  unfold S_foliantref19_trail
  refine o_dcb d hda.items.one hda.trailer.oneK hda.trailer.oneC (OwnS.memS hM) fun b w1 ho => ?_
  rw [fa_d1, dc_tr ho 0 rfl]
  refine o_oba ho fun b3 w2 ho => ?_
  refine ob_put 0 hda.trailer.oneK hda.trailer.oneC ho rfl fun w3 ho => ?_
  rw [ob_v ho 0 rfl]
  refine c_below ho (R := fun v => v = .int .i64 (Vl.check 1 d.trailer)) (rCheck05_ret d.trailer _ w3 (OV.inw (ho.hasM 2 rfl) hda.trailer) (by omega)) ?_
  rintro _ w2 rfl ho
  simp only [n_err]
  by_cases hc : Vl.check 1 d.trailer = 0
  case neg =>
    simp only [hc, ne_eq, not_false_eq_true, decide_true, i_t]
    exact hK _ _ M _ 2 ho rfl M.le_refl (by unfold Dk.trail; rw [if_pos hc])
  simp only [hc, ne_eq, not_true, decide_false, i_f]
  rw [fa_o0, ob_k ho 0 rfl]
  simp only [rs]
  by_cases h7 : d.trailer.k = 7
  case neg =>
    simp only [h7, ne_eq, not_false_eq_true, decide_true, i_t]
    exact hK _ _ M _ 2 ho rfl M.le_refl (by unfold Dk.trail; rw [if_neg (by simp [hc]), if_pos h7])
  simp only [h7, ne_eq, not_true, decide_false, i_f]
  rw [fa_o4, ob_keys ho 0 rfl, sl_len Tryz.underlying22 (hta.keys.now (ho.hasM 2 rfl))]
  refine loop (fun vs W => ∃ (i : Nat), vs = [.int .i64 i] ∧ i ≤ d.trailer.keys.length ∧ (∀ m (hm : m < d.trailer.keys.length), m < i → Dk.known d.trailer.keys[m] = true) ∧ OwnS M.A w W [obE b3 d.trailer tk tc, dcE b d vi tk tc, .mem M]) (fun vs _ => d.trailer.keys.length - n0 vs)
    ⟨0, rfl, by omega, fun m _ h => by omega, ho⟩ ?_
  clear ho
  rintro vs w3 ⟨i, rfl, hi, hlo, ho⟩ _
  simp only [S_foliantref19_trail_0, gd, rs]
  by_cases hlt : (i : Int) < (d.trailer.keys.length : Int)
  · have hi' : i < d.trailer.keys.length := by omega
    simp only [hlt, decide_true, i_t]
    obtain ⟨p, hr⟩ := str_at hta.keys hi'
    obtain ⟨r1, r2⟩ := hr w3 (ho.hasM 2 rfl)
    refine do_eq r1 |>.mpr (do_eq r2 |>.mpr ?_)
    have d1 : Dk.idK = [73, 68] := rfl
    have d2 : Dk.infoK = [73, 110, 102, 111] := rfl
    have d3 : Dk.rootK = [82, 111, 111, 116] := rfl
    have yes : Dk.known d.trailer.keys[i] = true → NextX (fun vs W => ∃ (i : Nat), vs = [.int .i64 i] ∧ i ≤ d.trailer.keys.length ∧ (∀ m (hm : m < d.trailer.keys.length), m < i → Dk.known d.trailer.keys[m] = true) ∧ OwnS M.A w W [obE b3 d.trailer tk tc, dcE b d vi tk tc, .mem M]) (fun vs _ => d.trailer.keys.length - n0 vs) [.int .i64 (i : Int)] w3 [.int .i64 (IntKind.wrap .i64 ((i : Int) + 1))] w3 := by
      intro hk
      rw [wrap64_id (by omega) (by omega)]
      refine nextX ⟨i + 1, rfl, by omega, fun m hm hmi => ?_, ho⟩ (by simp [n0, intOf]; omega)
      rcases Nat.lt_or_ge m i with h | h
      · exact hlo m hm h
      · have : m = i := by omega
        subst this; exact hk
    simp only [rs]
    by_cases k1 : d.trailer.keys[i] = [73, 68]
    · simp only [k1, ne_eq, not_true, decide_false, rs, g_un]
      exact yes (by simp [Dk.known, k1, d1])
    simp only [k1, ne_eq, not_false_eq_true, decide_true, rs]
    by_cases k2 : d.trailer.keys[i] = [73, 110, 102, 111]
    · simp only [k2, ne_eq, not_true, decide_false, rs, g_un]
      exact yes (by simp [Dk.known, k2, d2])
    simp only [k2, ne_eq, not_false_eq_true, decide_true, rs]
    by_cases k3 : d.trailer.keys[i] = [82, 111, 111, 116]
    · simp only [k3, ne_eq, not_true, decide_false, rs, g_un]
      exact yes (by simp [Dk.known, k3, d3])
    simp only [k3, ne_eq, not_false_eq_true, decide_true, rs]
    have hk : Dk.known d.trailer.keys[i] = false := by simp [Dk.known, k1, k2, k3, d1, d2, d3]
    exact hK _ _ M _ 2 ho rfl M.le_refl (by rw [Dk.trail_keys d hc h7 (Dk.all_false hi' hk)])
  · simp only [hlt, decide_false, i_f]
    have he := Dk.trail_end d hc h7 (Dk.all_true (by omega) hlo)
    rw [ob_v ho 0 rfl]
    refine c_mem ho 2 rfl (rget_ret d.trailer _ Dk.rootK M w3 (by omega) (ho.hasM 2 rfl) hda.trailer) ?_
    rintro _ N2 w4 hle2 ⟨t, rfl, ht⟩ ho
    obtain ⟨xk, xc, rfl, ht⟩ := getD_ov ht
    rw [show (Vl.get d.trailer Dk.rootK).getD Vl.ob0 = Dk.root d from rfl] at ht ⊢
    simp only [getV, ex]
    refine o_oba ho fun b6 w5 ho => ?_
    refine ob_put 0 ht.oneK ht.oneC ho rfl fun w6 ho => ?_
    rw [fa_o0, ob_k ho 0 rfl]
    simp only [rs]
    by_cases h8 : (Dk.root d).k = 8
    case neg =>
      simp only [h8, ne_eq, not_false_eq_true, decide_true, rs, g_un]
      exact hK _ _ N2 _ 3 ho rfl hle2 (by rw [he, if_pos (Or.inl h8)])
    simp only [h8, ne_eq, not_true, decide_false, rs]
    rw [dc_v ho 2 rfl, ob_v ho 0 rfl]
    refine c_mem ho 3 rfl (rfollow_ret d (Dk.root d) _ _ N2 w6 hd (ho.hasM 3 rfl) ((hda.le hle2).dv) ht) fun y N3 w7 hle3 hy ho => ?_
    obtain ⟨yk, yc, ycs, rfl, hya⟩ := hy.open
    rw [fld_k]
    simp only [rs]
    by_cases hf : (Dk.follow d (Dk.root d)).k = 7
    · simp only [hf, ne_eq, not_true, decide_false, rs]
      exact hK _ _ N3 _ 3 ho rfl (hle2.trans hle3) (by rw [he, if_neg (by simp [h8, hf])])
    · simp only [hf, ne_eq, not_false_eq_true, decide_true, rs]
      exact hK _ _ N3 _ 3 ho rfl (hle2.trans hle3) (by rw [he, if_pos (Or.inr hf)])
theorem dcheck_ret (d : Dc) (dv : Value) (M : Mem) (w : World) (hd : Dk.Ok d) (hM : M.has w) (hdv : DV M.A M.w dv d) :
    RetM Tryz.prog 61 #[dv] M w (fun r _ => r = .int .i64 (Dk.check d)) := by
  obtain ⟨vi, tk, tc, cs, rfl, hda⟩ := hdv
  refine retM_of hM fun K hK => S_docs_Check_ok ?_
  unfold S_docs_Check
  refine o_dcb d hda.items.one hda.trailer.oneK hda.trailer.oneC (OwnS.memS hM) fun b w1 ho => ?_
  rw [fa_d0, dc_items ho 0 rfl]
  refine c_below ho (R := fun v => v = .int .i64 (Dk.itemsG none d.items)) (RetM.told (ditems_ret d.items vi cs M w1 hd.len (fun i hi => by have := hd.items i hi; omega) (ho.hasM 1 rfl) hda.items hda.all)) ?_
  rintro _ w2 rfl ho
  simp only [n_err]
  by_cases hc : Dk.itemsG none d.items = 0
  case neg =>
    simp only [hc, ne_eq, not_false_eq_true, decide_true, i_t]
    exact hK _ _ M _ 1 ho rfl M.le_refl (by unfold Dk.check; rw [if_pos hc])
  simp only [hc, ne_eq, not_true, decide_false, i_f]
  rw [dc_v ho 0 rfl]
  refine c_below ho (R := fun v => v = .int .i64 (Dk.trail d)) (RetM.told (dtrail_ret d _ M w2 hd (ho.hasM 1 rfl) hda.dv)) ?_
  rintro _ w3 rfl ho
  exact hK _ _ M _ 1 ho rfl M.le_refl (by unfold Dk.check; rw [if_neg (by simp [hc])])
theorem rcheck_ret (d : Dc) (dv : Value) (M : Mem) (w : World) (hd : Dk.Ok d) (hM : M.has w) (hdv : DV M.A M.w dv d) :
    RetM Tryz.prog 64 #[dv] M w (fun r _ => r = .int .i64 (Dk.check d)) := by
  obtain ⟨vi, tk, tc, cs, rfl, hda⟩ := hdv
  refine retM_of hM fun K hK => S_foliantref19_Check_ok ?_
  unfold S_foliantref19_Check
  refine o_dcb d hda.items.one hda.trailer.oneK hda.trailer.oneC (OwnS.memS hM) fun b w1 ho => ?_
  rw [fa_d0, dc_items ho 0 rfl]
  refine c_below ho (R := fun v => v = .int .i64 (Dk.itemsG none d.items)) (RetM.told (ritems_ret d.items vi cs M w1 hd.len (fun i hi => by have := hd.items i hi; omega) (ho.hasM 1 rfl) hda.items hda.all)) ?_
  rintro _ w2 rfl ho
  simp only [n_err]
  by_cases hc : Dk.itemsG none d.items = 0
  case neg =>
    simp only [hc, ne_eq, not_false_eq_true, decide_true, i_t]
    exact hK _ _ M _ 1 ho rfl M.le_refl (by unfold Dk.check; rw [if_pos hc])
  simp only [hc, ne_eq, not_true, decide_false, i_f]
  rw [dc_v ho 0 rfl]
  refine c_below ho (R := fun v => v = .int .i64 (Dk.trail d)) (RetM.told (rtrail_ret d _ M w2 hd (ho.hasM 1 rfl) hda.dv)) ?_
  rintro _ w3 rfl ho
  exact hK _ _ M _ 1 ho rfl M.le_refl (by unfold Dk.check; rw [if_neg (by simp [hc])])
end Go.Proofs.YtiklhhdohckfiaaGreatDoor
namespace Go.Proofs.YtiklhhdohckfiaaGreatDoor
set_option linter.unusedVariables false
set_option linter.unusedSimpArgs false
set_option linter.defProp false
open Go
namespace Dk
def Rise (l : List It) : Prop := l.Pairwise fun a b => a.num < b.num
theorem itemsG_rise : ∀ (l : List It) (last : Option Int), itemsG last l = 0 → (∀ n, last = some n → ∀ i ∈ l, n < i.num) ∧ Rise l
  | [], _, _ => ⟨fun _ _ i hi => (by cases hi), List.Pairwise.nil⟩
  | i :: l, last, h => by
    rw [itemsG] at h
    split at h
    · omega
    split at h
    · omega
    split at h
    · rename_i h3; exact absurd h h3
    rename_i h1 h2 h3
    obtain ⟨a, b⟩ := itemsG_rise l (some i.num) h
    have hl := a i.num rfl
    refine ⟨fun n hn x hx => ?_, List.pairwise_cons.2 ⟨hl, b⟩⟩
    subst hn
    simp at h2
    rcases List.mem_cons.1 hx with rfl | hx
    · exact h2
    · have := hl x hx; omega
theorem check_rise {d : Dc} (h : check d = 0) : Rise d.items := by
  unfold check at h
  split at h
  · rename_i h1; exact absurd h h1
  · rename_i h1
    have h1 : itemsG none d.items = 0 := by simpa using h1
    exact (itemsG_rise _ _ h1).2
theorem rise_get {l : List It} (h : Rise l) {i j : Nat} (hij : i < j) (hj : j < l.length) : l[i].num < l[j].num :=
  List.pairwise_iff_getElem.1 h i j (by omega) hj hij
theorem place_le (l : List It) (n : Int) : place l n ≤ l.length := by
  unfold place
  exact List.Sublist.length_le (List.takeWhile_sublist _)
theorem place_at : ∀ {l : List It} {n : Int} {i : Nat}, i ≤ l.length → (∀ m (h : m < l.length), m < i → l[m].num < n) → (∀ h : i < l.length, ¬ l[i].num < n) → place l n = i
  | [], n, i, hi, _, _ => by
    have : i = 0 := by simpa using hi
    subst this; rfl
  | a :: l, n, 0, _, _, h2 => by
    have := h2 (by simp)
    simp at this
    unfold place
    rw [List.takeWhile_cons, if_neg (by simpa using this)]; rfl
  | a :: l, n, i + 1, hi, h1, h2 => by
    have ha := h1 0 (by simp) (by omega)
    have ih := place_at (l := l) (n := n) (i := i) (by simpa using hi) (fun m h hm => by have := h1 (m + 1) (by simpa using h) (by omega); simpa using this) (fun h => by have := h2 (by simpa using h); simpa using this)
    unfold place at ih ⊢
    rw [List.takeWhile_cons, if_pos (by simpa using ha), List.length_cons, ih]
theorem hit_at {l : List It} {n : Int} {i : Nat} (hp : place l n = i) (hi : i < l.length) : hit l n = decide (l[i].num = n) := by
  unfold hit
  rw [hp, List.getElem?_eq_getElem hi]
theorem hit_out {l : List It} {n : Int} (h : l.length ≤ place l n) : hit l n = false := by
  unfold hit
  rw [List.getElem?_eq_none h]
theorem hit_lt {l : List It} {n : Int} (h : hit l n = true) : place l n < l.length := by
  rcases Nat.lt_or_ge (place l n) l.length with h' | h'
  · exact h'
  · rw [hit_out h'] at h; cases h
theorem lay_hit {l : List It} {i : It} (h : hit l i.num = true) : lay l i = l.take (place l i.num) ++ i :: l.drop (place l i.num + 1) := by
  unfold lay; rw [if_pos h]
theorem lay_miss {l : List It} {i : It} (h : hit l i.num = false) : lay l i = l.take (place l i.num) ++ i :: l.drop (place l i.num) := by
  unfold lay; rw [if_neg (by simp [h])]; rfl
theorem lay_len_hit {l : List It} {i : It} (h : hit l i.num = true) : (lay l i).length = l.length := by
  have := hit_lt h
  rw [lay_hit h]; simp; omega
theorem lay_len_miss {l : List It} {i : It} (h : hit l i.num = false) : (lay l i).length = l.length + 1 := by
  have := place_le l i.num
  rw [lay_miss h]; simp; omega
theorem lay_mem {l : List It} {i x : It} (h : x ∈ lay l i) : x = i ∨ x ∈ l := by
  unfold lay at h
  rcases List.mem_append.1 h with h | h
  · exact .inr (List.mem_of_mem_take h)
  · rcases List.mem_cons.1 h with h | h
    · exact .inl h
    · exact .inr (List.mem_of_mem_drop h)
end Dk
end Go.Proofs.YtiklhhdohckfiaaGreatDoor
namespace Go.Proofs.YtiklhhdohckfiaaGreatDoor
set_option linter.unusedVariables false
set_option linter.unusedSimpArgs false
set_option linter.defProp false
set_option maxRecDepth 20000
open Eng Go.RowKit

namespace Eng
def Ent.two (e f : Ent) : Ent := ⟨fun k => e.blk k ∨ f.blk k, fun w => e.is w ∧ f.is w ∧ ∀ k, e.blk k → ¬ f.blk k,
  fun h k => ⟨e.keep h.1 fun b hb => k b (.inl hb), f.keep h.2.1 fun b hb => k b (.inr hb), h.2.2⟩, fun h k hk => hk.elim (e.lt h.1 k) (f.lt h.2.1 k)⟩
section
variable {S : Nat → Prop} {w w0 : World} {L : List Ent}
theorem OwnS.split {e f : Ent} (ho : OwnS S w0 w (.two e f :: L)) : OwnS S w0 w (e :: f :: L) := by
  obtain ⟨⟨he, hf, hd⟩, hb⟩ := ho.all (.two e f) (by simp)
  obtain ⟨a1, a2⟩ := List.pairwise_cons.1 ho.apart
  refine ⟨ho.grew, fun x hx => ?_, List.pairwise_cons.2 ⟨fun x hx k hk => ?_, List.pairwise_cons.2 ⟨fun x hx k hk => a1 x hx k (.inr hk), a2⟩⟩⟩
  · rcases List.mem_cons.1 hx with rfl | hx
    · exact ⟨he, fun k hk => hb k (.inl hk)⟩
    rcases List.mem_cons.1 hx with rfl | hx
    · exact ⟨hf, fun k hk => hb k (.inr hk)⟩
    · exact ho.all x (List.mem_cons_of_mem _ hx)
  · rcases List.mem_cons.1 hx with rfl | hx
    · exact hd k hk
    · exact a1 x hx k (.inl hk)
theorem OwnS.two2 {e f : Ent} (ho : OwnS S w0 w L) (i j : Nat) (hij : i ≠ j) (hi : L[i]? = some e) (hj : L[j]? = some f) : OwnS S w0 w [.two e f] := by
  have h1 := ho.all e (List.mem_of_getElem? hi)
  have h2 := ho.all f (List.mem_of_getElem? hj)
  refine ⟨ho.grew, fun x hx => ?_, List.pairwise_singleton _ _⟩
  rw [List.mem_singleton] at hx
  subst hx
  exact ⟨⟨h1.1, h2.1, OwnS.sep ho i j hij hi hj⟩, fun k hk => hk.elim (h1.2 k) (h2.2 k)⟩
end
end Eng
section
variable {P : Program} {S : World → Prop} {K : Value → Prop}
theorem hd_do {m : Sem Next} (v : Value) (h : ∀ w, S w → m.run P w = .ok (.value v) w) (k : K v) : HDo P S m K := ⟨v, h, k⟩
theorem hd_pure {m : Sem Next} (v : Value) (h : ∀ w, m.run P w = .ok (.value v) w) (k : K v) : HDo P S m K := ⟨v, fun w _ => h w, k⟩
end
section
variable {w : World} {PK : List PanicEntry → World → Prop} {K : Value → World → Prop} {S : Nat → Prop} {w0 : World} {L : List Ent}
theorem m_dcT (o : Ob) {vk vc : Value} (hk : vk.oneCell' = true) (hc : vc.oneCell' = true) : DoX Tryz.prog (mBuild 44 #[(1, obV o vk vc)]) w PK K = K (dcV ⟨[], o⟩ nilS vk vc) w := by
  cases vk <;> first | (cases hk; done) | skip
  all_goals cases vc <;> first | (cases hc; done) | exact do_eq (by kernel_rfl)
theorem o_its1 (i : It) {vk vc : Value} (hk : vk.oneCell' = true) (hc : vc.oneCell' = true) (ho : OwnS S w0 w L) (k : ∀ b w', OwnS S w0 w' (itE b i vk vc :: L) → K (.slice (some ⟨b, 0, none⟩) 1 1) w') : DoX Tryz.prog (mBuildS 42 1 #[(0, itV i vk vc)]) w PK K := by
  cases vk <;> first | (cases hk; done) | skip
  all_goals cases vc <;> first | (cases hc; done) | exact o_new (fun b => .slice (some ⟨b, 0, none⟩) 1 1) (itC i _ _) 102 (fun _ => by kernel_rfl) ho k
theorem sl_one1 {b : Nat} {cs : List Value} {T : TypeId} {sz : Nat} (h : w.heap[b]? = some (.cells cs.toArray T (0, 0))) (hsz : 0 < sz) (hl : cs.length = sz) : Sl w (.slice (some ⟨b, 0, none⟩) 1 1) sz 1 cs :=
  ⟨by omega, some ⟨b, 0, none⟩, 1, rfl, fun h => (by cases h), fun p hp => by cases hp; exact ⟨fun _ => rfl, fun j u hj => by rw [Nat.zero_add]; exact cells_cell (T := T) h hj⟩⟩
theorem o_apI (i : Nat) {v v2 : Value} {n m : Nat} {xs news : List Value} {cb : Array Bool} (ho : OwnS S w0 w L) (hi : L[i]? = some (.urow 102 8 v n xs)) (hs : Sl w v2 8 m news) (h1 : ∀ u ∈ news, u.oneCell' = true) (hb : n + m ≤ 1000000000000)
    (k : ∀ v' w', OwnS S w0 w' (L.set i (.urow 102 8 v' (n + m) (xs ++ news))) → K v' w') : DoX Tryz.prog (mB .append #[42, 42] 42 cb #[v, v2]) w PK K :=
  o_appendU i Tryz.underlying42 elIt (by decide) ho hi hs h1 (by omega) (by omega) k
theorem ret_dc {K : Ending → World → Prop} {b : Nat} {d : Dc} {vi vk vc : Value} (i : Nat) (ho : OwnS S w0 w L) (hi : L[i]? = some (dcE b d vi vk vc)) (k : K (.returned (dcV d vi vk vc)) w) : RetX Tryz.prog [.cell (.pointer (some ⟨b, 0, none⟩)) 44] w K :=
  ret_v1 (rv_cell (ho.agg i hi aggDc)) k
theorem ret_dc2 {K : Ending → World → Prop} {b : Nat} {d : Dc} {vi vk vc x : Value} (i : Nat) (ho : OwnS S w0 w L) (hi : L[i]? = some (dcE b d vi vk vc)) (k : K (.returned (.tuple #[dcV d vi vk vc, x])) w) : RetX Tryz.prog [.cell (.pointer (some ⟨b, 0, none⟩)) 44, .val x] w K :=
  ret_v2 (rv_cell (ho.agg i hi aggDc)) rv_val k
end
theorem ivs_1 {A : Nat → Prop} {w : World} {i : It} {vk vc : Value} (h : OV A w (obV i.obj vk vc) i.obj) : IVs A w (itC i vk vc) [i] := by
  have := Rws.cons (R := itR A w) (a := itC i vk vc) (rest := []) (x := i) (xs := []) ⟨vk, vc, rfl, h⟩ .nil
  rwa [List.append_nil] at this
theorem ivs_app {A : Nat → Prop} {w : World} : ∀ {cs ds : List Value} {l m : List It}, IVs A w cs l → IVs A w ds m → IVs A w (cs ++ ds) (l ++ m)
  | _, _, _, _, .nil, h => h
  | _, _, _, _, .cons hx t, h => by
    rw [List.append_assoc, List.cons_append]
    exact .cons hx (ivs_app t h)
theorem ivs_take {A : Nat → Prop} {w : World} : ∀ {cs : List Value} {l : List It} (i : Nat), IVs A w cs l → IVs A w (cs.take (i * 8)) (l.take i)
  | _, _, 0, _ => by rw [Nat.zero_mul, List.take_zero, List.take_zero]; exact .nil
  | _, _, i + 1, .nil => by rw [List.take_nil, List.take_nil]; exact .nil
  | _, _, i + 1, .cons (a := a) hx t => by
    have hl := itR_len _ _ hx
    rw [List.take_succ_cons, List.take_append, List.take_of_length_le (by omega), hl, show (i + 1) * 8 - 8 = i * 8 by omega]
    exact .cons hx (ivs_take i t)
theorem ivs_drop {A : Nat → Prop} {w : World} : ∀ {cs : List Value} {l : List It} (i : Nat), IVs A w cs l → IVs A w (cs.drop (i * 8)) (l.drop i)
  | _, _, 0, h => by rw [Nat.zero_mul, List.drop_zero, List.drop_zero]; exact h
  | _, _, i + 1, .nil => by rw [List.drop_nil, List.drop_nil]; exact .nil
  | _, _, i + 1, .cons (a := a) hx t => by
    have hl := itR_len _ _ hx
    rw [List.drop_succ_cons, List.drop_append, List.drop_eq_nil_of_le (by omega), hl, show (i + 1) * 8 - 8 = i * 8 by omega, List.nil_append]
    exact ivs_drop i t
theorem fresh_ret (d : Dc) (dv : Value) (M : Mem) (w : World) (hd : Dk.Ok d) (hM : M.has w) (hdv : DV M.A M.w dv d) :
    Ret Tryz.prog 129 #[dv] w (fun r w' => ∃ e', (∃ (N : Mem) (vi vk vc : Value) (cs : List Value), e' = Ent.two (.urow 102 8 vi d.items.length cs) (.mem N) ∧ r = dcV d vi vk vc ∧ M.le N ∧ OV N.A N.w (obV d.trailer vk vc) d.trailer ∧ IVs N.A N.w cs d.items) ∧ Turn (.mem M) e' w w') := by
  obtain ⟨vi, tk, tc, cs, rfl, hda⟩ := hdv
  have htw := hd.trailer
  have hlen := hd.len
  refine ret_of fun K hK => S_docs_fresh_ok ?_
  unfold S_docs_fresh
  refine o_dcb d hda.items.one hda.trailer.oneK hda.trailer.oneC (OwnS.memS hM) fun b1 w1 ho => ?_
  refine o_dca ho fun b2 w2 ho => ?_
  rw [fa_d1, dc_tr ho 1 rfl]
  refine c_mem ho 2 rfl (clone_ret d.trailer _ M w2 (by omega) (ho.hasM 2 rfl) hda.trailer) fun y N w3 hle hy ho => ?_
  obtain ⟨yk, yc, ycs, rfl, hya⟩ := hy.open
  rw [m_dcT d.trailer hy.oneK hy.oneC]
  refine o_dca ho fun b3 w4 ho => ?_
  refine dc_put (d' := ⟨[], d.trailer⟩) 0 rfl hy.oneK hy.oneC ho rfl fun w5 ho => ?_
  rw [fa_d0, dc_items ho 2 rfl, sl_len Tryz.underlying42 (hda.items.now (Mem.has_of hle (ho.hasM 3 rfl)))]
  have ho : OwnS M.A w w5 [.urow 102 8 nilS 0 [], dcE b3 ⟨[], d.trailer⟩ nilS yk yc, dcE b2 Dk.dc0 nilS nilS nilS, dcE b1 d vi tk tc, .mem N] := ho.nilU _ _
  refine loop (fun vs W => ∃ (i : Nat) (N : Mem) (v : Value) (ds : List Value), vs = [.int .i64 i] ∧ i ≤ d.items.length ∧ M.le N ∧ OV N.A N.w (obV d.trailer yk yc) d.trailer ∧ IVs N.A N.w ds (d.items.take i) ∧
      OwnS M.A w W [.urow 102 8 v i ds, dcE b3 ⟨[], d.trailer⟩ v yk yc, dcE b2 Dk.dc0 nilS nilS nilS, dcE b1 d vi tk tc, .mem N]) (fun vs _ => d.items.length - n0 vs)
    ⟨0, N, nilS, [], rfl, by omega, hle, hy, .nil, ho⟩ ?_
  clear ho
  rintro vs w6 ⟨i, N, v, ds, rfl, hi, hle, hy, hds, ho⟩ _
  simp only [S_docs_fresh_0, gd, rs]
  have hv1 := urow_one (ho.at_ 0 rfl)
  by_cases hlt : (i : Int) < (d.items.length : Int)
  · have hi' : i < d.items.length := by omega
    have hwi := hd.items _ (List.getElem_mem hi')
    simp only [hlt, decide_true, i_t]
    obtain ⟨xk, xc, bi, oi, hx, hr⟩ := item_at hda.items hda.all hi'
    obtain ⟨r1, r2⟩ := hr w6 (Mem.has_of hle (ho.hasM 4 rfl))
    refine do_eq r1 |>.mpr (do_eq (run_it r2) |>.mpr ?_)
    refine o_ita ho fun b6 w7 ho => ?_
    refine it_put 0 hx.oneK hx.oneC ho rfl fun w8 ho => ?_
    have ho : OwnS M.A w w8 [itE b6 d.items[i] xk xc, .urow 102 8 v i ds, dcE b3 ⟨[], d.trailer⟩ v yk yc, dcE b2 Dk.dc0 nilS nilS nilS, dcE b1 d vi tk tc, .mem N] := ho
    have ho := ho.drew
    refine ⟨fun W => (dcE b3 ⟨[], d.trailer⟩ v yk yc).is W ∧ (itE b6 d.items[i] xk xc).is W, ⟨ho.at_ 2 rfl, ho.at_ 0 rfl⟩, ?_⟩
    refine hd_pure _ (fun _ => run_fa fo_d0) ?_
    refine hd_do v (fun W h => run_load_cell nSlIt (cells_cell (T := 44) h.1 (i := 0) rfl)) ?_
    refine hd_do (itV d.items[i] xk xc) (fun W h => run_load_at (AtV.agg aggIt (cs := itC d.items[i] xk xc) rfl fun j u hj => by rw [Nat.zero_add]; exact cells_cell (T := 102) h.2 hj)) ?_
    refine c_mem ho 5 rfl (copied_ret d.items[i] N _ (by omega) (ho.hasM 5 rfl) (hx.le hle)) ?_
    rintro _ N2 w9 hle2 ⟨zk, zc, rfl, hz⟩ ho
    refine ⟨⟨ho.at_ 2 rfl, ho.at_ 0 rfl⟩, ?_⟩
    refine o_its1 d.items[i] hz.oneK hz.oneC ho fun b7 w10 ho => ?_
    refine ⟨⟨ho.at_ 3 rfl, ho.at_ 1 rfl⟩, ?_⟩
    refine o_apI 2 ho rfl (sl_one1 (ho.at_ 0 rfl) (by decide) rfl) (itC_one _ hz.oneK hz.oneC) (by omega) fun v' w11 ho => ?_
    refine ⟨⟨ho.at_ 3 rfl, ho.at_ 1 rfl⟩, ?_⟩
    refine hd_pure _ (fun _ => run_fa fo_d0) ?_
    refine o_store 3 ho rfl (by kernel_rfl) (urow_one (ho.at_ 2 rfl)) (show 0 < 7 by omega) fun w12 ho => ?_
    have ho : OwnS M.A w w12 [itE b7 d.items[i] zk zc, itE b6 d.items[i] xk xc, .urow 102 8 v' (i + 1) (ds ++ itC d.items[i] zk zc), dcE b3 ⟨[], d.trailer⟩ v' yk yc, dcE b2 Dk.dc0 nilS nilS nilS, dcE b1 d vi tk tc, .mem N2] := ho
    rw [wrap64_id (by omega) (by omega)]
    refine nextX ⟨i + 1, N2, v', _, rfl, by omega, hle.trans hle2, hy.le hle2, ?_, ho.tail.tail⟩ (by simp [n0, intOf]; omega)
    rw [List.take_succ_eq_append_getElem hi']
    exact ivs_app (IVs.le hle2 hds) (ivs_1 hz)
  · have hi' : i = d.items.length := by omega
    subst hi'
    simp only [hlt, decide_false, i_f]
    rw [List.take_of_length_le (Nat.le_refl _)] at hds
    rw [dc_v ho 1 rfl]
    refine dc_put 2 hv1 hy.oneK hy.oneC ho rfl fun w7 ho => ?_
    refine ret_dc 2 ho rfl (hK _ _ ⟨_, ⟨N, v, yk, yc, ds, rfl, rfl, hle, hy, hds⟩, ?_⟩)
    exact OwnS.back (e := .mem M) (OwnS.two2 ho 0 4 (by omega) rfl rfl)
theorem isnanI_ret (x : Int) (w : World) : Ret Tryz.prog 255 #[.int .i64 x] w (fun v w' => v = .bool false ∧ w = w') := by
  refine ret_of fun K hK => S_cmp_isNaN_int_ok ?_
  unfold S_cmp_isNaN_int
  rw [n_int]
  exact hK _ _ ⟨by simp, rfl⟩
def Dk.cmpI (a b : Int) : Int := if a < b then -1 else if b < a then 1 else 0
theorem ccompare_ret (x y : Int) (w : World) : Ret Tryz.prog 230 #[.int .i64 x, .int .i64 y] w (fun v w' => v = .int .i64 (Dk.cmpI x y) ∧ w = w') := by
  refine ret_of fun K hK => S_cmp_Compare_int_ok ?_
  unfold S_cmp_Compare_int
  refine c_eq (isnanI_ret x w) (c_eq (isnanI_ret y w) ?_)
  simp only [rs]
  by_cases h1 : x < y
  · simp only [h1, decide_true, i_t]
    exact hK _ _ ⟨by simp [Dk.cmpI, h1], rfl⟩
  simp only [h1, decide_false, i_f]
  by_cases h2 : y < x
  · simp only [h2, decide_true, i_t]
    exact hK _ _ ⟨by simp [Dk.cmpI, h1, h2], rfl⟩
  simp only [h2, decide_false, i_f]
  exact hK _ _ ⟨by simp [Dk.cmpI, h1, h2], rfl⟩
theorem bynum_plain : plainB Tryz.prog 191 = true := by kernel_rfl
theorem bynum_ret (i : It) (n : Int) {vk vc : Value} (hk : vk.oneCell' = true) (hc : vc.oneCell' = true) (w : World) : Ret Tryz.prog 191 #[itV i vk vc, .int .i64 n] w (fun v w' => v = .int .i64 (Dk.cmpI i.num n) ∧ Below w.heap.size w w') := by
  refine ret_of fun K hK => S_docs_byNum_ok ?_
  unfold S_docs_byNum
  refine o_itb i hk hc (Own.start w) fun b w1 ho => ?_
  rw [fa_i0, it_num ho 0 rfl]
  refine c_eq (ccompare_ret i.num n w1) ?_
  exact hK _ _ ⟨rfl, ho.done⟩
theorem bsf_ret (l : List It) (n : Int) (vi : Value) (cs : List Value) (M : Mem) (w : World) (hl : l.length ≤ 100000000000) (hr : Dk.Rise l) (hM : M.has w) (hs : SlA M.A M.w vi 8 l.length cs) (hall : IVs M.A M.w cs l) :
    Ret Tryz.prog 190 #[vi, .int .i64 n, .func (.func 191) #[] #[]] w (fun v w' => v = .tuple #[.int .i64 (Dk.place l n : Nat), .bool (Dk.hit l n)] ∧ Below w.heap.size w w') := by
  refine ret_of fun K hK => S_slices_BinarySearchFunc_foliant_api_Item_foliant_api_Item_int_ok ?_
  unfold S_slices_BinarySearchFunc_foliant_api_Item_foliant_api_Item_int
  rw [sl_len Tryz.underlying42 (hs.now hM)]
  refine loop (fun vs w' => ∃ (i j : Nat), vs = [.int .i64 i, .int .i64 j] ∧ i ≤ j ∧ j ≤ l.length ∧ (∀ m (h : m < l.length), m < i → l[m].num < n) ∧ (∀ m (h : m < l.length), j ≤ m → ¬ l[m].num < n) ∧ OwnS M.A w w' [.mem M]) (fun vs _ => n1 vs - n0 vs)
    ⟨0, l.length, rfl, by omega, by omega, fun m _ h => by omega, fun m h1 h2 => by omega, OwnS.memS hM⟩ ?_
  rintro vs w2 ⟨i, j, rfl, hij, hj, hlo, hhi, ho⟩ _
  have fin : ∀ {v : Value} {W : World}, v = .tuple #[.int .i64 (Dk.place l n : Nat), .bool (Dk.hit l n)] → OwnS M.A w W [.mem M] → K (.returned v) W := fun hv ho => hK _ _ ⟨hv, (ho.toGives 0 rfl M.le_refl hM).below⟩
  simp only [S_slices_BinarySearchFunc_foliant_api_Item_foliant_api_Item_int_0, gd, rs]
  by_cases hlt : (i : Int) < (j : Int)
  · simp only [hlt, decide_true, i_t]
    rw [wrap64_id (by omega) (by omega), c_int (show (Tryz.prog.underlying 3).isSome = true by kernel_rfl) Tryz.underlying151, b_shr (by omega), shr1 (by omega) (by omega),
      c_int (show (Tryz.prog.underlying 151).isSome = true by kernel_rfl) Tryz.underlying3, wrap64_id (by omega) (by omega)]
    obtain ⟨h, hh⟩ : ∃ h : Nat, ((i : Int) + (j : Int)) / 2 = (h : Int) := ⟨(i + j) / 2, by omega⟩
    rw [hh]
    have h1 : i ≤ h := by omega
    have h2 : h < j := by omega
    have h3 : h < l.length := by omega
    obtain ⟨xk, xc, bi, oi, hx, hrd⟩ := item_at hs hall h3
    obtain ⟨r1, r2⟩ := hrd w2 (ho.hasM 0 rfl)
    refine do_eq r1 |>.mpr (do_eq (run_it r2) |>.mpr ?_)
    refine c_val bynum_plain (c_below ho (R := fun v => v = .int .i64 (Dk.cmpI l[h].num n)) (bynum_ret l[h] n hx.oneK hx.oneC w2) ?_)
    rintro _ w3 rfl ho
    simp only [rs]
    by_cases hc : l[h].num < n
    · have : Dk.cmpI l[h].num n < 0 := by simp [Dk.cmpI, hc]
      simp only [this, decide_true, i_t]
      rw [wrap64_id (by omega) (by omega)]
      refine nextX ⟨h + 1, j, rfl, by omega, by omega, fun m hm hmi => ?_, hhi, ho⟩ (by simp [n0, n1, intOf]; omega)
      rcases Nat.lt_or_ge m h with h4 | h4
      · have := Dk.rise_get hr h4 h3; omega
      · have : m = h := by omega
        subst this; exact hc
    · have : ¬ Dk.cmpI l[h].num n < 0 := by unfold Dk.cmpI; rw [if_neg hc]; split <;> omega
      simp only [this, decide_false, i_f]
      refine nextX ⟨i, h, rfl, by omega, by omega, hlo, fun m hm hmi => ?_, ho⟩ (by simp [n0, n1, intOf]; omega)
      rcases Nat.lt_or_ge h m with h4 | h4
      · have := Dk.rise_get hr h4 hm; omega
      · have : m = h := by omega
        subst this; exact hc
  · have he : i = j := by omega
    subst he
    simp only [hlt, decide_false, i_f]
    have hp : Dk.place l n = i := Dk.place_at hj hlo (fun h => hhi i h (Nat.le_refl _))
    by_cases hn : (i : Int) < (l.length : Int)
    · have hi' : i < l.length := by omega
      simp only [hn, decide_true, rs]
      obtain ⟨xk, xc, bi, oi, hx, hrd⟩ := item_at hs hall hi'
      obtain ⟨r1, r2⟩ := hrd w2 (ho.hasM 0 rfl)
      refine do_eq r1 |>.mpr (do_eq (run_it r2) |>.mpr ?_)
      refine c_val bynum_plain (c_below ho (R := fun v => v = .int .i64 (Dk.cmpI l[i].num n)) (bynum_ret l[i] n hx.oneK hx.oneC w2) ?_)
      rintro _ w3 rfl ho
      simp only [rs]
      refine fin ?_ ho
      rw [Dk.hit_at hp hi', hp]
      have hge := hhi i hi' (Nat.le_refl _)
      have : decide (Dk.cmpI l[i].num n = 0) = decide (l[i].num = n) := by
        unfold Dk.cmpI
        rw [if_neg hge]
        by_cases h : n < l[i].num
        · rw [if_pos h, decide_eq_false (by omega), decide_eq_false (by omega)]
        · rw [if_neg h, decide_eq_true rfl, decide_eq_true (by omega)]
      rw [this]
    · simp only [hn, decide_false, rs, g_un]
      refine fin ?_ ho
      rw [hp, Dk.hit_out (by omega)]
end Go.Proofs.YtiklhhdohckfiaaGreatDoor
namespace Go.Proofs.YtiklhhdohckfiaaGreatDoor
set_option linter.unusedVariables false
set_option linter.unusedSimpArgs false
set_option linter.defProp false
set_option maxRecDepth 20000
open Eng Go.RowKit

theorem IVs.all_le {M : Mem} {w : World} (hM : M.has w) {cs : List Value} {l : List It} (h : IVs M.A M.w cs l) : IVs (Mem.all w).A (Mem.all w).w cs l :=
  IVs.le (M := M) (N := Mem.all w) ⟨fun b hb => Mem.bd hM hb, hM⟩ h
theorem dlay_ret (l : List It) (v : Value) (cs : List Value) (i : It) {vk vc : Value} (M : Mem) (w : World) (hu : (Ent.two (.urow 102 8 v l.length cs) (.mem M)).is w) (hl : l.length ≤ 10000000000) (hw : i.obj.wt ≤ 100000000000) (hr : Dk.Rise l) (hall : IVs M.A M.w cs l)
    (hv : OV M.A M.w (obV i.obj vk vc) i.obj) :
    Ret Tryz.prog 130 #[v, itV i vk vc] w (fun r w' => ∃ e', (∃ (N : Mem) (ds : List Value), e' = Ent.two (.urow 102 8 r (Dk.lay l i).length ds) (.mem N) ∧ M.le N ∧ IVs N.A N.w ds (Dk.lay l i)) ∧ Turn (Ent.two (.urow 102 8 v l.length cs) (.mem M)) e' w w') := by
  refine ret_of fun K hK => S_docs_lay_ok ?_
  unfold S_docs_lay
  have ho := (OwnS.lend hu).split
  have hcl : cs.length = l.length * 8 := Rws.len itR_len hall
  refine o_itb i hv.oneK hv.oneC ho fun b w1 ho => ?_
  rw [fa_i0, it_num ho 0 rfl]
  have hsa : SlA (Mem.all w1).A (Mem.all w1).w v 8 l.length cs := mem_urow (M := Mem.all w1) (N := Mem.all w1) rfl (fun k hk => (Ent.urow 102 8 v l.length cs).lt (ho.at_ 1 rfl) k hk) (ho.at_ 1 rfl)
  refine c_below ho (R := fun v => v = .tuple #[.int .i64 (Dk.place l i.num : Nat), .bool (Dk.hit l i.num)]) (bsf_ret l i.num v cs (Mem.all w1) w1 (by omega) hr (Mem.all_has w1) hsa (IVs.all_le (ho.hasM 2 rfl) hall)) ?_
  rintro _ w2 rfl ho
  simp only [ex]
  cases hh : Dk.hit l i.num with
  | true =>
    simp only [i_t]
    have hlt := Dk.hit_lt hh
    rw [it_v ho 0 rfl]
    refine c_mem ho 2 rfl (copied_ret i M w2 hw (ho.hasM 2 rfl) hv) ?_
    rintro _ N w3 hle ⟨yk, yc, rfl, hy⟩ ho
    have hu := ho.at_ 1 rfl
    obtain ⟨g, cap, rfl⟩ := urow_open hu (by omega)
    refine do_eq (run_ia Tryz.underlying42 szIt (by omega) (by omega)) |>.mpr ?_
    rw [Int.toNat_natCast, Nat.zero_add]
    refine o_storeU 1 ho rfl (u := itV i yk yc) (new := itC i yk yc) rfl szIt (itC_one _ hy.oneK hy.oneC) (by show _ + 8 ≤ _; omega) fun w4 ho => ?_
    have ho : OwnS _ w w4 [itE b i vk vc, .urow 102 8 (.slice (some ⟨g, 0, none⟩) l.length cap) l.length (cs.take (Dk.place l i.num * 8) ++ itC i yk yc ++ cs.drop (Dk.place l i.num * 8 + 8)), .mem N] := ho
    refine hK _ _ ⟨_, ⟨N, cs.take (Dk.place l i.num * 8) ++ itC i yk yc ++ cs.drop (Dk.place l i.num * 8 + 8), rfl, hle, ?_⟩, ?_⟩
    · rw [Dk.lay_hit hh, List.append_assoc, show Dk.place l i.num * 8 + 8 = (Dk.place l i.num + 1) * 8 by omega]
      exact ivs_app (ivs_take _ (IVs.le hle hall)) (ivs_app (ivs_1 hy) (ivs_drop _ (IVs.le hle hall)))
    · rw [Dk.lay_len_hit hh]
      exact OwnS.back (OwnS.two2 ho 1 2 (by omega) rfl rfl)
  | false =>
    simp only [i_f]
    have hple := Dk.place_le l i.num
    rw [it_v ho 0 rfl]
    refine c_mem ho 2 rfl (copied_ret i M w2 hw (ho.hasM 2 rfl) hv) ?_
    rintro _ N w3 hle ⟨yk, yc, rfl, hy⟩ ho
    refine o_its1 i hy.oneK hy.oneC ho fun nb w4 ho => ?_
    refine c_turn 2 ho rfl (sinsert_i_ret v l.length cs (Dk.place l i.num) nb (itC i yk yc) w4 (ho.at_ 2 rfl) (ho.at_ 0 rfl) rfl (fun h => (OwnS.sep ho 2 0 (by omega) rfl rfl) nb h rfl) (IVs.one hall) (itC_one _ hy.oneK hy.oneC) hple (by omega)) ?_
    rintro r e' w5 rfl ho
    have ho : OwnS _ w w5 [itE nb i yk yc, itE b i vk vc, .urow 102 8 r (l.length + 1) (cs.take (Dk.place l i.num * 8) ++ itC i yk yc ++ cs.drop (Dk.place l i.num * 8)), .mem N] := ho
    refine hK _ _ ⟨_, ⟨N, cs.take (Dk.place l i.num * 8) ++ itC i yk yc ++ cs.drop (Dk.place l i.num * 8), rfl, hle, ?_⟩, ?_⟩
    rotate_left
    · rw [Dk.lay_len_miss hh]
      exact OwnS.back (OwnS.two2 ho 2 3 (by omega) rfl rfl)
    · rw [Dk.lay_miss hh, List.append_assoc]
      exact ivs_app (ivs_take _ (IVs.le hle hall)) (ivs_app (ivs_1 hy) (ivs_drop _ (IVs.le hle hall)))
theorem dtold_ret (d : Dc) (dv : Value) (M : Mem) (w : World) (hd : Dk.Ok d) (hM : M.has w) (hdv : DV M.A M.w dv d) :
    RetM Tryz.prog 131 #[dv] M w (fun r N => ∃ v', r = errV v' (Dk.right d).2 ∧ DV N.A N.w v' (Dk.right d).1) := by
  obtain ⟨vi, tk, tc, cs, rfl, hda⟩ := hdv
  refine retM_of hM fun K hK => S_docs_told_ok ?_
  unfold S_docs_told
  refine o_dcb d hda.items.one hda.trailer.oneK hda.trailer.oneC (OwnS.memS hM) fun b w1 ho => ?_
  refine o_dca ho fun b2 w2 ho => ?_
  rw [dc_v ho 1 rfl]
  refine c_below ho (R := fun v => v = .int .i64 (Dk.check d)) (RetM.told (dcheck_ret d _ M w2 hd (ho.hasM 2 rfl) hda.dv)) ?_
  rintro _ w3 rfl ho
  simp only [n_err]
  by_cases hc : Dk.check d = 0
  · simp only [hc, ne_eq, not_true, decide_false, i_f]
    rw [dc_v ho 1 rfl]
    refine dc_put 0 hda.items.one hda.trailer.oneK hda.trailer.oneC ho rfl fun w4 ho => ?_
    refine ret_dc2 0 ho rfl (hK _ _ M _ 2 ho rfl M.le_refl ⟨dcV d vi tk tc, ?_, ?_⟩)
    · unfold Dk.right; rw [if_neg (by simp [hc])]; rfl
    · unfold Dk.right; rw [if_neg (by simp [hc])]; exact hda.dv
  · simp only [hc, ne_eq, not_false_eq_true, decide_true, i_t]
    rw [m_dc0]
    refine dc_put 0 rfl rfl rfl ho rfl fun w4 ho => ?_
    refine ret_dc2 0 ho rfl (hK _ _ M _ 2 ho rfl M.le_refl ⟨dcV Dk.dc0 nilS nilS nilS, ?_, ?_⟩)
    · unfold Dk.right; rw [if_pos hc]; rfl
    · unfold Dk.right; rw [if_pos hc]; exact (dc0_at M).dv
theorem Dk.lay_ok {d : Dc} {i : It} (hd : Dk.Ok d) (hl : d.items.length < 10000000000) (hw : i.obj.wt ≤ 1000000000) : Dk.Ok ⟨Dk.lay d.items i, d.trailer⟩ := by
  refine ⟨?_, fun x hx => ?_, hd.trailer⟩
  · show (Dk.lay d.items i).length ≤ _
    cases hh : Dk.hit d.items i.num with
    | true => rw [Dk.lay_len_hit hh]; omega
    | false => rw [Dk.lay_len_miss hh]; omega
  · rcases Dk.lay_mem hx with rfl | hx
    · exact hw
    · exact hd.items x hx
theorem dput_ret (d : Dc) (i : It) (dv iv : Value) (M : Mem) (w : World) (hd : Dk.Ok d) (hl : d.items.length < 10000000000) (hw : i.obj.wt ≤ 1000000000) (hM : M.has w) (hdv : DV M.A M.w dv d) (hiv : IV M.A M.w iv i) :
    RetM Tryz.prog 78 #[dv, iv] M w (fun r N => ∃ v', r = errV v' (Dk.put d i).2 ∧ DV N.A N.w v' (Dk.put d i).1) := by
  have hdv0 := hdv
  obtain ⟨vi, tk, tc, cs, rfl, hda⟩ := hdv
  obtain ⟨vk, vc, rfl, hv⟩ := hiv
  refine retM_of hM fun K hK => S_docs_Put_ok ?_
  unfold S_docs_Put
  refine o_dcb d hda.items.one hda.trailer.oneK hda.trailer.oneC (OwnS.memS hM) fun b2 w1 ho => ?_
  refine o_itb i hv.oneK hv.oneC ho fun b3 w2 ho => ?_
  refine o_dca ho fun b4 w3 ho => ?_
  have bad : ∀ {W : World} {e : Int}, OwnS M.A w W [dcE b4 Dk.dc0 nilS nilS nilS, itE b3 i vk vc, dcE b2 d vi tk tc, .mem M] → Dk.put d i = (Dk.dc0, e) →
      DoX Tryz.prog (mBuild 44 #[]) W (pk K) (fun t W => DoX Tryz.prog (mStore 44 (.pointer (some ⟨b4, 0, none⟩)) t) W (pk K) fun _ W => RetX Tryz.prog [.cell (.pointer (some ⟨b4, 0, none⟩)) 44, .val (.int .i64 e)] W K) := by
    intro W e ho he
    rw [m_dc0]
    refine dc_put 0 rfl rfl rfl ho rfl fun w4 ho => ?_
    exact ret_dc2 0 ho rfl (hK _ _ M _ 3 ho rfl M.le_refl ⟨dcV Dk.dc0 nilS nilS nilS, by rw [he]; rfl, by rw [he]; exact (dc0_at M).dv⟩)
  rw [dc_v ho 2 rfl]
  refine c_below ho (R := fun v => v = .int .i64 (Dk.check d)) (RetM.told (dcheck_ret d _ M w3 hd (ho.hasM 3 rfl) hda.dv)) ?_
  rintro _ w4 rfl ho
  simp only [n_err]
  by_cases hc : Dk.check d = 0
  case neg =>
    simp only [hc, ne_eq, not_false_eq_true, decide_true, i_t]
    exact bad ho (by unfold Dk.put; rw [if_pos hc])
  simp only [hc, ne_eq, not_true, decide_false, i_f]
  rw [it_v ho 1 rfl]
  refine c_below ho (R := fun v => v = .int .i64 (Dk.alone i)) (RetM.told (alone_ret i M w4 (by omega) (ho.hasM 3 rfl) hv)) ?_
  rintro _ w5 rfl ho
  simp only [n_err]
  by_cases ha : Dk.alone i = 0
  case neg =>
    simp only [ha, ne_eq, not_false_eq_true, decide_true, i_t]
    exact bad ho (by unfold Dk.put; rw [if_neg (by simp [hc]), if_pos ha])
  simp only [ha, ne_eq, not_true, decide_false, i_f]
  have hp : Dk.put d i = Dk.right ⟨Dk.lay d.items i, d.trailer⟩ := by unfold Dk.put; rw [if_neg (by simp [hc]), if_neg (by simp [ha])]
  rw [dc_v ho 2 rfl]
  refine c_turn 3 ho rfl (fresh_ret d _ M w5 hd (ho.hasM 3 rfl) hda.dv) ?_
  rintro _ _ w6 ⟨N, fi, fk, fc, ds, rfl, rfl, hle, hft, hfa⟩ ho
  have hfi1 := urow_one (ho.at_ 3 rfl).1
  refine dc_put 2 hfi1 hft.oneK hft.oneC ho rfl fun w7 ho => ?_
  rw [fa_d0, dc_items ho 2 rfl, it_v ho 1 rfl]
  refine c_turn 3 ho rfl (dlay_ret d.items fi ds i N w7 (ho.at_ 3 rfl) hd.len (by omega) (Dk.check_rise hc) hfa (hv.le hle)) ?_
  rintro r _ w8 ⟨N2, es, rfl, hle2, hla⟩ ho
  have hr1 := urow_one (ho.at_ 3 rfl).1
  rw [fa_d0]
  refine o_store 2 ho rfl (by kernel_rfl) hr1 (show 0 < 7 by omega) fun w9 ho => ?_
  have ho : OwnS M.A w w9 [dcE b4 Dk.dc0 nilS nilS nilS, itE b3 i vk vc, dcE b2 ⟨Dk.lay d.items i, d.trailer⟩ r fk fc, Ent.two (.urow 102 8 r (Dk.lay d.items i).length es) (.mem N2)] := ho
  have ho := (ho.perm (L' := [Ent.two (.urow 102 8 r (Dk.lay d.items i).length es) (.mem N2), dcE b4 Dk.dc0 nilS nilS nilS, itE b3 i vk vc, dcE b2 ⟨Dk.lay d.items i, d.trailer⟩ r fk fc]) (List.perm_append_comm (l₁ := [_, _, _]) (l₂ := [_]))).split
  obtain ⟨N3, hle3, hrow, ho⟩ := OwnS.freezeU (L := [.mem N2, dcE b4 Dk.dc0 nilS nilS nilS, itE b3 i vk vc, dcE b2 ⟨Dk.lay d.items i, d.trailer⟩ r fk fc]) ho 0 rfl
  have ho : OwnS M.A w w9 [.mem N3, dcE b4 Dk.dc0 nilS nilS nilS, itE b3 i vk vc, dcE b2 ⟨Dk.lay d.items i, d.trailer⟩ r fk fc] := ho
  have hnew : DocAt N3.A N3.w ⟨Dk.lay d.items i, d.trailer⟩ r fk fc es := ⟨hrow, IVs.le hle3 hla, hft.le (hle2.trans hle3)⟩
  rw [dc_v ho 3 rfl]
  refine c_mem ho 0 rfl (dtold_ret ⟨Dk.lay d.items i, d.trailer⟩ _ N3 w9 (Dk.lay_ok hd hl hw) (ho.hasM 0 rfl) hnew.dv) ?_
  rintro _ N4 w10 hle4 ⟨y, rfl, hy⟩ ho
  obtain ⟨yi, yk, yc, ys, rfl, hya⟩ := hy
  simp only [errV, ex]
  refine dc_put 1 hya.items.one hya.trailer.oneK hya.trailer.oneC ho rfl fun w11 ho => ?_
  exact ret_dc2 1 ho rfl (hK _ _ N4 _ 0 ho rfl (((hle.trans hle2).trans hle3).trans hle4) ⟨dcV (Dk.right ⟨Dk.lay d.items i, d.trailer⟩).1 yi yk yc, by rw [hp]; rfl, by rw [hp]; exact hya.dv⟩)
end Go.Proofs.YtiklhhdohckfiaaGreatDoor
namespace Go.Proofs.YtiklhhdohckfiaaGreatDoor
set_option linter.unusedVariables false
set_option linter.unusedSimpArgs false
set_option linter.defProp false
set_option linter.unusedVariables false
set_option maxRecDepth 20000
open Eng

end Go.Proofs.YtiklhhdohckfiaaGreatDoor
namespace Go.Proofs.YtiklhhdohckfiaaGreatDoor
set_option linter.unusedVariables false
set_option linter.unusedSimpArgs false
set_option linter.defProp false
open Eng Go.RowKit

section
variable {w W : World} {bL bK d : Nat} {a b : Option Nat} {PK : List PanicEntry → World → Prop} {K : Value → World → Prop}
end
end Go.Proofs.YtiklhhdohckfiaaGreatDoor
namespace Go.Proofs.YtiklhhdohckfiaaGreatDoor
set_option linter.unusedVariables false
set_option linter.unusedSimpArgs false
set_option linter.defProp false
open Eng Go.RowKit

end Go.Proofs.YtiklhhdohckfiaaGreatDoor
namespace Go.Proofs.YtiklhhdohckfiaaGreatDoor
set_option linter.unusedVariables false
set_option linter.unusedSimpArgs false
set_option linter.defProp false
open Eng Go.RowKit Go.ChangeShapes Go.WideShapes Go.ChangeAt

set_option maxRecDepth 100000
section
variable {H : Type} {enc : TypeId × Value → H} {W : World} {sp : Nat → Bool} {held : Bool}
theorem bulk1 {d : DataW H} (hk : Rows.uptoSmall H [d] = true) : Rows.uptoBulk d ≤ 1048576 := by
  have h : Rows.uptoBulkAll [d] ≤ 1048576 := of_decide_eq_true hk
  simp only [Rows.uptoBulkAll] at h
  omega
end
end Go.Proofs.YtiklhhdohckfiaaGreatDoor
namespace Go.Proofs.YtiklhhdohckfiaaGreatDoor
set_option linter.unusedVariables false
set_option linter.unusedSimpArgs false
set_option linter.defProp false
set_option linter.unusedVariables false
set_option maxRecDepth 20000
open Eng

def S_foliantref05_Texts_0 (t0 t1 t12 t13 : Value) (w : World) (N1 : List Value → World → Prop) (K : Ending → World → Prop) : Prop :=
 DoX Tryz.prog (mBin .lss 3 t13 t12) w (pk K) fun t14 w =>
 IfX t14 (QuietX w (fun C2 =>
 QDo Tryz.prog C2 (mIA 22 t0 t13) fun t18 =>
 QDo Tryz.prog C2 (mLoad 9 t18) fun t19 =>
 QDo Tryz.prog C2 (mIA 22 t1 t13) fun t22 =>
 QDo Tryz.prog C2 (mLoad 9 t22) fun t23 =>
 QDo Tryz.prog C2 (mEq .neq 9 (.tmp 19) (.tmp 23) t19 t23) fun t24 =>
 ∀ w, C2 w →
 IfX t24 (K (.returned (.bool false)) w) (DoX Tryz.prog (mBin .add 3 t13 (.int .i64 1)) w (pk K) fun t25 w =>
 N1 [t25] w))) (K (.returned (.bool true)) w)
def S_foliantref05_Texts (t0 t1 : Value) (w : World) (K : Ending → World → Prop) : Prop :=
 DoX Tryz.prog (mB .len #[22] 3 #[false] #[t0]) w (pk K) fun t7 w =>
 DoX Tryz.prog (mB .len #[22] 3 #[false] #[t1]) w (pk K) fun t9 w =>
 DoX Tryz.prog (mEq .neq 3 (.tmp 7) (.tmp 9) t7 t9) w (pk K) fun t10 w =>
 IfX t10 (K (.returned (.bool false)) w) (DoX Tryz.prog (mB .len #[22] 3 #[false] #[t0]) w (pk K) fun t12 w =>
 LoopX [(.int .i64 0)] w (fun vs1 w N1 => ∀ _ : Sg, S_foliantref05_Texts_0 t0 t1 t12 (vs1.getD 0 undef) w N1 K))
theorem S_foliantref05_Texts_eq (t0 t1 : Value) (w : World) (K : Ending → World → Prop) : wpX Tryz.prog 26 [] [(4, [13])] none (bodyOf Tryz.f139) (topQ Tryz.prog [.tmp 4] K) (startX [t0, t1]) [] w = S_foliantref05_Texts t0 t1 w K := by kernel_rfl
theorem S_foliantref05_Texts_ok {t0 t1 : Value} {w : World} {K : Ending → World → Prop} (h : S_foliantref05_Texts t0 t1 w K) : Calls Tryz.prog 139 #[t0, t1] w K :=
  calls_of_wpX Tryz.func139 rfl rfl rfl rfl (Eq.mpr (S_foliantref05_Texts_eq t0 t1 w K) h)

end Go.Proofs.YtiklhhdohckfiaaGreatDoor
namespace Go.Proofs.YtiklhhdohckfiaaGreatDoor
set_option linter.unusedVariables false
set_option linter.unusedSimpArgs false
set_option linter.defProp false
open Eng Go.RowKit

theorem nStrT : notAgg Tryz.prog 9 = true := by kernel_rfl
theorem rtexts_ret (va vb : Value) (la lb : List (List UInt8)) (w : World) (ha : Sl w va 1 la.length (strsV la)) (hb : Sl w vb 1 lb.length (strsV lb)) (hl : la.length ≤ 1099511627776) :
    Ret Tryz.prog 139 #[va, vb] w (fun r w' => r = .bool (decide (la = lb)) ∧ Below w.heap.size w w') := by
  refine ret_of fun K hK => S_foliantref05_Texts_ok ?_
  unfold S_foliantref05_Texts
  rw [sl_len Tryz.underlying22 ha, sl_len Tryz.underlying22 hb]
  simp only [rs]
  by_cases hlen : (la.length : Int) ≠ (lb.length : Int)
  · simp only [decide_eq_true hlen, i_t]
    have hne : la ≠ lb := fun e => hlen (by rw [e])
    exact hK _ _ ⟨by rw [decide_eq_false hne], (Own.start w).done⟩
  have hle : la.length = lb.length := by omega
  simp only [decide_eq_false hlen, i_f, sl_len Tryz.underlying22 ha]
  refine loop (fun vs w' => ∃ (i : Nat), vs = [.int .i64 i] ∧ i ≤ la.length ∧ la.take i = lb.take i ∧ Own w w' []) (fun vs _ => la.length - n0 vs) ⟨0, rfl, by omega, by simp, Own.start w⟩ ?_
  rintro vs w2 ⟨i, rfl, hi, he, ho⟩ _
  simp only [S_foliantref05_Texts_0, gd, rs]
  by_cases hlt : (i : Int) < (la.length : Int)
  · have h1 : i < la.length := by omega
    have h2 : i < lb.length := by omega
    simp only [hlt, decide_true, rs]
    obtain ⟨ba, oa, ca, rfl, hca⟩ := sl_open ha (by omega)
    obtain ⟨bb, ob, cb, rfl, hcb⟩ := sl_open hb (by omega)
    refine quiet (q_do _ (fun _ => run_ia Tryz.underlying22 (show _ = some 1 by kernel_rfl) (by omega) (by omega)) ?_)
    refine q_at (.string ⟨(la[i]).toArray⟩) (fun wc hw => run_load_cell nStrT ((ho.grow hw).old ?_)) ?_
    · rw [Int.toNat_natCast, Nat.mul_one]; exact hca i _ (strsV_get h1)
    refine q_do _ (fun _ => run_ia Tryz.underlying22 (show _ = some 1 by kernel_rfl) (by omega) (by omega)) ?_
    refine q_at (.string ⟨(lb[i]).toArray⟩) (fun wc hw => run_load_cell nStrT ((ho.grow hw).old ?_)) ?_
    · rw [Int.toNat_natCast, Nat.mul_one]; exact hcb i _ (strsV_get h2)
    refine q_sne ?_
    intro w3 hw
    have ho := ho.grow hw
    by_cases hq : la[i] = lb[i]
    · simp only [hq, ne_eq, not_true, decide_false, i_f, rs]
      rw [wrap64_id (by omega) (by omega)]
      refine nextX ⟨i + 1, rfl, by omega, ?_, ho⟩ (by simp [n0, intOf]; omega)
      rw [List.take_succ_eq_append_getElem h1, List.take_succ_eq_append_getElem h2, he, hq]
    · simp only [hq, ne_eq, not_false_eq_true, decide_true, i_t]
      have hne : la ≠ lb := fun e => hq (by subst e; rfl)
      exact hK _ _ ⟨by rw [decide_eq_false hne], ho.done⟩
  · simp only [hlt, decide_false, rs, g_un]
    have hab : la = lb := by
      rw [List.take_of_length_le (by omega), List.take_of_length_le (by omega)] at he; exact he
    exact hK _ _ ⟨by rw [decide_eq_true hab], ho.done⟩
end Go.Proofs.YtiklhhdohckfiaaGreatDoor
namespace Go.Proofs.YtiklhhdohckfiaaGreatDoor
set_option linter.unusedVariables false
set_option linter.unusedSimpArgs false
set_option linter.defProp false
set_option linter.unusedVariables false
set_option maxRecDepth 20000
open Eng

def S_foliantref05_Same (t0 t1 : Value) (w : World) (K : Ending → World → Prop) : Prop :=
 DoX Tryz.prog (mBox 25 t0) w (pk K) fun t2 w =>
 DoX Tryz.prog (mBox 25 t1) w (pk K) fun t3 w =>
 DoX Tryz.prog (mFA 25 t2 0) w (pk K) fun t5 w =>
 DoX Tryz.prog (mLoad 3 t5) w (pk K) fun t6 w =>
 DoX Tryz.prog (mFA 25 t3 0) w (pk K) fun t7 w =>
 DoX Tryz.prog (mLoad 3 t7) w (pk K) fun t8 w =>
 DoX Tryz.prog (mEq .eql 3 (.tmp 6) (.tmp 8) t6 t8) w (pk K) fun t9 w =>
 GDo t9 true (fun E => DoX Tryz.prog (mFA 25 t2 1) w (pk K) E) w fun t11 w =>
 GDo t9 true (fun E => DoX Tryz.prog (mLoad 2 t11) w (pk K) E) w fun t12 w =>
 GDo t9 true (fun E => DoX Tryz.prog (mFA 25 t3 1) w (pk K) E) w fun t13 w =>
 GDo t9 true (fun E => DoX Tryz.prog (mLoad 2 t13) w (pk K) E) w fun t14 w =>
 GDo t9 true (fun E => DoX Tryz.prog (mEq .eql 2 (.tmp 12) (.tmp 14) t12 t14) w (pk K) E) w fun t15 w =>
 DoX Tryz.prog (mPick t9 t15 (.bool false)) w (pk K) fun t16 w =>
 GDo t16 true (fun E => DoX Tryz.prog (mFA 25 t2 2) w (pk K) E) w fun t18 w =>
 GDo t16 true (fun E => DoX Tryz.prog (mLoad 3 t18) w (pk K) E) w fun t19 w =>
 GDo t16 true (fun E => DoX Tryz.prog (mFA 25 t3 2) w (pk K) E) w fun t20 w =>
 GDo t16 true (fun E => DoX Tryz.prog (mLoad 3 t20) w (pk K) E) w fun t21 w =>
 GDo t16 true (fun E => DoX Tryz.prog (mEq .eql 3 (.tmp 19) (.tmp 21) t19 t21) w (pk K) E) w fun t22 w =>
 DoX Tryz.prog (mPick t16 t22 (.bool false)) w (pk K) fun t23 w =>
 GDo t23 true (fun E => DoX Tryz.prog (mFA 25 t2 3) w (pk K) E) w fun t25 w =>
 GDo t23 true (fun E => DoX Tryz.prog (mLoad 9 t25) w (pk K) E) w fun t26 w =>
 GDo t23 true (fun E => DoX Tryz.prog (mFA 25 t3 3) w (pk K) E) w fun t27 w =>
 GDo t23 true (fun E => DoX Tryz.prog (mLoad 9 t27) w (pk K) E) w fun t28 w =>
 GDo t23 true (fun E => DoX Tryz.prog (mEq .eql 9 (.tmp 26) (.tmp 28) t26 t28) w (pk K) E) w fun t29 w =>
 DoX Tryz.prog (mPick t23 t29 (.bool false)) w (pk K) fun t30 w =>
 GDo t30 true (fun E => DoX Tryz.prog (mFA 25 t2 4) w (pk K) E) w fun t32 w =>
 GDo t30 true (fun E => DoX Tryz.prog (mLoad 22 t32) w (pk K) E) w fun t33 w =>
 GDo t30 true (fun E => DoX Tryz.prog (mFA 25 t3 4) w (pk K) E) w fun t34 w =>
 GDo t30 true (fun E => DoX Tryz.prog (mLoad 22 t34) w (pk K) E) w fun t35 w =>
 GDo t30 true (fun E => CallX Tryz.prog 139 #[t33, t35] w (pk K) E) w fun t36 w =>
 DoX Tryz.prog (mPick t30 t36 (.bool false)) w (pk K) fun t37 w =>
 GDo t37 true (fun E => DoX Tryz.prog (mFA 25 t2 5) w (pk K) E) w fun t39 w =>
 GDo t37 true (fun E => DoX Tryz.prog (mLoad 23 t39) w (pk K) E) w fun t40 w =>
 GDo t37 true (fun E => DoX Tryz.prog (mFA 25 t3 5) w (pk K) E) w fun t41 w =>
 GDo t37 true (fun E => DoX Tryz.prog (mLoad 23 t41) w (pk K) E) w fun t42 w =>
 GDo t37 true (fun E => CallX Tryz.prog 140 #[t40, t42] w (pk K) E) w fun t43 w =>
 DoX Tryz.prog (mPick t37 t43 (.bool false)) w (pk K) fun t44 w =>
 K (.returned t44) w
theorem S_foliantref05_Same_eq (t0 t1 : Value) (w : World) (K : Ending → World → Prop) : wpX Tryz.prog 45 [] [] none (bodyOf Tryz.f84) (topQ Tryz.prog [.tmp 4] K) (startX [t0, t1]) [] w = S_foliantref05_Same t0 t1 w K := by kernel_rfl
theorem S_foliantref05_Same_ok {t0 t1 : Value} {w : World} {K : Ending → World → Prop} (h : S_foliantref05_Same t0 t1 w K) : Calls Tryz.prog 84 #[t0, t1] w K :=
  calls_of_wpX Tryz.func84 rfl rfl rfl rfl (Eq.mpr (S_foliantref05_Same_eq t0 t1 w K) h)

def S_foliantref05_List_0 (t0 t1 t12 t13 : Value) (w : World) (N1 : List Value → World → Prop) (K : Ending → World → Prop) : Prop :=
 DoX Tryz.prog (mBin .lss 3 t13 t12) w (pk K) fun t14 w =>
 IfX t14 (QuietX w (fun C2 =>
 QDo Tryz.prog C2 (mIA 23 t0 t13) fun t18 =>
 QDo Tryz.prog C2 (mLoad 25 t18) fun t19 =>
 QDo Tryz.prog C2 (mIA 23 t1 t13) fun t22 =>
 QDo Tryz.prog C2 (mLoad 25 t22) fun t23 =>
 QCall Tryz.prog C2 84 #[t19, t23] fun t24 =>
 QDo Tryz.prog C2 (mUn .not t24) fun t25 =>
 ∀ w, C2 w →
 IfX t25 (K (.returned (.bool false)) w) (DoX Tryz.prog (mBin .add 3 t13 (.int .i64 1)) w (pk K) fun t26 w =>
 N1 [t26] w))) (K (.returned (.bool true)) w)
def S_foliantref05_List (t0 t1 : Value) (w : World) (K : Ending → World → Prop) : Prop :=
 DoX Tryz.prog (mB .len #[23] 3 #[false] #[t0]) w (pk K) fun t7 w =>
 DoX Tryz.prog (mB .len #[23] 3 #[false] #[t1]) w (pk K) fun t9 w =>
 DoX Tryz.prog (mEq .neq 3 (.tmp 7) (.tmp 9) t7 t9) w (pk K) fun t10 w =>
 IfX t10 (K (.returned (.bool false)) w) (DoX Tryz.prog (mB .len #[23] 3 #[false] #[t0]) w (pk K) fun t12 w =>
 LoopX [(.int .i64 0)] w (fun vs1 w N1 => ∀ _ : Sg, S_foliantref05_List_0 t0 t1 t12 (vs1.getD 0 undef) w N1 K))
theorem S_foliantref05_List_eq (t0 t1 : Value) (w : World) (K : Ending → World → Prop) : wpX Tryz.prog 27 [] [(4, [13])] none (bodyOf Tryz.f140) (topQ Tryz.prog [.tmp 4] K) (startX [t0, t1]) [] w = S_foliantref05_List t0 t1 w K := by kernel_rfl
theorem S_foliantref05_List_ok {t0 t1 : Value} {w : World} {K : Ending → World → Prop} (h : S_foliantref05_List t0 t1 w K) : Calls Tryz.prog 140 #[t0, t1] w K :=
  calls_of_wpX Tryz.func140 rfl rfl rfl rfl (Eq.mpr (S_foliantref05_List_eq t0 t1 w K) h)

end Go.Proofs.YtiklhhdohckfiaaGreatDoor
namespace Go.Proofs.YtiklhhdohckfiaaGreatDoor
set_option linter.unusedVariables false
set_option linter.unusedSimpArgs false
set_option linter.defProp false
set_option linter.unusedVariables false
set_option maxRecDepth 20000
open Eng

end Go.Proofs.YtiklhhdohckfiaaGreatDoor
namespace Go.Proofs.YtiklhhdohckfiaaGreatDoor
set_option linter.unusedVariables false
set_option linter.unusedSimpArgs false
set_option linter.defProp false
open Go
namespace Wr
open Lx (Single next)
theorem form_name {o : Ob} (h : Vl.form o = true) (k5 : o.k = 5) : Vl.name o.s = true := by
  have := h
  simp only [Vl.form, k5, decide_true, Bool.not_true, Bool.false_or, Bool.and_eq_true] at this
  exact this.1
theorem form_keys {o : Ob} (h : Vl.form o = true) (k7 : o.k = 7) : o.keys.length = o.kids.length ∧ ∀ key ∈ o.keys, Vl.name key = true := by
  have hf := h
  simp only [Vl.form, k7, true_or, decide_true, Bool.not_true, Bool.false_or, Bool.and_eq_true] at hf
  have h2 := hf.2
  simp only [Vl.rising, Bool.and_eq_true, decide_eq_true_eq] at h2
  refine ⟨h2.1, fun key hk => ?_⟩
  obtain ⟨i, hi, rfl⟩ := List.getElem_of_mem hk
  have := List.all_eq_true.1 h2.2 i (List.mem_range.2 hi)
  unfold Vl.keyAt at this
  simp only [Bool.and_eq_true] at this
  have e : o.keys.getD i [] = o.keys[i] := by rw [List.getD_eq_getElem?_getD, List.getElem?_eq_getElem hi]; rfl
  rw [e] at this
  exact this.1.1.1
theorem why_parts {d : Nat} {o : Ob} (h : Vl.check d o = 0) : Vl.usesOk o = true ∧ ¬ (o.k = 9 ∧ 1 < d) ∧ Vl.fits o = true ∧ o.s.length ≤ Vl.long o.k ∧ Vl.form o = true := by
  have h := check_why h
  unfold Vl.why at h
  split at h
  · cases h
  split at h
  · cases h
  split at h
  · cases h
  split at h
  · cases h
  split at h
  · cases h
  split at h
  · cases h
  rename_i h1 h2 h3 h4 h5 h6
  rw [not_or] at h2
  exact ⟨by simpa using h2.1, h2.2, by simpa using h3, by omega, by simpa using h6⟩
end Wr
end Go.Proofs.YtiklhhdohckfiaaGreatDoor
namespace Go.Proofs.YtiklhhdohckfiaaGreatDoor
set_option linter.unusedVariables false
set_option linter.unusedSimpArgs false
set_option linter.defProp false
open Go
namespace Wr
open Lx (Single next)
def sig (p : List UInt8) : Int × Int × List UInt8 := ((next p 0).1.k, (next p 0).1.n, (next p 0).1.s)
theorem sig_of {u s : List UInt8} {k n : Int} {t : Nat} (h : next u 0 = (⟨k, 0, t, n, s⟩, 0)) : sig u = (k, n, s) := by unfold sig; rw [h]
theorem sig_num {n : Int} (h1 : -2147483647 ≤ n) (h2 : n ≤ 2147483647) : sig (num n) = (1, n, []) := by
  have e : num n = Lib.itoa n := by unfold num Pl.pInt; rw [if_pos ⟨h1, h2⟩]
  rw [e]; exact sig_of (Lx.itoa_next h1 h2)
theorem sig_name {l : List UInt8} (h : Vl.name l = true) : sig (Pl.pName l).1 = (4, 0, l) := by
  unfold Vl.name at h
  simp only [Bool.and_eq_true, decide_eq_true_eq] at h
  have e : (Pl.pName l).1 = Pl.name l := by unfold Pl.pName; rw [if_neg (by omega), if_neg (by simpa using h.2)]
  rw [e]; exact sig_of (Lx.name_next h.1 h.2)
theorem sig_str {l : List UInt8} (h : l.length ≤ 32767) : sig (Pl.pStr l).1 = (3, 0, l) := by
  have e : (Pl.pStr l).1 = Pl.str l := by unfold Pl.pStr; rw [if_neg (by omega)]
  rw [e]; exact sig_of (Lx.str_next h)
theorem sig_real {n : Int} (h : Fx.okB n = true) : sig (Pl.pReal n).1 = (2, n, []) := by
  have e : (Pl.pReal n).1 = Fx.text n := by unfold Pl.pReal; rw [if_pos h]
  rw [e]; exact sig_of (Lx.text_next h)
theorem sig_R : sig [82] = (5, 0, [82]) := by decide +kernel
theorem sig_a : sig [91] = (6, 0, [91]) := by decide +kernel
theorem sig_b : sig [93] = (6, 0, [93]) := by decide +kernel
theorem sig_c : sig [60, 60] = (6, 0, [60, 60]) := by decide +kernel
theorem sig_d : sig [62, 62] = (6, 0, [62, 62]) := by decide +kernel
theorem sig_nul : sig nul = (5, 0, nul) := by decide +kernel
theorem sig_tru : sig tru = (5, 0, tru) := by decide +kernel
theorem sig_fal : sig fal = (5, 0, fal) := by decide +kernel
def fine (o : Ob) : Prop := ∃ d, 1 ≤ d ∧ Vl.check d o = 0 ∧ o.k ≠ 9
theorem fine.kids {o : Ob} (h : fine o) : ∀ x ∈ o.kids, fine x := by
  obtain ⟨d, hd, hc, _⟩ := h
  intro x hx
  have hx := check_kids hc x hx
  obtain ⟨_, h9, _⟩ := why_parts hx
  exact ⟨d + 1, by omega, hx, fun h => h9 ⟨h, by omega⟩⟩
theorem uses_of {o : Ob} {n g s ks cs : Bool} (h : Vl.usesOk o = true) (hu : Vl.used o.k = some (n, g, s, ks, cs)) : (n = false → o.n = 0) ∧ (g = false → o.g = 0) ∧ (s = false → o.s = []) ∧ (ks = false → o.keys = []) ∧ (cs = false → o.kids = []) := by
  unfold Vl.usesOk at h
  rw [hu] at h
  simp only [Bool.and_eq_true, Bool.or_eq_true] at h
  obtain ⟨⟨⟨⟨h1, h2⟩, h3⟩, h4⟩, h5⟩ := h
  refine ⟨fun e => ?_, fun e => ?_, fun e => ?_, fun e => ?_, fun e => ?_⟩
  · rcases h1 with h | h
    · rw [e] at h; cases h
    · exact of_decide_eq_true h
  · rcases h2 with h | h
    · rw [e] at h; cases h
    · exact of_decide_eq_true h
  · rcases h3 with h | h
    · rw [e] at h; cases h
    · exact of_decide_eq_true h
  · rcases h4 with h | h
    · rw [e] at h; cases h
    · exact of_decide_eq_true h
  · rcases h5 with h | h
    · rw [e] at h; cases h
    · exact List.eq_nil_of_length_eq_zero (of_decide_eq_true h)
theorem ob_eta (o : Ob) : o = .mk o.k o.n o.g o.s o.keys o.kids := by cases o; rfl
theorem ob_of {o : Ob} {k n g : Int} {s : List UInt8} {keys : List (List UInt8)} {kids : List Ob} (h1 : o.k = k) (h2 : o.n = n) (h3 : o.g = g) (h4 : o.s = s) (h5 : o.keys = keys) (h6 : o.kids = kids) : o = .mk k n g s keys kids := by
  subst h1; subst h2; subst h3; subst h4; subst h5; subst h6; exact ob_eta o
theorem fine.form {o : Ob} (h : fine o) :
    (o.k = 0 ∧ o = .mk 0 0 0 [] [] []) ∨ (o.k = 1 ∧ (o = .mk 1 0 0 [] [] [] ∨ o = .mk 1 1 0 [] [] [])) ∨ (o.k = 2 ∧ o = .mk 2 o.n 0 [] [] [] ∧ -2147483647 ≤ o.n ∧ o.n ≤ 2147483647) ∨
    (o.k = 3 ∧ o = .mk 3 o.n 0 [] [] [] ∧ Fx.okB o.n = true) ∨ (o.k = 4 ∧ o = .mk 4 0 0 o.s [] [] ∧ o.s.length ≤ 32767) ∨ (o.k = 5 ∧ o = .mk 5 0 0 o.s [] [] ∧ Vl.name o.s = true) ∨
    (o.k = 6 ∧ o = .mk 6 0 0 [] [] o.kids) ∨ (o.k = 7 ∧ o = .mk 7 0 0 [] o.keys o.kids ∧ o.keys.length = o.kids.length ∧ ∀ key ∈ o.keys, Vl.name key = true) ∨
    (o.k = 8 ∧ o = .mk 8 o.n o.g [] [] [] ∧ 1 ≤ o.n ∧ o.n ≤ 8191 ∧ 0 ≤ o.g ∧ o.g ≤ 65535) := by
  obtain ⟨d, hd, hc, h9⟩ := h
  obtain ⟨hu, _, hf, hl, hm⟩ := why_parts hc
  have fname := form_name hm
  have fkeys := form_keys hm
  by_cases k0 : o.k = 0
  · obtain ⟨u1, u2, u3, u4, u5⟩ := uses_of (n := false) (g := false) (s := false) (ks := false) (cs := false) hu (by simp [Vl.used, k0])
    exact .inl ⟨k0, ob_of k0 (u1 rfl) (u2 rfl) (u3 rfl) (u4 rfl) (u5 rfl)⟩
  by_cases k1 : o.k = 1
  · obtain ⟨u1, u2, u3, u4, u5⟩ := uses_of (n := true) (g := false) (s := false) (ks := false) (cs := false) hu (by simp [Vl.used, k1])
    have hn : 0 ≤ o.n ∧ o.n ≤ 1 := by simpa [Vl.fits, k1] using hf
    refine .inr (.inl ⟨k1, ?_⟩)
    rcases (show o.n = 0 ∨ o.n = 1 by omega) with h | h
    · exact .inl (ob_of k1 h (u2 rfl) (u3 rfl) (u4 rfl) (u5 rfl))
    · exact .inr (ob_of k1 h (u2 rfl) (u3 rfl) (u4 rfl) (u5 rfl))
  by_cases k2 : o.k = 2
  · obtain ⟨u1, u2, u3, u4, u5⟩ := uses_of (n := true) (g := false) (s := false) (ks := false) (cs := false) hu (by simp [Vl.used, k2])
    have hn : -2147483647 ≤ o.n ∧ o.n ≤ 2147483647 := by simpa [Vl.fits, k2] using hf
    exact .inr (.inr (.inl ⟨k2, ob_of k2 rfl (u2 rfl) (u3 rfl) (u4 rfl) (u5 rfl), hn.1, hn.2⟩))
  by_cases k3 : o.k = 3
  · obtain ⟨u1, u2, u3, u4, u5⟩ := uses_of (n := true) (g := false) (s := false) (ks := false) (cs := false) hu (by simp [Vl.used, k3])
    have hn : -1073741824 ≤ o.n ∧ o.n ≤ 1073741824 := by simpa [Vl.fits, k3] using hf
    exact .inr (.inr (.inr (.inl ⟨k3, ob_of k3 rfl (u2 rfl) (u3 rfl) (u4 rfl) (u5 rfl), by simp [Fx.okB]; omega⟩)))
  by_cases k4 : o.k = 4
  · obtain ⟨u1, u2, u3, u4, u5⟩ := uses_of (n := false) (g := false) (s := true) (ks := false) (cs := false) hu (by simp [Vl.used, k4])
    have hl : o.s.length ≤ 32767 := by simpa [Vl.long, k4] using hl
    exact .inr (.inr (.inr (.inr (.inl ⟨k4, ob_of k4 (u1 rfl) (u2 rfl) rfl (u4 rfl) (u5 rfl), hl⟩))))
  by_cases k5 : o.k = 5
  · obtain ⟨u1, u2, u3, u4, u5⟩ := uses_of (n := false) (g := false) (s := true) (ks := false) (cs := false) hu (by simp [Vl.used, k5])
    exact .inr (.inr (.inr (.inr (.inr (.inl ⟨k5, ob_of k5 (u1 rfl) (u2 rfl) rfl (u4 rfl) (u5 rfl), fname k5⟩)))))
  by_cases k6 : o.k = 6
  · obtain ⟨u1, u2, u3, u4, u5⟩ := uses_of (n := false) (g := false) (s := false) (ks := false) (cs := true) hu (by simp [Vl.used, k6])
    exact .inr (.inr (.inr (.inr (.inr (.inr (.inl ⟨k6, ob_of k6 (u1 rfl) (u2 rfl) (u3 rfl) (u4 rfl) rfl⟩))))))
  by_cases k7 : o.k = 7
  · obtain ⟨u1, u2, u3, u4, u5⟩ := uses_of (n := false) (g := false) (s := false) (ks := true) (cs := true) hu (by simp [Vl.used, k7])
    exact .inr (.inr (.inr (.inr (.inr (.inr (.inr (.inl ⟨k7, ob_of k7 (u1 rfl) (u2 rfl) (u3 rfl) rfl rfl, fkeys k7⟩)))))))
  by_cases k8 : o.k = 8
  · obtain ⟨u1, u2, u3, u4, u5⟩ := uses_of (n := true) (g := true) (s := false) (ks := false) (cs := false) hu (by simp [Vl.used, k8])
    have hn : (1 ≤ o.n ∧ o.n ≤ 8191) ∧ (0 ≤ o.g ∧ o.g ≤ 65535) := by
      simp [Vl.fits, k8] at hf
      exact hf
    exact .inr (.inr (.inr (.inr (.inr (.inr (.inr (.inr ⟨k8, ob_of k8 rfl rfl (u3 rfl) (u4 rfl) (u5 rfl), hn.1.1, hn.1.2, hn.2.1, hn.2.2⟩)))))))
  · exfalso
    unfold Vl.usesOk Vl.used at hu
    simp [k0, k1, k2, k3, k4, k5, k6, k7, k8, h9] at hu
def head (o : Ob) : Int × Int × List UInt8 := if o.k = 0 then (5, 0, nul) else if o.k = 1 then (5, 0, if o.n = 0 then fal else tru) else if o.k = 2 ∨ o.k = 8 then (1, o.n, []) else if o.k = 3 then (2, o.n, []) else if o.k = 4 then (3, 0, o.s) else if o.k = 5 then (4, 0, o.s) else if o.k = 6 then (6, 0, [91]) else (6, 0, [60, 60])
def rest (o : Ob) : List (List UInt8) := if o.k = 8 then [num o.g, [82]] else if o.k = 6 then partsL o.kids ++ [[93]] else if o.k = 7 then partsD o.keys o.kids ++ [[62, 62]] else []
theorem fine.parts {o : Ob} (h : fine o) : ∃ p, parts o = p :: rest o ∧ sig p = head o := by
  rcases h.form with ⟨k, e⟩ | ⟨k, e⟩ | ⟨k, e, h1, h2⟩ | ⟨k, e, h1⟩ | ⟨k, e, h1⟩ | ⟨k, e, h1⟩ | ⟨k, e⟩ | ⟨k, e, h1, h2⟩ | ⟨k, e, h1, h2, h3, h4⟩
  · refine ⟨nul, ?_, ?_⟩
    · rw [parts_eq]; simp [k, rest, leaf]
    · simp [head, k, sig_nul]
  · rcases e with e | e
    · refine ⟨fal, ?_, ?_⟩
      · rw [e, parts_eq]; simp [Ob.k, Ob.n, rest, leaf]
      · rw [e]; simp [head, Ob.k, Ob.n, sig_fal]
    · refine ⟨tru, ?_, ?_⟩
      · rw [e, parts_eq]; simp [Ob.k, Ob.n, rest, leaf]
      · rw [e]; simp [head, Ob.k, Ob.n, sig_tru]
  · refine ⟨num o.n, ?_, ?_⟩
    · rw [parts_eq]; simp [k, rest, leaf]
    · simp [head, k, sig_num h1 h2]
  · refine ⟨(Pl.pReal o.n).1, ?_, ?_⟩
    · rw [parts_eq]; simp [k, rest, leaf]
    · simp [head, k, sig_real h1]
  · refine ⟨(Pl.pStr o.s).1, ?_, ?_⟩
    · rw [parts_eq]; simp [k, rest, leaf]
    · simp [head, k, sig_str h1]
  · refine ⟨(Pl.pName o.s).1, ?_, ?_⟩
    · rw [parts_eq]; simp [k, rest, leaf]
    · simp [head, k, sig_name h1]
  · refine ⟨[91], ?_, ?_⟩
    · rw [parts_eq]; simp [k, rest]
    · simp [head, k, sig_a]
  · refine ⟨[60, 60], ?_, ?_⟩
    · rw [parts_eq]; simp [k, rest]
    · simp [head, k, sig_c]
  · refine ⟨num o.n, ?_, ?_⟩
    · rw [parts_eq]; simp [k, rest]
    · simp [head, k, sig_num (show -2147483647 ≤ o.n by omega) (show o.n ≤ 2147483647 by omega)]
theorem fine.first {o : Ob} (h : fine o) : head o ≠ sig [82] ∧ head o ≠ sig [93] ∧ head o ≠ sig [62, 62] := by
  rw [sig_R, sig_b, sig_d]
  rcases h.form with ⟨k, e⟩ | ⟨k, e⟩ | ⟨k, e, h1, h2⟩ | ⟨k, e, h1⟩ | ⟨k, e, h1⟩ | ⟨k, e, h1⟩ | ⟨k, e⟩ | ⟨k, e, h1, h2⟩ | ⟨k, e, h1, h2, h3, h4⟩
  · simp [head, k, nul]
  · rcases e with e | e <;> rw [e] <;> simp [head, Ob.k, Ob.n, fal, tru]
  all_goals simp [head, k]
theorem fine.dict {o : Ob} (h : fine o) (k : o.k = 7) : o = .mk 7 0 0 [] o.keys o.kids ∧ o.keys.length = o.kids.length ∧ ∀ key ∈ o.keys, Vl.name key = true := by
  rcases h.form with ⟨k1, _⟩ | ⟨k1, _⟩ | ⟨k1, _⟩ | ⟨k1, _⟩ | ⟨k1, _⟩ | ⟨k1, _⟩ | ⟨k1, _⟩ | ⟨k1, e⟩ | ⟨k1, _⟩ <;> first | exact e | (rw [k] at k1; cases k1)
end Wr
end Go.Proofs.YtiklhhdohckfiaaGreatDoor
namespace Go.Proofs.YtiklhhdohckfiaaGreatDoor
set_option linter.unusedVariables false
set_option linter.unusedSimpArgs false
set_option linter.defProp false
open Eng Go.RowKit

end Go.Proofs.YtiklhhdohckfiaaGreatDoor
namespace Go.Proofs.YtiklhhdohckfiaaGreatDoor
set_option linter.unusedVariables false
set_option linter.unusedSimpArgs false
set_option linter.defProp false
open Eng Go.RowKit
namespace Ob
 mutual
def eqb : Ob → Ob → Bool
  | .mk k n g s ks cs, b => decide (k = b.k) && decide (n = b.n) && decide (g = b.g) && decide (s = b.s) && decide (ks = b.keys) && eqbs cs b.kids
def eqbs : List Ob → List Ob → Bool
  | [], [] => true
  | a :: l, b :: m => eqb a b && eqbs l m
  | [], _ :: _ => false
  | _ :: _, [] => false
end
 mutual
theorem eqb_iff : ∀ a b : Ob, eqb a b = true ↔ a = b
  | .mk k n g s ks cs, .mk k' n' g' s' ks' cs' => by
    have ih := eqbs_iff cs cs'
    rw [eqb]
    simp only [Bool.and_eq_true, decide_eq_true_eq]
    simp only [Ob.k, Ob.n, Ob.g, Ob.s, Ob.keys, Ob.kids, ih, Ob.mk.injEq, and_assoc]
theorem eqbs_iff : ∀ a b : List Ob, eqbs a b = true ↔ a = b
  | [], [] => by simp [eqbs]
  | a :: l, b :: m => by
    rw [eqbs, Bool.and_eq_true, eqb_iff a b, eqbs_iff l m]
    simp
  | [], _ :: _ => by simp [eqbs]
  | _ :: _, [] => by simp [eqbs]
end
theorem eqb_eq (a b : Ob) : eqb a b = (decide (a.k = b.k) && decide (a.n = b.n) && decide (a.g = b.g) && decide (a.s = b.s) && decide (a.keys = b.keys) && eqbs a.kids b.kids) := by cases a; rw [eqb]; rfl
theorem eqbs_drop {a b : List Ob} {i : Nat} (h1 : i < a.length) (h2 : i < b.length) : eqbs (a.drop i) (b.drop i) = (eqb a[i] b[i] && eqbs (a.drop (i + 1)) (b.drop (i + 1))) := by
  rw [List.drop_eq_getElem_cons h1, List.drop_eq_getElem_cons h2, eqbs]
theorem eqbs_len : ∀ {a b : List Ob}, a.length ≠ b.length → eqbs a b = false := by
  intro a b h
  cases he : eqbs a b with
  | false => rfl
  | true => rw [eqbs_iff] at he; exact absurd (by rw [he]) h
end Ob
theorem rlist_ret {a b : Ob} {ka va kb vb : Value} {ca cb : List Value} (w : World) (ha : ObAt (InW w) w a ka va ca) (hb : ObAt (InW w) w b kb vb cb) (hl : a.kids.length ≤ 100000000)
    (ih : ∀ (i : Nat) (h1 : i < a.kids.length) (h2 : i < b.kids.length) (x y : Value) (W : World), OV (InW W) W x a.kids[i] → OV (InW W) W y b.kids[i] → Ret Tryz.prog 84 #[x, y] W (fun v w' => v = .bool (Ob.eqb a.kids[i] b.kids[i]) ∧ Below W.heap.size W w')) :
    Ret Tryz.prog 140 #[va, vb] w (fun v w' => v = .bool (Ob.eqbs a.kids b.kids) ∧ Below w.heap.size w w') := by
  refine ret_of fun K hK => S_foliantref05_List_ok ?_
  unfold S_foliantref05_List
  rw [sl_len Tryz.underlying23 ha.kids.1, sl_len Tryz.underlying23 hb.kids.1]
  simp only [rs]
  by_cases hlen : (a.kids.length : Int) ≠ (b.kids.length : Int)
  · simp only [decide_eq_true hlen, i_t]
    exact hK _ _ ⟨by rw [Ob.eqbs_len (by omega)], (Own.start w).done⟩
  have hle : a.kids.length = b.kids.length := by omega
  simp only [decide_eq_false hlen, i_f, sl_len Tryz.underlying23 ha.kids.1]
  refine loop (fun vs w' => ∃ (i : Nat), vs = [.int .i64 i] ∧ i ≤ a.kids.length ∧ Ob.eqbs a.kids b.kids = Ob.eqbs (a.kids.drop i) (b.kids.drop i) ∧ Own w w' []) (fun vs _ => a.kids.length - n0 vs) ⟨0, rfl, by omega, by simp, Own.start w⟩ ?_
  rintro vs w2 ⟨i, rfl, hi, he, ho⟩ _
  simp only [S_foliantref05_List_0, gd, rs]
  by_cases hlt : (i : Int) < (a.kids.length : Int)
  · have h1 : i < a.kids.length := by omega
    have h2 : i < b.kids.length := by omega
    simp only [hlt, decide_true, rs]
    obtain ⟨x, p, hx, hrx⟩ := kid_at ha h1
    obtain ⟨y, q, hy, hry⟩ := kid_at hb h2
    refine quiet (q_at _ (fun W hW => (hrx W (OwnS.keptIn (ho.grow hW))).1) ?_)
    refine q_at _ (fun W hW => (hrx W (OwnS.keptIn (ho.grow hW))).2) ?_
    refine q_at _ (fun W hW => (hry W (OwnS.keptIn (ho.grow hW))).1) ?_
    refine q_at _ (fun W hW => (hry W (OwnS.keptIn (ho.grow hW))).2) ?_
    refine q_call _ (fun W hW => ret_grew (ih i h1 h2 x y W (hx.at_ (ho.grow hW)) (hy.at_ (ho.grow hW))) hW) ?_
    refine q_do _ (fun W => mv_run (by simp [Op.unary]; rfl)) ?_
    intro w3 hw
    have ho := ho.grow hw
    rw [Ob.eqbs_drop h1 h2] at he
    cases hq : Ob.eqb a.kids[i] b.kids[i] with
    | true =>
      simp only [Bool.not_true, i_f, rs]
      rw [wrap64_id (by omega) (by omega)]
      refine nextX ⟨i + 1, rfl, by omega, ?_, ho⟩ (by simp [n0, intOf]; omega)
      rw [he, hq]; rfl
    | false =>
      simp only [Bool.not_false, i_t]
      exact hK _ _ ⟨by rw [he, hq]; rfl, ho.done⟩
  · simp only [hlt, decide_false, rs]
    refine hK _ _ ⟨?_, ho.done⟩
    rw [he, List.drop_eq_nil_of_le (by omega), List.drop_eq_nil_of_le (by omega), Ob.eqbs]
theorem rsame5_ret (n : Nat) : ∀ (a b : Ob) (x y : Value) (w : World), a.wt ≤ n → a.wt ≤ 100000000 → OV (InW w) w x a → OV (InW w) w y b → Ret Tryz.prog 84 #[x, y] w (fun v w' => v = .bool (Ob.eqb a b) ∧ Below w.heap.size w w') := by
  induction n with
  | zero => intro a b x y w h; have := a.wt_pos; omega
  | succ n ih =>
  intro a b x y w hn hw hx hy
  obtain ⟨ka, va, ca, rfl, ha⟩ := hx.open
  obtain ⟨kb, vb, cb, rfl, hb⟩ := hy.open
  have hww : Ob.wts a.kids ≤ 100000000 := by cases a; rw [Ob.wt] at hw; simp only [Ob.kids]; omega
  have hkt : Pl.tot a.keys ≤ 100000000 := by cases a; rw [Ob.wt] at hw; simp only [Ob.keys]; omega
  have hlk := Ob.len_wts a.kids
  rw [Ob.eqb_eq]
  refine ret_of fun K hK => S_foliantref05_Same_ok ?_
  unfold S_foliantref05_Same
  refine o_obb a ha.keys.one ha.kids.one (Own.start w) fun p w1 ho => ?_
  refine o_obb b hb.keys.one hb.kids.one ho fun q w2 ho => ?_
  rw [fa_o0, ob_k ho 1 rfl, fa_o0, ob_k ho 0 rfl]
  by_cases h1 : a.k = b.k
  case neg => simp only [rs, h1, decide_false, Bool.false_and] at hK ⊢; exact hK _ _ ⟨rfl, ho.done⟩
  simp only [rs, h1, decide_true, fa_o1, ob_n ho 1 rfl, ob_n ho 0 rfl, Bool.true_and] at hK ⊢
  by_cases h2 : a.n = b.n
  case neg => simp only [rs, h2, decide_false, Bool.false_and] at hK ⊢; exact hK _ _ ⟨rfl, ho.done⟩
  simp only [rs, h2, decide_true, fa_o2, ob_g ho 1 rfl, ob_g ho 0 rfl, Bool.true_and] at hK ⊢
  by_cases h3 : a.g = b.g
  case neg => simp only [rs, h3, decide_false, Bool.false_and] at hK ⊢; exact hK _ _ ⟨rfl, ho.done⟩
  simp only [rs, h3, decide_true, fa_o3, ob_s ho 1 rfl, ob_s ho 0 rfl, Bool.true_and] at hK ⊢
  by_cases h4 : a.s = b.s
  case neg => simp only [rs, h4, decide_false, Bool.false_and] at hK ⊢; exact hK _ _ ⟨rfl, ho.done⟩
  simp only [rs, h4, decide_true, fa_o4, ob_keys ho 1 rfl, ob_keys ho 0 rfl, Bool.true_and] at hK ⊢
  have hkl := Pl.length_tot a.keys
  refine c_told (rtexts_ret ka kb a.keys b.keys w2 (ho.oldSl ha.keys.1) (ho.oldSl hb.keys.1) (by omega)) rfl ho fun w3 ho => ?_
  by_cases h5 : a.keys = b.keys
  case neg => simp only [rs, h5, decide_false, Bool.false_and] at hK ⊢; exact hK _ _ ⟨rfl, ho.done⟩
  simp only [rs, h5, decide_true, fa_o5, ob_kids ho 1 rfl, ob_kids ho 0 rfl, Bool.true_and] at hK ⊢
  refine c_told (rlist_ret w3 (ha.in_ ho) (hb.in_ ho) (by omega) ?_) rfl ho fun w4 ho => ?_
  · intro i hi hj x y W hx hy
    have := kid_wt hi
    exact ih _ _ x y W (by omega) (by omega) hx hy
  exact hK _ _ ⟨rfl, ho.done⟩
end Go.Proofs.YtiklhhdohckfiaaGreatDoor
namespace Go.Proofs.YtiklhhdohckfiaaGreatDoor
set_option linter.unusedVariables false
set_option linter.unusedSimpArgs false
set_option linter.defProp false
set_option maxRecDepth 20000
open Eng Go.RowKit

section
variable {w : World} {PK : List PanicEntry → World → Prop} {K : Value → World → Prop} {S : Nat → Prop} {w0 : World} {L : List Ent}
end
namespace Dk
def sameI (a b : It) : Bool := decide (a.num = b.num) && decide (a.gen = b.gen) && Ob.eqb a.obj b.obj
def sameL : List It → List It → Bool
  | [], [] => true
  | a :: l, b :: m => sameI a b && sameL l m
  | [], _ :: _ => false
  | _ :: _, [] => false
def same (a b : Dc) : Bool := sameL a.items b.items && Ob.eqb a.trailer b.trailer
theorem sameI_iff (a b : It) : sameI a b = true ↔ a = b := by
  cases a; cases b
  simp [sameI, Ob.eqb_iff, and_assoc]
theorem sameL_iff : ∀ a b : List It, sameL a b = true ↔ a = b
  | [], [] => by simp [sameL]
  | a :: l, b :: m => by rw [sameL, Bool.and_eq_true, sameI_iff, sameL_iff l m]; simp
  | [], _ :: _ => by simp [sameL]
  | _ :: _, [] => by simp [sameL]
theorem sameL_drop {a b : List It} {i : Nat} (h1 : i < a.length) (h2 : i < b.length) : sameL (a.drop i) (b.drop i) = (sameI a[i] b[i] && sameL (a.drop (i + 1)) (b.drop (i + 1))) := by
  rw [List.drop_eq_getElem_cons h1, List.drop_eq_getElem_cons h2, sameL]
theorem sameL_len {a b : List It} (h : a.length ≠ b.length) : sameL a b = false := by
  cases he : sameL a b with
  | false => rfl
  | true => rw [sameL_iff] at he; exact absurd (by rw [he]) h
end Dk
theorem rsameI_ret (a b : It) {ak ac bk bc : Value} (w : World) (hw : a.obj.wt ≤ 100000000) (ha : OV (InW w) w (obV a.obj ak ac) a.obj) (hb : OV (InW w) w (obV b.obj bk bc) b.obj) :
    Ret Tryz.prog 138 #[itV a ak ac, itV b bk bc] w (fun v w' => v = .bool (Dk.sameI a b) ∧ Below w.heap.size w w') := by
  refine ret_of fun K hK => S_foliantref19_SameItem_ok ?_
  unfold S_foliantref19_SameItem
  obtain ⟨acs, haa⟩ := ha.slices
  obtain ⟨bcs, hba⟩ := hb.slices
  refine o_itb a ha.oneK ha.oneC (Own.start w) fun p w1 ho => ?_
  refine o_itb b hb.oneK hb.oneC ho fun q w2 ho => ?_
  unfold Dk.sameI at hK
  rw [fa_i0, it_num ho 1 rfl, fa_i0, it_num ho 0 rfl]
  simp only [rs]
  by_cases h1 : a.num = b.num
  case neg => simp only [rs, h1, decide_false, Bool.false_and, g_un] at hK ⊢; exact hK _ _ ⟨rfl, ho.done⟩
  simp only [rs, h1, decide_true, fa_i1, it_gen ho 1 rfl, it_gen ho 0 rfl, Bool.true_and] at hK ⊢
  by_cases h2 : a.gen = b.gen
  case neg => simp only [rs, h2, decide_false, Bool.false_and, g_un] at hK ⊢; exact hK _ _ ⟨rfl, ho.done⟩
  simp only [rs, h2, decide_true, fa_i2, it_obj ho 1 rfl, it_obj ho 0 rfl, Bool.true_and] at hK ⊢
  refine c_told (rsame5_ret a.obj.wt a.obj b.obj _ _ w2 (Nat.le_refl _) hw (haa.in_ ho).ov (hba.in_ ho).ov) rfl ho fun w3 ho => ?_
  exact hK _ _ ⟨rfl, ho.done⟩
theorem rsameL_ret (a b : List It) (va vb : Value) (ca cb : List Value) (M : Mem) (w : World) (hl : a.length ≤ 10000000000) (hw : ∀ i ∈ a, i.obj.wt ≤ 100000000) (hM : M.has w) (ha : SlA M.A M.w va 8 a.length ca) (haa : IVs M.A M.w ca a) (hb : SlA M.A M.w vb 8 b.length cb) (hba : IVs M.A M.w cb b) :
    Ret Tryz.prog 83 #[va, vb] w (fun v w' => v = .bool (Dk.sameL a b) ∧ Below w.heap.size w w') := by
  refine ret_of fun K hK => S_foliantref19_SameItems_ok ?_
  unfold S_foliantref19_SameItems
  rw [sl_len Tryz.underlying42 (ha.now hM), sl_len Tryz.underlying42 (hb.now hM)]
  simp only [rs]
  by_cases hlen : (a.length : Int) ≠ (b.length : Int)
  · simp only [decide_eq_true hlen, i_t]
    exact hK _ _ ⟨by rw [Dk.sameL_len (by omega)], (Own.start w).done⟩
  have hle : a.length = b.length := by omega
  simp only [decide_eq_false hlen, i_f, sl_len Tryz.underlying42 (ha.now hM)]
  refine loop (fun vs w' => ∃ (i : Nat), vs = [.int .i64 i] ∧ i ≤ a.length ∧ Dk.sameL a b = Dk.sameL (a.drop i) (b.drop i) ∧ OwnS M.A w w' [.mem M]) (fun vs _ => a.length - n0 vs) ⟨0, rfl, by omega, by simp, OwnS.memS hM⟩ ?_
  rintro vs w2 ⟨i, rfl, hi, he, ho⟩ _
  simp only [S_foliantref19_SameItems_0, gd, rs]
  by_cases hlt : (i : Int) < (a.length : Int)
  · have h1 : i < a.length := by omega
    have h2 : i < b.length := by omega
    simp only [hlt, decide_true, rs]
    obtain ⟨xk, xc, xb, xo, hx, hrx⟩ := item_at ha haa h1
    obtain ⟨yk, yc, yb, yo, hy, hry⟩ := item_at hb hba h2
    have hMW : ∀ W', Below w2.heap.size w2 W' → M.has W' := fun W' hW => Mem.has_below (ho.hasM 0 rfl) hW
    refine quiet (q_at _ (fun W hW => (hrx W (hMW W hW)).1) ?_)
    refine q_at _ (fun W hW => run_it (hrx W (hMW W hW)).2) ?_
    refine q_at _ (fun W hW => (hry W (hMW W hW)).1) ?_
    refine q_at _ (fun W hW => run_it (hry W (hMW W hW)).2) ?_
    refine q_call _ (fun W hW => ret_grew (rsameI_ret a[i] b[i] W (hw _ (List.getElem_mem h1)) (OV.inw (hMW W hW) hx) (OV.inw (hMW W hW) hy)) hW) ?_
    refine q_do _ (fun W => mv_run (by simp [Op.unary]; rfl)) ?_
    intro w3 hW
    have ho := ho.grow hW
    rw [Dk.sameL_drop h1 h2] at he
    cases hq : Dk.sameI a[i] b[i] with
    | true =>
      simp only [Bool.not_true, i_f, rs]
      rw [wrap64_id (by omega) (by omega)]
      refine nextX ⟨i + 1, rfl, by omega, ?_, ho⟩ (by simp [n0, intOf]; omega)
      rw [he, hq]; rfl
    | false =>
      simp only [Bool.not_false, i_t]
      exact hK _ _ ⟨by rw [he, hq]; rfl, (ho.toGives 0 rfl M.le_refl hM).below⟩
  · simp only [hlt, decide_false, rs]
    refine hK _ _ ⟨?_, (ho.toGives 0 rfl M.le_refl hM).below⟩
    rw [he, List.drop_eq_nil_of_le (by omega), List.drop_eq_nil_of_le (by omega), Dk.sameL]
theorem rsameD_ret (a b : Dc) (va vb : Value) (M : Mem) (w : World) (hl : a.items.length ≤ 10000000000) (hw : ∀ i ∈ a.items, i.obj.wt ≤ 100000000) (ht : a.trailer.wt ≤ 100000000) (hM : M.has w) (ha : DV M.A M.w va a) (hb : DV M.A M.w vb b) :
    Ret Tryz.prog 28 #[va, vb] w (fun v w' => v = .bool (Dk.same a b) ∧ Below w.heap.size w w') := by
  obtain ⟨ai, ak, ac, cs, rfl, hda⟩ := ha
  obtain ⟨bi, bk, bc, ds, rfl, hdb⟩ := hb
  refine ret_of fun K hK => S_foliantref19_Same_ok ?_
  unfold S_foliantref19_Same
  refine o_dcb a hda.items.one hda.trailer.oneK hda.trailer.oneC (OwnS.memS hM) fun p w1 ho => ?_
  refine o_dcb b hdb.items.one hdb.trailer.oneK hdb.trailer.oneC ho fun q w2 ho => ?_
  have fin : ∀ {v : Value} {W : World} {L : List Ent} (i : Nat), v = .bool (Dk.same a b) → OwnS M.A w W L → L[i]? = some (.mem M) → K (.returned v) W := fun i hv ho hi => hK _ _ ⟨hv, (ho.toGives i hi M.le_refl hM).below⟩
  rw [fa_d0, dc_items ho 1 rfl, fa_d0, dc_items ho 0 rfl]
  refine c_below ho (R := fun v => v = .bool (Dk.sameL a.items b.items)) (rsameL_ret a.items b.items _ _ cs ds M w2 hl hw (ho.hasM 2 rfl) hda.items hda.all hdb.items hdb.all) ?_
  rintro _ w3 rfl ho
  cases hs : Dk.sameL a.items b.items with
  | false =>
    simp only [rs, g_un]
    exact fin 2 (by simp [Dk.same, hs]) ho rfl
  | true =>
    simp only [rs, fa_d1, dc_tr ho 1 rfl, dc_tr ho 0 rfl]
    refine c_below ho (R := fun v => v = .bool (Ob.eqb a.trailer b.trailer)) (rsame5_ret a.trailer.wt a.trailer b.trailer _ _ w3 (Nat.le_refl _) ht (OV.inw (ho.hasM 2 rfl) hda.trailer) (OV.inw (ho.hasM 2 rfl) hdb.trailer)) ?_
    rintro _ w4 rfl ho
    exact fin 2 (by simp [Dk.same, hs]) ho rfl
def Dk.sizeI (l : List It) : Nat := (l.map fun i => Vl.size i.obj).sum
theorem Dk.sizeI_take {l : List It} {i : Nat} (h : i < l.length) : Dk.sizeI (l.take (i + 1)) = Dk.sizeI (l.take i) + Vl.size l[i].obj := by
  unfold Dk.sizeI
  rw [List.take_succ_eq_append_getElem h, List.map_append, List.sum_append]; rfl
theorem Dk.sizeI_le (l : List It) (i : Nat) : Dk.sizeI (l.take i) ≤ Dk.sizeI l := by
  unfold Dk.sizeI
  have h := congrArg (fun x => (x.map fun i : It => Vl.size i.obj).sum) (List.take_append_drop i l)
  simp only [List.map_append, List.sum_append] at h
  omega
theorem rsizeD_ret (d : Dc) (dv : Value) (M : Mem) (w : World) (hl : d.items.length ≤ 10000000000) (hw : ∀ i ∈ d.items, i.obj.wt ≤ 1000000000) (ht : d.trailer.wt ≤ 1000000000) (hsz : Dk.size d ≤ 1000000000000) (hM : M.has w) (hdv : DV M.A M.w dv d) :
    Ret Tryz.prog 58 #[dv] w (fun v w' => v = .int .i64 (Dk.size d : Nat) ∧ Below w.heap.size w w') := by
  obtain ⟨vi, tk, tc, cs, rfl, hda⟩ := hdv
  have hdz : Dk.size d = Vl.size d.trailer + Dk.sizeI d.items := rfl
  refine ret_of fun K hK => S_foliantref19_Size_ok ?_
  unfold S_foliantref19_Size
  refine o_dcb d hda.items.one hda.trailer.oneK hda.trailer.oneC (OwnS.memS hM) fun b w1 ho => ?_
  rw [fa_d1, dc_tr ho 0 rfl]
  refine c_below ho (R := fun v => v = .int .i64 (Vl.size d.trailer : Nat)) (rsize_ret d.trailer.wt d.trailer _ w1 (Nat.le_refl _) (OV.inw (ho.hasM 1 rfl) hda.trailer) (by omega)) ?_
  rintro _ w2 rfl ho
  rw [fa_d0, dc_items ho 0 rfl, sl_len Tryz.underlying42 (hda.items.now (ho.hasM 1 rfl))]
  refine loop (fun vs W => ∃ i : Nat, vs = [.int .i64 (Vl.size d.trailer + Dk.sizeI (d.items.take i) : Nat), .int .i64 i] ∧ i ≤ d.items.length ∧ OwnS M.A w W [dcE b d vi tk tc, .mem M]) (fun vs _ => d.items.length - n1 vs) ⟨0, rfl, by omega, ho⟩ ?_
  clear ho
  rintro vs w3 ⟨i, rfl, hi, ho⟩ _
  simp only [S_foliantref19_Size_0, gd, rs]
  have hle := Dk.sizeI_le d.items i
  by_cases hlt : (i : Int) < (d.items.length : Int)
  · have hi' : i < d.items.length := by omega
    simp only [hlt, decide_true, i_t]
    obtain ⟨xk, xc, bi, oi, hx, hr⟩ := item_at hda.items hda.all hi'
    obtain ⟨r1, r2⟩ := hr w3 (ho.hasM 1 rfl)
    refine do_eq r1 |>.mpr (do_eq (run_it r2) |>.mpr ?_)
    refine o_ita ho fun b6 w5 ho => ?_
    refine it_put 0 hx.oneK hx.oneC ho rfl fun w6 ho => ?_
    rw [fa_i2, it_obj ho 0 rfl]
    have hwi := hw _ (List.getElem_mem hi')
    refine c_below ho (R := fun v => v = .int .i64 (Vl.size d.items[i].obj : Nat)) (rsize_ret d.items[i].obj.wt d.items[i].obj _ w6 (Nat.le_refl _) (OV.inw (ho.hasM 2 rfl) hx) (by omega)) ?_
    rintro _ w7 rfl ho
    have htk := Dk.sizeI_take hi'
    have hle2 := Dk.sizeI_le d.items (i + 1)
    simp only [rs]
    rw [wrap64_id (by omega) (by omega), wrap64_id (by omega) (by omega)]
    exact nextX ⟨i + 1, by rw [htk]; simp; omega, by omega, ho.tail⟩ (by simp [n1, intOf]; omega)
  · simp only [hlt, decide_false, i_f]
    refine hK _ _ ⟨?_, (ho.toGives 1 rfl M.le_refl hM).below⟩
    rw [List.take_of_length_le (by omega), hdz]
end Go.Proofs.YtiklhhdohckfiaaGreatDoor
namespace Go.Proofs.YtiklhhdohckfiaaGreatDoor
set_option linter.unusedVariables false
set_option linter.unusedSimpArgs false
set_option linter.defProp false
set_option maxRecDepth 20000
open Eng Go.RowKit

namespace Lb
def kS : List UInt8 := [83]
def kP : List UInt8 := [80]
def kSt : List UInt8 := [83, 116]
def fieldB (o : Ob) (key : List UInt8) (kind : Int) : Bool := !(Vl.get o key).isSome || decide (((Vl.get o key).getD Vl.ob0).k = kind)
def g (o : Ob) (key : List UInt8) : Ob := (Vl.get o key).getD Vl.ob0
def oneX (a o : Ob) : Lx := ⟨a.n, (g o kS).s, (g o kP).s, if (g o kSt).k = 2 then (g o kSt).n else 1⟩
def oneB (a o : Ob) : Bool := decide (a.k = 2) && decide (o.k = 7) && fieldB o kS 5 && fieldB o kP 4 && fieldB o kSt 2
end Lb
theorem field_ret (o : Ob) (v : Value) (key : List UInt8) (kind : Int) (M : Mem) (w : World) (hw : o.wt ≤ 100000000000) (hM : M.has w) (hv : OV M.A M.w v o) :
    RetM Tryz.prog 115 #[v, .string ⟨key.toArray⟩, .int .i64 kind] M w (fun r N => ∃ v', r = getV v' (Lb.fieldB o key kind) ∧ OV N.A N.w v' (Lb.g o key)) := by
  obtain ⟨vk, vc, cs, rfl, ha⟩ := hv.open
  refine retM_of hM fun K hK => S_label_field_ok ?_
  unfold S_label_field
  refine o_obb o ha.keys.one ha.kids.one (OwnS.memS hM) fun b3 w1 ho => ?_
  refine o_oba ho fun b6 w2 ho => ?_
  rw [ob_v ho 1 rfl]
  refine c_mem ho 2 rfl (vget_ret o _ key M w2 hw (ho.hasM 2 rfl) hv) ?_
  rintro _ N w3 hle ⟨t, rfl, ht⟩ ho
  obtain ⟨tk, tc, rfl, ht⟩ := getD_ov ht
  have hB : Lb.fieldB o key kind = (!(Vl.get o key).isSome || decide ((Lb.g o key).k = kind)) := rfl
  rw [show (Vl.get o key).getD Vl.ob0 = Lb.g o key from rfl] at ht ⊢
  simp only [getV, ex]
  refine o_oba ho fun b8 w4 ho => ?_
  refine ob_put 0 ht.oneK ht.oneC ho rfl fun w5 ho => ?_
  generalize hgt : Lb.g o key = t at *
  have ho : OwnS M.A w w5 [obE b8 t tk tc, obE b6 ob0 nilS nilS, obE b3 o vk vc, .mem N] := ho
  have ho := ho.drew
  refine ⟨fun W => (obE b8 t tk tc).is W, ho.at_ 0 rfl, ?_⟩
  refine hd_do (obV t tk tc) (fun W h => run_load_at (AtV.agg aggOb (cs := obC t tk tc) rfl fun j u hj => by rw [Nat.zero_add]; exact cells_cell (T := 25) h hj)) ?_
  refine hd_pure (.bool (!(Vl.get o key).isSome)) (fun _ => mv_run (by simp [Op.unary])) ?_
  have fin : ∀ {W : World}, OwnS M.A w W [obE b8 t tk tc, obE b6 ob0 nilS nilS, obE b3 o vk vc, .mem N] →
      DoX Tryz.prog (mStore 25 (.pointer (some ⟨b6, 0, none⟩)) (obV t tk tc)) W (pm1 (pm1 (pm1 (pm1 (pm1 (pm1 (pm1 (pm1 (pm1 (pm1 (pk K))))))))))) fun _ W => (obE b8 t tk tc).is W ∧ (RetX Tryz.prog [.cell (.pointer (some ⟨b6, 0, none⟩)) 25, .val (.bool (Lb.fieldB o key kind))] W K) := by
    intro W ho
    refine ob_put 1 ht.oneK ht.oneC ho rfl fun w6 ho => ?_
    refine ⟨ho.at_ 0 rfl, ?_⟩
    exact ret_ob2 1 ho rfl (hK _ _ N _ 3 ho rfl hle ⟨_, rfl, ht⟩)
  cases hs : (Vl.get o key).isSome with
  | false =>
    simp only [Bool.not_false, gq]
    refine hd_pure (.bool true) (fun _ => by simp [mPick, asBool]) ?_
    rw [hs] at hB
    have := fin ho
    rw [hB] at this
    simpa using this
  | true =>
    simp only [Bool.not_true, gq]
    refine hd_pure _ (fun _ => run_fa fo_o0) ?_
    refine hd_do (.int .i64 t.k) (fun W h => run_load_cell nInt5 (cells_cell (T := 25) h (i := 0) rfl)) ?_
    refine hd_pure (.bool (decide (t.k = kind))) (fun _ => mv_run (by simp [eqGuard, binOp, Op.intCmp, int_beq])) ?_
    refine hd_pure (.bool (decide (t.k = kind))) (fun _ => by simp [mPick, asBool]) ?_
    rw [hs] at hB
    have := fin ho
    rw [hB] at this
    simpa using this
section
variable {w : World} {PK : List PanicEntry → World → Prop} {K : Value → World → Prop} {S : Nat → Prop} {w0 : World} {L : List Ent}
theorem m_lb {a b : Int} {s p : ByteArray} : DoX Tryz.prog (mBuild 90 #[(0, .int .i64 a), (1, .string s), (2, .string p), (3, .int .i64 b)]) w PK K = K (.agg #[.int .i64 a, .string s, .string p, .int .i64 b]) w := do_eq (by kernel_rfl)
theorem m_lb2 {a b : Int} : DoX Tryz.prog (mBuild 90 #[(0, .int .i64 a), (3, .int .i64 b)]) w PK K = K (lbV ⟨a, [], [], b⟩) w := do_eq (by kernel_rfl)
theorem m_lb0 : DoX Tryz.prog (mBuild 90 #[]) w PK K = K (lbV Lb.lx0) w := do_eq (by kernel_rfl)
theorem ret_lb2 {K : Ending → World → Prop} {b : Nat} {x : Lx} {v : Value} (i : Nat) (ho : OwnS S w0 w L) (hi : L[i]? = some (lbE b x)) (k : K (.returned (.tuple #[lbV x, v])) w) : RetX Tryz.prog [.cell (.pointer (some ⟨b, 0, none⟩)) 90, .val v] w K :=
  ret_v2 (rv_cell (ho.agg i hi aggLb)) rv_val k
end
theorem lone_ret (d : Dc) (a t : Ob) (dv av tv : Value) (M : Mem) (w : World) (hd : Dk.Ok d) (hw : t.wt ≤ 1000000000) (hM : M.has w) (hdv : DV M.A M.w dv d) (hav : OV M.A M.w av a) (htv : OV M.A M.w tv t) :
    RetM Tryz.prog 63 #[dv, av, tv] M w (fun r _ => r = getV (lbV (Lb.oneX a (Dk.follow d t))) (Lb.oneB a (Dk.follow d t))) := by
  obtain ⟨vi, dk, dc, dcs, rfl, hda⟩ := hdv
  obtain ⟨ak, ac, acs, rfl, haa⟩ := hav.open
  obtain ⟨tk, tc, tcs, rfl, hta⟩ := htv.open
  refine retM_of hM fun K hK => S_label_one_ok ?_
  unfold S_label_one
  refine o_dcb d hda.items.one hda.trailer.oneK hda.trailer.oneC (OwnS.memS hM) fun b3 w1 ho => ?_
  refine o_obb a haa.keys.one haa.kids.one ho fun b4 w2 ho => ?_
  refine o_obb t hta.keys.one hta.kids.one ho fun b5 w3 ho => ?_
  refine o_lba ho fun b6 w4 ho => ?_
  rw [dc_v ho 3 rfl, ob_v ho 1 rfl]
  refine c_mem ho 4 rfl (dfollow_ret d t _ _ M w4 hd hw (ho.hasM 4 rfl) hda.dv htv) fun y N w5 hle hy ho => ?_
  have hfw := Dk.follow_wt hd hw
  generalize Dk.follow d t = f at *
  obtain ⟨fk, fc, fcs, rfl, hfa⟩ := hy.open
  refine o_oba ho fun b8 w6 ho => ?_
  refine ob_put 0 hfa.keys.one hfa.kids.one ho rfl fun w7 ho => ?_
  rw [ob_v ho 0 rfl]
  refine c_mem ho 5 rfl (field_ret f _ Lb.kS 5 N w7 (by omega) (ho.hasM 5 rfl) hy) ?_
  rintro _ N1 w8 hle1 ⟨v1, rfl, h1⟩ ho
  obtain ⟨k1, c1, cs1, rfl, ha1⟩ := h1.open
  simp only [getV, ex]
  refine o_oba ho fun b9 w9 ho => ?_
  refine ob_put 0 ha1.keys.one ha1.kids.one ho rfl fun w10 ho => ?_
  rw [ob_v ho 1 rfl]
  refine c_mem ho 6 rfl (field_ret f _ Lb.kP 4 N1 w10 (by omega) (ho.hasM 6 rfl) (hy.le hle1)) ?_
  rintro _ N2 w11 hle2 ⟨v2, rfl, h2⟩ ho
  obtain ⟨k2, c2, cs2, rfl, ha2⟩ := h2.open
  simp only [getV, ex]
  refine o_oba ho fun b11 w12 ho => ?_
  refine ob_put 0 ha2.keys.one ha2.kids.one ho rfl fun w13 ho => ?_
  rw [ob_v ho 2 rfl]
  refine c_mem ho 7 rfl (field_ret f _ Lb.kSt 2 N2 w13 (by omega) (ho.hasM 7 rfl) ((hy.le hle1).le hle2)) ?_
  rintro _ N3 w14 hle3 ⟨v3, rfl, h3⟩ ho
  obtain ⟨k3, c3, cs3, rfl, ha3⟩ := h3.open
  simp only [getV, ex]
  refine o_oba ho fun b13 w15 ho => ?_
  refine ob_put 0 ha3.keys.one ha3.kids.one ho rfl fun w16 ho => ?_
  have ho : OwnS M.A w w16 [obE b13 (Lb.g f Lb.kSt) k3 c3, obE b11 (Lb.g f Lb.kP) k2 c2, obE b9 (Lb.g f Lb.kS) k1 c1, obE b8 f fk fc, lbE b6 Lb.lx0, obE b5 t tk tc, obE b4 a ak ac, dcE b3 d vi dk dc, .mem N3] := ho
  rw [fa_o1, ob_n ho 6 rfl, fa_o3, ob_s ho 2 rfl, fa_o3, ob_s ho 1 rfl, m_lb]
  refine o_lba ho fun b15 w17 ho => ?_
  refine lb_put (y := ⟨a.n, (Lb.g f Lb.kS).s, (Lb.g f Lb.kP).s, 1⟩) 0 ho rfl fun w18 ho => ?_
  have ho : OwnS M.A w w18 [lbE b15 ⟨a.n, (Lb.g f Lb.kS).s, (Lb.g f Lb.kP).s, 1⟩, obE b13 (Lb.g f Lb.kSt) k3 c3, obE b11 (Lb.g f Lb.kP) k2 c2, obE b9 (Lb.g f Lb.kS) k1 c1, obE b8 f fk fc, lbE b6 Lb.lx0, obE b5 t tk tc, obE b4 a ak ac, dcE b3 d vi dk dc, .mem N3] := ho
  refine join fun J hJ => ?_
  have fin : ∀ {W : World}, OwnS M.A w W [lbE b15 (Lb.oneX a f), obE b13 (Lb.g f Lb.kSt) k3 c3, obE b11 (Lb.g f Lb.kP) k2 c2, obE b9 (Lb.g f Lb.kS) k1 c1, obE b8 f fk fc, lbE b6 Lb.lx0, obE b5 t tk tc, obE b4 a ak ac, dcE b3 d vi dk dc, .mem N3] → J [] W := by
    intro W ho
    refine hJ _ _ fun _ => ?_
    unfold S_label_one_0
    rw [lb_v ho 0 rfl, fa_o0, ob_k ho 7 rfl]
    have done : ∀ {W : World}, OwnS M.A w W [lbE b15 (Lb.oneX a f), obE b13 (Lb.g f Lb.kSt) k3 c3, obE b11 (Lb.g f Lb.kP) k2 c2, obE b9 (Lb.g f Lb.kS) k1 c1, obE b8 f fk fc, lbE b6 Lb.lx0, obE b5 t tk tc, obE b4 a ak ac, dcE b3 d vi dk dc, .mem N3] → ∀ b, b = Lb.oneB a f →
        DoX Tryz.prog (mStore 90 (.pointer (some ⟨b6, 0, none⟩)) (lbV (Lb.oneX a f))) W (pk K) fun _ W => RetX Tryz.prog [.cell (.pointer (some ⟨b6, 0, none⟩)) 90, .val (.bool b)] W K := by
      rintro W ho b rfl
      refine lb_put 5 ho rfl fun w20 ho => ?_
      exact ret_lb2 5 ho rfl (hK _ _ N3 _ 9 ho rfl (((hle.trans hle1).trans hle2).trans hle3) rfl)
    simp only [rs]
    by_cases e1 : a.k = 2
    case neg =>
      simp only [e1, decide_false, rs, g_un]
      exact done ho _ (by simp [Lb.oneB, e1])
    simp only [e1, decide_true, rs, fa_o0, ob_k ho 4 rfl]
    by_cases e2 : f.k = 7
    case neg =>
      simp only [e2, decide_false, rs, g_un]
      exact done ho _ (by simp [Lb.oneB, e2])
    simp only [e2, decide_true, rs]
    cases e3 : Lb.fieldB f Lb.kS 5 with
    | false => simp only [rs, g_un]; exact done ho _ (by simp [Lb.oneB, e3])
    | true =>
    simp only [rs]
    cases e4 : Lb.fieldB f Lb.kP 4 with
    | false => simp only [rs, g_un]; exact done ho _ (by simp [Lb.oneB, e4])
    | true =>
    simp only [rs]
    exact done ho _ (by simp [Lb.oneB, e1, e2, e3, e4])
  rw [fa_o0, ob_k ho 1 rfl]
  simp only [rs]
  by_cases e : (Lb.g f Lb.kSt).k = 2
  · simp only [e, decide_true, i_t]
    rw [fa_o1, ob_n ho 1 rfl, fa_l3]
    refine o_store 0 ho rfl (by kernel_rfl) rfl (show 0 + 3 < 4 by omega) fun w19 ho => ?_
    refine fin (W := w19) ?_
    unfold Lb.oneX
    rw [if_pos e]
    exact ho
  · simp only [e, decide_false, i_f]
    refine fin ?_
    unfold Lb.oneX
    rw [if_neg e]
    exact ho
end Go.Proofs.YtiklhhdohckfiaaGreatDoor
namespace Go.Proofs.YtiklhhdohckfiaaGreatDoor
set_option linter.unusedVariables false
set_option linter.unusedSimpArgs false
set_option linter.defProp false
set_option maxRecDepth 20000
open Eng Go.RowKit

theorem rone_ret (d : Dc) (a t : Ob) (dv av tv : Value) (M : Mem) (w : World) (hd : Dk.Ok d) (hw : t.wt ≤ 1000000000) (hM : M.has w) (hdv : DV M.A M.w dv d) (hav : OV M.A M.w av a) (htv : OV M.A M.w tv t) :
    RetM Tryz.prog 68 #[dv, av, tv] M w (fun r _ => r = getV (lbV (if Lb.oneB a (Dk.follow d t) then Lb.oneX a (Dk.follow d t) else Lb.lx0)) (Lb.oneB a (Dk.follow d t))) := by
  obtain ⟨vi, dk, dc, dcs, rfl, hda⟩ := hdv
  obtain ⟨ak, ac, acs, rfl, haa⟩ := hav.open
  obtain ⟨tk, tc, tcs, rfl, hta⟩ := htv.open
  refine retM_of hM fun K hK => S_foliantref38_one_ok ?_
  unfold S_foliantref38_one
  refine o_dcb d hda.items.one hda.trailer.oneK hda.trailer.oneC (OwnS.memS hM) fun b3 w1 ho => ?_
  refine o_obb a haa.keys.one haa.kids.one ho fun b4 w2 ho => ?_
  refine o_obb t hta.keys.one hta.kids.one ho fun b5 w3 ho => ?_
  refine o_lba ho fun b6 w4 ho => ?_
  rw [dc_v ho 3 rfl, ob_v ho 1 rfl]
  refine c_mem ho 4 rfl (rfollow_ret d t _ _ M w4 hd (ho.hasM 4 rfl) hda.dv htv) fun y N w5 hle hy ho => ?_
  have hfw := Dk.follow_wt hd hw
  generalize Dk.follow d t = f at *
  obtain ⟨fk, fc, fcs, rfl, hfa⟩ := hy.open
  refine o_oba ho fun b8 w6 ho => ?_
  refine ob_put 0 hfa.keys.one hfa.kids.one ho rfl fun w7 ho => ?_
  have ho : OwnS M.A w w7 [obE b8 f fk fc, lbE b6 Lb.lx0, obE b5 t tk tc, obE b4 a ak ac, dcE b3 d vi dk dc, .mem N] := ho
  rw [fa_o0, ob_k ho 3 rfl]
  have no : ∀ {W : World} {N : Mem} {L : List Ent} (i j : Nat), OwnS M.A w W L → L[i]? = some (lbE b6 Lb.lx0) → L[j]? = some (.mem N) → (∀ x, (L.set i x)[j]? = some (.mem N)) → M.le N → Lb.oneB a f = false →
      DoX Tryz.prog (mBuild 90 #[]) W (pk K) (fun t W => DoX Tryz.prog (mStore 90 (.pointer (some ⟨b6, 0, none⟩)) t) W (pk K) fun _ W => RetX Tryz.prog [.cell (.pointer (some ⟨b6, 0, none⟩)) 90, .val (.bool false)] W K) := by
    intro W N L i j ho hi hj hs hle hb
    rw [m_lb0]
    refine lb_put i ho hi fun w20 ho => ?_
    have hil : i < L.length := (List.getElem?_eq_some_iff.1 hi).1
    refine ret_lb2 i ho (by simp [hil]; rfl) (hK _ _ N _ j ho (hs _) hle ?_)
    rw [hb]; rfl
  simp only [rs]
  by_cases e1 : a.k = 2
  case neg =>
    simp only [e1, ne_eq, not_false_eq_true, decide_true, rs, g_un]
    exact no 1 5 ho rfl rfl (fun _ => rfl) hle (by simp [Lb.oneB, e1])
  simp only [e1, ne_eq, not_true, decide_false, rs, fa_o0, ob_k ho 0 rfl]
  by_cases e2 : f.k = 7
  case neg =>
    simp only [e2, ne_eq, not_false_eq_true, decide_true, rs]
    exact no 1 5 ho rfl rfl (fun _ => rfl) hle (by simp [Lb.oneB, e2])
  simp only [e2, ne_eq, not_true, decide_false, rs]
  rw [fa_o1, ob_n ho 3 rfl, m_lb2]
  refine o_lba ho fun b9 w8 ho => ?_
  refine lb_put (y := ⟨a.n, [], [], 1⟩) 0 ho rfl fun w9 ho => ?_
  have ho : OwnS M.A w w9 [lbE b9 ⟨a.n, [], [], 1⟩, obE b8 f fk fc, lbE b6 Lb.lx0, obE b5 t tk tc, obE b4 a ak ac, dcE b3 d vi dk dc, .mem N] := ho
  rw [ob_v ho 1 rfl]
  refine c_mem ho 6 rfl (rget_ret f _ Lb.kS N w9 (by omega) (ho.hasM 6 rfl) hy) ?_
  rintro _ N1 w10 hle1 ⟨v1, rfl, h1⟩ ho
  obtain ⟨k1, c1, cs1, rfl, ha1⟩ := h1.open
  rw [show (Vl.get f Lb.kS).getD Vl.ob0 = Lb.g f Lb.kS from rfl] at ha1 ⊢
  simp only [getV, ex]
  refine o_oba ho fun b10 w11 ho => ?_
  refine ob_put 0 ha1.keys.one ha1.kids.one ho rfl fun w12 ho => ?_
  rw [ob_v ho 2 rfl]
  refine c_mem ho 7 rfl (rget_ret f _ Lb.kP N1 w12 (by omega) (ho.hasM 7 rfl) (hy.le hle1)) ?_
  rintro _ N2 w13 hle2 ⟨v2, rfl, h2⟩ ho
  obtain ⟨k2, c2, cs2, rfl, ha2⟩ := h2.open
  rw [show (Vl.get f Lb.kP).getD Vl.ob0 = Lb.g f Lb.kP from rfl] at ha2 ⊢
  simp only [getV, ex]
  refine o_oba ho fun b12 w14 ho => ?_
  refine ob_put 0 ha2.keys.one ha2.kids.one ho rfl fun w15 ho => ?_
  rw [ob_v ho 3 rfl]
  refine c_mem ho 8 rfl (rget_ret f _ Lb.kSt N2 w15 (by omega) (ho.hasM 8 rfl) ((hy.le hle1).le hle2)) ?_
  rintro _ N3 w16 hle3 ⟨v3, rfl, h3⟩ ho
  obtain ⟨k3, c3, cs3, rfl, ha3⟩ := h3.open
  rw [show (Vl.get f Lb.kSt).getD Vl.ob0 = Lb.g f Lb.kSt from rfl] at ha3 ⊢
  simp only [getV, ex]
  refine o_oba ho fun b14 w17 ho => ?_
  refine ob_put 0 ha3.keys.one ha3.kids.one ho rfl fun w18 ho => ?_
  have ho : OwnS M.A w w18 [obE b14 (Lb.g f Lb.kSt) k3 c3, obE b12 (Lb.g f Lb.kP) k2 c2, obE b10 (Lb.g f Lb.kS) k1 c1, lbE b9 ⟨a.n, [], [], 1⟩, obE b8 f fk fc, lbE b6 Lb.lx0, obE b5 t tk tc, obE b4 a ak ac, dcE b3 d vi dk dc, .mem N3] := ho
  have hle' := ((hle.trans hle1).trans hle2).trans hle3
  have bad := fun (hb : Lb.oneB a f = false) => no (W := w18) (N := N3) 5 9 ho rfl rfl (fun _ => rfl) hle' hb
  have fb : ∀ key kind, Lb.fieldB f key kind = (!(Vl.get f key).isSome || decide ((Lb.g f key).k = kind)) := fun _ _ => rfl
  -- behind the tests
  have good : Lb.oneB a f = true → DoX Tryz.prog (mFA 25 (.pointer (some ⟨b10, 0, none⟩)) 3) w18 (pk K) (fun t69 w =>
 DoX Tryz.prog (mLoad 9 t69) w (pk K) fun t70 w =>
 DoX Tryz.prog (mFA 90 (.pointer (some ⟨b9, 0, none⟩)) 1) w (pk K) fun t71 w =>
 DoX Tryz.prog (mStore 9 t71 t70) w (pk K) fun _ w =>
 DoX Tryz.prog (mFA 25 (.pointer (some ⟨b12, 0, none⟩)) 3) w (pk K) fun t72 w =>
 DoX Tryz.prog (mLoad 9 t72) w (pk K) fun t73 w =>
 DoX Tryz.prog (mFA 90 (.pointer (some ⟨b9, 0, none⟩)) 2) w (pk K) fun t74 w =>
 DoX Tryz.prog (mStore 9 t74 t73) w (pk K) fun _ w =>
 JoinX (fun J1 =>
 IfX (.bool (Vl.get f Lb.kSt).isSome) (DoX Tryz.prog (mFA 25 (.pointer (some ⟨b14, 0, none⟩)) 1) w (pk K) fun t76 w =>
 DoX Tryz.prog (mLoad 2 t76) w (pk K) fun t77 w =>
 DoX Tryz.prog (mFA 90 (.pointer (some ⟨b9, 0, none⟩)) 3) w (pk K) fun t78 w =>
 DoX Tryz.prog (mStore 3 t78 t77) w (pk K) fun _ w =>
 J1 [] w) (J1 [] w)) (fun vs1 w => ∀ _ : Sg, S_foliantref38_one_0 (.pointer (some ⟨b6, 0, none⟩)) (.pointer (some ⟨b9, 0, none⟩)) w K)) := by
    intro hb
    rw [fa_o3, ob_s ho 2 rfl, fa_l1]
    refine o_store 3 ho rfl (by kernel_rfl) rfl (show 0 + 1 < 4 by omega) fun w19 ho => ?_
    have ho : OwnS M.A w w19 [obE b14 (Lb.g f Lb.kSt) k3 c3, obE b12 (Lb.g f Lb.kP) k2 c2, obE b10 (Lb.g f Lb.kS) k1 c1, lbE b9 ⟨a.n, (Lb.g f Lb.kS).s, [], 1⟩, obE b8 f fk fc, lbE b6 Lb.lx0, obE b5 t tk tc, obE b4 a ak ac, dcE b3 d vi dk dc, .mem N3] := ho
    rw [fa_o3, ob_s ho 1 rfl, fa_l2]
    refine o_store 3 ho rfl (by kernel_rfl) rfl (show 0 + 2 < 4 by omega) fun w20 ho => ?_
    have ho : OwnS M.A w w20 [obE b14 (Lb.g f Lb.kSt) k3 c3, obE b12 (Lb.g f Lb.kP) k2 c2, obE b10 (Lb.g f Lb.kS) k1 c1, lbE b9 ⟨a.n, (Lb.g f Lb.kS).s, (Lb.g f Lb.kP).s, 1⟩, obE b8 f fk fc, lbE b6 Lb.lx0, obE b5 t tk tc, obE b4 a ak ac, dcE b3 d vi dk dc, .mem N3] := ho
    have h3 : Lb.fieldB f Lb.kSt 2 = true := by
      unfold Lb.oneB at hb
      simp only [Bool.and_eq_true] at hb
      exact hb.2
    refine join fun J hJ => ?_
    have fin : ∀ {W : World}, OwnS M.A w W [obE b14 (Lb.g f Lb.kSt) k3 c3, obE b12 (Lb.g f Lb.kP) k2 c2, obE b10 (Lb.g f Lb.kS) k1 c1, lbE b9 (Lb.oneX a f), obE b8 f fk fc, lbE b6 Lb.lx0, obE b5 t tk tc, obE b4 a ak ac, dcE b3 d vi dk dc, .mem N3] → J [] W := by
      intro W ho
      refine hJ _ _ fun _ => ?_
      unfold S_foliantref38_one_0
      rw [lb_v ho 3 rfl]
      refine lb_put 5 ho rfl fun w22 ho => ?_
      exact ret_lb2 5 ho rfl (hK _ _ N3 _ 9 ho rfl hle' (by rw [hb]; rfl))
    rw [fb] at h3
    cases hs : (Vl.get f Lb.kSt).isSome with
    | true =>
      rw [hs] at h3
      have e : (Lb.g f Lb.kSt).k = 2 := by simpa using h3
      simp only [i_t]
      rw [fa_o1, ob_n ho 0 rfl, fa_l3]
      refine o_store 3 ho rfl (by kernel_rfl) rfl (show 0 + 3 < 4 by omega) fun w21 ho => ?_
      refine fin (W := w21) ?_
      unfold Lb.oneX
      rw [if_pos e]
      exact ho
    | false =>
      have e : ¬ (Lb.g f Lb.kSt).k = 2 := by
        have : Vl.get f Lb.kSt = none := by simpa using hs
        unfold Lb.g
        rw [this]
        decide
      simp only [i_f]
      refine fin ?_
      unfold Lb.oneX
      rw [if_neg e]
      exact ho
  cases g1 : (Vl.get f Lb.kS).isSome <;> cases g2 : (Vl.get f Lb.kP).isSome <;> cases g3 : (Vl.get f Lb.kSt).isSome <;> rw [g3] at good <;> simp only [i_t, i_f] at good
  all_goals
    by_cases q1 : (Lb.g f Lb.kS).k = 5 <;> by_cases q2 : (Lb.g f Lb.kP).k = 4 <;> by_cases q3 : (Lb.g f Lb.kSt).k = 2
  all_goals
    simp only [rs, fa_o0, ob_k ho 0 rfl, ob_k ho 1 rfl, ob_k ho 2 rfl, q1, q2, q3, ne_eq, not_true, not_false_eq_true, decide_true, decide_false, g_un]
  all_goals
    first
    | exact good (by simp [Lb.oneB, e1, e2, fb, g1, g2, g3, q1, q2, q3])
    | exact bad (by simp [Lb.oneB, e1, e2, fb, g1, g2, g3, q1, q2, q3])
end Go.Proofs.YtiklhhdohckfiaaGreatDoor
namespace Go.Proofs.YtiklhhdohckfiaaGreatDoor
set_option linter.unusedVariables false
set_option linter.unusedSimpArgs false
set_option linter.defProp false
open Go
namespace Lb
def numsK : List UInt8 := [78, 117, 109, 115]
def plK : List UInt8 := [80, 97, 103, 101, 76, 97, 98, 101, 108, 115]
def pairs (d : Dc) : List Ob → Option (List Lx)
  | [] => some []
  | [_] => some []
  | a :: b :: r => if oneB a (Dk.follow d b) then (pairs d r).map (oneX a (Dk.follow d b) :: ·) else none
def told2 : Option (List Lx) → List Lx × Int
  | none => ([], 3)
  | some l => if check l ≠ 0 then ([], 3) else (l, 0)
def tree (d : Dc) : Ob := Dk.path d (Dk.follow d d.trailer) [Dk.rootK, plK]
def nums (d : Dc) : Ob := Dk.follow d (g (tree d) numsK)
def read (d : Dc) : List Lx × Int :=
  if Dk.check d ≠ 0 then ([], Dk.check d)
  else if (tree d).k = 0 then ([], 0)
  else if (tree d).k ≠ 7 ∨ (nums d).k ≠ 6 ∨ (nums d).kids.length % 2 ≠ 0 then ([], 3)
  else told2 (pairs d (nums d).kids)
theorem pairs_step {d : Dc} {l : List Ob} {i : Nat} (h : i + 1 < l.length) (b : Bool) (hb : oneB l[i] (Dk.follow d l[i + 1]) = b) :
    pairs d (l.drop i) = if b then (pairs d (l.drop (i + 2))).map (oneX l[i] (Dk.follow d l[i + 1]) :: ·) else none := by
  rw [List.drop_eq_getElem_cons (by omega), List.drop_eq_getElem_cons h, pairs, hb]
theorem follow_ob0 (d : Dc) : Dk.follow d Vl.ob0 = Vl.ob0 := by
  unfold Dk.follow
  rw [if_pos (by decide)]
theorem path_one (d : Dc) (o : Ob) (k : List UInt8) (h : o.k ≠ 8) : Dk.path d (Dk.follow d o) [k] = Dk.follow d (g o k) := by
  have hf : Dk.follow d o = o := by unfold Dk.follow; rw [if_pos h]
  rw [hf, Dk.path]
  unfold g
  cases hg : Vl.get o k with
  | none => simp only [Option.getD_none]; rw [follow_ob0]
  | some v => simp only [Option.getD_some, Dk.path]
end Lb
end Go.Proofs.YtiklhhdohckfiaaGreatDoor
namespace Go.Proofs.YtiklhhdohckfiaaGreatDoor
set_option linter.unusedVariables false
set_option linter.unusedSimpArgs false
set_option linter.defProp false
set_option maxRecDepth 20000
open Eng Go.RowKit

section
variable {w : World} {PK : List PanicEntry → World → Prop} {K : Value → World → Prop} {S : Nat → Prop} {w0 : World} {L : List Ent}
theorem o_lbs1 (x : Lx) (ho : OwnS S w0 w L) (k : ∀ b w', OwnS S w0 w' (lbE b x :: L) → K (.slice (some ⟨b, 0, none⟩) 1 1) w') : DoX Tryz.prog (mBuildS 46 1 #[(0, lbV x)]) w PK K :=
  o_new (fun b => .slice (some ⟨b, 0, none⟩) 1 1) (lbC x) 90 (fun _ => by kernel_rfl) ho k
theorem o_apL (i : Nat) {v v2 : Value} {n m : Nat} {xs news : List Value} {cb : Array Bool} (ho : OwnS S w0 w L) (hi : L[i]? = some (.urow 90 4 v n xs)) (hs : Sl w v2 4 m news) (h1 : ∀ u ∈ news, u.oneCell' = true) (hb : n + m ≤ 1000000000000)
    (k : ∀ v' w', OwnS S w0 w' (L.set i (.urow 90 4 v' (n + m) (xs ++ news))) → K v' w') : DoX Tryz.prog (mB .append #[46, 46] 46 cb #[v, v2]) w PK K :=
  o_appendU i Tryz.underlying46 elLb (by decide) ho hi hs h1 (by omega) (by omega) k
theorem o_strb2 (s t : List UInt8) (ho : OwnS S w0 w L) (k : ∀ b w', OwnS S w0 w' (.cells b [.string ⟨s.toArray⟩, .string ⟨t.toArray⟩] 9 :: L) → K (.slice (some ⟨b, 0, none⟩) 2 2) w') : DoX Tryz.prog (mBuildS 22 2 #[(0, .string ⟨s.toArray⟩), (1, .string ⟨t.toArray⟩)]) w PK K :=
  o_new (fun b => .slice (some ⟨b, 0, none⟩) 2 2) [.string ⟨s.toArray⟩, .string ⟨t.toArray⟩] 9 (fun _ => by kernel_rfl) ho k
end
theorem lbs_snoc (l : List Lx) (x : Lx) : lbsC (l ++ [x]) = lbsC l ++ lbC x := by simp [lbsC]
theorem lb_nil (M : Mem) : SlA M.A M.w nilS 4 ([] : List Lx).length (lbsC []) := SlA.nil _ _ _ _
theorem len_wt {o : Ob} : o.s.length ≤ o.wt := by rw [o.wt_eq]; omega
theorem oneX_fit {d : Dc} (hd : Dk.Ok d) (a t : Ob) (hw : t.wt ≤ 1000000000) : (Lb.oneX a (Dk.follow d t)).sty.length ≤ 1000000000 ∧ (Lb.oneX a (Dk.follow d t)).pre.length ≤ 1000000000 := by
  have hf := Dk.follow_wt hd hw
  have h1 : (Lb.g (Dk.follow d t) Lb.kS).wt ≤ (Dk.follow d t).wt := Vl.get_wt
  have h2 : (Lb.g (Dk.follow d t) Lb.kP).wt ≤ (Dk.follow d t).wt := Vl.get_wt
  have h3 : (Lb.g (Dk.follow d t) Lb.kS).s.length ≤ (Lb.g (Dk.follow d t) Lb.kS).wt := len_wt
  have h4 : (Lb.g (Dk.follow d t) Lb.kP).s.length ≤ (Lb.g (Dk.follow d t) Lb.kP).wt := len_wt
  exact ⟨by show (Lb.g (Dk.follow d t) Lb.kS).s.length ≤ _; omega, by show (Lb.g (Dk.follow d t) Lb.kP).s.length ≤ _; omega⟩
theorem kid_p {A : Nat → Prop} {wb : World} {o : Ob} {vk vc : Value} {cs : List Value} (h : ObAt A wb o vk vc cs) {i : Nat} (hi : i < o.kids.length) :
    ∃ v p, OV A wb v o.kids[i] ∧ (∀ W, (mIA 23 vc (.int .i64 (i : Int))).run Tryz.prog W = .ok (.value (.pointer (some p))) W) ∧ ∀ W, Kept A wb W → (mLoad 25 (.pointer (some p))).run Tryz.prog W = .ok (.value v) W := by
  obtain ⟨v, p, hv, hr⟩ := kid_at h hi
  obtain ⟨b, off, cap, rfl, _⟩ := sl_open h.kids.1 (by omega)
  have hia : ∀ W : World, (mIA 23 (.slice (some ⟨b, off, none⟩) o.kids.length cap) (.int .i64 (i : Int))).run Tryz.prog W = .ok (.value (.pointer (some ⟨b, off + i * 6, none⟩))) W := fun W => by
    have := run_ia (P := Tryz.prog) (T := 23) (b := b) (off := off) (cap := cap) (n := o.kids.length) (k := .i64) (i := (i : Int)) (w := W) Tryz.underlying23 szOb (by omega) (by omega)
    rwa [Int.toNat_natCast] at this
  have hp : p = ⟨b, off + i * 6, none⟩ := by
    have h1 := (hr wb (fun _ _ => rfl)).1
    rw [hia wb] at h1
    injection h1 with h1 _
    injection h1 with h1
    injection h1 with h1
    injection h1 with h1
    exact h1.symm
  subst hp
  exact ⟨v, _, hv, hia, fun W hk => (hr W hk).2⟩
theorem lread_ret (d : Dc) (dv : Value) (M : Mem) (w : World) (hd : Dk.Ok d) (hM : M.has w) (hdv : DV M.A M.w dv d) :
    RetM Tryz.prog 22 #[dv] M w (fun r N => ∃ v, r = errV v (Lb.read d).2 ∧ SlA N.A N.w v 4 (Lb.read d).1.length (lbsC (Lb.read d).1)) := by
  obtain ⟨vi, dk, dc, dcs, rfl, hda⟩ := hdv
  refine retM_of hM fun K hK => S_label_Read_ok ?_
  unfold S_label_Read
  have no : ∀ {W : World} {N : Mem} {L : List Ent} {e : Int} (i : Nat), OwnS M.A w W L → L[i]? = some (.mem N) → M.le N → Lb.read d = ([], e) → K (.returned (.tuple #[.slice none 0 0, .int .i64 e])) W := fun i ho hi hle he =>
    hK _ _ _ _ i ho hi hle ⟨nilS, by rw [he]; rfl, by rw [he]; exact lb_nil _⟩
  refine o_dcb d hda.items.one hda.trailer.oneK hda.trailer.oneC (OwnS.memS hM) fun b1 w1 ho => ?_
  rw [dc_v ho 0 rfl]
  refine c_below ho (R := fun v => v = .int .i64 (Dk.check d)) (RetM.told (dcheck_ret d _ M w1 hd (ho.hasM 1 rfl) hda.dv)) ?_
  rintro _ w2 rfl ho
  simp only [n_err]
  by_cases hc : Dk.check d = 0
  case neg =>
    simp only [hc, ne_eq, not_false_eq_true, decide_true, i_t]
    exact no 1 ho rfl M.le_refl (by unfold Lb.read; rw [if_pos hc])
  simp only [hc, ne_eq, not_true, decide_false, i_f]
  rw [dc_v ho 0 rfl, fa_d1, dc_tr ho 0 rfl]
  refine o_strb2 Dk.rootK Lb.plK ho fun b2 w3 ho => ?_
  obtain ⟨N, hle, hrow, ho⟩ := OwnS.freezeU (L := [dcE b1 d vi dk dc, .mem M]) (ho.toU 1 2 2 (by decide) (by omega) (by omega)) 1 rfl
  have ho : OwnS M.A w w3 [dcE b1 d vi dk dc, .mem N] := ho
  refine c_mem ho 1 rfl (dpath_ret d d.trailer [Dk.rootK, Lb.plK] _ _ _ N w3 hd hd.trailer (by decide) (ho.hasM 1 rfl) (hda.le hle).dv (hda.trailer.le hle) hrow) fun y N1 w4 hle1 hy ho => ?_
  rw [show Dk.path d (Dk.follow d d.trailer) [Dk.rootK, Lb.plK] = Lb.tree d from rfl] at hy
  have htw : (Lb.tree d).wt ≤ 1000000000 := Dk.path_wt hd _ (Dk.follow_wt hd hd.trailer)
  obtain ⟨yk, yc, ycs, rfl, hya⟩ := hy.open
  refine o_oba ho fun b5 w5 ho => ?_
  refine ob_put 0 hya.keys.one hya.kids.one ho rfl fun w6 ho => ?_
  rw [fa_o0, ob_k ho 0 rfl]
  simp only [rs]
  have hr1 : Lb.read d = if (Lb.tree d).k = 0 then ([], 0) else if (Lb.tree d).k ≠ 7 ∨ (Lb.nums d).k ≠ 6 ∨ (Lb.nums d).kids.length % 2 ≠ 0 then ([], 3) else Lb.told2 (Lb.pairs d (Lb.nums d).kids) := by
    unfold Lb.read; rw [if_neg (by simp [hc])]
  by_cases h0 : (Lb.tree d).k = 0
  · simp only [h0, decide_true, i_t]
    exact no 2 ho rfl (hle.trans hle1) (by rw [hr1, if_pos h0])
  simp only [h0, decide_false, i_f]
  rw [if_neg h0] at hr1
  rw [dc_v ho 1 rfl, ob_v ho 0 rfl]
  refine o_strb1 Lb.numsK ho fun b7 w7 ho => ?_
  obtain ⟨N2, hle2, hrow2, ho⟩ := OwnS.freezeU (L := [obE b5 (Lb.tree d) yk yc, dcE b1 d vi dk dc, .mem N1]) (ho.toU 1 1 1 (by decide) (by omega) (by omega)) 2 rfl
  have ho : OwnS M.A w w7 [obE b5 (Lb.tree d) yk yc, dcE b1 d vi dk dc, .mem N2] := ho
  have hle02 := (hle.trans hle1).trans hle2
  refine c_mem ho 2 rfl (dpath_ret d (Lb.tree d) [Lb.numsK] _ _ _ N2 w7 hd htw (by decide) (ho.hasM 2 rfl) (hda.le hle02).dv (hy.le hle2) hrow2) fun z N3 w8 hle3 hz ho => ?_
  have hnw : (Dk.path d (Dk.follow d (Lb.tree d)) [Lb.numsK]).wt ≤ 1000000000 := Dk.path_wt hd _ (Dk.follow_wt hd htw)
  generalize hgen : Dk.path d (Dk.follow d (Lb.tree d)) [Lb.numsK] = nn at *
  obtain ⟨zk, zc, zcs, rfl, hza⟩ := hz.open
  refine o_oba ho fun b6 w9 ho => ?_
  refine ob_put 0 hza.keys.one hza.kids.one ho rfl fun w10 ho => ?_
  have ho : OwnS M.A w w10 [obE b6 nn zk zc, obE b5 (Lb.tree d) yk yc, dcE b1 d vi dk dc, .mem N3] := ho
  have hle03 := hle02.trans hle3
  rw [fa_o0, ob_k ho 1 rfl]
  simp only [rs]
  by_cases h7 : (Lb.tree d).k = 7
  case neg =>
    simp only [h7, ne_eq, not_false_eq_true, decide_true, rs, g_un]
    exact no 3 ho rfl hle03 (by rw [hr1, if_pos (.inl h7)])
  have hnum : nn = Lb.nums d := by rw [← hgen]; exact Lb.path_one d (Lb.tree d) Lb.numsK (by rw [h7]; decide)
  subst hnum
  simp only [h7, ne_eq, not_true, decide_false, rs, fa_o0, ob_k ho 0 rfl]
  by_cases h6 : (Lb.nums d).k = 6
  case neg =>
    simp only [h6, ne_eq, not_false_eq_true, decide_true, rs, g_un]
    exact no 3 ho rfl hle03 (by rw [hr1, if_pos (.inr (.inl h6))])
  simp only [h6, ne_eq, not_true, decide_false, rs, fa_o5, ob_kids ho 0 rfl]
  rw [sl_len Tryz.underlying23 (hza.kids.now (ho.hasM 3 rfl))]
  have hlk := Ob.len_wts (Lb.nums d).kids
  have hww : Ob.wts (Lb.nums d).kids ≤ 1000000000 := by have := (Lb.nums d).wt_eq; omega
  rw [b_rem (by omega), Int.tmod_eq_emod_of_nonneg (by omega)]
  try simp only [rs]
  by_cases h2 : (Lb.nums d).kids.length % 2 = 0
  case neg =>
    have h2' : ¬ ((Lb.nums d).kids.length : Int) % 2 = 0 := by omega
    simp only [h2', ne_eq, not_false_eq_true, decide_true, rs]
    exact no 3 ho rfl hle03 (by rw [hr1, if_pos (.inr (.inr h2))])
  have h2' : ((Lb.nums d).kids.length : Int) % 2 = 0 := by omega
  simp only [h2', ne_eq, not_true, decide_false, rs]
  rw [if_neg (by simp [h7, h6, h2])] at hr1
  have hda3 := hda.le hle03
  have ho : OwnS M.A w w10 [.urow 90 4 nilS 0 [], obE b6 (Lb.nums d) zk zc, obE b5 (Lb.tree d) yk yc, dcE b1 d vi dk dc, .mem N3] := ho.nilU _ _
  refine loop (fun vs W => ∃ (i : Nat) (v : Value) (l : List Lx), vs = [v, .int .i64 i] ∧ i ≤ (Lb.nums d).kids.length ∧ i % 2 = 0 ∧ l.length ≤ i ∧ Lb.Fit l ∧ Lb.pairs d (Lb.nums d).kids = (Lb.pairs d ((Lb.nums d).kids.drop i)).map (l ++ ·) ∧
      OwnS M.A w W [.urow 90 4 v l.length (lbsC l), obE b6 (Lb.nums d) zk zc, obE b5 (Lb.tree d) yk yc, dcE b1 d vi dk dc, .mem N3]) (fun vs _ => (Lb.nums d).kids.length - n1 vs)
    ⟨0, nilS, [], rfl, by omega, rfl, by simp, ⟨by simp, by simp⟩, by simp, ho⟩ ?_
  clear ho
  rintro vs w11 ⟨i, v, l, rfl, hi, hi2, hli, hfit, hp, ho⟩ _
  simp only [S_label_Read_0, gd]
  rw [fa_o5, ob_kids ho 1 rfl, sl_len Tryz.underlying23 (hza.kids.now (ho.hasM 4 rfl))]
  simp only [rs]
  by_cases hlt : (i : Int) < ((Lb.nums d).kids.length : Int)
  · have hi' : i < (Lb.nums d).kids.length := by omega
    have hi1 : i + 1 < (Lb.nums d).kids.length := by omega
    simp only [hlt, decide_true, i_t]
    obtain ⟨x, p, hx, hpi, hrx⟩ := kid_p hza hi'
    obtain ⟨y2, q, hy2, hqi, hry⟩ := kid_p hza hi1
    have hxw := kid_wt hi'
    have hyw := kid_wt hi1
    have hb := Lb.pairs_step (d := d) hi1 _ rfl
    -- behind the region
    have cont : ∀ (W : World) (b9 : Nat), OwnS M.A w W [lbE b9 (Lb.oneX (Lb.nums d).kids[i] (Dk.follow d (Lb.nums d).kids[i + 1])), .urow 90 4 v l.length (lbsC l), obE b6 (Lb.nums d) zk zc, obE b5 (Lb.tree d) yk yc, dcE b1 d vi dk dc, .mem N3] →
        S_label_Read_1 v (.int .i64 (i : Int)) (.pointer (some ⟨b9, 0, none⟩)) (.bool (Lb.oneB (Lb.nums d).kids[i] (Dk.follow d (Lb.nums d).kids[i + 1]))) W
          (NextX (fun vs W => ∃ (i : Nat) (v : Value) (l : List Lx), vs = [v, .int .i64 i] ∧ i ≤ (Lb.nums d).kids.length ∧ i % 2 = 0 ∧ l.length ≤ i ∧ Lb.Fit l ∧ Lb.pairs d (Lb.nums d).kids = (Lb.pairs d ((Lb.nums d).kids.drop i)).map (l ++ ·) ∧
      OwnS M.A w W [.urow 90 4 v l.length (lbsC l), obE b6 (Lb.nums d) zk zc, obE b5 (Lb.tree d) yk yc, dcE b1 d vi dk dc, .mem N3]) (fun vs _ => (Lb.nums d).kids.length - n1 vs) [v, .int .i64 (i : Int)] w11) K := by
      intro W b9 ho
      unfold S_label_Read_1
      cases hB : Lb.oneB (Lb.nums d).kids[i] (Dk.follow d (Lb.nums d).kids[i + 1]) with
      | false =>
        simp only [rs, Bool.not_false]
        rw [hb, hB] at hp
        simp only [Bool.false_eq_true, if_false, Option.map_none] at hp
        exact no 5 ho rfl hle03 (by rw [hr1, hp]; rfl)
      | true =>
        simp only [rs, Bool.not_true]
        rw [hb, hB] at hp
        simp only [if_true] at hp
        rw [lb_v ho 0 rfl]
        refine o_lbs1 _ ho fun b70 w20 ho => ?_
        refine o_apL 2 ho rfl (sl_one1 (ho.at_ 0 rfl) (by decide) rfl) (lbC_one _) (by omega) fun v' w21 ho => ?_
        have ho := ho.tail.tail
        rw [wrap64_id (by omega) (by omega)]
        refine nextX ⟨i + 2, v', l ++ [Lb.oneX (Lb.nums d).kids[i] (Dk.follow d (Lb.nums d).kids[i + 1])], rfl, by omega, by omega, by simp; omega, ?_, ?_, ?_⟩ (by simp [n1, intOf]; omega)
        · refine ⟨by simp; omega, fun x hx => ?_⟩
          rcases List.mem_append.1 hx with hx | hx
          · exact hfit.2 x hx
          · rw [List.mem_singleton] at hx
            subst hx
            exact oneX_fit hd _ _ (by omega)
        · rw [hp, Option.map_map]
          congr 1
          funext r
          simp
        · rw [lbs_snoc, List.length_append]
          exact ho
    have ho := ho.drew
    have hone := fun (W : World) (h : N3.has W) => RetM.told (lone_ret d (Lb.nums d).kids[i] (Lb.nums d).kids[i + 1] (dcV d vi dk dc) x y2 N3 W hd (by omega) h hda3.dv hx hy2)
    refine ⟨fun W => (dcE b1 d vi dk dc).is W ∧ (obE b6 (Lb.nums d) zk zc).is W ∧ N3.has W, ⟨ho.at_ 3 rfl, ho.at_ 1 rfl, ho.hasM 4 rfl⟩, ?_⟩
    refine hd_do (dcV d vi dk dc) (fun W h => run_load_at (AtV.agg aggDc (cs := dcC d vi dk dc) rfl fun j u hj => by rw [Nat.zero_add]; exact cells_cell (T := 44) h.1 hj)) ?_
    refine hd_pure _ (fun _ => run_fa fo_o5) ?_
    refine hd_do zc (fun W h => run_load_cell nSlOb (cells_cell (T := 25) h.2.1 (i := 5) rfl)) ?_
    refine hd_pure _ hpi ?_
    refine hd_do x (fun W h => hrx W h.2.2) ?_
    refine hd_pure _ (fun _ => run_fa fo_o5) ?_
    refine hd_do zc (fun W h => run_load_cell nSlOb (cells_cell (T := 25) h.2.1 (i := 5) rfl)) ?_
    refine hd_pure (.int .i64 ((i + 1 : Nat) : Int)) (fun _ => by rw [r_add, wrap64_id (by omega) (by omega)]; rfl) ?_
    refine hd_pure _ hqi ?_
    refine hd_do y2 (fun W h => hry W h.2.2) ?_
    refine ⟨?_, ?_⟩
    · refine c_below ho (R := fun r => r = getV (lbV (Lb.oneX (Lb.nums d).kids[i] (Dk.follow d (Lb.nums d).kids[i + 1]))) (Lb.oneB (Lb.nums d).kids[i] (Dk.follow d (Lb.nums d).kids[i + 1]))) (hone _ (ho.hasM 4 rfl)) ?_
      rintro _ w12 rfl ho
      refine ⟨⟨ho.at_ 3 rfl, ho.at_ 1 rfl, ho.hasM 4 rfl⟩, ?_⟩
      refine hd_pure (lbV (Lb.oneX (Lb.nums d).kids[i] (Dk.follow d (Lb.nums d).kids[i + 1]))) (fun _ => mv_run (by simp [Instr.extract, getV])) (hd_pure (.bool (Lb.oneB (Lb.nums d).kids[i] (Dk.follow d (Lb.nums d).kids[i + 1]))) (fun _ => mv_run (by simp [Instr.extract, getV])) ?_)
      refine o_lba ho fun b9 w13 ho => ⟨⟨ho.at_ 4 rfl, ho.at_ 2 rfl, ho.hasM 5 rfl⟩, ?_⟩
      refine lb_put 0 ho rfl fun w14 ho => ?_
      exact cont w14 b9 ho
    · refine o_lba ho fun b9 w13 ho => ⟨⟨ho.at_ 4 rfl, ho.at_ 2 rfl, ho.hasM 5 rfl⟩, ?_⟩
      refine c_below ho (R := fun r => r = getV (lbV (Lb.oneX (Lb.nums d).kids[i] (Dk.follow d (Lb.nums d).kids[i + 1]))) (Lb.oneB (Lb.nums d).kids[i] (Dk.follow d (Lb.nums d).kids[i + 1]))) (hone _ (ho.hasM 5 rfl)) ?_
      rintro _ w12 rfl ho
      refine ⟨⟨ho.at_ 4 rfl, ho.at_ 2 rfl, ho.hasM 5 rfl⟩, ?_⟩
      refine hd_pure (lbV (Lb.oneX (Lb.nums d).kids[i] (Dk.follow d (Lb.nums d).kids[i + 1]))) (fun _ => mv_run (by simp [Instr.extract, getV])) (hd_pure (.bool (Lb.oneB (Lb.nums d).kids[i] (Dk.follow d (Lb.nums d).kids[i + 1]))) (fun _ => mv_run (by simp [Instr.extract, getV])) ?_)
      refine lb_put 0 ho rfl fun w14 ho => ?_
      exact cont w14 b9 ho
  · simp only [hlt, decide_false, i_f]
    rw [List.drop_eq_nil_of_le (by omega), Lb.pairs] at hp
    simp only [Option.map_some, List.append_nil] at hp
    rw [hp] at hr1
    have hv1 := ho.at_ 0 rfl
    obtain ⟨N4, hle4, hrow4, ho⟩ := OwnS.freezeU (L := [obE b6 (Lb.nums d) zk zc, obE b5 (Lb.tree d) yk yc, dcE b1 d vi dk dc, .mem N3]) ho 3 rfl
    have ho : OwnS M.A w w11 [obE b6 (Lb.nums d) zk zc, obE b5 (Lb.tree d) yk yc, dcE b1 d vi dk dc, .mem N4] := ho
    refine c_below ho (R := fun r => r = .int .i64 (Lb.check l)) (lcheck_ret l v N4 w11 hfit (ho.hasM 3 rfl) hrow4) ?_
    rintro _ w12 rfl ho
    simp only [n_err]
    rw [Lb.told2] at hr1
    by_cases hcl : Lb.check l = 0
    · simp only [hcl, ne_eq, not_true, decide_false, i_f]
      rw [if_neg (by simp [hcl])] at hr1
      exact hK _ _ N4 _ 3 ho rfl (hle03.trans hle4) ⟨v, by rw [hr1]; rfl, by rw [hr1]; exact hrow4⟩
    · simp only [hcl, ne_eq, not_false_eq_true, decide_true, i_t]
      rw [if_pos hcl] at hr1
      exact no 3 ho rfl (hle03.trans hle4) hr1
end Go.Proofs.YtiklhhdohckfiaaGreatDoor
namespace Go.Proofs.YtiklhhdohckfiaaGreatDoor
set_option linter.unusedVariables false
set_option linter.unusedSimpArgs false
set_option linter.defProp false
set_option maxRecDepth 20000
open Eng Go.RowKit

theorem rcheckL_ret' (l : List Lx) (v : Value) (M : Mem) (w : World) (hf : Lb.Fit l) (hM : M.has w) (hs : SlA M.A M.w v 4 l.length (lbsC l)) :
    Ret Tryz.prog 30 #[v] w (fun r w' => r = .int .i64 (Lb.check l) ∧ Below w.heap.size w w') :=
  Ret.mono (rcheckL_ret l v M w hf hM hs) fun v w' ⟨h, e⟩ => ⟨h, by subst e; exact Below.refl _ _⟩
theorem rreadL_ret (d : Dc) (dv : Value) (M : Mem) (w : World) (hd : Dk.Ok d) (hM : M.has w) (hdv : DV M.A M.w dv d) :
    RetM Tryz.prog 23 #[dv] M w (fun r N => ∃ v, r = errV v (Lb.read d).2 ∧ SlA N.A N.w v 4 (Lb.read d).1.length (lbsC (Lb.read d).1)) := by
  obtain ⟨vi, dk, dc, dcs, rfl, hda⟩ := hdv
  refine retM_of hM fun K hK => S_foliantref38_Read_ok ?_
  unfold S_foliantref38_Read
  have no : ∀ {W : World} {N : Mem} {L : List Ent} {e : Int} (i : Nat), OwnS M.A w W L → L[i]? = some (.mem N) → M.le N → Lb.read d = ([], e) → K (.returned (.tuple #[.slice none 0 0, .int .i64 e])) W := fun i ho hi hle he =>
    hK _ _ _ _ i ho hi hle ⟨nilS, by rw [he]; rfl, by rw [he]; exact lb_nil _⟩
  refine o_dcb d hda.items.one hda.trailer.oneK hda.trailer.oneC (OwnS.memS hM) fun b1 w1 ho => ?_
  rw [dc_v ho 0 rfl]
  refine c_below ho (R := fun v => v = .int .i64 (Dk.check d)) (RetM.told (rcheck_ret d _ M w1 hd (ho.hasM 1 rfl) hda.dv)) ?_
  rintro _ w2 rfl ho
  simp only [n_err]
  by_cases hc : Dk.check d = 0
  case neg =>
    simp only [hc, ne_eq, not_false_eq_true, decide_true, i_t]
    exact no 1 ho rfl M.le_refl (by unfold Lb.read; rw [if_pos hc])
  simp only [hc, ne_eq, not_true, decide_false, i_f]
  rw [dc_v ho 0 rfl, fa_d1, dc_tr ho 0 rfl]
  refine o_strb2 Dk.rootK Lb.plK ho fun b2 w3 ho => ?_
  obtain ⟨N, hle, hrow, ho⟩ := OwnS.freezeU (L := [dcE b1 d vi dk dc, .mem M]) (ho.toU 1 2 2 (by decide) (by omega) (by omega)) 1 rfl
  have ho : OwnS M.A w w3 [dcE b1 d vi dk dc, .mem N] := ho
  refine c_mem ho 1 rfl (rpath_ret d d.trailer [Dk.rootK, Lb.plK] _ _ _ N w3 hd hd.trailer (by decide) (ho.hasM 1 rfl) (hda.le hle).dv (hda.trailer.le hle) hrow) fun y N1 w4 hle1 hy ho => ?_
  rw [show Dk.path d (Dk.follow d d.trailer) [Dk.rootK, Lb.plK] = Lb.tree d from rfl] at hy
  have htw : (Lb.tree d).wt ≤ 1000000000 := Dk.path_wt hd _ (Dk.follow_wt hd hd.trailer)
  obtain ⟨yk, yc, ycs, rfl, hya⟩ := hy.open
  refine o_oba ho fun b5 w5 ho => ?_
  refine ob_put 0 hya.keys.one hya.kids.one ho rfl fun w6 ho => ?_
  rw [fa_o0, ob_k ho 0 rfl]
  simp only [rs]
  have hr1 : Lb.read d = if (Lb.tree d).k = 0 then ([], 0) else if (Lb.tree d).k ≠ 7 ∨ (Lb.nums d).k ≠ 6 ∨ (Lb.nums d).kids.length % 2 ≠ 0 then ([], 3) else Lb.told2 (Lb.pairs d (Lb.nums d).kids) := by
    unfold Lb.read; rw [if_neg (by simp [hc])]
  by_cases h0 : (Lb.tree d).k = 0
  · simp only [h0, decide_true, i_t]
    exact no 2 ho rfl (hle.trans hle1) (by rw [hr1, if_pos h0])
  simp only [h0, decide_false, i_f]
  rw [if_neg h0] at hr1
  rw [ob_v ho 0 rfl]
  refine c_mem ho 2 rfl (rget_ret (Lb.tree d) _ Lb.numsK N1 w6 (by omega) (ho.hasM 2 rfl) hy) ?_
  rintro _ N2 w7 hle2 ⟨u, rfl, hu⟩ ho
  obtain ⟨uk, uc, ucs, rfl, hua⟩ := hu.open
  rw [show (Vl.get (Lb.tree d) Lb.numsK).getD Vl.ob0 = Lb.g (Lb.tree d) Lb.numsK from rfl] at hua hu ⊢
  simp only [getV, ex]
  refine o_oba ho fun b8 w8 ho => ?_
  refine ob_put 0 hua.keys.one hua.kids.one ho rfl fun w9 ho => ?_
  have hle02 := (hle.trans hle1).trans hle2
  have hgw : (Lb.g (Lb.tree d) Lb.numsK).wt ≤ 1000000000 := by
    have : (Lb.g (Lb.tree d) Lb.numsK).wt ≤ (Lb.tree d).wt := Vl.get_wt
    omega
  rw [dc_v ho 2 rfl, ob_v ho 0 rfl]
  refine c_mem ho 3 rfl (rfollow_ret d (Lb.g (Lb.tree d) Lb.numsK) _ _ N2 w9 hd (ho.hasM 3 rfl) (hda.le hle02).dv hu) fun z N3 w10 hle3 hz ho => ?_
  have hnw := Dk.follow_wt hd hgw
  rw [show Dk.follow d (Lb.g (Lb.tree d) Lb.numsK) = Lb.nums d from rfl] at hz hnw
  obtain ⟨zk, zc, zcs, rfl, hza⟩ := hz.open
  refine o_oba ho fun b6 w11 ho => ?_
  refine ob_put 0 hza.keys.one hza.kids.one ho rfl fun w10 ho => ?_
  have ho : OwnS M.A w w10 [obE b6 (Lb.nums d) zk zc, obE b8 (Lb.g (Lb.tree d) Lb.numsK) uk uc, obE b5 (Lb.tree d) yk yc, dcE b1 d vi dk dc, .mem N3] := ho
  have ho : OwnS M.A w w10 [obE b6 (Lb.nums d) zk zc, obE b5 (Lb.tree d) yk yc, dcE b1 d vi dk dc, .mem N3] := (ho.perm (L' := [obE b8 (Lb.g (Lb.tree d) Lb.numsK) uk uc, obE b6 (Lb.nums d) zk zc, obE b5 (Lb.tree d) yk yc, dcE b1 d vi dk dc, .mem N3]) (List.Perm.swap _ _ _)).tail
  have hle03 := hle02.trans hle3
  rw [fa_o0, ob_k ho 1 rfl]
  simp only [rs]
  by_cases h7 : (Lb.tree d).k = 7
  case neg =>
    simp only [h7, ne_eq, not_false_eq_true, decide_true, rs, g_un]
    exact no 3 ho rfl hle03 (by rw [hr1, if_pos (.inl h7)])
  simp only [h7, ne_eq, not_true, decide_false, rs, fa_o0, ob_k ho 0 rfl]
  by_cases h6 : (Lb.nums d).k = 6
  case neg =>
    simp only [h6, ne_eq, not_false_eq_true, decide_true, rs, g_un]
    exact no 3 ho rfl hle03 (by rw [hr1, if_pos (.inr (.inl h6))])
  simp only [h6, ne_eq, not_true, decide_false, rs, fa_o5, ob_kids ho 0 rfl]
  rw [sl_len Tryz.underlying23 (hza.kids.now (ho.hasM 3 rfl))]
  have hlk := Ob.len_wts (Lb.nums d).kids
  have hww : Ob.wts (Lb.nums d).kids ≤ 1000000000 := by have := (Lb.nums d).wt_eq; omega
  rw [b_rem (by omega), Int.tmod_eq_emod_of_nonneg (by omega)]
  try simp only [rs]
  by_cases h2 : (Lb.nums d).kids.length % 2 = 0
  case neg =>
    have h2' : ¬ ((Lb.nums d).kids.length : Int) % 2 = 0 := by omega
    simp only [h2', ne_eq, not_false_eq_true, decide_true, rs]
    exact no 3 ho rfl hle03 (by rw [hr1, if_pos (.inr (.inr h2))])
  have h2' : ((Lb.nums d).kids.length : Int) % 2 = 0 := by omega
  simp only [h2', ne_eq, not_true, decide_false, rs]
  rw [if_neg (by simp [h7, h6, h2])] at hr1
  have hda3 := hda.le hle03
  have ho : OwnS M.A w w10 [.urow 90 4 nilS 0 [], obE b6 (Lb.nums d) zk zc, obE b5 (Lb.tree d) yk yc, dcE b1 d vi dk dc, .mem N3] := ho.nilU _ _
  refine loop (fun vs W => ∃ (i : Nat) (v : Value) (l : List Lx), vs = [v, .int .i64 i] ∧ i ≤ (Lb.nums d).kids.length ∧ i % 2 = 0 ∧ l.length ≤ i ∧ Lb.Fit l ∧ Lb.pairs d (Lb.nums d).kids = (Lb.pairs d ((Lb.nums d).kids.drop i)).map (l ++ ·) ∧
      OwnS M.A w W [.urow 90 4 v l.length (lbsC l), obE b6 (Lb.nums d) zk zc, obE b5 (Lb.tree d) yk yc, dcE b1 d vi dk dc, .mem N3]) (fun vs _ => (Lb.nums d).kids.length - n1 vs)
    ⟨0, nilS, [], rfl, by omega, rfl, by simp, ⟨by simp, by simp⟩, by simp, ho⟩ ?_
  clear ho
  rintro vs w11 ⟨i, v, l, rfl, hi, hi2, hli, hfit, hp, ho⟩ _
  simp only [S_foliantref38_Read_0, gd, rs]
  rw [wrap64_id (by omega) (by omega), fa_o5, ob_kids ho 1 rfl, sl_len Tryz.underlying23 (hza.kids.now (ho.hasM 4 rfl))]
  simp only [rs]
  by_cases hlt : (i : Int) + 1 < ((Lb.nums d).kids.length : Int)
  · have hi' : i < (Lb.nums d).kids.length := by omega
    have hi1 : i + 1 < (Lb.nums d).kids.length := by omega
    simp only [hlt, decide_true, i_t]
    obtain ⟨x, p, hx, hpi, hrx⟩ := kid_p hza hi'
    obtain ⟨y2, q, hy2, hqi, hry⟩ := kid_p hza hi1
    have hxw := kid_wt hi'
    have hyw := kid_wt hi1
    have hb := Lb.pairs_step (d := d) hi1 _ rfl
    -- behind the region
    have cont : ∀ (W : World) (b9 : Nat), OwnS M.A w W [lbE b9 (if Lb.oneB (Lb.nums d).kids[i] (Dk.follow d (Lb.nums d).kids[i + 1]) then Lb.oneX (Lb.nums d).kids[i] (Dk.follow d (Lb.nums d).kids[i + 1]) else Lb.lx0), .urow 90 4 v l.length (lbsC l), obE b6 (Lb.nums d) zk zc, obE b5 (Lb.tree d) yk yc, dcE b1 d vi dk dc, .mem N3] →
        S_foliantref38_Read_1 v (.int .i64 (i : Int)) (.pointer (some ⟨b9, 0, none⟩)) (.bool (Lb.oneB (Lb.nums d).kids[i] (Dk.follow d (Lb.nums d).kids[i + 1]))) W
          (NextX (fun vs W => ∃ (i : Nat) (v : Value) (l : List Lx), vs = [v, .int .i64 i] ∧ i ≤ (Lb.nums d).kids.length ∧ i % 2 = 0 ∧ l.length ≤ i ∧ Lb.Fit l ∧ Lb.pairs d (Lb.nums d).kids = (Lb.pairs d ((Lb.nums d).kids.drop i)).map (l ++ ·) ∧
      OwnS M.A w W [.urow 90 4 v l.length (lbsC l), obE b6 (Lb.nums d) zk zc, obE b5 (Lb.tree d) yk yc, dcE b1 d vi dk dc, .mem N3]) (fun vs _ => (Lb.nums d).kids.length - n1 vs) [v, .int .i64 (i : Int)] w11) K := by
      intro W b9 ho
      unfold S_foliantref38_Read_1
      cases hB : Lb.oneB (Lb.nums d).kids[i] (Dk.follow d (Lb.nums d).kids[i + 1]) with
      | false =>
        simp only [rs, Bool.not_false]
        rw [hb, hB] at hp
        simp only [Bool.false_eq_true, if_false, Option.map_none] at hp
        exact no 5 ho rfl hle03 (by rw [hr1, hp]; rfl)
      | true =>
        simp only [rs, Bool.not_true]
        rw [hb, hB] at hp
        simp only [if_true] at hp
        rw [hB, if_pos rfl] at ho
        rw [lb_v ho 0 rfl]
        refine o_lbs1 _ ho fun b70 w20 ho => ?_
        refine o_apL 2 ho rfl (sl_one1 (ho.at_ 0 rfl) (by decide) rfl) (lbC_one _) (by omega) fun v' w21 ho => ?_
        have ho := ho.tail.tail
        rw [wrap64_id (by omega) (by omega)]
        refine nextX ⟨i + 2, v', l ++ [Lb.oneX (Lb.nums d).kids[i] (Dk.follow d (Lb.nums d).kids[i + 1])], rfl, by omega, by omega, by simp; omega, ?_, ?_, ?_⟩ (by simp [n1, intOf]; omega)
        · refine ⟨by simp; omega, fun x hx => ?_⟩
          rcases List.mem_append.1 hx with hx | hx
          · exact hfit.2 x hx
          · rw [List.mem_singleton] at hx
            subst hx
            exact oneX_fit hd _ _ (by omega)
        · rw [hp, Option.map_map]
          congr 1
          funext r
          simp
        · rw [lbs_snoc, List.length_append]
          exact ho
    have ho := ho.drew
    have hone := fun (W : World) (h : N3.has W) => RetM.told (rone_ret d (Lb.nums d).kids[i] (Lb.nums d).kids[i + 1] (dcV d vi dk dc) x y2 N3 W hd (by omega) h hda3.dv hx hy2)
    refine ⟨fun W => (dcE b1 d vi dk dc).is W ∧ (obE b6 (Lb.nums d) zk zc).is W ∧ N3.has W, ⟨ho.at_ 3 rfl, ho.at_ 1 rfl, ho.hasM 4 rfl⟩, ?_⟩
    refine hd_do (dcV d vi dk dc) (fun W h => run_load_at (AtV.agg aggDc (cs := dcC d vi dk dc) rfl fun j u hj => by rw [Nat.zero_add]; exact cells_cell (T := 44) h.1 hj)) ?_
    refine hd_pure _ (fun _ => run_fa fo_o5) ?_
    refine hd_do zc (fun W h => run_load_cell nSlOb (cells_cell (T := 25) h.2.1 (i := 5) rfl)) ?_
    refine hd_pure _ hpi ?_
    refine hd_do x (fun W h => hrx W h.2.2) ?_
    refine hd_pure _ (fun _ => run_fa fo_o5) ?_
    refine hd_do zc (fun W h => run_load_cell nSlOb (cells_cell (T := 25) h.2.1 (i := 5) rfl)) ?_
    refine hd_pure (.int .i64 ((i + 1 : Nat) : Int)) (fun _ => by rw [r_add, wrap64_id (by omega) (by omega)]; rfl) ?_
    refine hd_pure _ hqi ?_
    refine hd_do y2 (fun W h => hry W h.2.2) ?_
    refine ⟨?_, ?_⟩
    · refine c_below ho (R := fun r => r = getV (lbV (if Lb.oneB (Lb.nums d).kids[i] (Dk.follow d (Lb.nums d).kids[i + 1]) then Lb.oneX (Lb.nums d).kids[i] (Dk.follow d (Lb.nums d).kids[i + 1]) else Lb.lx0)) (Lb.oneB (Lb.nums d).kids[i] (Dk.follow d (Lb.nums d).kids[i + 1]))) (hone _ (ho.hasM 4 rfl)) ?_
      rintro _ w12 rfl ho
      refine ⟨⟨ho.at_ 3 rfl, ho.at_ 1 rfl, ho.hasM 4 rfl⟩, ?_⟩
      refine hd_pure (lbV (if Lb.oneB (Lb.nums d).kids[i] (Dk.follow d (Lb.nums d).kids[i + 1]) then Lb.oneX (Lb.nums d).kids[i] (Dk.follow d (Lb.nums d).kids[i + 1]) else Lb.lx0)) (fun _ => mv_run (by simp [Instr.extract, getV])) (hd_pure (.bool (Lb.oneB (Lb.nums d).kids[i] (Dk.follow d (Lb.nums d).kids[i + 1]))) (fun _ => mv_run (by simp [Instr.extract, getV])) ?_)
      refine o_lba ho fun b9 w13 ho => ⟨⟨ho.at_ 4 rfl, ho.at_ 2 rfl, ho.hasM 5 rfl⟩, ?_⟩
      refine lb_put 0 ho rfl fun w14 ho => ?_
      exact cont w14 b9 ho
    · refine o_lba ho fun b9 w13 ho => ⟨⟨ho.at_ 4 rfl, ho.at_ 2 rfl, ho.hasM 5 rfl⟩, ?_⟩
      refine c_below ho (R := fun r => r = getV (lbV (if Lb.oneB (Lb.nums d).kids[i] (Dk.follow d (Lb.nums d).kids[i + 1]) then Lb.oneX (Lb.nums d).kids[i] (Dk.follow d (Lb.nums d).kids[i + 1]) else Lb.lx0)) (Lb.oneB (Lb.nums d).kids[i] (Dk.follow d (Lb.nums d).kids[i + 1]))) (hone _ (ho.hasM 5 rfl)) ?_
      rintro _ w12 rfl ho
      refine ⟨⟨ho.at_ 4 rfl, ho.at_ 2 rfl, ho.hasM 5 rfl⟩, ?_⟩
      refine hd_pure (lbV (if Lb.oneB (Lb.nums d).kids[i] (Dk.follow d (Lb.nums d).kids[i + 1]) then Lb.oneX (Lb.nums d).kids[i] (Dk.follow d (Lb.nums d).kids[i + 1]) else Lb.lx0)) (fun _ => mv_run (by simp [Instr.extract, getV])) (hd_pure (.bool (Lb.oneB (Lb.nums d).kids[i] (Dk.follow d (Lb.nums d).kids[i + 1]))) (fun _ => mv_run (by simp [Instr.extract, getV])) ?_)
      refine lb_put 0 ho rfl fun w14 ho => ?_
      exact cont w14 b9 ho
  · simp only [hlt, decide_false, i_f]
    rw [List.drop_eq_nil_of_le (by omega), Lb.pairs] at hp
    simp only [Option.map_some, List.append_nil] at hp
    rw [hp] at hr1
    have hv1 := ho.at_ 0 rfl
    obtain ⟨N4, hle4, hrow4, ho⟩ := OwnS.freezeU (L := [obE b6 (Lb.nums d) zk zc, obE b5 (Lb.tree d) yk yc, dcE b1 d vi dk dc, .mem N3]) ho 3 rfl
    have ho : OwnS M.A w w11 [obE b6 (Lb.nums d) zk zc, obE b5 (Lb.tree d) yk yc, dcE b1 d vi dk dc, .mem N4] := ho
    refine c_below ho (R := fun r => r = .int .i64 (Lb.check l)) (rcheckL_ret' l v N4 w11 hfit (ho.hasM 3 rfl) hrow4) ?_
    rintro _ w12 rfl ho
    simp only [n_err]
    rw [Lb.told2] at hr1
    by_cases hcl : Lb.check l = 0
    · simp only [hcl, ne_eq, not_true, decide_false, i_f]
      rw [if_neg (by simp [hcl])] at hr1
      exact hK _ _ N4 _ 3 ho rfl (hle03.trans hle4) ⟨v, by rw [hr1]; rfl, by rw [hr1]; exact hrow4⟩
    · simp only [hcl, ne_eq, not_false_eq_true, decide_true, i_t]
      rw [if_pos hcl] at hr1
      exact no 3 ho rfl (hle03.trans hle4) hr1
end Go.Proofs.YtiklhhdohckfiaaGreatDoor
namespace Go.Proofs.YtiklhhdohckfiaaGreatDoor
set_option linter.unusedVariables false
set_option linter.unusedSimpArgs false
set_option linter.defProp false
open Go
namespace Lb
def nameO (s : List UInt8) : Ob := .mk 5 0 0 s [] []
def strO (s : List UInt8) : Ob := .mk 4 0 0 s [] []
def intO (n : Int) : Ob := .mk 2 n 0 [] [] []
def dct (p s t : Option Ob) : Ob := .mk 7 0 0 [] ((p.map fun _ => kP).toList ++ (s.map fun _ => kS).toList ++ (t.map fun _ => kSt).toList) (p.toList ++ s.toList ++ t.toList)
def oP (x : Lx) : Option Ob := if x.pre = [] then none else some (strO x.pre)
def oS (x : Lx) : Option Ob := if x.sty = [] then none else some (nameO x.sty)
def oT (x : Lx) : Option Ob := if x.first = 1 then none else some (intO x.first)
def obj (x : Lx) : Ob := dct (oP x) (oS x) (oT x)
structure Good (x : Lx) : Prop where
  sty : okSty x.sty = true
  pre : x.pre.length ≤ 255
  f1 : 1 ≤ x.first
  f2 : x.first ≤ 2147483647
def Sub (d : Nat) (v : Ob) : Prop := Vl.check d v = 0 ∧ v.k ≠ 0
theorem dct_check {p s t : Option Ob} {d : Nat} (hd : d ≤ 20) (hp : ∀ v, p = some v → Sub (d + 1) v) (hs : ∀ v, s = some v → Sub (d + 1) v) (ht : ∀ v, t = some v → Sub (d + 1) v) : Vl.check d (dct p s t) = 0 := by
  have go : ∀ (ks : List (List UInt8)) (cs : List Ob), Vl.rising (.mk 7 0 0 [] ks cs) = true → cs.length ≤ 3 → (∀ v ∈ cs, Vl.check (d + 1) v = 0) → Vl.check d (.mk 7 0 0 [] ks cs) = 0 := by
    intro ks cs hr hl hc
    have hw : Vl.why d (.mk 7 0 0 [] ks cs) = 0 := by
      unfold Vl.why
      rw [if_neg (by omega), if_neg ?_, if_neg ?_, if_neg ?_, if_neg ?_, if_neg ?_]
      · simp [Vl.form, hr, Ob.k]
      · show ¬ 8191 < cs.length
        omega
      · show ¬ Vl.long 7 < 0
        omega
      · simp [Vl.fits, Ob.k]
      · simp [Vl.usesOk, Vl.used, Ob.k, Ob.n, Ob.g, Ob.s]
    rw [Vl.check_eq, if_neg (by simp [hw])]
    show Vl.checks (d + 1) cs = 0
    clear hw hr hl
    induction cs with
    | nil => rw [Vl.checks]
    | cons a l ih =>
      rw [Vl.checks, if_neg (by simp [hc a]), ih fun v hv => hc v (List.mem_cons_of_mem _ hv)]
  unfold dct
  cases p <;> cases s <;> cases t
  all_goals
    refine go _ _ ?_ (by simp) ?_
  all_goals
    first
    | (intro v hv
       simp only [Option.toList, List.nil_append, List.append_nil, List.cons_append, List.not_mem_nil] at hv
       done)
    | (intro v hv
       simp only [Option.toList, List.nil_append, List.append_nil, List.cons_append, List.mem_cons, List.not_mem_nil, or_false] at hv
       first
       | (rcases hv with rfl | rfl | rfl <;> first | exact (hp _ rfl).1 | exact (hs _ rfl).1 | exact (ht _ rfl).1)
       | (rcases hv with rfl | rfl <;> first | exact (hp _ rfl).1 | exact (hs _ rfl).1 | exact (ht _ rfl).1)
       | (subst hv; first | exact (hp _ rfl).1 | exact (hs _ rfl).1 | exact (ht _ rfl).1))
    | skip
  all_goals
    simp only [Vl.rising, Ob.keys, Ob.kids, Option.map_none, Option.map_some, Option.toList, List.nil_append, List.append_nil, List.cons_append, List.length_cons, List.length_nil, Vl.keyAt, Bool.and_eq_true, decide_true, true_and, List.all_eq_true, List.mem_range]
    intro i hi
    have hi3 : i = 0 ∨ i = 1 ∨ i = 2 := by omega
    rcases hi3 with rfl | rfl | rfl
    all_goals
      first
      | (exfalso; omega)
      | skip
  all_goals
    refine ⟨⟨⟨by decide, by decide⟩, by rfl⟩, ?_⟩
    simp only [List.getD_cons_zero, List.getD_cons_succ, decide_eq_true_eq]
    first | exact (hp _ rfl).2 | exact (hs _ rfl).2 | exact (ht _ rfl).2
theorem sub_str {s : List UInt8} {d : Nat} (hd : d ≤ 20) (h : s.length ≤ 32767) : Sub d (strO s) := by
  refine ⟨?_, by simp [strO, Ob.k]⟩
  have hw : Vl.why d (strO s) = 0 := by
    unfold Vl.why strO
    rw [if_neg (by omega), if_neg (by simp [Vl.usesOk, Vl.used, Ob.k, Ob.n, Ob.g, Ob.keys, Ob.kids]), if_neg (by simp [Vl.fits, Ob.k]), if_neg (by show ¬ 32767 < s.length; omega), if_neg (by show ¬ 8191 < 0; omega), if_neg (by simp [Vl.form, Ob.k])]
  rw [Vl.check_eq, if_neg (by simp [hw])]
  show Vl.checks (d + 1) [] = 0
  rw [Vl.checks]
theorem sub_int {n : Int} {d : Nat} (hd : d ≤ 20) (h1 : -2147483647 ≤ n) (h2 : n ≤ 2147483647) : Sub d (intO n) := by
  refine ⟨?_, by simp [intO, Ob.k]⟩
  have hw : Vl.why d (intO n) = 0 := by
    unfold Vl.why intO
    rw [if_neg (by omega), if_neg (by simp [Vl.usesOk, Vl.used, Ob.k, Ob.s, Ob.g, Ob.keys, Ob.kids]), if_neg (by simp [Vl.fits, Ob.k, Ob.n, h1, h2]), if_neg (by show ¬ 32767 < 0; omega), if_neg (by show ¬ 8191 < 0; omega), if_neg (by simp [Vl.form, Ob.k])]
  rw [Vl.check_eq, if_neg (by simp [hw])]
  show Vl.checks (d + 1) [] = 0
  rw [Vl.checks]
theorem sub_name {s : List UInt8} {d : Nat} (hd : d ≤ 20) (h : Vl.name s = true) : Sub d (nameO s) := by
  refine ⟨?_, by simp [nameO, Ob.k]⟩
  have hl : s.length ≤ 127 := by
    unfold Vl.name at h
    simp only [Bool.and_eq_true, decide_eq_true_eq] at h
    exact h.1
  have hw : Vl.why d (nameO s) = 0 := by
    unfold Vl.why nameO
    rw [if_neg (by omega), if_neg (by simp [Vl.usesOk, Vl.used, Ob.k, Ob.n, Ob.g, Ob.keys, Ob.kids]), if_neg (by simp [Vl.fits, Ob.k]), if_neg (by show ¬ 127 < s.length; omega), if_neg (by show ¬ 8191 < 0; omega), if_neg (by simp [Vl.form, Ob.k, Ob.s, h])]
  rw [Vl.check_eq, if_neg (by simp [hw])]
  show Vl.checks (d + 1) [] = 0
  rw [Vl.checks]
theorem sty_name {s : List UInt8} (h : okSty s = true) : Vl.name s = true := by
  simp only [okSty, Bool.or_eq_true, decide_eq_true_eq] at h
  rcases h with ((((h | h) | h) | h) | h) | h <;> subst h <;> decide
theorem oP_sub {x : Lx} (h : Good x) {d : Nat} (hd : d ≤ 20) : ∀ v, oP x = some v → Sub d v := by
  intro v hv
  unfold oP at hv
  split at hv
  · cases hv
  · cases hv; exact sub_str hd (by have := h.pre; omega)
theorem oS_sub {x : Lx} (h : Good x) {d : Nat} (hd : d ≤ 20) : ∀ v, oS x = some v → Sub d v := by
  intro v hv
  unfold oS at hv
  split at hv
  · cases hv
  · cases hv; exact sub_name hd (sty_name h.sty)
theorem oT_sub {x : Lx} (h : Good x) {d : Nat} (hd : d ≤ 20) : ∀ v, oT x = some v → Sub d v := by
  intro v hv
  unfold oT at hv
  split at hv
  · cases hv
  · cases hv; exact sub_int hd (by have := h.f1; omega) h.f2
theorem put_S (v : Ob) : Vl.put (dct none none none) kS v = dct none (some v) none := rfl
theorem put_P (s : Option Ob) (v : Ob) : Vl.put (dct none s none) kP v = dct (some v) s none := by cases s <;> rfl
theorem put_T (p s : Option Ob) (v : Ob) : Vl.put (dct p s none) kSt v = dct p s (some v) := by cases p <;> cases s <;> rfl
def tells (x : Lx) : List Ob := (match oS x with | none => [] | some v => [nameO kS, v]) ++ (match oP x with | none => [] | some v => [nameO kP, v]) ++ (match oT x with | none => [] | some v => [nameO kSt, v])
theorem dict_tells {x : Lx} (h : Good x) : Vl.dict (tells x) = (obj x, 0) := by
  have hr : Vl.check 1 (obj x) = 0 := dct_check (by omega) (oP_sub h (by omega)) (oS_sub h (by omega)) (oT_sub h (by omega))
  have hS := oS_sub (d := 2) h (by omega)
  have hP := oP_sub (d := 2) h (by omega)
  have hT := oT_sub (d := 2) h (by omega)
  unfold obj at hr ⊢
  unfold tells
  generalize oS x = s at *
  generalize oP x = p at *
  generalize oT x = t at *
  have fin : ∀ ps, ps.length % 2 = 0 → Vl.namesOk ps = true → Vl.dictG [] (.mk 7 0 0 [] [] []) ps = Vl.right (dct p s t) → Vl.dict ps = (dct p s t, 0) := by
    intro ps h1 h2 h3
    unfold Vl.dict
    rw [if_neg (by omega), if_neg (by simp [h2]), h3]
    unfold Vl.right
    rw [if_neg (by simp [hr])]
  have base : (Ob.mk 7 0 0 [] [] []) = dct none none none := rfl
  have nS : ∀ {a : List UInt8}, (nameO a).s = a := rfl
  have m1 : kP ∉ [kS] := by decide
  have m2 : kSt ∉ [kS] := by decide
  have m3 : kSt ∉ [kP] := by decide
  have m4 : kSt ∉ [kS, kP] := by decide
  cases s <;> cases p <;> cases t
  all_goals
    refine fin _ (by simp) (by simp [Vl.namesOk, nameO, Ob.k]) ?_
    rw [base]
    simp only [List.nil_append, List.append_nil, List.cons_append, Vl.dictG, nS, List.not_mem_nil, if_false, m1, m2, m3, m4]
  all_goals
    first
    | rfl
    | (simp only [(hS _ rfl).2, (hP _ rfl).2, (hT _ rfl).2, ne_eq, not_false_eq_true, if_true, put_S, put_P, put_T])
    | (simp only [(hS _ rfl).2, (hP _ rfl).2, ne_eq, not_false_eq_true, if_true, put_S, put_P, put_T])
    | (simp only [(hS _ rfl).2, (hT _ rfl).2, ne_eq, not_false_eq_true, if_true, put_S, put_P, put_T])
    | (simp only [(hP _ rfl).2, (hT _ rfl).2, ne_eq, not_false_eq_true, if_true, put_S, put_P, put_T])
    | (simp only [(hS _ rfl).2, ne_eq, not_false_eq_true, if_true, put_S, put_P, put_T])
    | (simp only [(hP _ rfl).2, ne_eq, not_false_eq_true, if_true, put_S, put_P, put_T])
    | (simp only [(hT _ rfl).2, ne_eq, not_false_eq_true, if_true, put_S, put_P, put_T])
end Lb
end Go.Proofs.YtiklhhdohckfiaaGreatDoor
namespace Go.Proofs.YtiklhhdohckfiaaGreatDoor
set_option linter.unusedVariables false
set_option linter.unusedSimpArgs false
set_option linter.defProp false
set_option maxRecDepth 20000
open Eng Go.RowKit

section
variable {w : World} {PK : List PanicEntry → World → Prop} {K : Value → World → Prop} {S : Nat → Prop} {w0 : World} {L : List Ent}
theorem o_obs2 (o p : Ob) {vk vc : Value} (hk : vk.oneCell' = true) (hc : vc.oneCell' = true) (ho : OwnS S w0 w L) (k : ∀ b w', OwnS S w0 w' (.cells b (obC o nilS nilS ++ obC p vk vc) 25 :: L) → K (.slice (some ⟨b, 0, none⟩) 2 2) w') : DoX Tryz.prog (mBuildS 23 2 #[(0, obV o nilS nilS), (1, obV p vk vc)]) w PK K := by
  cases vk <;> first | (cases hk; done) | skip
  all_goals cases vc <;> first | (cases hc; done) | exact o_new (fun b => .slice (some ⟨b, 0, none⟩) 2 2) (obC o nilS nilS ++ obC p _ _) 25 (fun _ => by kernel_rfl) ho k
theorem obs2_one (o p : Ob) {vk vc : Value} (hk : vk.oneCell' = true) (hc : vc.oneCell' = true) : ∀ v ∈ obC o nilS nilS ++ obC p vk vc, v.oneCell' = true := by
  intro v hv
  rcases List.mem_append.1 hv with h | h
  · exact obC_one o rfl rfl v h
  · exact obC_one p hk hc v h
end
theorem ovs_two {A : Nat → Prop} {w : World} {k n g : Int} {s : List UInt8} {p : Ob} {vk vc : Value} (h : OV A w (obV p vk vc) p) : OVs A w (obC (ob1 k n g s) nilS nilS ++ obC p vk vc) [ob1 k n g s, p] := by
  have := ovs_cons (ov_plain k n g s) (ovs_cons h OVs.nil)
  simpa using this
theorem kv_tells_wt {x : Lx} (h : Lb.Good x) : Ob.wts (Lb.tells x) ≤ 1000 := by
  have hp := h.pre
  have hs : x.sty.length ≤ 1 := by
    have := h.sty
    simp only [Lb.okSty, Bool.or_eq_true, decide_eq_true_eq] at this
    rcases this with ((((h | h) | h) | h) | h) | h <;> rw [h] <;> simp
  by_cases h1 : x.sty = [] <;> by_cases h2 : x.pre = [] <;> by_cases h3 : x.first = 1 <;>
    simp [Lb.tells, Lb.oS, Lb.oP, Lb.oT, h1, h2, h3, Ob.wts, Ob.wt, Lb.nameO, Lb.strO, Lb.intO, Pl.tot, Lb.kS, Lb.kP, Lb.kSt] <;> omega
theorem ltold_ret (x : Lx) (M : Mem) (w : World) (hx : Lb.Good x) (hM : M.has w) :
    RetM Tryz.prog 71 #[lbV x] M w (fun r N => OV N.A N.w r (Lb.obj x)) := by
  refine retM_of hM fun K hK => S_label_told_ok ?_
  unfold S_label_told
  refine o_lbb x (OwnS.memS hM) fun b1 w1 ho => ?_
  refine o_oba ho fun b2 w2 ho => ?_
  have tl : Lb.tells x = (match Lb.oS x with | none => [] | some v => [Lb.nameO Lb.kS, v]) ++ (match Lb.oP x with | none => [] | some v => [Lb.nameO Lb.kP, v]) ++ (match Lb.oT x with | none => [] | some v => [Lb.nameO Lb.kSt, v]) := rfl
  have hwt := kv_tells_wt hx
  have hlk := Ob.len_wts (Lb.tells x)
  -- behind the last test
  have fin : ∀ (W : World) (v : Value) (cs : List Value), OwnS M.A w W [.urow 25 6 v (Lb.tells x).length cs, obE b2 ob0 nilS nilS, lbE b1 x, .mem M] → (∀ (A : Nat → Prop) (w : World), OVs A w cs (Lb.tells x)) → S_label_told_2 (.pointer (some ⟨b2, 0, none⟩)) v W K := by
    intro W v cs ho hall
    unfold S_label_told_2
    obtain ⟨N, hle, hrow, ho⟩ := OwnS.freezeU (L := [obE b2 ob0 nilS nilS, lbE b1 x, .mem M]) ho 2 rfl
    have ho : OwnS M.A w W [obE b2 ob0 nilS nilS, lbE b1 x, .mem N] := ho
    refine c_mem ho 2 rfl (vdict_ret (Lb.tells x) v cs N W (by omega) (ho.hasM 2 rfl) hrow (hall _ _)) ?_
    rintro _ N2 w4 hle2 ⟨y, rfl, hy⟩ ho
    rw [Lb.dict_tells hx] at hy ⊢
    obtain ⟨yk, yc, ycs, rfl, hya⟩ := hy.open
    simp only [errV, ex]
    refine o_oba ho fun b4 w5 ho => ?_
    refine ob_put 0 hya.keys.one hya.kids.one ho rfl fun w6 ho => ?_
    rw [ob_v ho 0 rfl]
    refine ob_put 1 hya.keys.one hya.kids.one ho rfl fun w7 ho => ?_
    exact ret_v1 (rv_cell (ho.agg 1 rfl aggOb)) (hK _ _ N2 _ 3 ho rfl (hle.trans hle2) hy)
  have three : ∀ (W : World) (v : Value) (cs : List Value) (ps : List Ob), OwnS M.A w W [.urow 25 6 v ps.length cs, obE b2 ob0 nilS nilS, lbE b1 x, .mem M] → (∀ (A : Nat → Prop) (w : World), OVs A w cs ps) → ps.length ≤ 100 →
      Lb.tells x = ps ++ (match Lb.oT x with | none => [] | some v => [Lb.nameO Lb.kSt, v]) → S_label_told_1 (.pointer (some ⟨b1, 0, none⟩)) (.pointer (some ⟨b2, 0, none⟩)) v W K := by
    intro W v cs ps ho hall hpl htl
    unfold S_label_told_1
    refine join fun J hJ => ?_
    rw [fa_l3, lb_first ho 2 rfl]
    simp only [rs]
    by_cases h1 : x.first = 1
    · simp only [h1, ne_eq, not_true, decide_false, i_f]
      have e : Lb.tells x = ps := by rw [htl]; simp [Lb.oT, h1]
      refine hJ _ _ fun _ => ?_
      rw [gd0]
      exact fin W v cs (by rw [e]; exact ho) (by rw [e]; exact hall)
    · simp only [h1, ne_eq, not_false_eq_true, decide_true, i_t]
      have e : Lb.tells x = ps ++ [ob1 5 0 0 Lb.kSt, ob1 2 x.first 0 []] := by rw [htl]; simp [Lb.oT, h1, Lb.nameO, Lb.intO]
      refine quiet ?_
      refine q_call _ (fun W hW => ret_grew (vname_ret Lb.kSt W) hW) ?_
      refine q_do _ (fun _ => run_fa fo_l3) ?_
      refine q_at (.int .i64 x.first) (fun W hW => run_load_cell nInt5 ((ho.grow hW).cell 2 rfl 3 rfl)) ?_
      refine q_call _ (fun W hW => ret_grew (vint_ret x.first W) hW) ?_
      intro w5 hW
      have ho := ho.grow hW
      refine o_obs2 _ _ rfl rfl ho fun b7 w6 ho => ?_
      refine o_apO 1 ho rfl (Sl.cells (ho.at_ 0 rfl) 6 2 2 rfl) (obs2_one _ _ rfl rfl) (by omega) fun v' w7 ho => ?_
      refine hJ _ _ fun _ => ?_
      rw [gd0]
      refine fin w7 v' _ ?_ (fun A w => by rw [e]; exact ovs_app (hall A w) (ovs_two (ov_plain _ _ _ _)))
      rw [e, List.length_append]
      exact ho.tail
  have two : ∀ (W : World) (v : Value) (cs : List Value) (ps : List Ob), OwnS M.A w W [.urow 25 6 v ps.length cs, obE b2 ob0 nilS nilS, lbE b1 x, .mem M] → (∀ (A : Nat → Prop) (w : World), OVs A w cs ps) → ps.length ≤ 10 →
      Lb.tells x = ps ++ (match Lb.oP x with | none => [] | some v => [Lb.nameO Lb.kP, v]) ++ (match Lb.oT x with | none => [] | some v => [Lb.nameO Lb.kSt, v]) → S_label_told_0 (.pointer (some ⟨b1, 0, none⟩)) (.pointer (some ⟨b2, 0, none⟩)) v W K := by
    intro W v cs ps ho hall hpl htl
    unfold S_label_told_0
    refine join fun J hJ => ?_
    rw [fa_l2, lb_pre ho 2 rfl]
    simp only [rs]
    by_cases h1 : x.pre = []
    · simp only [h1, ne_eq, not_true, decide_false, i_f]
      refine hJ _ _ fun _ => ?_
      rw [gd0]
      exact three W v cs ps ho hall (by omega) (by rw [htl]; simp [Lb.oP, h1])
    · simp only [h1, ne_eq, not_false_eq_true, decide_true, i_t]
      refine quiet ?_
      refine q_call _ (fun W hW => ret_grew (vname_ret Lb.kP W) hW) ?_
      refine q_do _ (fun _ => run_fa fo_l2) ?_
      refine q_at (.string ⟨x.pre.toArray⟩) (fun W hW => run_load_cell nStr5 ((ho.grow hW).cell 2 rfl 2 rfl)) ?_
      refine q_call _ (fun W hW => ret_grew (vstr_ret x.pre W) hW) ?_
      intro w5 hW
      have ho := ho.grow hW
      refine o_obs2 _ _ rfl rfl ho fun b7 w6 ho => ?_
      refine o_apO 1 ho rfl (Sl.cells (ho.at_ 0 rfl) 6 2 2 rfl) (obs2_one _ _ rfl rfl) (by omega) fun v' w7 ho => ?_
      refine hJ _ _ fun _ => ?_
      rw [gd0]
      refine three w7 v' _ (ps ++ [ob1 5 0 0 Lb.kP, ob1 4 0 0 x.pre]) ?_ (fun A w => ovs_app (hall A w) (ovs_two (ov_plain _ _ _ _))) (by simp; omega) (by rw [htl]; simp [Lb.oP, h1, Lb.nameO, Lb.strO])
      rw [List.length_append]
      exact ho.tail
  refine join fun J hJ => ?_
  rw [fa_l1, lb_sty ho 1 rfl]
  simp only [rs]
  by_cases h1 : x.sty = []
  · simp only [h1, ne_eq, not_true, decide_false, i_f]
    refine hJ _ _ fun _ => ?_
    rw [gd0]
    exact two w2 nilS [] [] (ho.nilU _ _) (fun _ _ => OVs.nil) (by simp) (by rw [tl]; simp [Lb.oS, h1])
  · simp only [h1, ne_eq, not_false_eq_true, decide_true, i_t]
    have ho : OwnS M.A w w2 [.urow 25 6 nilS 0 [], obE b2 ob0 nilS nilS, lbE b1 x, .mem M] := ho.nilU _ _
    refine quiet ?_
    refine q_call _ (fun W hW => ret_grew (vname_ret Lb.kS W) hW) ?_
    refine q_do _ (fun _ => run_fa fo_l1) ?_
    refine q_at (.string ⟨x.sty.toArray⟩) (fun W hW => run_load_cell nStr5 ((ho.grow hW).cell 2 rfl 1 rfl)) ?_
    refine q_call _ (fun W hW => ret_grew (vname_ret x.sty W) hW) ?_
    intro w5 hW
    have ho := ho.grow hW
    refine o_obs2 _ _ rfl rfl ho fun b7 w6 ho => ?_
    refine o_apO 1 ho rfl (Sl.cells (ho.at_ 0 rfl) 6 2 2 rfl) (obs2_one _ _ rfl rfl) (by omega) fun v' w7 ho => ?_
    refine hJ _ _ fun _ => ?_
    rw [gd0]
    exact two w7 v' _ [ob1 5 0 0 Lb.kS, ob1 5 0 0 x.sty] ho.tail (fun A w => ovs_two (ov_plain _ _ _ _)) (by simp) (by rw [tl]; simp [Lb.oS, h1, Lb.nameO])
end Go.Proofs.YtiklhhdohckfiaaGreatDoor
namespace Go.Proofs.YtiklhhdohckfiaaGreatDoor
set_option linter.unusedVariables false
set_option linter.unusedSimpArgs false
set_option linter.defProp false
open Go
namespace Lb
def kidsO (l : List Lx) : List Ob := l.flatMap fun x => [intO x.off, obj x]
def arrO (l : List Lx) : Ob := .mk 6 0 0 [] [] (kidsO l)
def treeO (l : List Lx) : Ob := if l = [] then .mk 0 0 0 [] [] [] else .mk 7 0 0 [] [numsK] [arrO l]
def rootI (d : Dc) : It := (Dk.find d.items (g d.trailer Dk.rootK).n).getD Dk.it0
def set (d : Dc) (l : List Lx) : Dc × Int :=
  if Dk.check d ≠ 0 then (Dk.dc0, Dk.check d) else if check l ≠ 0 then (Dk.dc0, check l)
  else if (Vl.set (rootI d).obj plK (treeO l)).2 ≠ 0 then (Dk.dc0, (Vl.set (rootI d).obj plK (treeO l)).2)
  else Dk.put d ⟨(rootI d).num, (rootI d).gen, (Vl.set (rootI d).obj plK (treeO l)).1⟩
theorem good_of {l : List Lx} (h : check l = 0) : ∀ x ∈ l, Good x ∧ 0 ≤ x.off ∧ x.off < 2048 := by
  intro x hx
  obtain ⟨a, b, c, d, e, f⟩ := check_ok h x hx
  exact ⟨⟨c, d, e, f⟩, a, b⟩
theorem len_of {l : List Lx} (h : check l = 0) : l.length ≤ 2048 := by
  unfold check at h
  split at h
  · omega
  · omega
theorem kids_len (l : List Lx) : (kidsO l).length = 2 * l.length := by
  induction l with
  | nil => rfl
  | cons x l ih => unfold kidsO at ih ⊢; rw [List.flatMap_cons, List.length_append, ih]; simp; omega
theorem kids_cons (x : Lx) (l : List Lx) : kidsO (x :: l) = intO x.off :: obj x :: kidsO l := rfl
theorem kids_snoc (l : List Lx) (x : Lx) : kidsO (l ++ [x]) = kidsO l ++ [intO x.off, obj x] := by simp [kidsO]
theorem sty_len {s : List UInt8} (h : okSty s = true) : s.length ≤ 1 := by
  simp only [okSty, Bool.or_eq_true, decide_eq_true_eq] at h
  rcases h with ((((h | h) | h) | h) | h) | h <;> rw [h] <;> simp
theorem obj_wt {x : Lx} (h : Good x) : (obj x).wt ≤ 600 := by
  have hp := h.pre
  have hs := sty_len h.sty
  unfold obj dct oS oP oT
  split <;> split <;> split <;> simp [Ob.wts, Ob.wt, nameO, strO, intO, Pl.tot, kS, kP, kSt] <;> omega
theorem kids_wt {l : List Lx} (h : ∀ x ∈ l, Good x) : Ob.wts (kidsO l) ≤ 700 * l.length := by
  induction l with
  | nil => simp [kidsO, Ob.wts]
  | cons x l ih =>
    have := ih fun y hy => h y (List.mem_cons_of_mem _ hy)
    have hx := obj_wt (h x List.mem_cons_self)
    have hi : (intO x.off).wt = 6 := by simp [intO, Ob.wt, Ob.wts, Pl.tot]
    rw [kids_cons, Ob.wts, Ob.wts, List.length_cons]
    omega
theorem arr_wt {l : List Lx} (h : check l = 0) : (arrO l).wt ≤ 2000000 := by
  have h1 := kids_wt fun x hx => (good_of h x hx).1
  have h2 := len_of h
  unfold arrO
  rw [Ob.wt]
  simp only [Pl.tot, List.length_nil, List.map_nil, List.sum_nil]
  omega
theorem tree_wt {l : List Lx} (h : check l = 0) : (treeO l).wt ≤ 2000100 := by
  have := arr_wt h
  unfold treeO
  split
  · simp [Ob.wt, Ob.wts, Pl.tot]
  · rw [Ob.wt, Ob.wts, Ob.wts]
    simp only [Pl.tot, numsK, List.length_nil, List.length_cons, List.map_cons, List.map_nil, List.sum_cons, List.sum_nil]
    omega
theorem obj_check {x : Lx} (h : Good x) {d : Nat} (hd : d ≤ 10) : Vl.check d (obj x) = 0 := dct_check (by omega) (oP_sub h (by omega)) (oS_sub h (by omega)) (oT_sub h (by omega))
theorem kids_check {d : Nat} (hd : d ≤ 10) : ∀ {l : List Lx}, (∀ x ∈ l, Good x ∧ 0 ≤ x.off ∧ x.off < 2048) → Vl.checks d (kidsO l) = 0
  | [], _ => by rw [kidsO, List.flatMap_nil, Vl.checks]
  | x :: l, h => by
    obtain ⟨h1, h2, h3⟩ := h x List.mem_cons_self
    rw [kids_cons, Vl.checks, if_neg (by rw [(sub_int (d := d) (by omega) (by omega) (by omega)).1]; simp), Vl.checks, if_neg (by rw [obj_check h1 hd]; simp)]
    exact kids_check hd fun y hy => h y (List.mem_cons_of_mem _ hy)
theorem arr_check {l : List Lx} (h : check l = 0) : Vl.check 2 (arrO l) = 0 := by
  have hl := len_of h
  have hw : Vl.why 2 (arrO l) = 0 := by
    unfold Vl.why arrO
    rw [if_neg (by omega), if_neg (by simp [Vl.usesOk, Vl.used, Ob.k, Ob.s, Ob.n, Ob.g, Ob.keys]), if_neg (by simp [Vl.fits, Ob.k]), if_neg (by show ¬ 32767 < 0; omega), if_neg (by show ¬ 8191 < (kidsO l).length; rw [kids_len]; omega), if_neg (by simp [Vl.form, Ob.k])]
  rw [Vl.check_eq, if_neg (by simp [hw])]
  exact kids_check (by omega) (good_of h)
theorem tree_check {l : List Lx} (h : check l = 0) : Vl.check 1 (.mk 7 0 0 [] [numsK] [arrO l]) = 0 := by
  have hw : Vl.why 1 (.mk 7 0 0 [] [numsK] [arrO l]) = 0 := by
    unfold Vl.why
    rw [if_neg (by omega), if_neg (by simp [Vl.usesOk, Vl.used, Ob.k, Ob.s, Ob.n, Ob.g]), if_neg (by simp [Vl.fits, Ob.k]), if_neg (by show ¬ 32767 < 0; omega), if_neg (by show ¬ 8191 < 1; omega), if_neg ?_]
    simp [Vl.form, Ob.k, Vl.rising, Ob.keys, Ob.kids, Vl.keyAt, arrO]
    decide
  rw [Vl.check_eq, if_neg (by simp [hw])]
  show Vl.checks 2 [arrO l] = 0
  rw [Vl.checks, if_neg (by simp [arr_check h]), Vl.checks]
theorem tree_dict {l : List Lx} (h : check l = 0) : Vl.dict [nameO numsK, arrO l] = (.mk 7 0 0 [] [numsK] [arrO l], 0) := by
  unfold Vl.dict
  rw [if_neg (by simp), if_neg (by simp [Vl.namesOk, nameO, Ob.k])]
  have e : Vl.dictG [] (.mk 7 0 0 [] [] []) [nameO numsK, arrO l] = Vl.right (.mk 7 0 0 [] [numsK] [arrO l]) := by
    simp [Vl.dictG, nameO, arrO, Ob.k, Ob.s, Vl.put, Ob.keys, Ob.kids, Ob.n, Ob.g, Vl.place]
  rw [e]
  unfold Vl.right
  rw [if_neg (by simp [tree_check h])]
end Lb
end Go.Proofs.YtiklhhdohckfiaaGreatDoor
namespace Go.Proofs.YtiklhhdohckfiaaGreatDoor
set_option linter.unusedVariables false
set_option linter.unusedSimpArgs false
set_option linter.defProp false
set_option maxRecDepth 20000
open Eng Go.RowKit

theorem ov_ob0 {A : Nat → Prop} {w : World} : OV A w (obV (Lb.treeO []) nilS nilS) (Lb.treeO []) := ov_plain 0 0 0 []
theorem take_kids {l : List Lx} {i : Nat} (h : i < l.length) : Lb.kidsO (l.take (i + 1)) = Lb.kidsO (l.take i) ++ [ob1 2 l[i].off 0 [], Lb.obj l[i]] := by
  rw [List.take_succ_eq_append_getElem h, Lb.kids_snoc]; rfl
theorem ov_arr1 {M : Mem} {o : Ob} {k : List UInt8} {kv kc : Value} {cs : List Value} (hk : SlA M.A M.w kv 1 1 [.string ⟨k.toArray⟩]) (hc : SlA M.A M.w kc 6 1 cs) (h : OVs M.A M.w cs [o]) : OV M.A M.w (obV (.mk 7 0 0 [] [k] [o]) kv kc) (.mk 7 0 0 [] [k] [o]) :=
  ObAt.ov (o := .mk 7 0 0 [] [k] [o]) (cs := cs) ⟨hk, hc, h⟩
theorem lset_ret (d : Dc) (l : List Lx) (dv v : Value) (M : Mem) (w : World) (hd : Dk.Ok d) (hn : d.items.length < 10000000000) (hsm : ∀ i ∈ d.items, i.obj.wt ≤ 900000000) (hf : Lb.Fit l) (hM : M.has w) (hdv : DV M.A M.w dv d) (hs : SlA M.A M.w v 4 l.length (lbsC l)) :
    RetM Tryz.prog 26 #[dv, v] M w (fun r N => ∃ v', r = errV v' (Lb.set d l).2 ∧ DV N.A N.w v' (Lb.set d l).1) := by
  obtain ⟨vi, dk, dc, dcs, rfl, hda⟩ := hdv
  refine retM_of hM fun K hK => S_label_Set_ok ?_
  unfold S_label_Set
  refine o_dcb d hda.items.one hda.trailer.oneK hda.trailer.oneC (OwnS.memS hM) fun b2 w1 ho => ?_
  refine o_dca ho fun b4 w2 ho => ?_
  -- an error
  have bad : ∀ {W : World} {N : Mem} {L : List Ent} {e : Int} (j : Nat), OwnS M.A w W (dcE b4 Dk.dc0 nilS nilS nilS :: L) → L[j]? = some (.mem N) → M.le N → Lb.set d l = (Dk.dc0, e) →
      DoX Tryz.prog (mBuild 44 #[]) W (pk K) (fun t W => DoX Tryz.prog (mStore 44 (.pointer (some ⟨b4, 0, none⟩)) t) W (pk K) fun _ W => RetX Tryz.prog [.cell (.pointer (some ⟨b4, 0, none⟩)) 44, .val (.int .i64 e)] W K) := by
    intro W N L e j ho hj hle he
    rw [m_dc0]
    refine dc_put 0 rfl rfl rfl ho rfl fun w4 ho => ?_
    exact ret_dc2 0 ho rfl (hK _ _ N _ (j + 1) ho (by simpa using hj) hle ⟨dcV Dk.dc0 nilS nilS nilS, by rw [he]; rfl, by rw [he]; exact (dc0_at N).dv⟩)
  rw [dc_v ho 1 rfl]
  refine c_below ho (R := fun v => v = .int .i64 (Dk.check d)) (RetM.told (dcheck_ret d _ M w2 hd (ho.hasM 2 rfl) hda.dv)) ?_
  rintro _ w3 rfl ho
  simp only [n_err]
  by_cases hc : Dk.check d = 0
  case neg =>
    simp only [hc, ne_eq, not_false_eq_true, decide_true, i_t]
    exact bad 1 ho rfl M.le_refl (by unfold Lb.set; rw [if_pos hc])
  simp only [hc, ne_eq, not_true, decide_false, i_f]
  refine c_below ho (R := fun v => v = .int .i64 (Lb.check l)) (lcheck_ret l v M w3 hf (ho.hasM 2 rfl) hs) ?_
  rintro _ w4 rfl ho
  simp only [n_err]
  by_cases hl : Lb.check l = 0
  case neg =>
    simp only [hl, ne_eq, not_false_eq_true, decide_true, i_t]
    exact bad 1 ho rfl M.le_refl (by unfold Lb.set; rw [if_neg (by simp [hc]), if_pos hl])
  simp only [hl, ne_eq, not_true, decide_false, i_f]
  have hset : Lb.set d l = if (Vl.set (Lb.rootI d).obj Lb.plK (Lb.treeO l)).2 ≠ 0 then (Dk.dc0, (Vl.set (Lb.rootI d).obj Lb.plK (Lb.treeO l)).2) else Dk.put d ⟨(Lb.rootI d).num, (Lb.rootI d).gen, (Vl.set (Lb.rootI d).obj Lb.plK (Lb.treeO l)).1⟩ := by
    unfold Lb.set; rw [if_neg (by simp [hc]), if_neg (by simp [hl])]
  have hgood := Lb.good_of hl
  have hlen := Lb.len_of hl
  have htw := Lb.tree_wt hl
  have hrw : (Lb.rootI d).obj.wt ≤ 900000000 := by
    unfold Lb.rootI
    cases hfi : Dk.find d.items (Lb.g d.trailer Dk.rootK).n with
    | none => simp [Dk.it0, Vl.ob0, Ob.wt, Ob.wts, Pl.tot]
    | some i => exact hsm i (Dk.find_ok hd hfi).1
  refine c_below ho (R := fun v => v = obV (ob1 0 0 0 []) nilS nilS) (vnull_ret w4) ?_
  rintro _ w5 rfl ho
  refine o_oba ho fun b8 w6 ho => ?_
  refine ob_put 0 rfl rfl ho rfl fun w7 ho => ?_
  -- behind the labels
  have cont : ∀ (W : World) (N : Mem) (tk tc : Value), OwnS M.A w W [obE b8 (Lb.treeO l) tk tc, dcE b4 Dk.dc0 nilS nilS nilS, dcE b2 d vi dk dc, .mem N] → M.le N → OV N.A N.w (obV (Lb.treeO l) tk tc) (Lb.treeO l) →
      S_label_Set_1 (.pointer (some ⟨b2, 0, none⟩)) (.pointer (some ⟨b4, 0, none⟩)) (.pointer (some ⟨b8, 0, none⟩)) W K := by
    intro W N tk tc ho hle htv
    unfold S_label_Set_1
    rw [fa_d1, dc_tr ho 2 rfl]
    have htr := hd.trailer
    refine c_mem ho 3 rfl (vget_ret d.trailer _ Dk.rootK N W (by omega) (ho.hasM 3 rfl) (hda.trailer.le hle)) ?_
    rintro _ N1 w8 hle1 ⟨u, rfl, hu⟩ ho
    rw [show (Vl.get d.trailer Dk.rootK).getD Vl.ob0 = Lb.g d.trailer Dk.rootK from rfl] at hu
    obtain ⟨uk, uc, ucs, rfl, hua⟩ := hu.open
    simp only [getV, ex]
    refine o_oba ho fun b12 w9 ho => ?_
    refine ob_put 0 hua.keys.one hua.kids.one ho rfl fun w10 ho => ?_
    have ho : OwnS M.A w w10 [obE b12 (Lb.g d.trailer Dk.rootK) uk uc, obE b8 (Lb.treeO l) tk tc, dcE b4 Dk.dc0 nilS nilS nilS, dcE b2 d vi dk dc, .mem N1] := ho
    rw [dc_v ho 3 rfl, fa_o1, ob_n ho 0 rfl]
    refine c_mem ho 4 rfl (dget_ret d _ _ N1 w10 hd (ho.hasM 4 rfl) (hda.le (hle.trans hle1)).dv) ?_
    rintro _ N2 w11 hle2 ⟨i, rfl, hi⟩ ho
    rw [show (Dk.find d.items (Lb.g d.trailer Dk.rootK).n).getD Dk.it0 = Lb.rootI d from rfl] at hi
    obtain ⟨ik, ic, rfl, hiv⟩ := hi
    simp only [getV, ex]
    refine o_ita ho fun b14 w12 ho => ?_
    refine it_put 0 hiv.oneK hiv.oneC ho rfl fun w13 ho => ?_
    have ho : OwnS M.A w w13 [itE b14 (Lb.rootI d) ik ic, obE b12 (Lb.g d.trailer Dk.rootK) uk uc, obE b8 (Lb.treeO l) tk tc, dcE b4 Dk.dc0 nilS nilS nilS, dcE b2 d vi dk dc, .mem N2] := ho
    rw [fa_i2, it_obj ho 0 rfl, ob_v ho 2 rfl]
    have hle12 := hle1.trans hle2
    refine c_mem ho 5 rfl (vset_ret (Lb.rootI d).obj (Lb.treeO l) _ _ Lb.plK N2 w13 (by omega) (by omega) (by decide) (ho.hasM 5 rfl) hiv (htv.le hle12)) ?_
    rintro _ N3 w14 hle3 ⟨y, rfl, hy⟩ ho
    obtain ⟨yk, yc, ycs, rfl, hya⟩ := hy.open
    simp only [errV, ex]
    refine o_oba ho fun b16 w15 ho => ?_
    refine ob_put 0 hya.keys.one hya.kids.one ho rfl fun w16 ho => ?_
    have ho : OwnS M.A w w16 [obE b16 (Vl.set (Lb.rootI d).obj Lb.plK (Lb.treeO l)).1 yk yc, itE b14 (Lb.rootI d) ik ic, obE b12 (Lb.g d.trailer Dk.rootK) uk uc, obE b8 (Lb.treeO l) tk tc, dcE b4 Dk.dc0 nilS nilS nilS, dcE b2 d vi dk dc, .mem N3] := ho
    have hle03 := (hle.trans hle12).trans hle3
    simp only [n_err]
    by_cases he : (Vl.set (Lb.rootI d).obj Lb.plK (Lb.treeO l)).2 = 0
    case neg =>
      simp only [he, ne_eq, not_false_eq_true, decide_true, i_t]
      have ho : OwnS M.A w w16 [dcE b4 Dk.dc0 nilS nilS nilS, dcE b2 d vi dk dc, .mem N3] := ho.tail.tail.tail.tail
      exact bad 1 ho rfl hle03 (by rw [hset, if_pos he])
    simp only [he, ne_eq, not_true, decide_false, i_f]
    rw [if_neg (by simp [he])] at hset
    rw [ob_v ho 0 rfl, fa_i2]
    refine it_putO 1 hy.oneK hy.oneC ho rfl fun w17 ho => ?_
    have ho : OwnS M.A w w17 [obE b16 (Vl.set (Lb.rootI d).obj Lb.plK (Lb.treeO l)).1 yk yc, itE b14 ⟨(Lb.rootI d).num, (Lb.rootI d).gen, (Vl.set (Lb.rootI d).obj Lb.plK (Lb.treeO l)).1⟩ yk yc, obE b12 (Lb.g d.trailer Dk.rootK) uk uc, obE b8 (Lb.treeO l) tk tc, dcE b4 Dk.dc0 nilS nilS nilS, dcE b2 d vi dk dc, .mem N3] := ho
    rw [dc_v ho 5 rfl, it_v ho 1 rfl]
    have hsw := Vl.set_wt (Lb.rootI d).obj Lb.plK (Lb.treeO l)
    have hpl : Lb.plK.length = 10 := rfl
    refine c_mem ho 6 rfl (dput_ret d ⟨(Lb.rootI d).num, (Lb.rootI d).gen, (Vl.set (Lb.rootI d).obj Lb.plK (Lb.treeO l)).1⟩ _ _ N3 w17 hd hn (by show (Vl.set (Lb.rootI d).obj Lb.plK (Lb.treeO l)).1.wt ≤ _; omega) (ho.hasM 6 rfl) (hda.le hle03).dv ⟨yk, yc, rfl, hy⟩) ?_
    rintro _ N4 w18 hle4 ⟨z, rfl, hz⟩ ho
    obtain ⟨zi, zk, zc, zs, rfl, hza⟩ := hz
    simp only [errV, ex]
    refine dc_put 4 hza.items.one hza.trailer.oneK hza.trailer.oneC ho rfl fun w19 ho => ?_
    exact ret_dc2 4 ho rfl (hK _ _ N4 _ 6 ho rfl (hle03.trans hle4) ⟨_, by rw [hset]; rfl, by rw [hset]; exact hza.dv⟩)
  refine join fun J hJ => ?_
  rw [sl_len Tryz.underlying46 (hs.now (ho.hasM 3 rfl))]
  simp only [rs]
  by_cases h0 : (0 : Int) < (l.length : Int)
  case neg =>
    simp only [h0, decide_false, i_f]
    have hl0 : l = [] := List.length_eq_zero_iff.1 (by omega)
    refine hJ _ _ fun _ => ?_
    refine cont w7 M nilS nilS ?_ M.le_refl ?_
    · rw [hl0]; exact ho
    · rw [hl0]; exact ov_ob0
  simp only [h0, decide_true, i_t]
  have hl0 : l ≠ [] := by intro e; rw [e] at h0; simp at h0
  have htree : Lb.treeO l = .mk 7 0 0 [] [Lb.numsK] [Lb.arrO l] := by unfold Lb.treeO; rw [if_neg hl0]
  rw [sl_len Tryz.underlying46 (hs.now (ho.hasM 3 rfl))]
  have ho : OwnS M.A w w7 [.urow 25 6 nilS 0 [], obE b8 (ob1 0 0 0 []) nilS nilS, dcE b4 Dk.dc0 nilS nilS nilS, dcE b2 d vi dk dc, .mem M] := ho.nilU _ _
  refine loop (fun vs W => ∃ (i : Nat) (x : Value) (cs : List Value) (N : Mem), vs = [x, .int .i64 i] ∧ i ≤ l.length ∧ M.le N ∧ OVs N.A N.w cs (Lb.kidsO (l.take i)) ∧
      OwnS M.A w W [.urow 25 6 x (Lb.kidsO (l.take i)).length cs, obE b8 (ob1 0 0 0 []) nilS nilS, dcE b4 Dk.dc0 nilS nilS nilS, dcE b2 d vi dk dc, .mem N]) (fun vs _ => l.length - n1 vs)
    ⟨0, nilS, [], M, rfl, by omega, M.le_refl, by rw [List.take_zero]; exact OVs.nil, ho⟩ ?_
  clear ho
  rintro vs w8 ⟨i, x, cs, N, rfl, hi, hle, hall, ho⟩ _
  simp only [S_label_Set_0, gd, rs]
  by_cases hlt : (i : Int) < (l.length : Int)
  · have hi' : i < l.length := by omega
    simp only [hlt, decide_true, i_t]
    obtain ⟨b, off, hr⟩ := lab_at (hs.le hle) hi'
    obtain ⟨r1, r2⟩ := hr w8 (ho.hasM 4 rfl)
    refine do_eq r1 |>.mpr (do_eq (run_lb r2) |>.mpr ?_)
    refine o_lba ho fun b11 w9 ho => ?_
    refine lb_put 0 ho rfl fun w10 ho => ?_
    have ho : OwnS M.A w w10 [lbE b11 l[i], .urow 25 6 x (Lb.kidsO (l.take i)).length cs, obE b8 (ob1 0 0 0 []) nilS nilS, dcE b4 Dk.dc0 nilS nilS nilS, dcE b2 d vi dk dc, .mem N] := ho
    refine quiet ?_
    refine q_do _ (fun _ => run_fa fo_l0) ?_
    refine q_at (.int .i64 l[i].off) (fun W hW => run_load_cell nInt5 ((ho.grow hW).cell 0 rfl 0 rfl)) ?_
    refine q_call (obV (ob1 2 l[i].off 0 []) nilS nilS) (fun W hW => ret_grew (vint_ret l[i].off W) hW) ?_
    refine q_at (lbV l[i]) (fun W hW => run_load_at ((ho.grow hW).agg 0 rfl aggLb)) ?_
    intro w11 hW
    have ho := ho.grow hW
    refine c_mem ho 5 rfl (ltold_ret l[i] N w11 (hgood _ (List.getElem_mem hi')).1 (ho.hasM 5 rfl)) fun y N2 w12 hle2 hy ho => ?_
    obtain ⟨yk, yc, ycs, rfl, hya⟩ := hy.open
    refine o_obs2 _ _ hya.keys.one hya.kids.one ho fun b13 w13 ho => ?_
    have hkl := Lb.kids_len (l.take i)
    have hil : (l.take i).length = i := by rw [List.length_take]; omega
    refine o_apO 2 ho rfl (Sl.cells (ho.at_ 0 rfl) 6 2 2 rfl) (obs2_one _ _ hya.keys.one hya.kids.one) (by omega) fun v' w14 ho => ?_
    rw [wrap64_id (by omega) (by omega)]
    refine nextX ⟨i + 1, v', cs ++ (obC (ob1 2 l[i].off 0 []) nilS nilS ++ obC (Lb.obj l[i]) yk yc), N2, rfl, by omega, hle.trans hle2, ?_, ?_⟩ (by simp [n1, intOf]; omega)
    · rw [take_kids hi']
      exact ovs_app (OVs.le hle2 hall) (ovs_two hy)
    · rw [take_kids hi', List.length_append]
      exact ho.tail.tail
  · simp only [hlt, decide_false, i_f]
    have hil : i = l.length := by omega
    rw [hil, List.take_length] at hall ho
    refine c_below ho (R := fun v => v = obV (ob1 5 0 0 Lb.numsK) nilS nilS) (vname_ret Lb.numsK w8) ?_
    rintro _ w9 rfl ho
    obtain ⟨N2, hle2, hrow, ho⟩ := OwnS.freezeU (L := [obE b8 (ob1 0 0 0 []) nilS nilS, dcE b4 Dk.dc0 nilS nilS nilS, dcE b2 d vi dk dc, .mem N]) ho 3 rfl
    have ho : OwnS M.A w w9 [obE b8 (ob1 0 0 0 []) nilS nilS, dcE b4 Dk.dc0 nilS nilS nilS, dcE b2 d vi dk dc, .mem N2] := ho
    have hkw := Lb.kids_wt fun x hx => (hgood x hx).1
    refine c_mem ho 3 rfl (varr_ret (Lb.kidsO l) x cs N2 w9 (by omega) (ho.hasM 3 rfl) hrow (OVs.le hle2 hall)) fun y N3 w10 hle3 hy ho => ?_
    obtain ⟨yk, yc, ycs, rfl, hya⟩ := hy.open
    refine o_obs2 _ _ hya.keys.one hya.kids.one ho fun b13 w11 ho => ?_
    obtain ⟨N4, hle4, hrow4, ho⟩ := OwnS.freezeU (L := [obE b8 (ob1 0 0 0 []) nilS nilS, dcE b4 Dk.dc0 nilS nilS nilS, dcE b2 d vi dk dc, .mem N3]) (ho.toU 6 2 2 rfl (by omega) (by omega)) 3 rfl
    have ho : OwnS M.A w w11 [obE b8 (ob1 0 0 0 []) nilS nilS, dcE b4 Dk.dc0 nilS nilS nilS, dcE b2 d vi dk dc, .mem N4] := ho
    have haw := Lb.arr_wt hl
    refine c_mem ho 3 rfl (vdict_ret [Lb.nameO Lb.numsK, Lb.arrO l] _ _ N4 w11 ?_ (ho.hasM 3 rfl) hrow4 (ovs_two (hy.le hle4))) ?_
    · simp only [Ob.wts, Ob.wt, Lb.nameO, Pl.tot, Lb.numsK, List.length_cons, List.length_nil, List.map_nil, List.sum_nil]; omega
    rintro _ N5 w12 hle5 ⟨z, rfl, hz⟩ ho
    rw [Lb.tree_dict hl, ← htree] at hz ⊢
    obtain ⟨zk, zc, zcs, rfl, hza⟩ := hz.open
    simp only [errV, ex]
    refine ob_put 0 hza.keys.one hza.kids.one ho rfl fun w13 ho => ?_
    refine hJ _ _ fun _ => ?_
    exact cont w13 N5 zk zc ho ((((hle.trans hle2).trans hle3).trans hle4).trans hle5) hz
end Go.Proofs.YtiklhhdohckfiaaGreatDoor
namespace Go.Proofs.YtiklhhdohckfiaaGreatDoor
set_option linter.unusedVariables false
set_option linter.unusedSimpArgs false
set_option linter.defProp false
set_option linter.unusedVariables false
namespace Eng
open Go.RowKit
def Mem.up (M : Mem) (w w' : World) (h : M.has w') : Mem := ⟨fun b => M.A b ∨ (w.heap.size ≤ b ∧ b < w'.heap.size), w', fun b hb => hb.elim (fun h' => Mem.bd h h') (fun h' => h'.2)⟩
section
variable {M : Mem} {w w' : World} {L : List Ent}
theorem gives_up (hM : M.has w) (ho : OwnS M.A w w' L) (h : M.has w') : Gives M w w' (M.up w w' h) := by
  refine ⟨⟨fun b hb => .inl hb, h⟩, fun b _ => rfl, fun b hb => hb.elim .inl fun x => .inr x.1, ho.grew.os, ho.grew.tape, ho.grew.output, ho.grew.size, fun k hk => ?_⟩
  by_cases hA : M.A k
  · rw [hM k hA]; exact h k hA
  · exact ho.grew.block k hk hA
theorem sla_up (ho : OwnS M.A w w' L) (h : M.has w') {b : Nat} {cs : List Value} {T : TypeId} (hb : Ent.cells b cs T ∈ L) (sz n : Nat) (hn : cs.length = n * sz) : SlA (M.up w w' h).A (M.up w w' h).w (.slice (some ⟨b, 0, none⟩) n n) sz n cs := by
  obtain ⟨h1, h2⟩ := ho.all _ hb
  refine ⟨Sl.cells h1 sz n n hn, fun p l c e _ => ?_, fun a l c e => by injection e with _ e2 e3; omega⟩
  cases e
  rcases h2 b rfl with h3 | h3
  · exact .inl h3
  · exact .inr ⟨h3, (Ent.cells b cs T).lt h1 b rfl⟩
end
end Eng
end Go.Proofs.YtiklhhdohckfiaaGreatDoor
namespace Go.Proofs.YtiklhhdohckfiaaGreatDoor
set_option linter.unusedVariables false
set_option linter.unusedSimpArgs false
set_option linter.defProp false
set_option linter.unusedVariables false
set_option maxRecDepth 20000
open Eng

def S_foliantlaw38_two (w : World) (K : Ending → World → Prop) : Prop :=
 DoX Tryz.prog (mBuild 90 #[(1, (.string ⟨#[114]⟩)), (3, (.int .i64 1))]) w (pk K) fun t1 w =>
 DoX Tryz.prog (mBuild 90 #[(0, (.int .i64 2)), (1, (.string ⟨#[68]⟩)), (3, (.int .i64 1))]) w (pk K) fun t2 w =>
 DoX Tryz.prog (mBuildS 46 2 #[(0, t1), (1, t2)]) w (pk K) fun t3 w =>
 K (.returned t3) w
theorem S_foliantlaw38_two_eq (w : World) (K : Ending → World → Prop) : wpX Tryz.prog 4 [] [] none (bodyOf Tryz.f60) (topQ Tryz.prog [.tmp 0] K) (startX []) [] w = S_foliantlaw38_two w K := by kernel_rfl
theorem S_foliantlaw38_two_ok {w : World} {K : Ending → World → Prop} (h : S_foliantlaw38_two w K) : Calls Tryz.prog 60 #[] w K :=
  calls_of_wpX Tryz.func60 rfl rfl rfl rfl (Eq.mpr (S_foliantlaw38_two_eq w K) h)

def S_foliantlaw38_sample_0 (t0 : Value) (w : World) (K : Ending → World → Prop) : Prop :=
 RetX Tryz.prog [.cell t0 44] w K
def S_foliantlaw38_sample (w : World) (K : Ending → World → Prop) : Prop :=
 DoX Tryz.prog (mAlloc 44) w (pk K) fun t0 w =>
 DoX Tryz.prog (mBuildS 22 1 #[(0, (.string ⟨#[84, 121, 112, 101]⟩))]) w (pk K) fun t2 w =>
 CallX Tryz.prog 38 #[(.string ⟨#[67, 97, 116, 97, 108, 111, 103]⟩)] w (pk K) fun t3 w =>
 DoX Tryz.prog (mBuildS 23 1 #[(0, t3)]) w (pk K) fun t4 w =>
 DoX Tryz.prog (mBuild 25 #[(0, (.int .i64 7)), (4, t2), (5, t4)]) w (pk K) fun t5 w =>
 DoX Tryz.prog (mBuild 102 #[(0, (.int .i64 1)), (2, t5)]) w (pk K) fun t6 w =>
 DoX Tryz.prog (mAlloc 102) w (pk K) fun t1 w =>
 DoX Tryz.prog (mStore 102 t1 t6) w (pk K) fun _ w =>
 HeldX w (fun S1 w =>
 HDo Tryz.prog S1 (mLoad 102 t1) fun t7 =>
 (DoX Tryz.prog (mBuildS 42 1 #[(0, t7)]) w (pm1 (pm1 (pm1 (pk K)))) fun t8 w =>
 ((DoX Tryz.prog (mBuildS 22 1 #[(0, (.string ⟨#[82, 111, 111, 116]⟩))]) w (pm1 (pm1 (pm1 (pk K)))) fun t9 w =>
 S1 w ∧ (CallX Tryz.prog 40 #[(.int .i64 1), (.int .i64 0)] w (pm1 (pm1 (pm1 (pk K)))) fun t10 w =>
 S1 w ∧ (DoX Tryz.prog (mBuildS 23 1 #[(0, t10)]) w (pm1 (pm1 (pm1 (pk K)))) fun t11 w =>
 S1 w ∧ (HDo Tryz.prog (fun _ => True) (mBuild 25 #[(0, (.int .i64 7)), (4, t9), (5, t11)]) fun t12 =>
 HDo Tryz.prog (fun _ => True) (mBuild 44 #[(0, t8), (1, t12)]) fun t13 =>
 DoX Tryz.prog (mStore 44 t0 t13) w (pm1 (pm1 (pm1 (pk K)))) fun _ w =>
 (S_foliantlaw38_sample_0 t0 w K))))) ∧ (CallX Tryz.prog 40 #[(.int .i64 1), (.int .i64 0)] w (pm1 (pm1 (pm1 (pk K)))) fun t10_1 w =>
 S1 w ∧ ((DoX Tryz.prog (mBuildS 22 1 #[(0, (.string ⟨#[82, 111, 111, 116]⟩))]) w (pm1 (pm1 (pm1 (pk K)))) fun t9_1 w =>
 S1 w ∧ (DoX Tryz.prog (mBuildS 23 1 #[(0, t10_1)]) w (pm1 (pm1 (pm1 (pk K)))) fun t11_1 w =>
 S1 w ∧ (HDo Tryz.prog (fun _ => True) (mBuild 25 #[(0, (.int .i64 7)), (4, t9_1), (5, t11_1)]) fun t12_1 =>
 HDo Tryz.prog (fun _ => True) (mBuild 44 #[(0, t8), (1, t12_1)]) fun t13_1 =>
 DoX Tryz.prog (mStore 44 t0 t13_1) w (pm1 (pm1 (pm1 (pk K)))) fun _ w =>
 (S_foliantlaw38_sample_0 t0 w K)))) ∧ (DoX Tryz.prog (mBuildS 23 1 #[(0, t10_1)]) w (pm1 (pm1 (pm1 (pk K)))) fun t11_2 w =>
 S1 w ∧ (DoX Tryz.prog (mBuildS 22 1 #[(0, (.string ⟨#[82, 111, 111, 116]⟩))]) w (pm1 (pm1 (pm1 (pk K)))) fun t9_2 w =>
 S1 w ∧ (HDo Tryz.prog (fun _ => True) (mBuild 25 #[(0, (.int .i64 7)), (4, t9_2), (5, t11_2)]) fun t12_2 =>
 HDo Tryz.prog (fun _ => True) (mBuild 44 #[(0, t8), (1, t12_2)]) fun t13_2 =>
 DoX Tryz.prog (mStore 44 t0 t13_2) w (pm1 (pm1 (pm1 (pk K)))) fun _ w =>
 (S_foliantlaw38_sample_0 t0 w K)))))))) ∧ (DoX Tryz.prog (mBuildS 22 1 #[(0, (.string ⟨#[82, 111, 111, 116]⟩))]) w (pm1 (pm1 (pm1 (pk K)))) fun t9_3 w =>
 S1 w ∧ ((DoX Tryz.prog (mBuildS 42 1 #[(0, t7)]) w (pm1 (pm1 (pm1 (pk K)))) fun t8_1 w =>
 (CallX Tryz.prog 40 #[(.int .i64 1), (.int .i64 0)] w (pm1 (pm1 (pm1 (pk K)))) fun t10_2 w =>
 S1 w ∧ (DoX Tryz.prog (mBuildS 23 1 #[(0, t10_2)]) w (pm1 (pm1 (pm1 (pk K)))) fun t11_3 w =>
 S1 w ∧ (HDo Tryz.prog (fun _ => True) (mBuild 25 #[(0, (.int .i64 7)), (4, t9_3), (5, t11_3)]) fun t12_3 =>
 HDo Tryz.prog (fun _ => True) (mBuild 44 #[(0, t8_1), (1, t12_3)]) fun t13_3 =>
 DoX Tryz.prog (mStore 44 t0 t13_3) w (pm1 (pm1 (pm1 (pk K)))) fun _ w =>
 (S_foliantlaw38_sample_0 t0 w K))))) ∧ (CallX Tryz.prog 40 #[(.int .i64 1), (.int .i64 0)] w (pm1 (pm1 (pm1 (pk K)))) fun t10_3 w =>
 S1 w ∧ ((DoX Tryz.prog (mBuildS 42 1 #[(0, t7)]) w (pm1 (pm1 (pm1 (pk K)))) fun t8_2 w =>
 (DoX Tryz.prog (mBuildS 23 1 #[(0, t10_3)]) w (pm1 (pm1 (pm1 (pk K)))) fun t11_4 w =>
 S1 w ∧ (HDo Tryz.prog (fun _ => True) (mBuild 25 #[(0, (.int .i64 7)), (4, t9_3), (5, t11_4)]) fun t12_4 =>
 HDo Tryz.prog (fun _ => True) (mBuild 44 #[(0, t8_2), (1, t12_4)]) fun t13_4 =>
 DoX Tryz.prog (mStore 44 t0 t13_4) w (pm1 (pm1 (pm1 (pk K)))) fun _ w =>
 (S_foliantlaw38_sample_0 t0 w K)))) ∧ (DoX Tryz.prog (mBuildS 23 1 #[(0, t10_3)]) w (pm1 (pm1 (pm1 (pk K)))) fun t11_5 w =>
 S1 w ∧ (HDo Tryz.prog (fun _ => True) (mBuild 25 #[(0, (.int .i64 7)), (4, t9_3), (5, t11_5)]) fun t12_5 =>
 DoX Tryz.prog (mBuildS 42 1 #[(0, t7)]) w (pm1 (pm1 (pm1 (pk K)))) fun t8_3 w =>
 (HDo Tryz.prog (fun _ => True) (mBuild 44 #[(0, t8_3), (1, t12_5)]) fun t13_5 =>
 DoX Tryz.prog (mStore 44 t0 t13_5) w (pm1 (pm1 (pm1 (pk K)))) fun _ w =>
 (S_foliantlaw38_sample_0 t0 w K)))))))) ∧ (CallX Tryz.prog 40 #[(.int .i64 1), (.int .i64 0)] w (pm1 (pm1 (pm1 (pk K)))) fun t10_4 w =>
 S1 w ∧ ((DoX Tryz.prog (mBuildS 42 1 #[(0, t7)]) w (pm1 (pm1 (pm1 (pk K)))) fun t8_4 w =>
 ((DoX Tryz.prog (mBuildS 22 1 #[(0, (.string ⟨#[82, 111, 111, 116]⟩))]) w (pm1 (pm1 (pm1 (pk K)))) fun t9_4 w =>
 S1 w ∧ (DoX Tryz.prog (mBuildS 23 1 #[(0, t10_4)]) w (pm1 (pm1 (pm1 (pk K)))) fun t11_6 w =>
 S1 w ∧ (HDo Tryz.prog (fun _ => True) (mBuild 25 #[(0, (.int .i64 7)), (4, t9_4), (5, t11_6)]) fun t12_6 =>
 HDo Tryz.prog (fun _ => True) (mBuild 44 #[(0, t8_4), (1, t12_6)]) fun t13_6 =>
 DoX Tryz.prog (mStore 44 t0 t13_6) w (pm1 (pm1 (pm1 (pk K)))) fun _ w =>
 (S_foliantlaw38_sample_0 t0 w K)))) ∧ (DoX Tryz.prog (mBuildS 23 1 #[(0, t10_4)]) w (pm1 (pm1 (pm1 (pk K)))) fun t11_7 w =>
 S1 w ∧ (DoX Tryz.prog (mBuildS 22 1 #[(0, (.string ⟨#[82, 111, 111, 116]⟩))]) w (pm1 (pm1 (pm1 (pk K)))) fun t9_5 w =>
 S1 w ∧ (HDo Tryz.prog (fun _ => True) (mBuild 25 #[(0, (.int .i64 7)), (4, t9_5), (5, t11_7)]) fun t12_7 =>
 HDo Tryz.prog (fun _ => True) (mBuild 44 #[(0, t8_4), (1, t12_7)]) fun t13_7 =>
 DoX Tryz.prog (mStore 44 t0 t13_7) w (pm1 (pm1 (pm1 (pk K)))) fun _ w =>
 (S_foliantlaw38_sample_0 t0 w K)))))) ∧ (DoX Tryz.prog (mBuildS 22 1 #[(0, (.string ⟨#[82, 111, 111, 116]⟩))]) w (pm1 (pm1 (pm1 (pk K)))) fun t9_6 w =>
 S1 w ∧ ((DoX Tryz.prog (mBuildS 42 1 #[(0, t7)]) w (pm1 (pm1 (pm1 (pk K)))) fun t8_5 w =>
 (DoX Tryz.prog (mBuildS 23 1 #[(0, t10_4)]) w (pm1 (pm1 (pm1 (pk K)))) fun t11_8 w =>
 S1 w ∧ (HDo Tryz.prog (fun _ => True) (mBuild 25 #[(0, (.int .i64 7)), (4, t9_6), (5, t11_8)]) fun t12_8 =>
 HDo Tryz.prog (fun _ => True) (mBuild 44 #[(0, t8_5), (1, t12_8)]) fun t13_8 =>
 DoX Tryz.prog (mStore 44 t0 t13_8) w (pm1 (pm1 (pm1 (pk K)))) fun _ w =>
 (S_foliantlaw38_sample_0 t0 w K)))) ∧ (DoX Tryz.prog (mBuildS 23 1 #[(0, t10_4)]) w (pm1 (pm1 (pm1 (pk K)))) fun t11_9 w =>
 S1 w ∧ (HDo Tryz.prog (fun _ => True) (mBuild 25 #[(0, (.int .i64 7)), (4, t9_6), (5, t11_9)]) fun t12_9 =>
 DoX Tryz.prog (mBuildS 42 1 #[(0, t7)]) w (pm1 (pm1 (pm1 (pk K)))) fun t8_6 w =>
 (HDo Tryz.prog (fun _ => True) (mBuild 44 #[(0, t8_6), (1, t12_9)]) fun t13_9 =>
 DoX Tryz.prog (mStore 44 t0 t13_9) w (pm1 (pm1 (pm1 (pk K)))) fun _ w =>
 (S_foliantlaw38_sample_0 t0 w K)))))) ∧ (DoX Tryz.prog (mBuildS 23 1 #[(0, t10_4)]) w (pm1 (pm1 (pm1 (pk K)))) fun t11_10 w =>
 S1 w ∧ ((DoX Tryz.prog (mBuildS 42 1 #[(0, t7)]) w (pm1 (pm1 (pm1 (pk K)))) fun t8_7 w =>
 (DoX Tryz.prog (mBuildS 22 1 #[(0, (.string ⟨#[82, 111, 111, 116]⟩))]) w (pm1 (pm1 (pm1 (pk K)))) fun t9_7 w =>
 S1 w ∧ (HDo Tryz.prog (fun _ => True) (mBuild 25 #[(0, (.int .i64 7)), (4, t9_7), (5, t11_10)]) fun t12_10 =>
 HDo Tryz.prog (fun _ => True) (mBuild 44 #[(0, t8_7), (1, t12_10)]) fun t13_10 =>
 DoX Tryz.prog (mStore 44 t0 t13_10) w (pm1 (pm1 (pm1 (pk K)))) fun _ w =>
 (S_foliantlaw38_sample_0 t0 w K)))) ∧ (DoX Tryz.prog (mBuildS 22 1 #[(0, (.string ⟨#[82, 111, 111, 116]⟩))]) w (pm1 (pm1 (pm1 (pk K)))) fun t9_8 w =>
 S1 w ∧ (HDo Tryz.prog (fun _ => True) (mBuild 25 #[(0, (.int .i64 7)), (4, t9_8), (5, t11_10)]) fun t12_11 =>
 DoX Tryz.prog (mBuildS 42 1 #[(0, t7)]) w (pm1 (pm1 (pm1 (pk K)))) fun t8_8 w =>
 (HDo Tryz.prog (fun _ => True) (mBuild 44 #[(0, t8_8), (1, t12_11)]) fun t13_11 =>
 DoX Tryz.prog (mStore 44 t0 t13_11) w (pm1 (pm1 (pm1 (pk K)))) fun _ w =>
 (S_foliantlaw38_sample_0 t0 w K)))))))))
theorem S_foliantlaw38_sample_eq (w : World) (K : Ending → World → Prop) : wpX Tryz.prog 14 [] [] none (bodyOf Tryz.f59) (topQ Tryz.prog [.cell 0 44] K) (startX []) [] w = S_foliantlaw38_sample w K := by kernel_rfl
theorem S_foliantlaw38_sample_ok {w : World} {K : Ending → World → Prop} (h : S_foliantlaw38_sample w K) : Calls Tryz.prog 59 #[] w K :=
  calls_of_wpX Tryz.func59 rfl rfl rfl rfl (Eq.mpr (S_foliantlaw38_sample_eq w K) h)

def S_foliantlaw38_lives (w : World) (K : Ending → World → Prop) : Prop :=
 CallX Tryz.prog 59 #[] w (pk K) fun t12 w =>
 CallX Tryz.prog 60 #[] w (pk K) fun t13 w =>
 CallX Tryz.prog 26 #[t12, t13] w (pk K) fun t14 w =>
 DoX Tryz.prog (mExt t14 0) w (pk K) fun t15 w =>
 DoX Tryz.prog (mExt t14 1) w (pk K) fun t16 w =>
 DoX Tryz.prog (mAlloc 44) w (pk K) fun t1 w =>
 DoX Tryz.prog (mStore 44 t1 t15) w (pk K) fun _ w =>
 DoX Tryz.prog (mLoad 44 t1) w (pk K) fun t18 w =>
 CallX Tryz.prog 22 #[t18] w (pk K) fun t19 w =>
 DoX Tryz.prog (mExt t19 0) w (pk K) fun t20 w =>
 DoX Tryz.prog (mExt t19 1) w (pk K) fun t21 w =>
 DoX Tryz.prog (mLoad 44 t1) w (pk K) fun t23 w =>
 CallX Tryz.prog 26 #[t23, (.slice none 0 0)] w (pk K) fun t24 w =>
 DoX Tryz.prog (mExt t24 0) w (pk K) fun t25 w =>
 DoX Tryz.prog (mExt t24 1) w (pk K) fun t26 w =>
 DoX Tryz.prog (mAlloc 44) w (pk K) fun t5 w =>
 DoX Tryz.prog (mStore 44 t5 t25) w (pk K) fun _ w =>
 CallX Tryz.prog 59 #[] w (pk K) fun t28 w =>
 CallX Tryz.prog 22 #[t28] w (pk K) fun t29 w =>
 DoX Tryz.prog (mExt t29 0) w (pk K) fun t30 w =>
 DoX Tryz.prog (mExt t29 1) w (pk K) fun t31 w =>
 DoX Tryz.prog (mBuild 44 #[]) w (pk K) fun t33 w =>
 CallX Tryz.prog 22 #[t33] w (pk K) fun t34 w =>
 DoX Tryz.prog (mExt t34 0) w (pk K) fun t35 w =>
 DoX Tryz.prog (mExt t34 1) w (pk K) fun t36 w =>
 HeldX w (fun S1 w =>
 CallX Tryz.prog 33 #[(.int .i64 1994)] w (pm1 (pm1 (pm1 (pm1 (pm1 (pm1 (pm1 (pm1 (pm1 (pm1 (pm1 (pm1 (pm1 (pm1 (pm1 (pm1 (pm1 (pm1 (pm1 (pm1 (pm1 (pm1 (pm1 (pm1 (pm1 (pm1 (pm1 (pm1 (pm1 (pm1 (pm1 (pm1 (pm1 (pm1 (pm1 (pm1 (pm1 (pm1 (pm1 (pm1 (pm1 (pm1 (pm1 (pm1 (pm1 (pm1 (pm1 (pm1 (pm1 (pm1 (pm1 (pm1 (pm1 (pm1 (pm1 (pm1 (pm1 (pm1 (pk K))))))))))))))))))))))))))))))))))))))))))))))))))))))))))) fun t37 w =>
 S1 w ∧ (HDo Tryz.prog S1 (mEq .eql 9 (.tmp 37) (.const (.string ⟨#[77, 67, 77, 88, 67, 73, 86]⟩)) t37 (.string ⟨#[77, 67, 77, 88, 67, 73, 86]⟩)) fun t38 =>
 GDo t38 true (fun E => CallX Tryz.prog 33 #[(.int .i64 4000)] w (pm1 (pm1 (pm1 (pm1 (pm1 (pm1 (pm1 (pm1 (pm1 (pm1 (pm1 (pm1 (pm1 (pm1 (pm1 (pm1 (pm1 (pm1 (pm1 (pm1 (pm1 (pm1 (pm1 (pm1 (pm1 (pm1 (pm1 (pm1 (pm1 (pm1 (pm1 (pm1 (pm1 (pm1 (pm1 (pm1 (pm1 (pm1 (pm1 (pm1 (pm1 (pm1 (pm1 (pm1 (pm1 (pm1 (pm1 (pm1 (pm1 (pm1 (pm1 (pm1 (pm1 (pm1 (pm1 (pm1 (pm1 (pm1 (pk K))))))))))))))))))))))))))))))))))))))))))))))))))))))))))) E) w fun t40 w =>
 S1 w ∧ (GQ t38 true (fun E => HDo Tryz.prog S1 (mEq .eql 9 (.tmp 40) (.const (.string ⟨#[]⟩)) t40 (.string ⟨#[]⟩)) E) fun t41 =>
 HDo Tryz.prog S1 (mPick t38 t41 (.bool false)) fun t42 =>
 GDo t42 true (fun E => CallX Tryz.prog 35 #[(.int .i64 28)] w (pm1 (pm1 (pm1 (pm1 (pm1 (pm1 (pm1 (pm1 (pm1 (pm1 (pm1 (pm1 (pm1 (pm1 (pm1 (pm1 (pm1 (pm1 (pm1 (pm1 (pm1 (pm1 (pm1 (pm1 (pm1 (pm1 (pm1 (pm1 (pm1 (pm1 (pm1 (pm1 (pm1 (pm1 (pm1 (pm1 (pm1 (pm1 (pm1 (pm1 (pm1 (pm1 (pm1 (pm1 (pm1 (pm1 (pm1 (pm1 (pm1 (pm1 (pm1 (pm1 (pm1 (pm1 (pm1 (pm1 (pm1 (pm1 (pk K))))))))))))))))))))))))))))))))))))))))))))))))))))))))))) E) w fun t44 w =>
 S1 w ∧ (GQ t42 true (fun E => HDo Tryz.prog S1 (mEq .eql 9 (.tmp 44) (.const (.string ⟨#[66, 66]⟩)) t44 (.string ⟨#[66, 66]⟩)) E) fun t45 =>
 HDo Tryz.prog S1 (mPick t42 t45 (.bool false)) fun t46 =>
 GDo t46 true (fun E => CallX Tryz.prog 35 #[(.int .i64 677)] w (pm1 (pm1 (pm1 (pm1 (pm1 (pm1 (pm1 (pm1 (pm1 (pm1 (pm1 (pm1 (pm1 (pm1 (pm1 (pm1 (pm1 (pm1 (pm1 (pm1 (pm1 (pm1 (pm1 (pm1 (pm1 (pm1 (pm1 (pm1 (pm1 (pm1 (pm1 (pm1 (pm1 (pm1 (pm1 (pm1 (pm1 (pm1 (pm1 (pm1 (pm1 (pm1 (pm1 (pm1 (pm1 (pm1 (pm1 (pm1 (pm1 (pm1 (pm1 (pm1 (pm1 (pm1 (pm1 (pm1 (pm1 (pm1 (pk K))))))))))))))))))))))))))))))))))))))))))))))))))))))))))) E) w fun t48 w =>
 S1 w ∧ (GQ t46 true (fun E => HDo Tryz.prog S1 (mEq .eql 9 (.tmp 48) (.const (.string ⟨#[]⟩)) t48 (.string ⟨#[]⟩)) E) fun t49 =>
 HDo Tryz.prog S1 (mPick t46 t49 (.bool false)) fun t50 =>
 GDo t50 true (fun E => CallX Tryz.prog 60 #[] w (pm1 (pm1 (pm1 (pm1 (pm1 (pm1 (pm1 (pm1 (pm1 (pm1 (pm1 (pm1 (pm1 (pm1 (pm1 (pm1 (pm1 (pm1 (pm1 (pm1 (pm1 (pm1 (pm1 (pm1 (pm1 (pm1 (pm1 (pm1 (pm1 (pm1 (pm1 (pm1 (pm1 (pm1 (pm1 (pm1 (pm1 (pm1 (pm1 (pm1 (pm1 (pm1 (pm1 (pm1 (pm1 (pm1 (pm1 (pm1 (pm1 (pm1 (pm1 (pm1 (pm1 (pm1 (pm1 (pm1 (pm1 (pm1 (pk K))))))))))))))))))))))))))))))))))))))))))))))))))))))))))) E) w fun t52 w =>
 S1 w ∧ (GDo t50 true (fun E => CallX Tryz.prog 31 #[t52, (.int .i64 1)] w (pm1 (pm1 (pm1 (pm1 (pm1 (pm1 (pm1 (pm1 (pm1 (pm1 (pm1 (pm1 (pm1 (pm1 (pm1 (pm1 (pm1 (pm1 (pm1 (pm1 (pm1 (pm1 (pm1 (pm1 (pm1 (pm1 (pm1 (pm1 (pm1 (pm1 (pm1 (pm1 (pm1 (pm1 (pm1 (pm1 (pm1 (pm1 (pm1 (pm1 (pm1 (pm1 (pm1 (pm1 (pm1 (pm1 (pm1 (pm1 (pm1 (pm1 (pm1 (pm1 (pm1 (pm1 (pm1 (pm1 (pm1 (pm1 (pk K))))))))))))))))))))))))))))))))))))))))))))))))))))))))))) E) w fun t53 w =>
 S1 w ∧ (GQ t50 true (fun E => HDo Tryz.prog S1 (mEq .eql 9 (.tmp 53) (.const (.string ⟨#[105, 105]⟩)) t53 (.string ⟨#[105, 105]⟩)) E) fun t54 =>
 HDo Tryz.prog S1 (mPick t50 t54 (.bool false)) fun t55 =>
 GDo t55 true (fun E => CallX Tryz.prog 60 #[] w (pm1 (pm1 (pm1 (pm1 (pm1 (pm1 (pm1 (pm1 (pm1 (pm1 (pm1 (pm1 (pm1 (pm1 (pm1 (pm1 (pm1 (pm1 (pm1 (pm1 (pm1 (pm1 (pm1 (pm1 (pm1 (pm1 (pm1 (pm1 (pm1 (pm1 (pm1 (pm1 (pm1 (pm1 (pm1 (pm1 (pm1 (pm1 (pm1 (pm1 (pm1 (pm1 (pm1 (pm1 (pm1 (pm1 (pm1 (pm1 (pm1 (pm1 (pm1 (pm1 (pm1 (pm1 (pm1 (pm1 (pm1 (pm1 (pk K))))))))))))))))))))))))))))))))))))))))))))))))))))))))))) E) w fun t57 w =>
 S1 w ∧ (GDo t55 true (fun E => CallX Tryz.prog 31 #[t57, (.int .i64 3)] w (pm1 (pm1 (pm1 (pm1 (pm1 (pm1 (pm1 (pm1 (pm1 (pm1 (pm1 (pm1 (pm1 (pm1 (pm1 (pm1 (pm1 (pm1 (pm1 (pm1 (pm1 (pm1 (pm1 (pm1 (pm1 (pm1 (pm1 (pm1 (pm1 (pm1 (pm1 (pm1 (pm1 (pm1 (pm1 (pm1 (pm1 (pm1 (pm1 (pm1 (pm1 (pm1 (pm1 (pm1 (pm1 (pm1 (pm1 (pm1 (pm1 (pm1 (pm1 (pm1 (pm1 (pm1 (pm1 (pm1 (pm1 (pm1 (pk K))))))))))))))))))))))))))))))))))))))))))))))))))))))))))) E) w fun t58 w =>
 S1 w ∧ (GQ t55 true (fun E => HDo Tryz.prog S1 (mEq .eql 9 (.tmp 58) (.const (.string ⟨#[50]⟩)) t58 (.string ⟨#[50]⟩)) E) fun t59 =>
 HDo Tryz.prog S1 (mPick t55 t59 (.bool false)) fun t60 =>
 GDo t60 true (fun E => CallX Tryz.prog 31 #[(.slice none 0 0), (.int .i64 0)] w (pm1 (pm1 (pm1 (pm1 (pm1 (pm1 (pm1 (pm1 (pm1 (pm1 (pm1 (pm1 (pm1 (pm1 (pm1 (pm1 (pm1 (pm1 (pm1 (pm1 (pm1 (pm1 (pm1 (pm1 (pm1 (pm1 (pm1 (pm1 (pm1 (pm1 (pm1 (pm1 (pm1 (pm1 (pm1 (pm1 (pm1 (pm1 (pm1 (pm1 (pm1 (pm1 (pm1 (pm1 (pm1 (pm1 (pm1 (pm1 (pm1 (pm1 (pm1 (pm1 (pm1 (pm1 (pm1 (pm1 (pm1 (pm1 (pk K))))))))))))))))))))))))))))))))))))))))))))))))))))))))))) E) w fun t62 w =>
 S1 w ∧ (GQ t60 true (fun E => HDo Tryz.prog S1 (mEq .eql 9 (.tmp 62) (.const (.string ⟨#[49]⟩)) t62 (.string ⟨#[49]⟩)) E) fun t63 =>
 HDo Tryz.prog S1 (mPick t60 t63 (.bool false)) fun t64 =>
 GDo t64 true (fun E => CallX Tryz.prog 60 #[] w (pm1 (pm1 (pm1 (pm1 (pm1 (pm1 (pm1 (pm1 (pm1 (pm1 (pm1 (pm1 (pm1 (pm1 (pm1 (pm1 (pm1 (pm1 (pm1 (pm1 (pm1 (pm1 (pm1 (pm1 (pm1 (pm1 (pm1 (pm1 (pm1 (pm1 (pm1 (pm1 (pm1 (pm1 (pm1 (pm1 (pm1 (pm1 (pm1 (pm1 (pm1 (pm1 (pm1 (pm1 (pm1 (pm1 (pm1 (pm1 (pm1 (pm1 (pm1 (pm1 (pm1 (pm1 (pm1 (pm1 (pm1 (pm1 (pk K))))))))))))))))))))))))))))))))))))))))))))))))))))))))))) E) w fun t66 w =>
 S1 w ∧ (GDo t64 true (fun E => CallX Tryz.prog 31 #[t66, (.int .i64 (-1))] w (pm1 (pm1 (pm1 (pm1 (pm1 (pm1 (pm1 (pm1 (pm1 (pm1 (pm1 (pm1 (pm1 (pm1 (pm1 (pm1 (pm1 (pm1 (pm1 (pm1 (pm1 (pm1 (pm1 (pm1 (pm1 (pm1 (pm1 (pm1 (pm1 (pm1 (pm1 (pm1 (pm1 (pm1 (pm1 (pm1 (pm1 (pm1 (pm1 (pm1 (pm1 (pm1 (pm1 (pm1 (pm1 (pm1 (pm1 (pm1 (pm1 (pm1 (pm1 (pm1 (pm1 (pm1 (pm1 (pm1 (pm1 (pm1 (pk K))))))))))))))))))))))))))))))))))))))))))))))))))))))))))) E) w fun t67 w =>
 S1 w ∧ (GQ t64 true (fun E => HDo Tryz.prog S1 (mEq .eql 9 (.tmp 67) (.const (.string ⟨#[]⟩)) t67 (.string ⟨#[]⟩)) E) fun t68 =>
 HDo Tryz.prog S1 (mPick t64 t68 (.bool false)) fun t69 =>
 GQ t69 true (fun E => E t16) fun t71 =>
 GQ t69 true (fun E => HDo Tryz.prog S1 (mEq .eql 28 (.tmp 71) (.const (.int .i64 0)) t71 (.int .i64 0)) E) fun t72 =>
 HDo Tryz.prog S1 (mPick t69 t72 (.bool false)) fun t73 =>
 GQ t73 true (fun E => E t21) fun t75 =>
 GQ t73 true (fun E => HDo Tryz.prog S1 (mEq .eql 28 (.tmp 75) (.const (.int .i64 0)) t75 (.int .i64 0)) E) fun t76 =>
 HDo Tryz.prog S1 (mPick t73 t76 (.bool false)) fun t77 =>
 GQ t77 true (fun E => E t20) fun t79 =>
 GDo t77 true (fun E => CallX Tryz.prog 60 #[] w (pm1 (pm1 (pm1 (pm1 (pm1 (pm1 (pm1 (pm1 (pm1 (pm1 (pm1 (pm1 (pm1 (pm1 (pm1 (pm1 (pm1 (pm1 (pm1 (pm1 (pm1 (pm1 (pm1 (pm1 (pm1 (pm1 (pm1 (pm1 (pm1 (pm1 (pm1 (pm1 (pm1 (pm1 (pm1 (pm1 (pm1 (pm1 (pm1 (pm1 (pm1 (pm1 (pm1 (pm1 (pm1 (pm1 (pm1 (pm1 (pm1 (pm1 (pm1 (pm1 (pm1 (pm1 (pm1 (pm1 (pm1 (pm1 (pk K))))))))))))))))))))))))))))))))))))))))))))))))))))))))))) E) w fun t80 w =>
 S1 w ∧ (GDo t77 true (fun E => CallX Tryz.prog 24 #[t79, t80] w (pm1 (pm1 (pm1 (pm1 (pm1 (pm1 (pm1 (pm1 (pm1 (pm1 (pm1 (pm1 (pm1 (pm1 (pm1 (pm1 (pm1 (pm1 (pm1 (pm1 (pm1 (pm1 (pm1 (pm1 (pm1 (pm1 (pm1 (pm1 (pm1 (pm1 (pm1 (pm1 (pm1 (pm1 (pm1 (pm1 (pm1 (pm1 (pm1 (pm1 (pm1 (pm1 (pm1 (pm1 (pm1 (pm1 (pm1 (pm1 (pm1 (pm1 (pm1 (pm1 (pm1 (pm1 (pm1 (pm1 (pm1 (pm1 (pk K))))))))))))))))))))))))))))))))))))))))))))))))))))))))))) E) w fun t81 w =>
 S1 w ∧ (HDo Tryz.prog S1 (mPick t77 t81 (.bool false)) fun t82 =>
 GQ t82 true (fun E => E t26) fun t84 =>
 GQ t82 true (fun E => HDo Tryz.prog S1 (mEq .eql 28 (.tmp 84) (.const (.int .i64 0)) t84 (.int .i64 0)) E) fun t85 =>
 HDo Tryz.prog S1 (mPick t82 t85 (.bool false)) fun t86 =>
 GQ t86 true (fun E => HDo Tryz.prog S1 (mLoad 44 t5) E) fun t88 =>
 GDo t86 true (fun E => CallX Tryz.prog 59 #[] w (pm1 (pm1 (pm1 (pm1 (pm1 (pm1 (pm1 (pm1 (pm1 (pm1 (pm1 (pm1 (pm1 (pm1 (pm1 (pm1 (pm1 (pm1 (pm1 (pm1 (pm1 (pm1 (pm1 (pm1 (pm1 (pm1 (pm1 (pm1 (pm1 (pm1 (pm1 (pm1 (pm1 (pm1 (pm1 (pm1 (pm1 (pm1 (pm1 (pm1 (pm1 (pm1 (pm1 (pm1 (pm1 (pm1 (pm1 (pm1 (pm1 (pm1 (pm1 (pm1 (pm1 (pm1 (pm1 (pm1 (pm1 (pm1 (pk K))))))))))))))))))))))))))))))))))))))))))))))))))))))))))) E) w fun t89 w =>
 S1 w ∧ (GDo t86 true (fun E => CallX Tryz.prog 28 #[t88, t89] w (pm1 (pm1 (pm1 (pm1 (pm1 (pm1 (pm1 (pm1 (pm1 (pm1 (pm1 (pm1 (pm1 (pm1 (pm1 (pm1 (pm1 (pm1 (pm1 (pm1 (pm1 (pm1 (pm1 (pm1 (pm1 (pm1 (pm1 (pm1 (pm1 (pm1 (pm1 (pm1 (pm1 (pm1 (pm1 (pm1 (pm1 (pm1 (pm1 (pm1 (pm1 (pm1 (pm1 (pm1 (pm1 (pm1 (pm1 (pm1 (pm1 (pm1 (pm1 (pm1 (pm1 (pm1 (pm1 (pm1 (pm1 (pm1 (pk K))))))))))))))))))))))))))))))))))))))))))))))))))))))))))) E) w fun t90 w =>
 S1 w ∧ (HDo Tryz.prog S1 (mPick t86 t90 (.bool false)) fun t91 =>
 GQ t91 true (fun E => E t31) fun t93 =>
 GQ t91 true (fun E => HDo Tryz.prog S1 (mEq .eql 28 (.tmp 93) (.const (.int .i64 0)) t93 (.int .i64 0)) E) fun t94 =>
 HDo Tryz.prog S1 (mPick t91 t94 (.bool false)) fun t95 =>
 GQ t95 true (fun E => E t30) fun t97 =>
 GQ t95 true (fun E => HDo Tryz.prog S1 (mB .len #[46] 3 #[false] #[t97]) E) fun t98 =>
 GQ t95 true (fun E => HDo Tryz.prog S1 (mEq .eql 3 (.tmp 98) (.const (.int .i64 0)) t98 (.int .i64 0)) E) fun t99 =>
 HDo Tryz.prog S1 (mPick t95 t99 (.bool false)) fun t100 =>
 GQ t100 true (fun E => E t36) fun t102 =>
 GQ t100 true (fun E => HDo Tryz.prog S1 (mEq .eql 28 (.tmp 102) (.const (.int .i64 10)) t102 (.int .i64 10)) E) fun t103 =>
 HDo Tryz.prog S1 (mPick t100 t103 (.bool false)) fun t104 =>
 GQ t104 true (fun E => HDo Tryz.prog S1 (mBuild 90 #[(1, (.string ⟨#[120]⟩)), (3, (.int .i64 1))]) E) fun t106 =>
 GDo t104 true (fun E => DoX Tryz.prog (mBuildS 46 1 #[(0, t106)]) w (pm1 (pm1 (pm1 (pm1 (pm1 (pm1 (pm1 (pm1 (pm1 (pm1 (pm1 (pm1 (pm1 (pm1 (pm1 (pm1 (pm1 (pm1 (pm1 (pm1 (pm1 (pm1 (pm1 (pm1 (pm1 (pm1 (pm1 (pm1 (pm1 (pm1 (pm1 (pm1 (pm1 (pm1 (pm1 (pm1 (pm1 (pm1 (pm1 (pm1 (pm1 (pm1 (pm1 (pm1 (pm1 (pm1 (pm1 (pm1 (pm1 (pm1 (pm1 (pm1 (pm1 (pm1 (pm1 (pm1 (pm1 (pm1 (pk K))))))))))))))))))))))))))))))))))))))))))))))))))))))))))) E) w fun t107 w =>
 S1 w ∧ (GDo t104 true (fun E => CallX Tryz.prog 29 #[t107] w (pm1 (pm1 (pm1 (pm1 (pm1 (pm1 (pm1 (pm1 (pm1 (pm1 (pm1 (pm1 (pm1 (pm1 (pm1 (pm1 (pm1 (pm1 (pm1 (pm1 (pm1 (pm1 (pm1 (pm1 (pm1 (pm1 (pm1 (pm1 (pm1 (pm1 (pm1 (pm1 (pm1 (pm1 (pm1 (pm1 (pm1 (pm1 (pm1 (pm1 (pm1 (pm1 (pm1 (pm1 (pm1 (pm1 (pm1 (pm1 (pm1 (pm1 (pm1 (pm1 (pm1 (pm1 (pm1 (pm1 (pm1 (pm1 (pk K))))))))))))))))))))))))))))))))))))))))))))))))))))))))))) E) w fun t108 w =>
 S1 w ∧ (GQ t104 true (fun E => HDo Tryz.prog S1 (mEq .eql 28 (.tmp 108) (.const (.int .i64 1)) t108 (.int .i64 1)) E) fun t109 =>
 HDo Tryz.prog S1 (mPick t104 t109 (.bool false)) fun t110 =>
 K (.returned t110) w))))))))))))))))))
theorem S_foliantlaw38_lives_eq (w : World) (K : Ending → World → Prop) : wpX Tryz.prog 111 [] [] none (bodyOf Tryz.f21) (topQ Tryz.prog [.tmp 0] K) (startX []) [] w = S_foliantlaw38_lives w K := by kernel_rfl
theorem S_foliantlaw38_lives_ok {w : World} {K : Ending → World → Prop} (h : S_foliantlaw38_lives w K) : Calls Tryz.prog 21 #[] w K :=
  calls_of_wpX Tryz.func21 rfl rfl rfl rfl (Eq.mpr (S_foliantlaw38_lives_eq w K) h)

def S_foliantlaw38_small (t0 : Value) (w : World) (K : Ending → World → Prop) : Prop :=
 DoX Tryz.prog (mBox 44 t0) w (pk K) fun t1 w =>
 DoX Tryz.prog (mFA 44 t1 0) w (pk K) fun t3 w =>
 DoX Tryz.prog (mLoad 42 t3) w (pk K) fun t4 w =>
 DoX Tryz.prog (mB .len #[42] 3 #[false] #[t4]) w (pk K) fun t5 w =>
 DoX Tryz.prog (mBin .leq 3 t5 (.int .i64 40)) w (pk K) fun t6 w =>
 GDo t6 true (fun E => DoX Tryz.prog (mLoad 44 t1) w (pk K) E) w fun t8 w =>
 GDo t6 true (fun E => CallX Tryz.prog 58 #[t8] w (pk K) E) w fun t9 w =>
 GDo t6 true (fun E => DoX Tryz.prog (mBin .leq 3 t9 (.int .i64 3000)) w (pk K) E) w fun t10 w =>
 DoX Tryz.prog (mPick t6 t10 (.bool false)) w (pk K) fun t11 w =>
 K (.returned t11) w
theorem S_foliantlaw38_small_eq (t0 : Value) (w : World) (K : Ending → World → Prop) : wpX Tryz.prog 12 [] [] none (bodyOf Tryz.f20) (topQ Tryz.prog [.tmp 2] K) (startX [t0]) [] w = S_foliantlaw38_small t0 w K := by kernel_rfl
theorem S_foliantlaw38_small_ok {t0 : Value} {w : World} {K : Ending → World → Prop} (h : S_foliantlaw38_small t0 w K) : Calls Tryz.prog 20 #[t0] w K :=
  calls_of_wpX Tryz.func20 rfl rfl rfl rfl (Eq.mpr (S_foliantlaw38_small_eq t0 w K) h)

def S_foliantlaw38_light_0 (t0 t3 t4 : Value) (w : World) (N1 : List Value → World → Prop) (K : Ending → World → Prop) : Prop :=
 DoX Tryz.prog (mB .len #[46] 3 #[false] #[t0]) w (pk K) fun t7 w =>
 DoX Tryz.prog (mBin .lss 3 t4 t7) w (pk K) fun t8 w =>
 IfX t8 (QuietX w (fun C2 =>
 QDo Tryz.prog C2 (mIA 46 t0 t4) fun t14 =>
 QDo Tryz.prog C2 (mFA 90 t14 2) fun t15 =>
 QDo Tryz.prog C2 (mLoad 9 t15) fun t16 =>
 QDo Tryz.prog C2 (mB .len #[9] 3 #[false] #[t16]) fun t17 =>
 QDo Tryz.prog C2 (mIA 46 t0 t4) fun t20 =>
 QDo Tryz.prog C2 (mFA 90 t20 1) fun t21 =>
 QDo Tryz.prog C2 (mLoad 9 t21) fun t22 =>
 QDo Tryz.prog C2 (mB .len #[9] 3 #[false] #[t22]) fun t23 =>
 QDo Tryz.prog C2 (mBin .add 3 t17 t23) fun t24 =>
 QDo Tryz.prog C2 (mBin .add 3 t3 t24) fun t25 =>
 ∀ w, C2 w →
 DoX Tryz.prog (mBin .add 3 t4 (.int .i64 1)) w (pk K) fun t10 w =>
 N1 [t25, t10] w)) (DoX Tryz.prog (mB .len #[46] 3 #[false] #[t0]) w (pk K) fun t27 w =>
 DoX Tryz.prog (mBin .leq 3 t27 (.int .i64 40)) w (pk K) fun t28 w =>
 GDo t28 true (fun E => E t3 w) w fun t30 w =>
 GDo t28 true (fun E => DoX Tryz.prog (mBin .leq 3 t30 (.int .i64 2000)) w (pk K) E) w fun t31 w =>
 DoX Tryz.prog (mPick t28 t31 (.bool false)) w (pk K) fun t32 w =>
 K (.returned t32) w)
def S_foliantlaw38_light (t0 : Value) (w : World) (K : Ending → World → Prop) : Prop :=
 LoopX [(.int .i64 0), (.int .i64 0)] w (fun vs1 w N1 => ∀ _ : Sg, S_foliantlaw38_light_0 t0 (vs1.getD 0 undef) (vs1.getD 1 undef) w N1 K)
theorem S_foliantlaw38_light_eq (t0 : Value) (w : World) (K : Ending → World → Prop) : wpX Tryz.prog 33 [] [(3, [3, 4])] none (bodyOf Tryz.f25) (topQ Tryz.prog [.tmp 2] K) (startX [t0]) [] w = S_foliantlaw38_light t0 w K := by kernel_rfl
theorem S_foliantlaw38_light_ok {t0 : Value} {w : World} {K : Ending → World → Prop} (h : S_foliantlaw38_light t0 w K) : Calls Tryz.prog 25 #[t0] w K :=
  calls_of_wpX Tryz.func25 rfl rfl rfl rfl (Eq.mpr (S_foliantlaw38_light_eq t0 w K) h)

def S_foliantlaw38_LabelReads (t0 : Value) (w : World) (K : Ending → World → Prop) : Prop :=
 DoX Tryz.prog (mBox 44 t0) w (pk K) fun t1 w =>
 DoX Tryz.prog (mLoad 44 t1) w (pk K) fun t7 w =>
 CallX Tryz.prog 20 #[t7] w (pk K) fun t8 w =>
 DoX Tryz.prog (mUn .not t8) w (pk K) fun t9 w =>
 IfX t9 (CallX Tryz.prog 21 #[] w (pk K) fun t10 w =>
 K (.returned t10) w) (DoX Tryz.prog (mLoad 44 t1) w (pk K) fun t12 w =>
 CallX Tryz.prog 22 #[t12] w (pk K) fun t13 w =>
 DoX Tryz.prog (mExt t13 0) w (pk K) fun t14 w =>
 DoX Tryz.prog (mExt t13 1) w (pk K) fun t15 w =>
 DoX Tryz.prog (mLoad 44 t1) w (pk K) fun t17 w =>
 CallX Tryz.prog 23 #[t17] w (pk K) fun t18 w =>
 DoX Tryz.prog (mExt t18 0) w (pk K) fun t19 w =>
 DoX Tryz.prog (mExt t18 1) w (pk K) fun t20 w =>
 CallX Tryz.prog 24 #[t14, t19] w (pk K) fun t23 w =>
 GDo t23 true (fun E => E t15 w) w fun t25 w =>
 GDo t23 true (fun E => E t20 w) w fun t26 w =>
 GDo t23 true (fun E => DoX Tryz.prog (mEq .eql 28 (.tmp 25) (.tmp 26) t25 t26) w (pk K) E) w fun t27 w =>
 DoX Tryz.prog (mPick t23 t27 (.bool false)) w (pk K) fun t28 w =>
 GDo t28 true (fun E => CallX Tryz.prog 21 #[] w (pk K) E) w fun t30 w =>
 DoX Tryz.prog (mPick t28 t30 (.bool false)) w (pk K) fun t31 w =>
 K (.returned t31) w)
theorem S_foliantlaw38_LabelReads_eq (t0 : Value) (w : World) (K : Ending → World → Prop) : wpX Tryz.prog 32 [] [] none (bodyOf Tryz.f6) (topQ Tryz.prog [.tmp 2] K) (startX [t0]) [] w = S_foliantlaw38_LabelReads t0 w K := by kernel_rfl
theorem S_foliantlaw38_LabelReads_ok {t0 : Value} {w : World} {K : Ending → World → Prop} (h : S_foliantlaw38_LabelReads t0 w K) : Calls Tryz.prog 6 #[t0] w K :=
  calls_of_wpX Tryz.func6 rfl rfl rfl rfl (Eq.mpr (S_foliantlaw38_LabelReads_eq t0 w K) h)

def S_foliantlaw38_LabelTells (t0 t1 t2 : Value) (w : World) (K : Ending → World → Prop) : Prop :=
 CallX Tryz.prog 25 #[t0] w (pk K) fun t8 w =>
 DoX Tryz.prog (mUn .not t8) w (pk K) fun t9 w =>
 IfX t9 (CallX Tryz.prog 21 #[] w (pk K) fun t10 w =>
 K (.returned t10) w) (CallX Tryz.prog 31 #[t0, t1] w (pk K) fun t13 w =>
 CallX Tryz.prog 32 #[t0, t1] w (pk K) fun t16 w =>
 DoX Tryz.prog (mEq .eql 9 (.tmp 13) (.tmp 16) t13 t16) w (pk K) fun t17 w =>
 GDo t17 true (fun E => E t2 w) w fun t19 w =>
 GDo t17 true (fun E => CallX Tryz.prog 33 #[t19] w (pk K) E) w fun t20 w =>
 GDo t17 true (fun E => E t2 w) w fun t21 w =>
 GDo t17 true (fun E => CallX Tryz.prog 34 #[t21] w (pk K) E) w fun t22 w =>
 GDo t17 true (fun E => DoX Tryz.prog (mEq .eql 9 (.tmp 20) (.tmp 22) t20 t22) w (pk K) E) w fun t23 w =>
 DoX Tryz.prog (mPick t17 t23 (.bool false)) w (pk K) fun t24 w =>
 GDo t24 true (fun E => E t2 w) w fun t26 w =>
 GDo t24 true (fun E => CallX Tryz.prog 35 #[t26] w (pk K) E) w fun t27 w =>
 GDo t24 true (fun E => E t2 w) w fun t28 w =>
 GDo t24 true (fun E => CallX Tryz.prog 36 #[t28] w (pk K) E) w fun t29 w =>
 GDo t24 true (fun E => DoX Tryz.prog (mEq .eql 9 (.tmp 27) (.tmp 29) t27 t29) w (pk K) E) w fun t30 w =>
 DoX Tryz.prog (mPick t24 t30 (.bool false)) w (pk K) fun t31 w =>
 GDo t31 true (fun E => CallX Tryz.prog 21 #[] w (pk K) E) w fun t33 w =>
 DoX Tryz.prog (mPick t31 t33 (.bool false)) w (pk K) fun t34 w =>
 K (.returned t34) w)
theorem S_foliantlaw38_LabelTells_eq (t0 t1 t2 : Value) (w : World) (K : Ending → World → Prop) : wpX Tryz.prog 35 [] [] none (bodyOf Tryz.f8) (topQ Tryz.prog [.tmp 6] K) (startX [t0, t1, t2]) [] w = S_foliantlaw38_LabelTells t0 t1 t2 w K := by kernel_rfl
theorem S_foliantlaw38_LabelTells_ok {t0 t1 t2 : Value} {w : World} {K : Ending → World → Prop} (h : S_foliantlaw38_LabelTells t0 t1 t2 w K) : Calls Tryz.prog 8 #[t0, t1, t2] w K :=
  calls_of_wpX Tryz.func8 rfl rfl rfl rfl (Eq.mpr (S_foliantlaw38_LabelTells_eq t0 t1 t2 w K) h)

def S_foliantlaw38_LabelApart (t0 t1 : Value) (w : World) (K : Ending → World → Prop) : Prop :=
 CallX Tryz.prog 33 #[t0] w (pk K) fun t10 w =>
 CallX Tryz.prog 33 #[t1] w (pk K) fun t12 w =>
 CallX Tryz.prog 35 #[t0] w (pk K) fun t14 w =>
 CallX Tryz.prog 35 #[t1] w (pk K) fun t16 w =>
 DoX Tryz.prog (mEq .eql 9 (.tmp 17) (.const (.string ⟨#[]⟩)) t10 (.string ⟨#[]⟩)) w (pk K) fun t18 w =>
 DoX Tryz.prog (mBin .lss 3 t0 (.int .i64 1)) w (pk K) fun t20 w =>
 GDo t20 false (fun E => E t0 w) w fun t22 w =>
 GDo t20 false (fun E => DoX Tryz.prog (mBin .gtr 3 t22 (.int .i64 3999)) w (pk K) E) w fun t23 w =>
 DoX Tryz.prog (mPick t20 (.bool true) t23) w (pk K) fun t24 w =>
 DoX Tryz.prog (mEq .neq 4 (.tmp 18) (.tmp 24) t18 t24) w (pk K) fun t25 w =>
 GDo t25 false (fun E => E t14 w) w fun t27 w =>
 GDo t25 false (fun E => DoX Tryz.prog (mEq .eql 9 (.tmp 27) (.const (.string ⟨#[]⟩)) t27 (.string ⟨#[]⟩)) w (pk K) E) w fun t28 w =>
 GDo t25 false (fun E => E t0 w) w fun t29 w =>
 GDo t25 false (fun E => DoX Tryz.prog (mBin .lss 3 t29 (.int .i64 1)) w (pk K) E) w fun t30 w =>
 GDo t25 false (fun E => E t30 w) w fun t31 w =>
 GDo t31 false (fun E => E t0 w) w fun t32 w =>
 GDo t31 false (fun E => DoX Tryz.prog (mBin .gtr 3 t32 (.int .i64 676)) w (pk K) E) w fun t33 w =>
 GDo t25 false (fun E => DoX Tryz.prog (mPick t31 (.bool true) t33) w (pk K) E) w fun t34 w =>
 GDo t25 false (fun E => DoX Tryz.prog (mEq .neq 4 (.tmp 28) (.tmp 34) t28 t34) w (pk K) E) w fun t35 w =>
 DoX Tryz.prog (mPick t25 (.bool true) t35) w (pk K) fun t36 w =>
 IfX t36 (K (.returned (.bool false)) w) (DoX Tryz.prog (mEq .eql 9 (.tmp 37) (.const (.string ⟨#[]⟩)) t10 (.string ⟨#[]⟩)) w (pk K) fun t38 w =>
 GDo t38 false (fun E => E t12 w) w fun t40 w =>
 GDo t38 false (fun E => DoX Tryz.prog (mEq .eql 9 (.tmp 40) (.const (.string ⟨#[]⟩)) t40 (.string ⟨#[]⟩)) w (pk K) E) w fun t41 w =>
 DoX Tryz.prog (mPick t38 (.bool true) t41) w (pk K) fun t42 w =>
 GDo t42 false (fun E => E t10 w) w fun t44 w =>
 GDo t42 false (fun E => E t12 w) w fun t45 w =>
 GDo t42 false (fun E => DoX Tryz.prog (mEq .eql 9 (.tmp 44) (.tmp 45) t44 t45) w (pk K) E) w fun t46 w =>
 GDo t42 false (fun E => E t0 w) w fun t47 w =>
 GDo t42 false (fun E => E t1 w) w fun t48 w =>
 GDo t42 false (fun E => DoX Tryz.prog (mEq .eql 3 (.tmp 47) (.tmp 48) t47 t48) w (pk K) E) w fun t49 w =>
 GDo t42 false (fun E => DoX Tryz.prog (mEq .eql 4 (.tmp 46) (.tmp 49) t46 t49) w (pk K) E) w fun t50 w =>
 DoX Tryz.prog (mPick t42 (.bool true) t50) w (pk K) fun t51 w =>
 GDo t51 true (fun E => E t14 w) w fun t53 w =>
 GDo t51 true (fun E => DoX Tryz.prog (mEq .eql 9 (.tmp 53) (.const (.string ⟨#[]⟩)) t53 (.string ⟨#[]⟩)) w (pk K) E) w fun t54 w =>
 GDo t51 true (fun E => E t54 w) w fun t55 w =>
 GDo t55 false (fun E => E t16 w) w fun t56 w =>
 GDo t55 false (fun E => DoX Tryz.prog (mEq .eql 9 (.tmp 56) (.const (.string ⟨#[]⟩)) t56 (.string ⟨#[]⟩)) w (pk K) E) w fun t57 w =>
 GDo t51 true (fun E => DoX Tryz.prog (mPick t55 (.bool true) t57) w (pk K) E) w fun t58 w =>
 GDo t51 true (fun E => E t58 w) w fun t59 w =>
 GDo t59 false (fun E => E t14 w) w fun t60 w =>
 GDo t59 false (fun E => E t16 w) w fun t61 w =>
 GDo t59 false (fun E => DoX Tryz.prog (mEq .eql 9 (.tmp 60) (.tmp 61) t60 t61) w (pk K) E) w fun t62 w =>
 GDo t59 false (fun E => E t0 w) w fun t63 w =>
 GDo t59 false (fun E => E t1 w) w fun t64 w =>
 GDo t59 false (fun E => DoX Tryz.prog (mEq .eql 3 (.tmp 63) (.tmp 64) t63 t64) w (pk K) E) w fun t65 w =>
 GDo t59 false (fun E => DoX Tryz.prog (mEq .eql 4 (.tmp 62) (.tmp 65) t62 t65) w (pk K) E) w fun t66 w =>
 GDo t51 true (fun E => DoX Tryz.prog (mPick t59 (.bool true) t66) w (pk K) E) w fun t67 w =>
 DoX Tryz.prog (mPick t51 t67 (.bool false)) w (pk K) fun t68 w =>
 GDo t68 true (fun E => E t10 w) w fun t70 w =>
 GDo t68 true (fun E => DoX Tryz.prog (mB .len #[9] 3 #[false] #[t70]) w (pk K) E) w fun t71 w =>
 GDo t68 true (fun E => DoX Tryz.prog (mBin .leq 3 t71 (.int .i64 15)) w (pk K) E) w fun t72 w =>
 DoX Tryz.prog (mPick t68 t72 (.bool false)) w (pk K) fun t73 w =>
 GDo t73 true (fun E => E t14 w) w fun t75 w =>
 GDo t73 true (fun E => DoX Tryz.prog (mB .len #[9] 3 #[false] #[t75]) w (pk K) E) w fun t76 w =>
 GDo t73 true (fun E => DoX Tryz.prog (mBin .leq 3 t76 (.int .i64 26)) w (pk K) E) w fun t77 w =>
 DoX Tryz.prog (mPick t73 t77 (.bool false)) w (pk K) fun t78 w =>
 GDo t78 true (fun E => CallX Tryz.prog 21 #[] w (pk K) E) w fun t80 w =>
 DoX Tryz.prog (mPick t78 t80 (.bool false)) w (pk K) fun t81 w =>
 K (.returned t81) w)
theorem S_foliantlaw38_LabelApart_eq (t0 t1 : Value) (w : World) (K : Ending → World → Prop) : wpX Tryz.prog 82 [] [] none (bodyOf Tryz.f10) (topQ Tryz.prog [.tmp 4] K) (startX [t0, t1]) [] w = S_foliantlaw38_LabelApart t0 t1 w K := by kernel_rfl
theorem S_foliantlaw38_LabelApart_ok {t0 t1 : Value} {w : World} {K : Ending → World → Prop} (h : S_foliantlaw38_LabelApart t0 t1 w K) : Calls Tryz.prog 10 #[t0, t1] w K :=
  calls_of_wpX Tryz.func10 rfl rfl rfl rfl (Eq.mpr (S_foliantlaw38_LabelApart_eq t0 t1 w K) h)

end Go.Proofs.YtiklhhdohckfiaaGreatDoor
namespace Go.Proofs.YtiklhhdohckfiaaGreatDoor
set_option linter.unusedVariables false
set_option linter.unusedSimpArgs false
set_option linter.defProp false
set_option maxRecDepth 20000
open Eng Go.RowKit

theorem eqLb : eqT Tryz.prog 90 [(0, false), (1, true), (2, true), (3, false)] := ⟨by kernel_rfl, by kernel_rfl, by kernel_rfl, by kernel_rfl⟩
theorem lb_beq (x y : Lx) : ([(0, false), (1, true), (2, true), (3, false)] : List (Nat × Bool)).all (fun p => cellEq (lbC x).toArray[p.1]? (lbC y).toArray[p.1]?) = decide (x = y) := by
  have e : ([(0, false), (1, true), (2, true), (3, false)] : List (Nat × Bool)).all (fun p => cellEq (lbC x).toArray[p.1]? (lbC y).toArray[p.1]?) = ((x.off == y.off) && (((⟨x.sty.toArray⟩ : ByteArray).toList == (⟨y.sty.toArray⟩ : ByteArray).toList) && (((⟨x.pre.toArray⟩ : ByteArray).toList == (⟨y.pre.toArray⟩ : ByteArray).toList) && ((x.first == y.first) && true)))) := rfl
  rw [e, str_beq, str_beq, Bool.eq_iff_iff]
  obtain ⟨a, b, c, d⟩ := x
  obtain ⟨a', b', c', d'⟩ := y
  simp
theorem r_lbne {w : World} {xo yo : Operand} {x y : Lx} : (mEq .neq 90 xo yo (lbV x) (lbV y)).run Tryz.prog w = .ok (.value (.bool (!decide (x = y)))) w := by
  rw [← lb_beq]; exact run_neq_agg eqLb rfl
theorem lsame_ret (va vb : Value) (la lb : List Lx) (M : Mem) (w : World) (hM : M.has w) (ha : SlA M.A M.w va 4 la.length (lbsC la)) (hb : SlA M.A M.w vb 4 lb.length (lbsC lb)) (hl : la.length ≤ 1099511627776) :
    Ret Tryz.prog 24 #[va, vb] w (fun r w' => r = .bool (decide (la = lb)) ∧ Below w.heap.size w w') := by
  refine ret_of fun K hK => S_foliantref38_Same_ok ?_
  unfold S_foliantref38_Same
  rw [sl_len Tryz.underlying46 (ha.now hM), sl_len Tryz.underlying46 (hb.now hM)]
  simp only [rs]
  by_cases hlen : (la.length : Int) ≠ (lb.length : Int)
  · simp only [decide_eq_true hlen, i_t]
    have hne : la ≠ lb := fun e => hlen (by rw [e])
    exact hK _ _ ⟨by rw [decide_eq_false hne], Below.refl _ _⟩
  have hle : la.length = lb.length := by omega
  simp only [decide_eq_false hlen, i_f]
  refine loop (fun vs w' => ∃ (i : Nat), vs = [.int .i64 i] ∧ i ≤ la.length ∧ la.take i = lb.take i ∧ Below w.heap.size w w') (fun vs _ => la.length - n0 vs) ⟨0, rfl, by omega, by simp, Below.refl _ _⟩ ?_
  rintro vs w2 ⟨i, rfl, hi, he, hbl⟩ _
  have hM2 := Mem.has_below hM hbl
  simp only [S_foliantref38_Same_0, gd]
  rw [sl_len Tryz.underlying46 (ha.now hM2)]
  simp only [rs]
  by_cases hlt : (i : Int) < (la.length : Int)
  · have h1 : i < la.length := by omega
    have h2 : i < lb.length := by omega
    have hlt2 : (i : Int) < (lb.length : Int) := by omega
    simp only [hlt, decide_true, rs, sl_len Tryz.underlying46 (hb.now hM2), hlt2]
    obtain ⟨ba, oa, hra⟩ := lab_at ha h1
    obtain ⟨bb, ob, hrb⟩ := lab_at hb h2
    have hMW : ∀ W, Below w2.heap.size w2 W → M.has W := fun W hW => Mem.has_below hM2 hW
    refine quiet ?_
    refine q_at _ (fun W hW => (hra W (hMW W hW)).1) ?_
    refine q_at (lbV la[i]) (fun W hW => run_lb (hra W (hMW W hW)).2) ?_
    refine q_at _ (fun W hW => (hrb W (hMW W hW)).1) ?_
    refine q_at (lbV lb[i]) (fun W hW => run_lb (hrb W (hMW W hW)).2) ?_
    refine q_do _ (fun _ => r_lbne) ?_
    intro w3 hw
    have hbl3 : Below w.heap.size w w3 := hbl.trans (hw.mono hbl.size)
    by_cases hq : la[i] = lb[i]
    · simp only [hq, decide_true, Bool.not_true, i_f, rs]
      rw [wrap64_id (by omega) (by omega)]
      refine nextX ⟨i + 1, rfl, by omega, ?_, hbl3⟩ (by simp [n0, intOf]; omega)
      rw [List.take_succ_eq_append_getElem h1, List.take_succ_eq_append_getElem h2, he, hq]
    · simp only [hq, decide_false, Bool.not_false, i_t]
      have hne : la ≠ lb := fun e => hq (by subst e; rfl)
      exact hK _ _ ⟨by rw [decide_eq_false hne], hbl3⟩
  · simp only [hlt, decide_false, rs, g_un]
    have hab : la = lb := by
      rw [List.take_of_length_le (by omega), List.take_of_length_le (by omega)] at he; exact he
    exact hK _ _ ⟨by rw [decide_eq_true hab], hbl⟩
def Lb.two : List Lx := [⟨0, [114], [], 1⟩, ⟨2, [68], [], 1⟩]
theorem two_ret (M : Mem) (w : World) (hM : M.has w) : RetM Tryz.prog 60 #[] M w (fun r N => SlA N.A N.w r 4 Lb.two.length (lbsC Lb.two)) := by
  refine retM_of hM fun K hK => S_foliantlaw38_two_ok ?_
  unfold S_foliantlaw38_two
  have m1 : ∀ {PK : List PanicEntry → World → Prop} {K : Value → World → Prop}, DoX Tryz.prog (mBuild 90 #[(1, (.string ⟨#[114]⟩)), (3, (.int .i64 1))]) w PK K = K (lbV ⟨0, [114], [], 1⟩) w := do_eq (by kernel_rfl)
  have m2 : ∀ {PK : List PanicEntry → World → Prop} {K : Value → World → Prop}, DoX Tryz.prog (mBuild 90 #[(0, (.int .i64 2)), (1, (.string ⟨#[68]⟩)), (3, (.int .i64 1))]) w PK K = K (lbV ⟨2, [68], [], 1⟩) w := do_eq (by kernel_rfl)
  rw [m1, m2]
  refine o_new (fun b => .slice (some ⟨b, 0, none⟩) 2 2) (lbsC Lb.two) 90 (fun _ => by kernel_rfl) (OwnS.memS hM) fun b w1 ho => ?_
  obtain ⟨N, hle, hrow, ho⟩ := OwnS.freezeU (L := [.mem M]) (ho.toU 4 2 2 rfl (by omega) (by omega)) 0 rfl
  exact hK _ _ N _ 0 ho rfl hle hrow
def Lb.catK : List UInt8 := [67, 97, 116, 97, 108, 111, 103]
def Lb.catO : Ob := ob1 5 0 0 Lb.catK
def Lb.rootO : Ob := .mk 7 0 0 [] [Dk.typeK] [Lb.catO]
def Lb.itS : It := ⟨1, 0, Lb.rootO⟩
def Lb.refO : Ob := ob1 8 1 0 []
def Lb.trS : Ob := .mk 7 0 0 [] [Dk.rootK] [Lb.refO]
def Lb.docS : Dc := ⟨[Lb.itS], Lb.trS⟩
abbrev slc1 (b : Nat) : Value := .slice (some ⟨b, 0, none⟩) 1 1
def Sx (M : Mem) (w : World) (b0 b1 bK bO : Nat) (W : World) (a b c : Option Nat) : Prop :=
  ∃ L, OwnS M.A w W (L ++ [itE b1 Lb.itS (slc1 bK) (slc1 bO), dcE b0 Dk.dc0 nilS nilS nilS, obE bO Lb.catO nilS nilS, .cells bK [.string ⟨Dk.typeK.toArray⟩] 9, .mem M]) ∧
    (∀ x, a = some x → itE x Lb.itS (slc1 bK) (slc1 bO) ∈ L) ∧ (∀ x, b = some x → Ent.cells x [.string ⟨Dk.rootK.toArray⟩] 9 ∈ L) ∧ (∀ x, c = some x → obE x Lb.refO nilS nilS ∈ L)
def SxS (M : Mem) (w : World) (b0 b1 bK bO : Nat) : World → Prop := fun W => ∃ L, OwnS M.A w W (L ++ [itE b1 Lb.itS (slc1 bK) (slc1 bO), dcE b0 Dk.dc0 nilS nilS nilS, obE bO Lb.catO nilS nilS, .cells bK [.string ⟨Dk.typeK.toArray⟩] 9, .mem M])
section
variable {M : Mem} {w W : World} {b0 b1 bK bO : Nat} {a b c : Option Nat} {PK : List PanicEntry → World → Prop} {K : Value → World → Prop}
theorem sx_s (h : Sx M w b0 b1 bK bO W a b c) : SxS M w b0 b1 bK bO W := by obtain ⟨L, h, _⟩ := h; exact ⟨L, h⟩
theorem sxA (h : Sx M w b0 b1 bK bO W none b c) (k : ∀ x W', Sx M w b0 b1 bK bO W' (some x) b c → K (slc1 x) W') : DoX Tryz.prog (mBuildS 42 1 #[(0, itV Lb.itS (slc1 bK) (slc1 bO))]) W PK K := by
  obtain ⟨L, ho, h1, h2, h3⟩ := h
  refine o_its1 Lb.itS rfl rfl ho fun x W' ho => k x W' ⟨itE x Lb.itS (slc1 bK) (slc1 bO) :: L, ho, fun y hy => ?_, fun y hy => List.mem_cons_of_mem _ (h2 y hy), fun y hy => List.mem_cons_of_mem _ (h3 y hy)⟩
  cases hy; exact List.mem_cons_self ..
theorem sxB (h : Sx M w b0 b1 bK bO W a none c) (k : ∀ x W', Sx M w b0 b1 bK bO W' a (some x) c → K (slc1 x) W') : DoX Tryz.prog (mBuildS 22 1 #[(0, (.string ⟨#[82, 111, 111, 116]⟩))]) W PK K := by
  obtain ⟨L, ho, h1, h2, h3⟩ := h
  refine o_strb1 Dk.rootK ho fun x W' ho => k x W' ⟨Ent.cells x [.string ⟨Dk.rootK.toArray⟩] 9 :: L, ho, fun y hy => List.mem_cons_of_mem _ (h1 y hy), fun y hy => ?_, fun y hy => List.mem_cons_of_mem _ (h3 y hy)⟩
  cases hy; exact List.mem_cons_self ..
theorem sxC (h : Sx M w b0 b1 bK bO W a b none) (k : ∀ x W', Sx M w b0 b1 bK bO W' a b (some x) → K (slc1 x) W') : DoX Tryz.prog (mBuildS 23 1 #[(0, obV Lb.refO nilS nilS)]) W PK K := by
  obtain ⟨L, ho, h1, h2, h3⟩ := h
  refine o_obs1 Lb.refO rfl rfl ho fun x W' ho => k x W' ⟨obE x Lb.refO nilS nilS :: L, ho, fun y hy => List.mem_cons_of_mem _ (h1 y hy), fun y hy => List.mem_cons_of_mem _ (h2 y hy), fun y hy => ?_⟩
  cases hy; exact List.mem_cons_self ..
theorem sxR (h : Sx M w b0 b1 bK bO W a b c) (k : ∀ W', Sx M w b0 b1 bK bO W' a b c → K (obV Lb.refO nilS nilS) W') : CallX Tryz.prog 40 #[(.int .i64 1), (.int .i64 0)] W PK K := by
  obtain ⟨L, ho, h1, h2, h3⟩ := h
  refine c_below ho (R := fun v => v = obV Lb.refO nilS nilS) (rref05_ret 1 0 W) ?_
  rintro _ W' rfl ho
  exact k W' ⟨L, ho, h1, h2, h3⟩
theorem sxT {x y : Nat} {S : World → Prop} {K : Value → Prop} (k : K (obV Lb.trS (slc1 x) (slc1 y))) : HDo Tryz.prog S (mBuild 25 #[(0, (.int .i64 7)), (4, slc1 x), (5, slc1 y)]) K := ⟨_, fun _ _ => by kernel_rfl, k⟩
theorem sxD {x y z : Nat} {S : World → Prop} {K : Value → Prop} (k : K (dcV Lb.docS (slc1 x) (slc1 y) (slc1 z))) : HDo Tryz.prog S (mBuild 44 #[(0, slc1 x), (1, obV Lb.trS (slc1 y) (slc1 z))]) K := ⟨_, fun _ _ => by kernel_rfl, k⟩
end
theorem sample_ret (M : Mem) (w : World) (hM : M.has w) : RetM Tryz.prog 59 #[] M w (fun r N => DV N.A N.w r Lb.docS) := by
  refine ret_of fun K hK => S_foliantlaw38_sample_ok ?_
  unfold S_foliantlaw38_sample
  refine o_dca (OwnS.memS hM) fun b0 w1 ho => ?_
  refine o_strb1 Dk.typeK ho fun bK w2 ho => ?_
  refine c_below ho (R := fun v => v = obV Lb.catO nilS nilS) (rkey05_ret Lb.catK w2) ?_
  rintro _ w3 rfl ho
  refine o_obs1 Lb.catO rfl rfl ho fun bO w4 ho => ?_
  have m1 : ∀ {PK : List PanicEntry → World → Prop} {K : Value → World → Prop}, DoX Tryz.prog (mBuild 25 #[(0, (.int .i64 7)), (4, slc1 bK), (5, slc1 bO)]) w4 PK K = K (obV Lb.rootO (slc1 bK) (slc1 bO)) w4 := do_eq (by kernel_rfl)
  have m2 : ∀ {PK : List PanicEntry → World → Prop} {K : Value → World → Prop}, DoX Tryz.prog (mBuild 102 #[(0, (.int .i64 1)), (2, obV Lb.rootO (slc1 bK) (slc1 bO))]) w4 PK K = K (itV Lb.itS (slc1 bK) (slc1 bO)) w4 := do_eq (by kernel_rfl)
  rw [m1, m2]
  refine o_ita ho fun b1 w5 ho => ?_
  refine it_put (i' := Lb.itS) (vk' := slc1 bK) (vc' := slc1 bO) 0 rfl rfl ho rfl fun w6 ho => ?_
  have ho : OwnS M.A w w6 [itE b1 Lb.itS (slc1 bK) (slc1 bO), obE bO Lb.catO nilS nilS, .cells bK [.string ⟨Dk.typeK.toArray⟩] 9, dcE b0 Dk.dc0 nilS nilS nilS, .mem M] := ho
  have ho : OwnS M.A w w6 [itE b1 Lb.itS (slc1 bK) (slc1 bO), dcE b0 Dk.dc0 nilS nilS nilS, obE bO Lb.catO nilS nilS, .cells bK [.string ⟨Dk.typeK.toArray⟩] 9, .mem M] :=
    ho.perm (List.Perm.cons _ (List.perm_middle (l₁ := [obE bO Lb.catO nilS nilS, .cells bK [.string ⟨Dk.typeK.toArray⟩] 9]) (l₂ := [.mem M])))
  have hst : Sx M w b0 b1 bK bO w6.drew none none none := ⟨[], ho.drew, (fun _ h => by cases h), (fun _ h => by cases h), (fun _ h => by cases h)⟩
  refine ⟨SxS M w b0 b1 bK bO, sx_s hst, ?_⟩
  refine ⟨itV Lb.itS (slc1 bK) (slc1 bO), fun W' ⟨L, h⟩ => run_load_at (AtV.agg aggIt rfl fun j v hj => by simpa using cells_cell (h.mem (e := itE b1 Lb.itS (slc1 bK) (slc1 bO)) (by simp)) hj), ?_⟩
  have fin : ∀ (W : World) (x y z : Nat), Sx M w b0 b1 bK bO W (some x) (some y) (some z) → ∀ (PK : List PanicEntry → World → Prop), DoX Tryz.prog (mStore 44 (.pointer (some ⟨b0, 0, none⟩)) (dcV Lb.docS (slc1 x) (slc1 y) (slc1 z))) W PK fun _ W => S_foliantlaw38_sample_0 (.pointer (some ⟨b0, 0, none⟩)) W K := by
    rintro W x y z ⟨L, ho, h1, h2, h3⟩ PK
    have ho := ho.perm (L' := dcE b0 Dk.dc0 nilS nilS nilS :: (L ++ [itE b1 Lb.itS (slc1 bK) (slc1 bO), obE bO Lb.catO nilS nilS, .cells bK [.string ⟨Dk.typeK.toArray⟩] 9, .mem M])) (by
      rw [show L ++ [itE b1 Lb.itS (slc1 bK) (slc1 bO), dcE b0 Dk.dc0 nilS nilS nilS, obE bO Lb.catO nilS nilS, .cells bK [.string ⟨Dk.typeK.toArray⟩] 9, .mem M] = (L ++ [itE b1 Lb.itS (slc1 bK) (slc1 bO)]) ++ dcE b0 Dk.dc0 nilS nilS nilS :: [obE bO Lb.catO nilS nilS, .cells bK [.string ⟨Dk.typeK.toArray⟩] 9, .mem M] by simp]
      refine List.perm_middle.trans ?_
      simp)
    refine dc_put (d' := Lb.docS) (vi' := slc1 x) (vk' := slc1 y) (vc' := slc1 z) 0 rfl rfl rfl ho rfl fun W' ho => ?_
    unfold S_foliantlaw38_sample_0
    have hm : M.has W' := ho.mem (e := .mem M) (by simp)
    refine ret_dc 0 ho rfl (hK _ _ ⟨M.up w W' hm, gives_up hM ho hm, ?_⟩)
    have sK := sla_up ho hm (b := bK) (cs := [.string ⟨Dk.typeK.toArray⟩]) (T := 9) (by simp) 1 1 rfl
    have sO := sla_up ho hm (b := bO) (cs := obC Lb.catO nilS nilS) (T := 25) (List.mem_cons_of_mem _ (List.mem_append_right _ (by simp [obE]))) 6 1 rfl
    have sx := sla_up ho hm (b := x) (cs := itC Lb.itS (slc1 bK) (slc1 bO)) (T := 102) (List.mem_cons_of_mem _ (List.mem_append_left _ (h1 x rfl))) 8 1 rfl
    have sy := sla_up ho hm (b := y) (cs := [.string ⟨Dk.rootK.toArray⟩]) (T := 9) (List.mem_cons_of_mem _ (List.mem_append_left _ (h2 y rfl))) 1 1 rfl
    have sz := sla_up ho hm (b := z) (cs := obC Lb.refO nilS nilS) (T := 25) (List.mem_cons_of_mem _ (List.mem_append_left _ (h3 z rfl))) 6 1 rfl
    have o1 : OV (M.up w W' hm).A (M.up w W' hm).w (obV Lb.rootO (slc1 bK) (slc1 bO)) Lb.rootO := ov_arr1 sK sO (by have := ovs_cons (A := (M.up w W' hm).A) (w := (M.up w W' hm).w) (ov_plain 5 0 0 Lb.catK) OVs.nil; rwa [List.append_nil] at this)
    have o2 : OV (M.up w W' hm).A (M.up w W' hm).w (obV Lb.trS (slc1 y) (slc1 z)) Lb.trS := ov_arr1 sy sz (by have := ovs_cons (A := (M.up w W' hm).A) (w := (M.up w W' hm).w) (ov_plain 8 1 0 []) OVs.nil; rwa [List.append_nil] at this)
    exact ⟨slc1 x, slc1 y, slc1 z, itC Lb.itS (slc1 bK) (slc1 bO), rfl, sx, ivs_1 o1, o2⟩
  clear hK ho
  repeat' (first
    | exact sx_s (by assumption) | exact fin _ _ _ _ (by assumption) _
    | refine And.intro ?_ ?_
    | refine sxA (by assumption) fun _ _ _ => ?_
    | refine sxB (by assumption) fun _ _ _ => ?_
    | refine sxC (by assumption) fun _ _ _ => ?_
    | refine sxR (by assumption) fun _ _ => ?_
    | refine sxT ?_
    | refine sxD ?_)
theorem small_retL (d : Dc) (dv : Value) (M : Mem) (w : World) (hd : Dk.Ok d) (hsz : Dk.size d ≤ 1000000000000) (hM : M.has w) (hdv : DV M.A M.w dv d) : RetM Tryz.prog 20 #[dv] M w (fun r _ => ∃ b, r = .bool b) := by
  obtain ⟨vi, dk, dc, dcs, rfl, hda⟩ := hdv
  refine retM_of hM fun K hK => S_foliantlaw38_small_ok ?_
  unfold S_foliantlaw38_small
  refine o_dcb d hda.items.one hda.trailer.oneK hda.trailer.oneC (OwnS.memS hM) fun b1 w1 ho => ?_
  rw [fa_d0, dc_items ho 0 rfl, sl_len Tryz.underlying42 (hda.items.now (ho.hasM 1 rfl))]
  simp only [rs]
  by_cases h : (d.items.length : Int) ≤ 40
  · simp only [h, decide_true, rs, dc_v ho 0 rfl]
    refine c_below ho (R := fun v => v = .int .i64 (Dk.size d : Nat)) (rsizeD_ret d _ M w1 hd.len hd.items hd.trailer hsz (ho.hasM 1 rfl) hda.dv) ?_
    rintro _ w2 rfl ho
    simp only [rs]
    exact hK _ _ M _ 1 ho rfl M.le_refl ⟨_, rfl⟩
  · simp only [h, decide_false, rs, g_un]
    exact hK _ _ M _ 1 ho rfl M.le_refl ⟨_, rfl⟩
theorem light_retL (l : List Lx) (v : Value) (M : Mem) (w : World) (hl : l.length ≤ 1000000000) (hM : M.has w) (hs : SlA M.A M.w v 4 l.length (lbsC l)) : RetM Tryz.prog 25 #[v] M w (fun r _ => ∃ b, r = .bool b) := by
  refine retM_of hM fun K hK => S_foliantlaw38_light_ok ?_
  unfold S_foliantlaw38_light
  refine loop (fun vs W => ∃ (i : Nat) (n : Int), vs = [.int .i64 n, .int .i64 i] ∧ i ≤ l.length ∧ OwnS M.A w W [.mem M]) (fun vs _ => l.length - n1 vs) ⟨0, 0, rfl, by omega, OwnS.memS hM⟩ ?_
  rintro vs w1 ⟨i, n, rfl, hi, ho⟩ _
  simp only [S_foliantlaw38_light_0, gd]
  rw [sl_len Tryz.underlying46 (hs.now (ho.hasM 0 rfl))]
  simp only [rs]
  by_cases hlt : (i : Int) < (l.length : Int)
  · have hi' : i < l.length := by omega
    simp only [hlt, decide_true, i_t]
    obtain ⟨b, off, hr⟩ := lab_at hs hi'
    have hMW : ∀ W, Below w1.heap.size w1 W → M.has W := fun W hW => Mem.has_below (ho.hasM 0 rfl) hW
    refine quiet ?_
    refine q_at _ (fun W hW => (hr W (hMW W hW)).1) ?_
    refine q_do _ (fun _ => run_fa fo_l2) ?_
    refine q_at (.string ⟨l[i].pre.toArray⟩) (fun W hW => run_load_cell nStr5 ((hr W (hMW W hW)).2 2 _ rfl)) ?_
    refine q_slen Tryz.underlying9 ?_
    refine q_at _ (fun W hW => (hr W (hMW W hW)).1) ?_
    refine q_do _ (fun _ => run_fa fo_l1) ?_
    refine q_at (.string ⟨l[i].sty.toArray⟩) (fun W hW => run_load_cell nStr5 ((hr W (hMW W hW)).2 1 _ rfl)) ?_
    refine q_slen Tryz.underlying9 ?_
    refine q_add ?_
    refine q_add ?_
    intro w2 hW
    have ho := ho.grow hW
    rw [wrap64_id (n := (i : Int) + 1) (by omega) (by omega)]
    exact nextX ⟨i + 1, _, rfl, by omega, ho⟩ (by simp [n1, intOf]; omega)
  · simp only [hlt, decide_false, i_f]
    rw [sl_len Tryz.underlying46 (hs.now (ho.hasM 0 rfl))]
    simp only [rs]
    by_cases h : (l.length : Int) ≤ 40
    · simp only [h, decide_true, rs]
      exact hK _ _ M _ 0 ho rfl M.le_refl ⟨_, rfl⟩
    · simp only [h, decide_false, rs, g_un]
      exact hK _ _ M _ 0 ho rfl M.le_refl ⟨_, rfl⟩
end Go.Proofs.YtiklhhdohckfiaaGreatDoor
namespace Go.Proofs.YtiklhhdohckfiaaGreatDoor
set_option linter.unusedVariables false
set_option linter.unusedSimpArgs false
set_option linter.defProp false
open Go
namespace Vl
theorem dropK_app (key : List UInt8) : ∀ {ks : List (List UInt8)} {cs : List Ob} (ks' : List (List UInt8)) (cs' : List Ob), ks.length = cs.length →
    dropK key (ks ++ ks') (cs ++ cs') = ((dropK key ks cs).1 ++ (dropK key ks' cs').1, (dropK key ks cs).2 ++ (dropK key ks' cs').2)
  | [], [], _, _, _ => by simp [dropK]
  | [], _ :: _, _, _, h => by simp at h
  | _ :: _, [], _, _, h => by simp at h
  | a :: ks, c :: cs, ks', cs', h => by
    have ih := dropK_app key (ks := ks) (cs := cs) ks' cs' (by simpa using h)
    rw [List.cons_append, List.cons_append, dropK, dropK, ih]
    split <;> simp
theorem dropK_out (key : List UInt8) : ∀ (ks : List (List UInt8)) (cs : List Ob), key ∉ (dropK key ks cs).1
  | [], _ => by simp [dropK]
  | _ :: _, [] => by simp [dropK]
  | a :: ks, c :: cs => by
    rw [dropK]
    split
    · exact dropK_out key ks cs
    · rename_i h
      simp only [List.mem_cons, not_or]
      exact ⟨fun e => h e.symm, dropK_out key ks cs⟩
theorem dropK_lens (key : List UInt8) : ∀ (ks : List (List UInt8)) (cs : List Ob), (dropK key ks cs).1.length = (dropK key ks cs).2.length
  | [], _ => by simp [dropK]
  | _ :: _, [] => by simp [dropK]
  | a :: ks, c :: cs => by
    rw [dropK]
    split
    · exact dropK_lens key ks cs
    · simp [dropK_lens key ks cs]
theorem dropK_sub1 (key : List UInt8) : ∀ (ks : List (List UInt8)) (cs : List Ob), (dropK key ks cs).1.Sublist ks
  | [], _ => by simp [dropK]
  | _ :: _, [] => by simp [dropK]
  | a :: ks, c :: cs => by
    rw [dropK]
    split
    · exact (dropK_sub1 key ks cs).trans (List.sublist_cons_self _ _)
    · exact (dropK_sub1 key ks cs).cons_cons _
theorem dropK_sub2 (key : List UInt8) : ∀ (ks : List (List UInt8)) (cs : List Ob), (dropK key ks cs).2.Sublist cs
  | [], _ => by simp [dropK]
  | _ :: _, [] => by simp [dropK]
  | a :: ks, c :: cs => by
    rw [dropK]
    split
    · exact (dropK_sub2 key ks cs).trans (List.sublist_cons_self _ _)
    · exact (dropK_sub2 key ks cs).cons_cons _
theorem dropK_twice (key : List UInt8) (ks : List (List UInt8)) (cs : List Ob) : dropK key (dropK key ks cs).1 (dropK key ks cs).2 = dropK key ks cs :=
  dropK_none (dropK_lens key ks cs) (dropK_out key ks cs)
theorem without_twice (o : Ob) (key : List UInt8) : without (without o key) key = without o key := by
  have h := dropK_twice key o.keys o.kids
  unfold without
  simp only [Ob.keys, Ob.kids, Ob.k, Ob.n, Ob.g, Ob.s] at h ⊢
  rw [h]
theorem get_without (o : Ob) (key : List UInt8) : get (without o key) key = none := by
  unfold get
  split
  · rw [if_neg]
    rw [List.idxOf_lt_length_iff]
    exact dropK_out key o.keys o.kids
  · rfl
theorem not_mem_take {l : List (List UInt8)} {key : List UInt8} : key ∉ l.take (place l key) := by
  intro h
  obtain ⟨m, hm, he⟩ := List.getElem_of_mem h
  rw [List.length_take] at hm
  have hlt : m < place l key := by omega
  have := place_lt hlt
  rw [List.getElem_take] at he
  rw [he, less_irrefl] at this
  cases this
theorem get_put {o : Ob} {key : List UInt8} {v : Ob} (hk : keyed o = true) (hl : o.keys.length = o.kids.length) : get (put o key v) key = some v := by
  have hp := place_le o.keys key
  unfold get
  rw [show keyed (put o key v) = keyed o from rfl, hk, if_pos rfl]
  have e : (put o key v).keys = o.keys.take (place o.keys key) ++ key :: o.keys.drop (place o.keys key + if hit o.keys key then 1 else 0) := rfl
  have e2 : (put o key v).kids = o.kids.take (place o.keys key) ++ v :: o.kids.drop (place o.keys key + if hit o.keys key then 1 else 0) := rfl
  have hi : (put o key v).keys.idxOf key = place o.keys key := by
    rw [e]
    refine idx_at (by simp; omega) ?_ ?_
    · rw [List.take_left' (by rw [List.length_take]; omega)]
      exact not_mem_take
    · rw [List.getElem_append_right (by rw [List.length_take]; omega)]
      simp [List.length_take, Nat.min_eq_left hp]
  rw [hi, if_pos (by rw [e]; simp; omega), e2, List.getElem?_append_right (by rw [List.length_take]; omega), List.length_take]
  have : place o.keys key - min (place o.keys key) o.kids.length = 0 := by omega
  rw [this]; rfl
theorem without_put {o : Ob} {key : List UInt8} {v : Ob} (hl : o.keys.length = o.kids.length) : without (put o key v) key = without o key := by
  have hp := place_le o.keys key
  have h1 : (dropK key (o.keys.take (place o.keys key) ++ key :: o.keys.drop (place o.keys key + if hit o.keys key then 1 else 0)) (o.kids.take (place o.keys key) ++ v :: o.kids.drop (place o.keys key + if hit o.keys key then 1 else 0))) = dropK key o.keys o.kids := by
    have h2 : dropK key o.keys o.kids = dropK key (o.keys.take (place o.keys key) ++ o.keys.drop (place o.keys key)) (o.kids.take (place o.keys key) ++ o.kids.drop (place o.keys key)) := by rw [List.take_append_drop, List.take_append_drop]
    rw [h2, dropK_app key _ _ (by simp [hl]), dropK_app key _ _ (by simp [hl]), dropK, if_pos rfl]
    by_cases hh : hit o.keys key = true
    · rw [if_pos hh]
      have hg : o.keys[place o.keys key]? = some key := by simpa [hit] using hh
      obtain ⟨hlt, hg⟩ := List.getElem?_eq_some_iff.1 hg
      rw [List.drop_eq_getElem_cons (i := place o.keys key) hlt, List.drop_eq_getElem_cons (i := place o.keys key) (l := o.kids) (by omega), dropK, if_pos hg]
    · rw [if_neg hh]; simp
  unfold without
  rw [show (put o key v).keys = o.keys.take (place o.keys key) ++ key :: o.keys.drop (place o.keys key + if hit o.keys key then 1 else 0) from rfl,
    show (put o key v).kids = o.kids.take (place o.keys key) ++ v :: o.kids.drop (place o.keys key + if hit o.keys key then 1 else 0) from rfl, h1]
  rfl
theorem checks_iff {d : Nat} : ∀ {os : List Ob}, checks d os = 0 ↔ ∀ o ∈ os, check d o = 0
  | [] => by simp [checks]
  | o :: os => by
    rw [checks]
    split
    · rename_i h
      constructor
      · intro e; exact absurd e h
      · intro e; exact absurd (e o List.mem_cons_self) h
    · rename_i h
      have h := Classical.not_not.1 h
      rw [checks_iff]
      simp [h]
theorem gd_at (l : List (List UInt8)) {i : Nat} (h : i < l.length) : l.getD i [] = l[i] := by rw [List.getD_eq_getElem?_getD, List.getElem?_eq_getElem h]; rfl
theorem rising_iff {o : Ob} : rising o = true ↔ o.keys.length = o.kids.length ∧ Rise o.keys ∧ (∀ k ∈ o.keys, name k = true ∧ (o.k = 9 → k ≠ lenK)) ∧ ∀ c ∈ o.kids, c.k ≠ 0 := by
  unfold rising
  simp only [Bool.and_eq_true, decide_eq_true_eq, List.all_eq_true, List.mem_range]
  constructor
  · rintro ⟨hl, h⟩
    have hat : ∀ i (hi : i < o.keys.length), name o.keys[i] = true ∧ (i = 0 ∨ less (o.keys.getD (i - 1) []) o.keys[i] = true) ∧ (o.k = 9 → o.keys[i] ≠ lenK) ∧ (o.kids[i]'(by omega)).k ≠ 0 := by
      intro i hi
      have := h i hi
      unfold keyAt at this
      rw [gd_at _ hi, List.getD_eq_getElem?_getD (l := o.kids), List.getElem?_eq_getElem (by omega : i < o.kids.length)] at this
      simp only [Bool.and_eq_true, Bool.or_eq_true, decide_eq_true_eq, Option.getD_some, Bool.not_eq_true', Bool.and_eq_false_iff, decide_eq_false_iff_not] at this
      obtain ⟨⟨⟨a, b⟩, c⟩, e⟩ := this
      exact ⟨a, b, fun h9 hk => c.elim (fun x => x h9) (fun x => x hk), e⟩
    refine ⟨hl, ?_, ?_, ?_⟩
    · refine List.pairwise_iff_getElem.2 fun i j hi hj hij => ?_
      have step : ∀ i (hi : i + 1 < o.keys.length), less o.keys[i] o.keys[i + 1] = true := by
        intro i hi
        have := (hat (i + 1) hi).2.1
        rcases this with h0 | h0
        · omega
        · rwa [Nat.add_sub_cancel, gd_at _ (by omega : i < o.keys.length)] at h0
      have : ∀ d, ∀ j (hj : j < o.keys.length), j = i + 1 + d → less o.keys[i] o.keys[j] = true := by
        intro d
        induction d with
        | zero => intro j hj he; subst he; exact step i hj
        | succ d ih =>
          intro j hj he
          subst he
          exact less_trans (ih (i + 1 + d) (by omega) rfl) (step (i + 1 + d) hj)
      exact this (j - (i + 1)) j hj (by omega)
    · intro k hk
      obtain ⟨i, hi, rfl⟩ := List.getElem_of_mem hk
      exact ⟨(hat i hi).1, (hat i hi).2.2.1⟩
    · intro c hc
      obtain ⟨i, hi, rfl⟩ := List.getElem_of_mem hc
      exact (hat i (by omega)).2.2.2
  · rintro ⟨hl, hr, hk, hc⟩
    refine ⟨hl, fun i hi => ?_⟩
    unfold keyAt
    rw [gd_at _ hi, List.getD_eq_getElem?_getD (l := o.kids), List.getElem?_eq_getElem (by omega : i < o.kids.length)]
    simp only [Bool.and_eq_true, Bool.or_eq_true, decide_eq_true_eq, Option.getD_some, Bool.not_eq_true', Bool.and_eq_false_iff, decide_eq_false_iff_not]
    refine ⟨⟨⟨(hk _ (List.getElem_mem hi)).1, ?_⟩, ?_⟩, hc _ (List.getElem_mem _)⟩
    · rcases Nat.eq_zero_or_pos i with h0 | h0
      · exact .inl h0
      · refine .inr ?_
        rw [gd_at _ (by omega : i - 1 < o.keys.length)]
        exact rise_get hr (by omega) hi
    · by_cases h9 : o.k = 9
      · exact .inr ((hk _ (List.getElem_mem hi)).2 h9)
      · exact .inl h9
theorem check_iff {d : Nat} {o : Ob} : check d o = 0 ↔ (d ≤ 24 ∧ usesOk o = true ∧ (o.k = 9 → d ≤ 1) ∧ fits o = true ∧ o.s.length ≤ long o.k ∧ o.kids.length ≤ 8191 ∧ form o = true) ∧ ∀ c ∈ o.kids, check (d + 1) c = 0 := by
  rw [check_eq]
  have hw : why d o = 0 ↔ (d ≤ 24 ∧ usesOk o = true ∧ (o.k = 9 → d ≤ 1) ∧ fits o = true ∧ o.s.length ≤ long o.k ∧ o.kids.length ≤ 8191 ∧ form o = true) := by
    unfold why
    split
    · simp; omega
    rename_i h1
    split
    · rename_i h2
      simp only [show (10 : Int) ≠ 0 by decide, false_iff, not_and]
      rintro - a b
      rcases h2 with h2 | h2
      · rw [h2] at a; cases a
      · have := b h2.1; omega
    rename_i h2
    simp only [not_or, Bool.not_eq_false, not_and, Nat.not_lt] at h2
    split
    · rename_i h3; simp [h3]
    rename_i h3
    split
    · rename_i h4; simp; intros; omega
    rename_i h4
    split
    · rename_i h5; simp; intros; omega
    rename_i h5
    split
    · rename_i h6; simp [h6]
    rename_i h6
    simp only [Bool.not_eq_false] at h3 h6
    exact ⟨fun _ => ⟨by omega, h2.1, h2.2, h3, by omega, by omega, h6⟩, fun _ => rfl⟩
  split
  · rename_i h
    constructor
    · intro e; exact absurd e h
    · intro e; exact absurd (hw.2 e.1) h
  · rename_i h
    have h := Classical.not_not.1 h
    rw [checks_iff]
    exact ⟨fun e => ⟨hw.1 h, e⟩, fun e => e.2⟩
theorem without_check {d : Nat} {o : Ob} {key : List UInt8} (h : check d o = 0) (hk : keyed o = true) : check d (without o key) = 0 := by
  obtain ⟨⟨a1, a2, a3, a4, a5, a6, a7⟩, hc⟩ := check_iff.1 h
  have s1 := dropK_sub1 key o.keys o.kids
  have s2 := dropK_sub2 key o.keys o.kids
  have h79 : o.k = 7 ∨ o.k = 9 := by simpa [keyed] using hk
  have ek : (without o key).k = o.k := rfl
  have eks : (without o key).keys = (dropK key o.keys o.kids).1 := rfl
  have ecs : (without o key).kids = (dropK key o.keys o.kids).2 := rfl
  refine check_iff.2 ⟨⟨a1, ?_, a3, a4, a5, ?_, ?_⟩, fun c hc' => hc c (s2.subset hc')⟩
  · unfold usesOk at a2 ⊢
    rw [ek]
    rcases h79 with h7 | h9
    · rw [h7] at a2 ⊢
      simpa [used, show (without o key).n = o.n from rfl, show (without o key).g = o.g from rfl, show (without o key).s = o.s from rfl] using a2
    · rw [h9] at a2 ⊢
      simpa [used, show (without o key).n = o.n from rfl, show (without o key).g = o.g from rfl, show (without o key).s = o.s from rfl] using a2
  · rw [ecs]
    exact Nat.le_trans s2.length_le a6
  · unfold form at a7 ⊢
    rw [ek]
    simp only [Bool.and_eq_true] at a7 ⊢
    refine ⟨a7.1, ?_⟩
    rw [decide_eq_true h79] at a7 ⊢
    have hr : rising o = true := by simpa using a7.2
    obtain ⟨r1, r2, r3, r4⟩ := rising_iff.1 hr
    have : rising (without o key) = true := by
      refine rising_iff.2 ⟨?_, ?_, ?_, ?_⟩
      · rw [eks, ecs]; exact dropK_lens key _ _
      · rw [eks]; exact List.Pairwise.sublist s1 r2
      · rw [eks]; exact fun k hk => r3 k (s1.subset hk)
      · rw [ecs]; exact fun c hc => r4 c (s2.subset hc)
    simp [this]
end Vl
namespace Dk
def swap (i j : It) : It := if j.num = i.num then i else j
theorem swap_num (i j : It) : (swap i j).num = j.num := by unfold swap; split <;> simp_all
theorem lay_lt {a : It} {l : List It} {i : It} (h : a.num < i.num) : lay (a :: l) i = a :: lay l i := by
  have hp : place (a :: l) i.num = place l i.num + 1 := by unfold place; rw [List.takeWhile_cons]; simp [h]
  have hh : hit (a :: l) i.num = hit l i.num := by unfold hit; rw [hp, List.getElem?_cons_succ]
  unfold lay
  rw [hp, hh, List.take_succ_cons, List.cons_append]
  congr 2
  rw [Nat.add_right_comm, List.drop_succ_cons]
theorem lay_eq {a : It} {l : List It} {i : It} (h : a.num = i.num) : lay (a :: l) i = i :: l := by
  have hp : place (a :: l) i.num = 0 := by unfold place; rw [List.takeWhile_cons]; simp [h]
  have hh : hit (a :: l) i.num = true := by unfold hit; rw [hp]; simp [h]
  unfold lay
  rw [hp, hh]; simp
theorem lay_map {i : It} : ∀ {l : List It}, Rise l → (∃ j ∈ l, j.num = i.num) → lay l i = l.map (swap i)
  | [], _, h => by obtain ⟨j, hj, _⟩ := h; cases hj
  | a :: l, hr, h => by
    obtain ⟨h1, h2⟩ := List.pairwise_cons.1 hr
    obtain ⟨j, hj, hn⟩ := h
    by_cases ha : a.num = i.num
    · rw [lay_eq ha, List.map_cons]
      have e1 : swap i a = i := by unfold swap; rw [if_pos ha]
      have e2 : l.map (swap i) = l := by
        conv => rhs; rw [← List.map_id l]
        refine List.map_congr_left fun b hb => ?_
        have := h1 b hb
        unfold swap
        rw [if_neg (by omega)]; rfl
      rw [e1, e2]
    · have hjl : j ∈ l := by
        rcases List.mem_cons.1 hj with rfl | hj
        · exact absurd hn ha
        · exact hj
      have hlt : a.num < i.num := by have := h1 j hjl; omega
      rw [lay_lt hlt, lay_map h2 ⟨j, hjl, hn⟩, List.map_cons]
      congr 1
      unfold swap
      rw [if_neg ha]
theorem swap_swap {i i' : It} (h : i.num = i'.num) (l : List It) : (l.map (swap i)).map (swap i') = l.map (swap i') := by
  rw [List.map_map]
  refine List.map_congr_left fun j _ => ?_
  show swap i' (swap i j) = swap i' j
  unfold swap
  by_cases hj : j.num = i.num
  · rw [if_pos hj, if_pos h, if_pos (by omega)]
  · rw [if_neg hj]
theorem find_map {i : It} : ∀ {l : List It}, (∃ j ∈ l, j.num = i.num) → find (l.map (swap i)) i.num = some i
  | [], h => by obtain ⟨j, hj, _⟩ := h; cases hj
  | a :: l, h => by
    unfold find
    rw [List.map_cons, List.find?_cons]
    by_cases ha : a.num = i.num
    · have e1 : swap i a = i := by unfold swap; rw [if_pos ha]
      rw [e1]; simp
    · have e1 : swap i a = a := by unfold swap; rw [if_neg ha]
      rw [e1]
      simp only [ha, decide_false]
      obtain ⟨j, hj, hn⟩ := h
      rcases List.mem_cons.1 hj with rfl | hj
      · exact absurd hn ha
      · exact find_map ⟨j, hj, hn⟩
theorem itemsG_cons {last : Option Int} {i : It} {l : List It} : itemsG last (i :: l) = 0 ↔ numbers i = true ∧ (∀ n, last = some n → n < i.num) ∧ content i = 0 ∧ itemsG (some i.num) l = 0 := by
  rw [itemsG]
  split
  · rename_i h; simp [h]
  rename_i h1
  have h1 : numbers i = true := by simpa using h1
  split
  · rename_i h2
    simp only [show (9 : Int) ≠ 0 by decide, false_iff, not_and]
    intro _ h3
    cases last with
    | none => simp at h2
    | some n => have := h3 n rfl; simp at h2; omega
  rename_i h2
  have h2 : ∀ n, last = some n → n < i.num := by
    intro n hn
    subst hn
    simp at h2
    omega
  split
  · rename_i h3
    constructor
    · intro e; exact absurd e h3
    · rintro ⟨-, -, e, -⟩; exact absurd e h3
  · rename_i h3
    have h3 := Classical.not_not.1 h3
    exact ⟨fun e => ⟨h1, h2, h3, e⟩, fun e => e.2.2.2⟩
theorem items_map {i : It} (hn : numbers i = true) (hc : content i = 0) : ∀ {l : List It} {last : Option Int}, itemsG last l = 0 → itemsG last (l.map (swap i)) = 0
  | [], _, _ => by rw [List.map_nil, itemsG]
  | a :: l, last, h => by
    obtain ⟨h1, h2, h3, h4⟩ := itemsG_cons.1 h
    rw [List.map_cons]
    refine itemsG_cons.2 ⟨?_, ?_, ?_, ?_⟩
    · unfold swap; split <;> assumption
    · rw [swap_num]; exact h2
    · unfold swap; split <;> assumption
    · rw [swap_num]; exact items_map hn hc h4
theorem items_all : ∀ {l : List It} {last : Option Int}, itemsG last l = 0 → ∀ i ∈ l, numbers i = true ∧ content i = 0
  | [], _, _, i, hi => by cases hi
  | a :: l, last, h, i, hi => by
    obtain ⟨h1, h2, h3, h4⟩ := itemsG_cons.1 h
    rcases List.mem_cons.1 hi with rfl | hi
    · exact ⟨h1, h3⟩
    · exact items_all h4 i hi
theorem check_parts {d : Dc} : check d = 0 ↔ itemsG none d.items = 0 ∧ trail d = 0 := by
  unfold check
  split
  · rename_i h
    constructor
    · intro e; exact absurd e h
    · intro e; exact absurd e.1 h
  · rename_i h
    exact ⟨fun e => ⟨Classical.not_not.1 h, e⟩, fun e => e.2⟩
theorem trail_parts {d : Dc} : trail d = 0 ↔ Vl.check 1 d.trailer = 0 ∧ d.trailer.k = 7 ∧ d.trailer.keys.all known = true ∧ (root d).k = 8 ∧ (follow d (root d)).k = 7 := by
  unfold trail
  split
  · rename_i h
    constructor
    · intro e; exact absurd e h
    · intro e; exact absurd e.1 h
  rename_i h1
  have h1 := Classical.not_not.1 h1
  split
  · rename_i h; simp [h]
  rename_i h2
  have h2 := Classical.not_not.1 h2
  split
  · rename_i h; simp [h]
  rename_i h3
  have h3 : d.trailer.keys.all known = true := by simpa using h3
  split
  · rename_i h
    simp only [show (22 : Int) ≠ 0 by decide, false_iff, not_and]
    intro _ _ _ h4 h5
    rcases h with h | h
    · exact h h4
    · exact h h5
  · rename_i h
    simp only [not_or, Classical.not_not] at h
    exact ⟨fun _ => ⟨h1, h2, h3, h.1, h.2⟩, fun _ => rfl⟩
theorem find_mem {l : List It} {n : Int} {i : It} (h : find l n = some i) : i ∈ l ∧ i.num = n := by
  unfold find at h
  exact ⟨List.mem_of_find?_eq_some h, by simpa using List.find?_some h⟩
theorem root_item {d : Dc} (h : check d = 0) : ∃ i, find d.items (root d).n = some i ∧ i ∈ d.items ∧ i.num = (root d).n ∧ i.gen = (root d).g ∧ i.obj.k = 7 ∧ Vl.check 1 i.obj = 0 ∧ numbers i = true := by
  obtain ⟨h1, h2⟩ := check_parts.1 h
  obtain ⟨-, -, -, h4, h5⟩ := trail_parts.1 h2
  unfold follow at h5
  rw [if_neg (by simp [h4])] at h5
  cases hf : find d.items (root d).n with
  | none => rw [hf] at h5; simp [pick, Vl.ob0, Ob.k] at h5
  | some i =>
    rw [hf] at h5
    unfold pick at h5
    simp only at h5
    split at h5
    · simp [Vl.ob0, Ob.k] at h5
    · rename_i hg
      obtain ⟨hm, hn⟩ := find_mem hf
      obtain ⟨a, b⟩ := items_all h1 i hm
      refine ⟨i, rfl, hm, hn, Classical.not_not.1 hg, h5, ?_, a⟩
      unfold content at b
      split at b
      · rename_i hc; exact absurd b hc
      · rename_i hc; exact Classical.not_not.1 hc
theorem put_root {d : Dc} (h : check d = 0) {i j : It} (hf : find d.items (root d).n = some i) (hn : j.num = i.num) (hg : j.gen = i.gen) (h7 : j.obj.k = 7) (hc : Vl.check 1 j.obj = 0) :
    put d j = (⟨d.items.map (swap j), d.trailer⟩, 0) ∧ check ⟨d.items.map (swap j), d.trailer⟩ = 0 := by
  obtain ⟨i', hf', hm, hin, hig, hk7, hci, hnum⟩ := root_item h
  rw [hf] at hf'
  cases hf'
  obtain ⟨h1, h2⟩ := check_parts.1 h
  obtain ⟨t1, t2, t3, t4, t5⟩ := trail_parts.1 h2
  have hnj : numbers j = true := by unfold numbers at hnum ⊢; rw [hn, hg]; exact hnum
  have hcj : content j = 0 := by
    unfold content
    rw [if_neg (by simp [hc]), if_neg]
    rintro (h8 | h9)
    · rw [h7] at h8; cases h8
    · unfold holds at h9; rw [h7] at h9; simp at h9
  have hex : ∃ x ∈ d.items, x.num = j.num := ⟨i, hm, hn.symm⟩
  have hchk : check ⟨d.items.map (swap j), d.trailer⟩ = 0 := by
    refine check_parts.2 ⟨items_map hnj hcj h1, trail_parts.2 ⟨t1, t2, t3, t4, ?_⟩⟩
    unfold follow
    rw [if_neg (by simp; exact t4)]
    have e : find (d.items.map (swap j)) (root ⟨d.items.map (swap j), d.trailer⟩).n = some j := by
      have := find_map (i := j) hex
      rw [show (root ⟨d.items.map (swap j), d.trailer⟩).n = j.num by rw [hn, hin]; rfl]
      exact this
    show (pick (find (d.items.map (swap j)) (root ⟨d.items.map (swap j), d.trailer⟩).n) _).k = 7
    rw [e]
    unfold pick
    simp only
    rw [if_neg (by rw [Classical.not_not, hg, hig]; rfl)]
    exact h7
  refine ⟨?_, hchk⟩
  unfold put
  rw [if_neg (by simp [h]), if_neg (by unfold alone; rw [if_neg (by simp [hnj])]; simp [hcj]), lay_map (check_rise h) hex]
  unfold right
  rw [if_neg (by simp [hchk])]
end Dk
end Go.Proofs.YtiklhhdohckfiaaGreatDoor
namespace Go.Proofs.YtiklhhdohckfiaaGreatDoor
set_option linter.unusedVariables false
set_option linter.unusedSimpArgs false
set_option linter.defProp false
open Go
namespace Lb
theorem check_nil : check [] = 0 := rfl
theorem rootI_eq {d : Dc} {i : It} (hf : Dk.find d.items (Dk.root d).n = some i) : rootI d = i := by
  unfold rootI
  rw [show (g d.trailer Dk.rootK).n = (Dk.root d).n from rfl, hf]; rfl
theorem set_eq {d : Dc} {l : List Lx} {i : It} {o : Ob} (hd : Dk.check d = 0) (hl : check l = 0) (hf : Dk.find d.items (Dk.root d).n = some i) (ho : Vl.set i.obj plK (treeO l) = (o, 0)) (hk : o.k = 7) (hc : Vl.check 1 o = 0) :
    set d l = (⟨d.items.map (Dk.swap ⟨i.num, i.gen, o⟩), d.trailer⟩, 0) ∧ Dk.check ⟨d.items.map (Dk.swap ⟨i.num, i.gen, o⟩), d.trailer⟩ = 0 := by
  have h := Dk.put_root hd hf (j := ⟨i.num, i.gen, o⟩) rfl rfl hk hc
  refine ⟨?_, h.2⟩
  unfold set
  rw [if_neg (by simp [hd]), if_neg (by simp [hl]), rootI_eq hf, ho]
  simp only [ne_eq, not_true, if_false]
  exact h.1
theorem set_null {o : Ob} (hk : o.k = 7) (hc : Vl.check 1 o = 0) : Vl.set o plK (treeO []) = (Vl.without o plK, 0) := by
  unfold Vl.set
  rw [if_neg (by simp [Vl.keyed, hk]), if_neg (by simp [hc]), if_pos (by rw [treeO, if_pos rfl]; rfl)]
theorem set_obj {i : Ob} {l : List Lx} (hk : i.k = 7) (hc : Vl.check 1 i = 0) (h : (Vl.set i plK (treeO l)).2 = 0) :
    ∃ o, Vl.set i plK (treeO l) = (o, 0) ∧ o.k = 7 ∧ Vl.check 1 o = 0 ∧ Vl.without o plK = Vl.without i plK ∧ Vl.get o plK = if l = [] then none else some (treeO l) := by
  have hkd : Vl.keyed i = true := by simp [Vl.keyed, hk]
  by_cases hl : l = []
  · subst hl
    refine ⟨_, set_null hk hc, hk, Vl.without_check hc hkd, Vl.without_twice _ _, ?_⟩
    rw [if_pos rfl]; exact Vl.get_without _ _
  · have ht : treeO l = .mk 7 0 0 [] [numsK] [arrO l] := by unfold treeO; rw [if_neg hl]
    have hr := (Vl.valid_keys hc hkd).2
    have e : Vl.set i plK (treeO l) = Vl.right (Vl.put i plK (treeO l)) := by
      unfold Vl.set
      rw [if_neg (by simp [hkd]), if_neg (by simp [hc]), if_neg (by rw [ht]; simp [Ob.k])]
    rw [e] at h ⊢
    unfold Vl.right at h ⊢
    split at h
    · rename_i h1; exact absurd h h1
    · rename_i h1
      rw [if_neg h1, if_neg hl]
      exact ⟨_, rfl, hk, Classical.not_not.1 h1, Vl.without_put hr, Vl.get_put hkd hr⟩
theorem get1 {k : List UInt8} {v : Ob} : Vl.get (.mk 7 0 0 [] [k] [v]) k = some v := by
  simp [Vl.get, Vl.keyed, Ob.k, Ob.keys, Ob.kids]
theorem obj_get {x : Lx} : Vl.get (obj x) kS = oS x ∧ Vl.get (obj x) kP = oP x ∧ Vl.get (obj x) kSt = oT x := by
  have n1 : (kP == kS) = false := by decide
  have n2 : (kP == kSt) = false := by decide
  have n3 : (kS == kP) = false := by decide
  have n4 : (kS == kSt) = false := by decide
  have n5 : (kSt == kP) = false := by decide
  have n6 : (kSt == kS) = false := by decide
  unfold obj
  generalize oS x = s
  generalize oP x = p
  generalize oT x = t
  cases s <;> cases p <;> cases t <;> simp [dct, Vl.get, Vl.keyed, Ob.k, Ob.keys, Ob.kids, List.idxOf_cons, n1, n2, n3, n4, n5, n6]
theorem obj_back {d : Dc} {x : Lx} (_ : Good x) : Dk.follow d (obj x) = obj x ∧ oneB (intO x.off) (obj x) = true ∧ oneX (intO x.off) (obj x) = x := by
  obtain ⟨g1, g2, g3⟩ := obj_get (x := x)
  refine ⟨?_, ?_, ?_⟩
  · unfold Dk.follow
    rw [if_pos (by simp [obj, dct, Ob.k])]
  · unfold oneB fieldB
    rw [g1, g2, g3]
    unfold oS oP oT
    split <;> split <;> split <;> simp [intO, nameO, strO, obj, dct, Ob.k]
  · unfold oneX g
    rw [g1, g2, g3]
    obtain ⟨a, s, p, t⟩ := x
    unfold oS oP oT
    simp only
    split <;> split <;> split <;> simp_all [intO, nameO, strO, Ob.k, Ob.s, Ob.n, Vl.ob0]
theorem pairs_back {d : Dc} : ∀ {l : List Lx}, (∀ x ∈ l, Good x) → pairs d (kidsO l) = some l
  | [], _ => by rw [kidsO, List.flatMap_nil, pairs]
  | x :: l, h => by
    obtain ⟨h1, h2, h3⟩ := obj_back (d := d) (h x List.mem_cons_self)
    rw [kids_cons, pairs, h1, h2, h3, pairs_back fun y hy => h y (List.mem_cons_of_mem _ hy)]
    rfl
theorem set_back {d : Dc} {l : List Lx} (h : (set d l).2 = 0) : read (set d l).1 = (l, 0) ∧ (set (set d l).1 []).2 = 0 ∧ (set d []).2 = 0 ∧ (set (set d l).1 []).1 = (set d []).1 := by
  have hd : Dk.check d = 0 := by
    unfold set at h
    split at h
    · rename_i h1; exact absurd h h1
    · rename_i h1; exact Classical.not_not.1 h1
  have hl : check l = 0 := by
    unfold set at h
    rw [if_neg (by simp [hd])] at h
    split at h
    · rename_i h1; exact absurd h h1
    · rename_i h1; exact Classical.not_not.1 h1
  obtain ⟨i, hf, hm, hin, hig, h7, hci, hnum⟩ := Dk.root_item hd
  have he : (Vl.set i.obj plK (treeO l)).2 = 0 := by
    unfold set at h
    rw [if_neg (by simp [hd]), if_neg (by simp [hl]), rootI_eq hf] at h
    split at h
    · rename_i h1; exact absurd h h1
    · rename_i h1; exact Classical.not_not.1 h1
  obtain ⟨o, hso, hok, hoc, how, hog⟩ := set_obj h7 hci he
  obtain ⟨hs, hx⟩ := set_eq hd hl hf hso hok hoc
  rw [hs]
  simp only
  have hex : ∃ j ∈ d.items, j.num = (⟨i.num, i.gen, o⟩ : It).num := ⟨i, hm, rfl⟩
  have hfx : Dk.find (d.items.map (Dk.swap ⟨i.num, i.gen, o⟩)) (Dk.root d).n = some ⟨i.num, i.gen, o⟩ := by
    rw [← hin]; exact Dk.find_map hex
  obtain ⟨s3, s3c⟩ := set_eq hd check_nil hf (set_null h7 hci) h7 (Vl.without_check hci (by simp [Vl.keyed, h7]))
  obtain ⟨s2, s2c⟩ := set_eq (d := ⟨d.items.map (Dk.swap ⟨i.num, i.gen, o⟩), d.trailer⟩) hx check_nil hfx (set_null hok hoc) hok (Vl.without_check hoc (by simp [Vl.keyed, hok]))
  rw [s2, s3]
  refine ⟨?_, rfl, rfl, ?_⟩
  · -- what is read
    obtain ⟨t1, t2⟩ := Dk.check_parts.1 hx
    obtain ⟨-, tk, -, tr, -⟩ := Dk.trail_parts.1 t2
    have hgr : Vl.get d.trailer Dk.rootK = some (Dk.root d) := by
      have tr' : (Dk.root d).k = 8 := tr
      unfold Dk.root at tr' ⊢
      cases hg : Vl.get d.trailer Dk.rootK with
      | none => rw [hg] at tr'; simp [Vl.ob0, Ob.k] at tr'
      | some v => rfl
    have hfo : Dk.follow ⟨d.items.map (Dk.swap ⟨i.num, i.gen, o⟩), d.trailer⟩ (Dk.root d) = o := by
      unfold Dk.follow
      rw [if_neg (by simp; exact tr)]
      simp only
      rw [hfx]
      unfold Dk.pick
      simp only
      rw [if_neg (by simp [hig])]
    have htr : tree ⟨d.items.map (Dk.swap ⟨i.num, i.gen, o⟩), d.trailer⟩ = if l = [] then Vl.ob0 else treeO l := by
      unfold tree
      have e1 : Dk.follow ⟨d.items.map (Dk.swap ⟨i.num, i.gen, o⟩), d.trailer⟩ d.trailer = d.trailer := by
        unfold Dk.follow
        rw [if_pos (by have : d.trailer.k = 7 := tk; omega)]
      simp only
      rw [e1, Dk.path, hgr]
      simp only
      rw [hfo, Dk.path, hog]
      by_cases hl0 : l = []
      · rw [if_pos hl0, if_pos hl0]
      · rw [if_neg hl0, if_neg hl0]
        simp only
        rw [Dk.path]
        unfold Dk.follow
        rw [if_pos (by rw [treeO, if_neg hl0]; simp [Ob.k])]
    unfold read
    rw [if_neg (by simp [hx]), htr]
    by_cases hl0 : l = []
    · subst hl0
      simp [Vl.ob0, Ob.k]
    · have ht : treeO l = .mk 7 0 0 [] [numsK] [arrO l] := by unfold treeO; rw [if_neg hl0]
      have hn : nums ⟨d.items.map (Dk.swap ⟨i.num, i.gen, o⟩), d.trailer⟩ = arrO l := by
        unfold nums g
        rw [htr, if_neg hl0, ht, get1]
        simp only [Option.getD_some]
        unfold Dk.follow
        rw [if_pos (by simp [arrO, Ob.k])]
      have hkl : (arrO l).kids = kidsO l := rfl
      rw [if_neg hl0, hn, hkl, if_neg (by rw [ht]; simp [Ob.k]), if_neg, pairs_back fun x hx => (good_of hl x hx).1]
      · unfold told2
        simp only
        rw [if_neg (by simp [hl])]
      · rw [ht, kids_len]
        simp [arrO, Ob.k]
  · have e : Dk.swap ⟨i.num, i.gen, Vl.without o plK⟩ = Dk.swap ⟨i.num, i.gen, Vl.without i.obj plK⟩ := by rw [how]
    show (⟨(d.items.map (Dk.swap ⟨i.num, i.gen, o⟩)).map (Dk.swap ⟨i.num, i.gen, Vl.without o plK⟩), d.trailer⟩ : Dc) = ⟨d.items.map (Dk.swap ⟨i.num, i.gen, Vl.without i.obj plK⟩), d.trailer⟩
    rw [e, Dk.swap_swap (i := ⟨i.num, i.gen, o⟩) (i' := ⟨i.num, i.gen, Vl.without i.obj plK⟩) rfl]
end Lb
end Go.Proofs.YtiklhhdohckfiaaGreatDoor
namespace Go.Proofs.YtiklhhdohckfiaaGreatDoor
set_option linter.unusedVariables false
set_option linter.unusedSimpArgs false
set_option linter.defProp false
open Go
structure Lb.Sm (B : Nat) (d : Dc) : Prop where
  len : d.items.length ≤ B
  items : ∀ i ∈ d.items, i.obj.wt ≤ B
  trailer : d.trailer.wt ≤ B
namespace Lb
theorem Sm.ok {B : Nat} {d : Dc} (h : Sm B d) (hB : B ≤ 900000000) : Dk.Ok d := ⟨by have := h.len; omega, fun i hi => by have := h.items i hi; omega, by have := h.trailer; omega⟩
theorem sm0 {B : Nat} (hB : 6 ≤ B) : Sm B Dk.dc0 := ⟨by simp [Dk.dc0], by simp [Dk.dc0], by simp [Dk.dc0, Vl.ob0, Ob.wt, Ob.wts, Pl.tot]; omega⟩
theorem right_sm {B : Nat} {d : Dc} (h : Sm B d) (hB : 6 ≤ B) : Sm B (Dk.right d).1 := by
  unfold Dk.right
  split
  · exact sm0 hB
  · exact h
theorem put_sm {B C : Nat} {d : Dc} {i : It} (h : Sm B d) (hi : i.obj.wt ≤ C) (hBC : B + 1 ≤ C) (hB : 6 ≤ B) : Sm C (Dk.put d i).1 := by
  unfold Dk.put
  split
  · exact sm0 (by omega)
  split
  · exact sm0 (by omega)
  refine right_sm ⟨?_, fun x hx => ?_, ?_⟩ (by omega)
  · have := h.len
    show (Dk.lay d.items i).length ≤ C
    cases hh : Dk.hit d.items i.num with
    | true => rw [Dk.lay_len_hit hh]; omega
    | false => rw [Dk.lay_len_miss hh]; omega
  · rcases Dk.lay_mem hx with rfl | hx
    · exact hi
    · have := h.items x hx; omega
  · have := h.trailer; show d.trailer.wt ≤ C; omega
theorem rootI_wt {B : Nat} {d : Dc} (h : Sm B d) (hB : 6 ≤ B) : (rootI d).obj.wt ≤ B := by
  unfold rootI
  cases hfi : Dk.find d.items (g d.trailer Dk.rootK).n with
  | none => simp [Dk.it0, Vl.ob0, Ob.wt, Ob.wts, Pl.tot]; omega
  | some i => exact h.items i (List.mem_of_find?_eq_some hfi)
theorem set_sm {B : Nat} {d : Dc} {l : List Lx} (h : Sm B d) (hB : 6 ≤ B) : Sm (B + 3000000) (set d l).1 := by
  unfold set
  split
  · exact sm0 (by omega)
  split
  · exact sm0 (by omega)
  rename_i hl
  have hl := Classical.not_not.1 hl
  split
  · exact sm0 (by omega)
  have h1 := rootI_wt h hB
  have h2 := tree_wt hl
  have h3 := Vl.set_wt (rootI d).obj plK (treeO l)
  have h4 : plK.length = 10 := rfl
  exact put_sm h (by show (Vl.set (rootI d).obj plK (treeO l)).1.wt ≤ _; omega) (by omega) hB
theorem read_len (d : Dc) : (read d).1.length ≤ 2048 := by
  unfold read
  split
  · simp
  split
  · simp
  split
  · simp
  unfold told2
  split
  · simp
  · split
    · simp
    · rename_i h
      exact len_of (Classical.not_not.1 h)
end Lb
end Go.Proofs.YtiklhhdohckfiaaGreatDoor
