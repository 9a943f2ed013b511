/- Texts that go together: TbW TbX TbY. -/
import Derived.Test.YtjloddgofmdmgaaGreatDoorMeigkflnk
import Derived.Test.YtjloddgofmdmgaaGreatDoorMlpecagee
import Derived.Test.YtjloddgofmdmgaaGreatDoorMhalgbpod
import Derived.Test.YtjloddgofmdmgaaGreatDoorMcajhhopk
import Derived.Test.YtjloddgofmdmgaaGreatDoorMdnooccne
set_option linter.defProp false
set_option linter.unusedSimpArgs false
set_option linter.unusedVariables false
namespace Go.Proofs.YtjloddgofmdmgaaGreatDoor
set_option maxRecDepth 20000
open Eng Go.RowKit
theorem tableRuns_ret (l : List Slt) (v : Value) (W : World) (ht : Tb W) (hs : SlA (Mem.all W).A (Mem.all W).w v 4 l.length (slsC l)) (hf : NumsI l) (hlb : l.length≤9223372036854775807) : Ret Tryz.prog 6 #[v] W (fun v w' => v = .bool true∧Below W.heap.size W w'):= by
 refine ret_of fun K hK => S_foliantlaw18_TableRuns_ok ?_
 unfold S_foliantlaw18_TableRuns
 have hM : (Mem.all W).has W := Mem.all_has W
 rw [sl_len Tryz.underlying23 (hs.now hM)]
 simp only [rs]
 by_cases hl : (100 : Int) < (l.length : Int)
 ·simp only [decide_eq_true hl,i_t]
  refine c_ret (lives18_ret W ht) ?_
  rintro _ w ⟨rfl,hb⟩
  exact hK _ _ ⟨rfl,hb⟩
 simp only [decide_eq_false hl,i_f]
 refine c_mem (OwnS.memS hM) 0 rfl (truns_ret l v (Mem.all W) W (by omega) hf hM hs) ?_
 rintro rv N w1 hle hrn ho
 have ho : OwnS (Mem.all W).A W w1 [.mem N] := ho
 have hrn : SlA N.A N.w rv 2 (Tl.runs l).length (rnsC (Tl.runs l)) := hrn
 have hs := hs.le hle
 have hgl : (Tl.groups l).length≤l.length:= by
  have := Tl.runs_len l
  rwa [Tl.runs_length] at this
 have hpl : ∀ i,i≤(Tl.groups l).length→Tl.pos l i≤l.length:= by
  intro i hi
  rcases Nat.eq_zero_or_pos i with h | h
  ·subst h; simp [Tl.pos]
  ·obtain ⟨j,rfl⟩ : ∃ j,i = j + 1 := ⟨i - 1,by omega⟩
   exact (Tl.run_at (l := l) (i := j) (by omega)).2.2.1
 refine loop (fun vs' w => ∃ i : Nat,vs' = [.int .i64 (Tl.pos l i),.int .i64 i]∧i≤(Tl.groups l).length∧OwnS (Mem.all W).A W w [.mem N]) (fun vs' _ => (Tl.groups l).length - n1 vs') ⟨0,rfl,by omega,ho⟩ ?_
 clear ho
 rintro vs' w2 ⟨i,rfl,hi,ho⟩ _
 have hpi := hpl i hi
 simp only [S_foliantlaw18_TableRuns_0,gd]
 rw [sl_len Tryz.underlying38 (hrn.now (ho.hasM 0 rfl)),Tl.runs_length]
 simp only [rs]
 by_cases hlt : (i : Int) < ((Tl.groups l).length : Int)
 case neg =>
  have hi' : i = (Tl.groups l).length := by omega
  subst hi'
  simp only [decide_eq_false hlt,i_f]
  rw [sl_len Tryz.underlying23 (hs.now (ho.hasM 0 rfl)),Tl.pos_end]
  simp only [rs,decide_true]
  refine c_below ho (R := fun v => v = .bool true) (lives18_ret w2 (ht.mono (ho.toGives 0 rfl hle hM).below)) ?_
  rintro _ w3 rfl ho
  try simp only [rs]
  exact hK _ _ ⟨rfl,(ho.toGives 0 rfl hle hM).below⟩
 have hi' : i < (Tl.groups l).length := by omega
 simp only [decide_eq_true hlt,i_t]
 obtain ⟨g0,o0,hr0⟩ := rn_at hrn (i := i) (by rw [Tl.runs_length]; exact hi')
 rw [Tl.runs_get hi'] at hr0
 obtain ⟨hg1,hpos,hple,hat,hbef⟩ := Tl.run_at hi'
 generalize hgg : (Tl.groups l)[i] = g at *
 -- behind the tests
 have rest : ∀ {w : World},OwnS (Mem.all W).A W w [.mem N]→LoopX [.int .i64 (Tl.pos l i),(.int .i64 0)] w (fun vs3 w N3 => ∀ _ : Sg,S_foliantlaw18_TableRuns_1 v (vs3.getD 0 undef) rv (.int .i64 i) (vs3.getD 1 undef) w
   (NextX (fun vs' w => ∃ i : Nat,vs' = [.int .i64 (Tl.pos l i),.int .i64 i]∧i≤(Tl.groups l).length∧OwnS (Mem.all W).A W w [.mem N]) (fun vs' _ => (Tl.groups l).length - n1 vs') [.int .i64 (Tl.pos l i),.int .i64 i] w2) N3 K):= by
  clear ho
  intro w ho
  refine loop (fun vs' w => ∃ j : Nat,vs' = [.int .i64 ((Tl.pos l i + j : Nat) : Int),.int .i64 j]∧j≤g.length∧OwnS (Mem.all W).A W w [.mem N]) (fun vs' _ => g.length - n1 vs') ⟨0,rfl,by omega,ho⟩ ?_
  clear ho
  rintro vs' w3 ⟨j,rfl,hj,ho⟩ _
  simp only [S_foliantlaw18_TableRuns_1,gd]
  obtain ⟨r1,r2⟩ := hr0 w3 (ho.hasM 0 rfl)
  refine do_eq r1 |>.mpr ?_
  rw [d_ia21,l_cell nInt5 (r2 1 _ rfl)]
  simp only [rs]
  by_cases hjt : (j : Int) < (Tl.first g,(g.length : Int)).2
  case neg =>
   have hjt2 : ¬ (j : Int) < (g.length : Int) := hjt
   have hj' : j = g.length := by omega
   subst hj'
   simp only [decide_eq_false hjt,i_f]
   rw [wrap64_id (by omega) (by omega),← hpos]
   exact nextX ⟨i + 1,rfl,by omega,ho⟩ (by show (Tl.groups l).length - Int.toNat ((i : Int) + 1) < (Tl.groups l).length - Int.toNat (i : Int); omega)
  have hjt2 : (j : Int) < (g.length : Int) := hjt
  have hj' : j < g.length := by omega
  have hkb : Tl.pos l i + j < l.length := by omega
  simp only [decide_eq_true hjt,i_t]
  obtain ⟨g1,o1,hr1⟩ := slot_at hs hkb
  have hnum := hat j hj' hkb
  have hfx := hf _ (List.getElem_mem hkb)
  rw [hnum] at hfx
  refine quiet ?_
  refine q_at _ (fun w hb => (hr1 w ((ho.grow hb).hasM 0 rfl)).1) (q_do _ (fun _ => run_fa fs0) (q_at (.int .i64 (Tl.first g + j)) (fun w hb => by rw [← hnum]; exact run_snum (hr1 w ((ho.grow hb).hasM 0 rfl)).2) ?_))
  refine q_at _ (fun w hb => (hr0 w ((ho.grow hb).hasM 0 rfl)).1) (q_do _ (fun _ => r_ia20) (q_at (.int .i64 (Tl.first g)) (fun w hb => run_load_cell nInt5 ((hr0 w ((ho.grow hb).hasM 0 rfl)).2 0 _ rfl)) ?_))
  refine q_do (.int .i64 (Tl.first g + j)) (fun _ => by rw [r_add,wrap64_id (by omega) (by omega)]) ?_
  refine q_ne ?_
  intro w4 hb
  have ho := ho.grow hb
  simp only [ne_eq,not_true,decide_false,i_f,rs]
  rw [wrap64_id (by omega) (by omega),wrap64_id (by omega) (by omega)]
  refine nextX ⟨j + 1,?_,by omega,ho⟩ (by show g.length - Int.toNat ((j : Int) + 1) < g.length - Int.toNat (j : Int); omega)
  rw [show ((Tl.pos l i + (j + 1) : Nat) : Int) = ((Tl.pos l i + j : Nat) : Int) + 1 by omega]; rfl
 have ld : ∀ {w : World},Below w2.heap.size w2 w→(mLoad 3 (.pointer (some ⟨g0,o0 + 1,none⟩))).run Tryz.prog w = .ok (.value (.int .i64 (g.length : Int))) w := fun hb => run_load_cell nInt5 ((hr0 _ ((ho.grow hb).hasM 0 rfl)).2 1 _ rfl)
 have ld0 : ∀ {w : World},Below w2.heap.size w2 w→(mLoad 3 (.pointer (some ⟨g0,o0,none⟩))).run Tryz.prog w = .ok (.value (.int .i64 (Tl.first g))) w := fun hb => run_load_cell nInt5 ((hr0 _ ((ho.grow hb).hasM 0 rfl)).2 0 _ rfl)
 refine quiet ?_
 refine q_at _ (fun w hb => (hr0 w ((ho.grow hb).hasM 0 rfl)).1) (q_do _ (fun _ => r_ia21) (q_at _ (fun w hb => ld hb) ?_))
 refine q_lss ?_
 simp only [decide_eq_false (show ¬ ((g.length : Nat) : Int) < 1 by omega),gq,gq_un]
 refine q_at _ (fun w hb => (hr0 w ((ho.grow hb).hasM 0 rfl)).1) (q_do _ (fun _ => r_ia21) (q_at _ (fun w hb => ld hb) ?_))
 refine q_at (.int .i64 (l.length : Int)) (fun w hb => by rw [run_sl_len Tryz.underlying23 (hs.now ((ho.grow hb).hasM 0 rfl))]) ?_
 refine q_do (.int .i64 ((l.length : Int) - Tl.pos l i)) (fun _ => by rw [r_sub,wrap64_id (by omega) (by omega)]) ?_
 refine q_gtr ?_
 simp only [decide_eq_false (show ¬ (l.length : Int) - (Tl.pos l i : Int) < (g.length : Int) by omega)]
 refine q_pf ?_
 simp only [gq,gq_un]
 refine q_gtr ?_
 rcases Nat.eq_zero_or_pos i with hz | hz
 ·simp only [decide_eq_false (show ¬ (0 : Int) < (i : Int) by omega),gq,gq_un]
  refine q_pf ?_
  simp only [gq,gq_un]
  refine q_pf ?_
  refine q_pf fun w hb => ?_
  simp only [i_f]
  exact rest (ho.grow hb)
 obtain ⟨hp0,hne⟩ := hbef hz
 simp only [decide_eq_true (show (0 : Int) < (i : Int) by omega),gq,gq_un]
 have hkb : Tl.pos l i - 1 < l.length := by omega
 obtain ⟨g1,o1,hr1⟩ := slot_at hs hkb
 have hne := hne hkb
 have hfy := hf _ (List.getElem_mem hkb)
 generalize l[Tl.pos l i - 1] = y at *
 have hw1 : IntKind.wrap .i64 ((Tl.pos l i : Int) - 1) = ((Tl.pos l i - 1 : Nat) : Int) := by rw [wrap64_id (by omega) (by omega)]; omega
 refine q_do (.int .i64 ((Tl.pos l i - 1 : Nat) : Int)) (fun _ => by rw [r_sub,hw1]) ?_
 refine q_at _ (fun w hb => (hr1 w ((ho.grow hb).hasM 0 rfl)).1) (q_do _ (fun _ => run_fa fs0) (q_at (.int .i64 y.num) (fun w hb => run_snum (hr1 w ((ho.grow hb).hasM 0 rfl)).2) ?_))
 refine q_lss ?_
 refine q_pt ?_
 by_cases hq : y.num < 9223372036854775807
 case neg =>
  simp only [decide_eq_false hq,gq,gq_un]
  refine q_pf ?_
  refine q_pf fun w hb => ?_
  simp only [i_f]
  exact rest (ho.grow hb)
 simp only [decide_eq_true hq,gq,gq_un]
 refine q_at _ (fun w hb => (hr0 w ((ho.grow hb).hasM 0 rfl)).1) (q_do _ (fun _ => r_ia20) (q_at _ (fun w hb => ld0 hb) ?_))
 refine q_do (.int .i64 ((Tl.pos l i - 1 : Nat) : Int)) (fun _ => by rw [r_sub,hw1]) ?_
 refine q_at _ (fun w hb => (hr1 w ((ho.grow hb).hasM 0 rfl)).1) (q_do _ (fun _ => run_fa fs0) (q_at (.int .i64 y.num) (fun w hb => run_snum (hr1 w ((ho.grow hb).hasM 0 rfl)).2) ?_))
 refine q_do (.int .i64 (y.num + 1)) (fun _ => by rw [r_add,wrap64_id (by omega) (by omega)]) ?_
 refine q_eq ?_
 simp only [decide_eq_false hne]
 refine q_pt ?_
 refine q_pf fun w hb => ?_
 simp only [i_f]
 exact rest (ho.grow hb)
end Go.Proofs.YtjloddgofmdmgaaGreatDoor

namespace Go.Proofs.YtjloddgofmdmgaaGreatDoor
open Eng Go.RowKit Go.ChangeShapes Go.WideShapes Go.ChangeAt
set_option maxRecDepth 100000
theorem list4t {α : Type} : ∀ {l : List α},l.length = 4→∃ a b c d,l = [a,b,c,d]
 | [a,b,c,d],_ => ⟨a,b,c,d,rfl⟩
section
variable {H : Type} {enc : TypeId × Value→H} {W : World} {sp : Nat→Bool} {held : Bool}
theorem open_slot (fuel : Nat) (cs : List Value) (x : DataW H × List MemPlace) (h : DataW.trod enc Tryz.prog W 0 sp held fuel 49 cs = some x) : ∃ l : Slt,(cs = slC l∧-9223372036854775808≤l.num∧l.num≤9223372036854775807)∧cs.length = 4∧1≤Rows.uptoBulk x.1:= by
 obtain ⟨xs,n,rfl,rfl,hl,hxl,hf⟩ := DataW.trod_struct Tryz.underlying49 h
 have c4 : Tryz.prog.cellsOf 49 = 4 := by kernel_rfl
 rw [c4] at hl
 have hxl : xs.length = 4 := hxl
 obtain ⟨x0,x1,x2,x3,rfl⟩ := list4t hxl
 obtain ⟨v0,v1,v2,v3,rfl⟩ := list4t hl
 have e0 := hf 0 _ rfl
 have e1 := hf 1 _ rfl
 have e2 := hf 2 _ rfl
 have e3 := hf 3 _ rfl
 have k0 : Tryz.prog.cellsOf 3 = 1 := by kernel_rfl
 simp only [k0,List.drop_zero,List.drop_succ_cons,List.take_succ_cons,List.take_zero,List.getElem?_cons_zero,List.getElem?_cons_succ] at e0 e1 e2 e3
 obtain ⟨a,ha,rfl,hw⟩ := DataW.trod_int Tryz.underlying3 e0
 obtain ⟨b,hb,rfl,_⟩ := DataW.trod_int Tryz.underlying3 e1
 obtain ⟨c,hc,rfl,_⟩ := DataW.trod_int Tryz.underlying3 e2
 obtain ⟨d,hd,rfl,_⟩ := DataW.trod_int Tryz.underlying3 e3
 injection ha with ha _
 injection hb with hb _
 injection hc with hc _
 injection hd with hd _
 subst ha; subst hb; subst hc; subst hd
 refine ⟨⟨a,b,c,d⟩,⟨rfl,int_bounds_i64 hw⟩,rfl,?_⟩
 simp only [Rows.uptoBulk,List.map_cons,List.map_nil,Rows.uptoBulkAll]
 omega
theorem slots_of : ∀ {cs : List Value} {l : List Slt},Rws (fun cs x => cs = slC x∧-9223372036854775808≤x.num∧x.num≤9223372036854775807) cs l→cs = slsC l∧NumsI l
 | _,_,.nil => ⟨rfl,fun x hx => by cases hx⟩
 | _,_,.cons (a := a) (rest := rest) h t => by
  obtain ⟨h1,h2⟩ := slots_of t
  refine ⟨by rw [h.1,h1]; rfl,fun x hx => ?_⟩
  rcases List.mem_cons.1 hx with rfl | hx
  ·exact h.2
  ·exact h2 x hx
theorem row_slots {b0 : Nat} {v : Value} {d : DataW H} {ps : List MemPlace} (hval : Value.okWide Tryz.prog W .any b0 23 v) (hd : DataW.Trod enc Tryz.prog W 0 sp held 23 v d ps) :
  ∃ l : List Slt,SlA (Mem.all W).A (Mem.all W).w v 4 l.length (slsC l)∧NumsI l∧l.length≤9223372036854775807:= by
 obtain ⟨a,len,cap,rfl⟩ := okWide_slice Tryz.underlying23 hval
 obtain ⟨fuel,hf⟩ := hd
 obtain ⟨v',ds,xs,h1,h2,h3,h4,h5⟩ := open_slice_of (R := fun cs x => cs = slC x∧-9223372036854775808≤x.num∧x.num≤9223372036854775807) (wt := fun _ : Slt => 1) (n := 4) Tryz.underlying23 (by kernel_rfl) (by decide) open_slot hf
 have e : v' = .slice a len cap:= by
  have h1 : [Value.slice a len cap] = [v'] := h1
  injection h1 with h1 _
  exact h1.symm
 subst e
 obtain ⟨hfl,hn⟩ := slots_of h3
 subst hfl
 exact ⟨xs,h2,hn,h4⟩
end
end Go.Proofs.YtjloddgofmdmgaaGreatDoor
