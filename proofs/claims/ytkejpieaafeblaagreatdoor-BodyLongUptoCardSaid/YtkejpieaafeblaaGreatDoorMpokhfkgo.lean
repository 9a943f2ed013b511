/- Texts that go together: EngAG SBodyR BoA BoB SRef08 BoR SStrm SDrop5 BoC BoD BoS BoT BoU BoE BoF BoV SLaw08 BoW BoX BoY BoG BpA BpB BpC BpD Plain08C BpE BoZ BpF. -/
import Derived.Test.YtkejpieaafeblaaGreatDoorRows
import Derived.Test.YtkejpieaafeblaaGreatDoorMkoaimgmm
import Derived.Test.YtkejpieaafeblaaGreatDoorMelecaoce
import Derived.Test.YtkejpieaafeblaaGreatDoorMlaakfahp
import Derived.Test.YtkejpieaafeblaaGreatDoorMjlofogbb
import Derived.Test.YtkejpieaafeblaaGreatDoorMifmbonka
set_option linter.defProp false
set_option linter.unusedSimpArgs false
set_option linter.unusedVariables false
namespace Go.Proofs.YtkejpieaafeblaaGreatDoor
namespace Eng
theorem callsD_recover2 {P : Program} {f : FuncId} {fn : Func} {id : Nat} {o o2 : Oper} {rest : Code} {args : List Value} {u : FrameMode} {w : World} {R : Ending→FrameMode→World→Prop} {n d d2 : Nat} {aj al : List (Nat × List Nat)} {rs : List ResultVar} {g : Nat} {ys : Array Operand} {ts : Array TypeId}
  (hf : P.funcs[f]? = some fn) (hb : fn.body = some (.seq (.region id #[o,o2] false) rest)) (ho : o.op = .call { callee:=.builtin .recover,args:=#[],argTypes:=#[] }) (hg : o.guard = none) (hd : o.dst = some d) (hdn : Nat.blt d n = true)
  (ho2 : o2.op = .call { callee:=.value (.func g),args:=ys,argTypes:=ts }) (hg2 : o2.guard = none) (hd2 : o2.dst = some d2) (hdn2 : Nat.blt d2 n = true)
  (hn : fn.ntmps = n) (hrs : fn.results.toList = rs) (hl : Nat.ble args.length n = true) (hrest : sndOf (bodyOf fn) = rest) (hp : plainB P g = true)
  {K' : Value→World→Prop} (h : CallX P g (amap (rd (upd (startX args) d (recV u))) ys) w (fun c w' => R (.panicked c) (recM u) w') K')
  (hK : ∀ v w',K' v w'→wpX P n aj al none (sndOf (bodyOf fn)) (topD P rs (fun e w' => R e (recM u) w')) (upd (upd (startX args) d (recV u)) d2 v) [] w') : CallsD P f args.toArray u w R:=by
 rw [hrest] at hK
 refine callsD_of_wpS hf hb fun c₀ cs hu => ?_
 rw [hn]
 refine wpS_seq (wpS_region ?_)
 have hex : ∀ ρ : Operand→Value,(execOp ρ o).run P w = .ok .recover w:=by
  intro ρ
  unfold execOp
  rw [ho]
  simp [resolve,invoke,builtin,bind,pure,Sem.bind,Sem.run]
 have hrep:=start_rep (args:=args) hl
 have hput : Rep n (upd (startX args) d (recV u)) (({ tmps:=args.toArray++Array.replicate (n - args.toArray.size) undef,defers:=[] } : Act).put o.dst (recV u)).tmps:=by
  rw [hd];exact Rep.put (a:={ tmps:=args.toArray++Array.replicate (n - args.toArray.size) undef,defers:=[] }) hrep (d:=some d) hdn (recV u)
 have hdef : (({ tmps:=args.toArray++Array.replicate (n - args.toArray.size) undef,defers:=[] } : Act).put o.dst (recV u)).defers = []:=by rw [hd];rfl
 obtain⟨A1,hA1⟩ : ∃ A,A = ({ tmps:=args.toArray++Array.replicate (n - args.toArray.size) undef,defers:=[] } : Act).put o.dst (recV u):=⟨_,rfl⟩
 rw [← hA1] at hput hdef
 have hex2 : (execOp A1.eval o2).run P w = .ok (.enter g (amap (rd (upd (startX args) d (recV u))) ys)) w:=by
  rw [Rep.eval hput]
  unfold execOp
  rw [ho2,amap_eq]
  simp only [resolve,rd,Deferred.ofValue,invoke,bind,pure,Sem.bind]
  rw [Array.empty_append,Array.append_empty]
  exact plain_run hp _ _
 have key : wpOpsS P #[o,o2] (Exit.thenS (rest.wpS P (bodyPostS P fn c₀ cs R)) (bodyPostS P fn c₀ cs R)) [1] A1 ({ c₀ with mode:=recM u } :: cs) w:=by
  unfold wpOpsS
  simp only [List.getElem?_toArray,List.getElem?_cons_succ,List.getElem?_cons_zero]
  rw [if_pos (by simp [Region.wanted,hg2]),hex2]
  simp only [Oper.upon]
  refine Calls.mono h.out ?_
  rintro e w'' hk
  cases e with
  | outgrown => exact hk.elim
  | panicked c => exact⟨hdef,recM u,rfl,hk⟩
  | returned v =>
   have hk : wpX P n aj al none rest (topD P rs (fun e w' => R e (recM u) w')) (upd (upd (startX args) d (recV u)) d2 v) [] w'':=hK v w'' hk
   have hput2 : Rep n (upd (upd (startX args) d (recV u)) d2 v) (A1.put o2.dst v).tmps:=by
    rw [hd2];exact Rep.put hput (d:=some d2) hdn2 v
   have hdef2 : (A1.put o2.dst v).defers = []:=by rw [hd2];exact hdef
   refine wpS_of_wp (Code.wp_mono ?_ (wpIn_wide.1 (wpX_sound rest none _ _ _ w'' hput2 (by rw [hdef2];exact hk))))
   rintro e a w' ⟨σ,hr,hk⟩
   have hdd : ∀ K : Ending→World→Prop,RetD P (rvOf σ rs) w' K→∃ v,(results fn a.tmps).run P w' = .ok v w'∧K (.returned v) w':=fun K hk => by
    rw [results_eq hr,hrs];exact retX_iff hk
   generalize hds : a.defers = ds at hk
   cases e<;>cases ds<;>first | (exact hk.elim;done) | skip
   ·obtain⟨v,h1,h2⟩:=hdd (fun e w' => R e (recM u) w') hk;exact⟨hds,recM u,rfl,v,h1,h2⟩
   ·obtain⟨v,h1,h2⟩:=hdd (fun e w' => R e (recM u) w') hk;exact⟨hds,recM u,rfl,v,h1,h2⟩
   ·exact⟨hds,recM u,rfl,hk⟩
 have e:=rec_eq c₀ cs
 rw [hu] at e
 show wpOpsS P #[o,o2] _ [0,1] _ (c₀ :: cs) w
 unfold wpOpsS
 simp only [List.getElem?_toArray,List.getElem?_cons_zero]
 rw [if_pos (by simp [Region.wanted,hg])]
 rw [hex]
 cases hrc : recoverD (c₀ :: cs) with
 | none =>
  rw [hrc] at e
  simp only [Prod.mk.injEq] at e
  simp only
  rw [e.1,e.2,← hA1];exact key
 | some x =>
  obtain⟨v,cs'⟩:=x
  rw [hrc] at e
  simp only [Prod.mk.injEq] at e
  simp only
  rw [e.1,e.2,← hA1];exact key
end Eng
end Go.Proofs.YtkejpieaafeblaaGreatDoor
namespace Go.Proofs.YtkejpieaafeblaaGreatDoor
set_option maxRecDepth 20000
open Eng
def S_body_Head_1_r (t0 t1 t2 t3 r v : Value) (w : World) (K : Ending→World→Prop) : Prop:=
 DoX Tryz.prog (mLoad 30 t0) w (pk K) fun t6 w =>
 DoX Tryz.prog (mEq .neq 30 (.tmp 6) (.const (.int .i64 0)) t6 (.int .i64 0)) w (pk K) fun t7 w =>
 IfX t7 (DoX Tryz.prog (mStore 3 t1 (.int .i64 0)) w (pk K) fun _ w =>
 DoX Tryz.prog (mStore 3 t2 (.int .i64 0)) w (pk K) fun _ w =>
 DoX Tryz.prog (mStore 3 t3 (.int .i64 0)) w (pk K) fun _ w =>
 K (.returned (.tuple #[])) w) (K (.returned (.tuple #[])) w)
def S_body_Head_1 (t0 t1 t2 t3 r : Value) (w : World) (K : Ending→World→Prop) : Prop:=CallX Tryz.prog 24 #[r,t0] w (pk K) fun v w => S_body_Head_1_r t0 t1 t2 t3 r v w K
theorem S_body_Head_1_eq (t0 t1 t2 t3 r v : Value) (w : World) (K : Ending→World→Prop) : wpX Tryz.prog 8 [] [] none (sndOf (bodyOf Tryz.f39)) (topD Tryz.prog [] K) (upd (upd (startX [t0,t1,t2,t3]) 4 r) 5 v) [] w = S_body_Head_1_r t0 t1 t2 t3 r v w K:=by kernel_rfl
theorem S_body_Head_1_dok {t0 t1 t2 t3 : Value} {u : FrameMode} {w : World} {R : Ending→FrameMode→World→Prop} (h : S_body_Head_1 t0 t1 t2 t3 (recV u) w (fun e w => R e (recM u) w)) : CallsD Tryz.prog 39 #[t0,t1,t2,t3] u w R:=
 callsD_recover2 Tryz.func39 rfl rfl rfl rfl rfl rfl rfl rfl rfl rfl rfl rfl rfl (by kernel_rfl) h fun v w hh => Eq.mpr (S_body_Head_1_eq t0 t1 t2 t3 (recV u) v w _) hh
def S_body_Read_1_r (t0 t1 t2 r v : Value) (w : World) (K : Ending→World→Prop) : Prop:=
 DoX Tryz.prog (mLoad 30 t0) w (pk K) fun t5 w =>
 DoX Tryz.prog (mEq .neq 30 (.tmp 5) (.const (.int .i64 0)) t5 (.int .i64 0)) w (pk K) fun t6 w =>
 IfX t6 (DoX Tryz.prog (mBuild 27 #[]) w (pk K) fun t7 w =>
 DoX Tryz.prog (mStore 27 t1 t7) w (pk K) fun _ w =>
 DoX Tryz.prog (mStore 3 t2 (.int .i64 0)) w (pk K) fun _ w =>
 K (.returned (.tuple #[])) w) (K (.returned (.tuple #[])) w)
def S_body_Read_1 (t0 t1 t2 r : Value) (w : World) (K : Ending→World→Prop) : Prop:=CallX Tryz.prog 24 #[r,t0] w (pk K) fun v w => S_body_Read_1_r t0 t1 t2 r v w K
theorem S_body_Read_1_eq (t0 t1 t2 r v : Value) (w : World) (K : Ending→World→Prop) : wpX Tryz.prog 8 [] [] none (sndOf (bodyOf Tryz.f23)) (topD Tryz.prog [] K) (upd (upd (startX [t0,t1,t2]) 3 r) 4 v) [] w = S_body_Read_1_r t0 t1 t2 r v w K:=by kernel_rfl
theorem S_body_Read_1_dok {t0 t1 t2 : Value} {u : FrameMode} {w : World} {R : Ending→FrameMode→World→Prop} (h : S_body_Read_1 t0 t1 t2 (recV u) w (fun e w => R e (recM u) w)) : CallsD Tryz.prog 23 #[t0,t1,t2] u w R:=
 callsD_recover2 Tryz.func23 rfl rfl rfl rfl rfl rfl rfl rfl rfl rfl rfl rfl rfl (by kernel_rfl) h fun v w hh => Eq.mpr (S_body_Read_1_eq t0 t1 t2 (recV u) v w _) hh
def S_body_Length_1_r (t0 t1 r v : Value) (w : World) (K : Ending→World→Prop) : Prop:=
 DoX Tryz.prog (mLoad 30 t0) w (pk K) fun t4 w =>
 DoX Tryz.prog (mEq .neq 30 (.tmp 4) (.const (.int .i64 0)) t4 (.int .i64 0)) w (pk K) fun t5 w =>
 IfX t5 (DoX Tryz.prog (mBuild 25 #[]) w (pk K) fun t6 w =>
 DoX Tryz.prog (mStore 25 t1 t6) w (pk K) fun _ w =>
 K (.returned (.tuple #[])) w) (K (.returned (.tuple #[])) w)
def S_body_Length_1 (t0 t1 r : Value) (w : World) (K : Ending→World→Prop) : Prop:=CallX Tryz.prog 24 #[r,t0] w (pk K) fun v w => S_body_Length_1_r t0 t1 r v w K
theorem S_body_Length_1_eq (t0 t1 r v : Value) (w : World) (K : Ending→World→Prop) : wpX Tryz.prog 7 [] [] none (sndOf (bodyOf Tryz.f34)) (topD Tryz.prog [] K) (upd (upd (startX [t0,t1]) 2 r) 3 v) [] w = S_body_Length_1_r t0 t1 r v w K:=by kernel_rfl
theorem S_body_Length_1_dok {t0 t1 : Value} {u : FrameMode} {w : World} {R : Ending→FrameMode→World→Prop} (h : S_body_Length_1 t0 t1 (recV u) w (fun e w => R e (recM u) w)) : CallsD Tryz.prog 34 #[t0,t1] u w R:=
 callsD_recover2 Tryz.func34 rfl rfl rfl rfl rfl rfl rfl rfl rfl rfl rfl rfl rfl (by kernel_rfl) h fun v w hh => Eq.mpr (S_body_Length_1_eq t0 t1 (recV u) v w _) hh
def S_body_Text_fn1_r (t0 t1 r v : Value) (w : World) (K : Ending→World→Prop) : Prop:=
 DoX Tryz.prog (mLoad 30 t0) w (pk K) fun t4 w =>
 DoX Tryz.prog (mEq .neq 30 (.tmp 4) (.const (.int .i64 0)) t4 (.int .i64 0)) w (pk K) fun t5 w =>
 IfX t5 (DoX Tryz.prog (mStore 9 t1 (.string ⟨#[]⟩)) w (pk K) fun _ w =>
 K (.returned (.tuple #[])) w) (K (.returned (.tuple #[])) w)
def S_body_Text_fn1 (t0 t1 r : Value) (w : World) (K : Ending→World→Prop) : Prop:=CallX Tryz.prog 24 #[r,t0] w (pk K) fun v w => S_body_Text_fn1_r t0 t1 r v w K
theorem S_body_Text_fn1_eq (t0 t1 r v : Value) (w : World) (K : Ending→World→Prop) : wpX Tryz.prog 6 [] [] none (sndOf (bodyOf Tryz.f41)) (topD Tryz.prog [] K) (upd (upd (startX [t0,t1]) 2 r) 3 v) [] w = S_body_Text_fn1_r t0 t1 r v w K:=by kernel_rfl
theorem S_body_Text_fn1_dok {t0 t1 : Value} {u : FrameMode} {w : World} {R : Ending→FrameMode→World→Prop} (h : S_body_Text_fn1 t0 t1 (recV u) w (fun e w => R e (recM u) w)) : CallsD Tryz.prog 41 #[t0,t1] u w R:=
 callsD_recover2 Tryz.func41 rfl rfl rfl rfl rfl rfl rfl rfl rfl rfl rfl rfl rfl (by kernel_rfl) h fun v w hh => Eq.mpr (S_body_Text_fn1_eq t0 t1 (recV u) v w _) hh
end Go.Proofs.YtkejpieaafeblaaGreatDoor
namespace Go.Proofs.YtkejpieaafeblaaGreatDoor
set_option maxRecDepth 20000
open Eng Go.RowKit
abbrev brE (b : Nat) (s : List UInt8) (a : Int) : Ent:=.cells b (rdC s a) 62
theorem fbr0 : fOff Tryz.prog 62 0 = some 0:=by kernel_rfl
theorem fbr1 : fOff Tryz.prog 62 1 = some 1:=by kernel_rfl
theorem nfG : notIface Tryz.prog 96 = true:=by kernel_rfl
def upE (e : Int) : PanicEntry:={ v:=.iface 96 (.agg #[.int .i64 e]),recovered:=false }
section
variable {w : World} {PK : List PanicEntry→World→Prop} {K : Value→World→Prop} {S : Nat→Prop} {w0 : World} {L : List Ent}
theorem fa_br1 {b : Nat} : DoX Tryz.prog (mFA 62 (.pointer (some ⟨b,0,none⟩)) 1) w PK K = K (.pointer (some ⟨b,1,none⟩)) w:=f_addr fbr1
theorem br_s {b : Nat} {s : List UInt8} {a : Int} (h : (brE b s a).is w) : (mLoad 9 (.pointer (some ⟨b,0,none⟩))).run Tryz.prog w = .ok (.value (.string ⟨s.toArray⟩)) w:=run_load_cell nStr5 (cells_cell (T:=62) (cs:=rdC s a) (i:=0) h rfl)
theorem br_a {b : Nat} {s : List UInt8} {a : Int} (h : (brE b s a).is w) : (mLoad 3 (.pointer (some ⟨b,1,none⟩))).run Tryz.prog w = .ok (.value (.int .i64 a)) w:=run_load_cell nInt5 (cells_cell (T:=62) (cs:=rdC s a) (i:=1) h rfl)
theorem br_put (i : Nat) {b : Nat} {s : List UInt8} {a a' : Int} (ho : OwnS S w0 w L) (hi : L[i]? = some (brE b s a)) (k : ∀ w',OwnS S w0 w' (L.set i (brE b s a'))→K undef w') : DoX Tryz.prog (mStore 3 (.pointer (some ⟨b,1,none⟩)) (.int .i64 a')) w PK K:=
 o_store i ho hi (by kernel_rfl) rfl (show 1 < 2 by omega) k
end
theorem bneed_t (e : Int) (w : World) : Ret Tryz.prog 26 #[.bool true,.int .i64 e] w (fun v w' => v = .tuple #[]∧w = w'):=by
 refine ret_of fun K hK => S_body_need_ok ?_
 unfold S_body_need
 simp only [rs,Bool.not_true,i_f]
 exact hK _ _ ⟨rfl,rfl⟩
theorem bneed_f (e : Int) (w : World) : Pan Tryz.prog 26 #[.bool false,.int .i64 e] w (fun c w' => c = [upE e]∧w = w'):=by
 refine pan_of fun K hK => S_body_need_ok ?_
 unfold S_body_need
 simp only [rs,Bool.not_false,i_t]
 have hb : ∀ {PK : List PanicEntry→World→Prop} {K : Value→World→Prop},DoX Tryz.prog (mBuild 96 #[(0,.int .i64 e)]) w PK K = K (.agg #[.int .i64 e]) w:=do_eq (by kernel_rfl)
 rw [hb,m_iface nfG,m_panic]
 exact hK _ _ ⟨rfl,rfl⟩
section
variable {w : World} {PK : List PanicEntry→World→Prop} {K : Value→World→Prop} {S : Nat→Prop} {w0 : World} {L : List Ent}
theorem c_bneed {q : Bool} {e : Int} (kt : q = true→K (.tuple #[]) w) (kf : q = false→PK [upE e] w) : CallX Tryz.prog 26 #[.bool q,.int .i64 e] w PK K:=by
 cases q with
 | true => exact c_eq (bneed_t e w) (kt rfl)
 | false => exact c_pan (bneed_f e w) fun c w' ⟨hc,hw⟩ => by subst hc;subst hw;exact kf rfl
theorem c_bmustT {t : Lx.Tok} {e : Int} (ho : OwnS S w0 w L) (kr : e = 0→∀ w',OwnS S w0 w' L→K (tokV t) w') (kp : e≠0→∀ w',OwnS S w0 w' L→PK [upE e] w') : CallX Tryz.prog 62 #[tokV t,.int .i64 e] w PK K:=by
 refine⟨S_body_must_foliant_api_Token_ok ?_⟩
 unfold S_body_must_foliant_api_Token
 refine o_tkb t ho fun b w1 ho => ?_
 refine o_tok ho fun b2 w2 ho => ?_
 simp only [rs]
 refine c_bneed (fun h => ?_) fun h => kp (of_decide_eq_false h) _ ho.tail.tail
 rw [tk_v ho 1 rfl]
 refine tk_put 0 ho rfl fun w3 ho => ?_
 exact ret_v1 (rv_cell (ho.agg 0 rfl aggTok)) (kr (of_decide_eq_true h) _ ho.tail.tail)
theorem c_bmustO {o : Ob} {vk vc : Value} {e : Int} (hk : vk.oneCell' = true) (hc : vc.oneCell' = true) (ho : OwnS S w0 w L) (kr : e = 0→∀ w',OwnS S w0 w' L→K (obV o vk vc) w') (kp : e≠0→∀ w',OwnS S w0 w' L→PK [upE e] w') : CallX Tryz.prog 47 #[obV o vk vc,.int .i64 e] w PK K:=by
 refine⟨S_body_must_foliant_api_Object_ok ?_⟩
 unfold S_body_must_foliant_api_Object
 refine o_obb o hk hc ho fun b w1 ho => ?_
 refine o_oba ho fun b2 w2 ho => ?_
 simp only [rs]
 refine c_bneed (fun h => ?_) fun h => kp (of_decide_eq_false h) _ ho.tail.tail
 rw [ob_v ho 1 rfl]
 refine ob_put 0 hk hc ho rfl fun w3 ho => ?_
 exact ret_v1 (rv_cell (ho.agg 0 rfl aggOb)) (kr (of_decide_eq_true h) _ ho.tail.tail)
theorem c_bmustS {s : List UInt8} {e : Int} (kr : e = 0→K (.string ⟨s.toArray⟩) w) (kp : e≠0→PK [upE e] w) : CallX Tryz.prog 45 #[.string ⟨s.toArray⟩,.int .i64 e] w PK K:=by
 refine⟨S_body_must_string_ok ?_⟩
 unfold S_body_must_string
 simp only [rs]
 exact c_bneed (fun h => kr (of_decide_eq_true h)) fun h => kp (of_decide_eq_false h)
theorem c_bfrom {s : List UInt8} {a : Int} (ho : OwnS S w0 w L) (kr : (0≤a∧a≤s.length)→∀ b w',OwnS S w0 w' (brE b s a :: L)→K (rdP b) w') (kp : ¬ (0≤a∧a≤s.length)→PK [upE 1] w) : CallX Tryz.prog 25 #[.string ⟨s.toArray⟩,.int .i64 a] w PK K:=by
 refine⟨S_body_from_ok ?_⟩
 unfold S_body_from
 have fin : ∀ q : Bool,(q = true ↔ (0≤a∧a≤s.length))→CallX Tryz.prog 26 #[.bool q,.int .i64 1] w (pk (Cont K PK)) fun t13 w =>
   DoX Tryz.prog (mBuild 62 #[(0,.string ⟨s.toArray⟩),(1,.int .i64 a)]) w (pk (Cont K PK)) fun t16 w => DoX Tryz.prog (mBox 62 t16) w (pk (Cont K PK)) fun t17 w => Cont K PK (.returned t17) w:=by
  intro q hq
  refine c_bneed (fun h => ?_) fun h => kp fun h' => by rw [hq.2 h'] at h;cases h
  have hb1 : ∀ {PK : List PanicEntry→World→Prop} {K : Value→World→Prop},DoX Tryz.prog (mBuild 62 #[(0,.string ⟨s.toArray⟩),(1,.int .i64 a)]) w PK K = K (.agg (rdC s a).toArray) w:=do_eq (by kernel_rfl)
  rw [hb1]
  exact o_new (fun b => .pointer (some ⟨b,0,none⟩)) (rdC s a) 62 (fun _ => by kernel_rfl) ho fun b w2 ho => kr (hq.1 h) b w2 ho
 by_cases h0 : a ≥ 0
 ·simp only [rs,decide_eq_true h0,s_len Tryz.underlying9]
  exact fin _ (by simp [decide_eq_true_eq];omega)
 ·simp only [rs,decide_eq_false h0,g_un]
  exact fin _ (by simp;omega)
end
theorem bnext_ret (b : Nat) (s : List UInt8) (a : Int) (w : World) (hs : s.length≤1099511627776) (hr : (brE b s a).is w) :
  Lend Tryz.prog 29 #[rdP b] (brE b s a) w (Has s a) (fun v e' => v = tokV (Lx.next s a).1∧e' = brE b s (Lx.next s a).1.t) [upE (lacks s a)]:=by
 refine lend_of hr (fun K ho hret hpan => S_body_reader_next_ok ?_)
 unfold S_body_reader_next
 generalize hS0 : (brE b s a).blk = S0 at *
 refine o_tok ho fun b2 w1 ho => ?_
 have two : ∀ {W : World} {b3 : Nat},(Lx.next s a).2 = 0→OwnS S0 w W [tokE b3 (Lx.next s a).1,tokE b2 Lx.none_,brE b s a]→S_body_reader_next_0 (rdP b) (.pointer (some ⟨b2,0,none⟩)) (.pointer (some ⟨b3,0,none⟩)) W K:=by
  intro W b3 hz ho
  unfold Has lacks at *
  generalize Lx.next s a = x at *
  unfold S_body_reader_next_0
  rw [fa_t0,tk_k ho 0 rfl]
  simp only [rs]
  refine c_bneed (fun h => ?_) fun h => ?_
  rotate_left
  ·have h0 : x.1.k = 0:=by simpa using h
   rw [if_neg (by simp [hz])] at hpan
   exact hpan (fun h => h.2 h0) _ W _ ho.tail.tail
  have h0 : x.1.k≠0:=of_decide_eq_true h
  rw [fa_t2,tk_t ho 0 rfl,fa_br1]
  refine br_put 2 ho rfl fun w2 ho => ?_
  have ho : OwnS S0 w w2 [tokE b3 x.1,tokE b2 Lx.none_,brE b s x.1.t]:=ho
  rw [tk_v ho 0 rfl]
  refine tk_put 1 ho rfl fun w3 ho => ?_
  refine ret_v1 (rv_cell (ho.agg 1 rfl aggTok)) ?_
  exact hret ⟨hz,h0⟩ _ _ w3 [] ho.tail.tail ⟨rfl,rfl⟩
 have bad : ∀ {W : World} {L : List Ent},(Lx.next s a).2≠0→OwnS S0 w W (L++([brE b s a]++[]))→pk K [upE (Lx.next s a).2] W:=by
  intro W L hz ho
  have:=hpan (fun h => hz h.1)
  unfold lacks at this
  rw [if_pos hz] at this
  exact this _ W _ ho.front
 have ho:=ho.drew
 refine⟨fun W => (brE b s a).is W,ho.at_ 1 rfl,?_⟩
 refine hd_pure _ (fun _ => run_nil) (hd_pure _ (fun _ => run_fa fbr0) (hd_do _ (fun W h => br_s h) ?_))
 refine hd_pure _ (fun _ => run_nil) (hd_pure _ (fun _ => run_fa fbr1) (hd_do _ (fun W h => br_a h) ?_))
 refine⟨?_,?_⟩
 ·refine c_below ho (R:=fun v => v = tokR (Lx.next s a)) (next_ret s a _ hs) ?_
  rintro _ w2 rfl ho
  refine hd_pure _ (fun _ => run_ext0) (hd_pure _ (fun _ => run_ext1) ?_)
  refine⟨?_,?_⟩
  ·refine c_bmustT ho (fun hz w3 ho => ⟨ho.at_ 1 rfl,?_⟩) fun hz w3 ho => fun _ _ _ _ _ _ _ _ _ _ => bad (L:=[_]) hz ho
   refine o_tok ho fun b3 w4 ho => ⟨ho.at_ 2 rfl,?_⟩
   refine tk_put 0 ho rfl fun w5 ho => ?_
   exact two hz ho
  ·refine o_tok ho fun b3 w4 ho => ⟨ho.at_ 2 rfl,?_⟩
   refine c_bmustT ho (fun hz w3 ho => ⟨ho.at_ 2 rfl,?_⟩) fun hz w3 ho => fun _ _ _ _ _ _ _ _ _ _ => bad (L:=[_,_]) hz ho
   refine tk_put 0 ho rfl fun w5 ho => ?_
   exact two hz ho
 ·refine o_tok ho fun b3 w3 ho => ⟨ho.at_ 2 rfl,?_⟩
  refine c_below ho (R:=fun v => v = tokR (Lx.next s a)) (next_ret s a _ hs) ?_
  rintro _ w2 rfl ho
  refine hd_pure _ (fun _ => run_ext0) (hd_pure _ (fun _ => run_ext1) ?_)
  refine c_bmustT ho (fun hz w3 ho => ⟨ho.at_ 2 rfl,?_⟩) fun hz w3 ho => fun _ _ _ _ _ _ _ _ _ _ => bad (L:=[_,_]) hz ho
  refine tk_put 0 ho rfl fun w5 ho => ?_
  exact two hz ho
theorem bword_ret (b : Nat) (s : List UInt8) (a : Int) (wd : List UInt8) (w : World) (hs : s.length≤1099511627776) (hr : (brE b s a).is w) :
  Lend Tryz.prog 60 #[rdP b,.string ⟨wd.toArray⟩] (brE b s a) w ((Bd.word s a wd).2 = 0) (fun v e' => v = .tuple #[]∧e' = brE b s (Bd.word s a wd).1) [upE (Bd.word s a wd).2]:=by
 refine lend_of hr (fun K ho hret hpan => S_body_reader_word_ok ?_)
 unfold S_body_reader_word
 generalize hS0 : (brE b s a).blk = S0 at *
 unfold Bd.word at hret hpan
 refine c_lend ho 0 rfl (bnext_ret b s a w hs (ho.at_ 0 rfl)) ?_ fun e2 w2 hn ho => ?_
 rotate_left
 ·unfold Has at hn
  unfold lacks
  by_cases hz : (Lx.next s a).2≠0
  ·rw [if_pos hz]
   rw [if_pos hz] at hpan
   exact hpan hz _ _ _ ho
  ·rw [if_neg hz]
   have hk : (Lx.next s a).1.k = 0:=by
    by_cases hk : (Lx.next s a).1.k = 0
    ·exact hk
    ·exact absurd ⟨by omega,hk⟩ hn
   rw [if_neg hz,if_pos hk] at hpan
   exact hpan (by decide) _ _ _ ho
 rintro _ _ w2 ⟨hz,hk⟩ ⟨rfl,rfl⟩ ho
 rw [if_neg (by simp [hz]),if_neg hk] at hret hpan
 generalize Lx.next s a = x at *
 refine o_tok ho fun b4 w3 ho => ?_
 refine tk_put 0 ho rfl fun w4 ho => ?_
 have ho : OwnS S0 w w4 [tokE b4 x.1,brE b s x.1.t]:=ho
 have fin : ∀ q : Bool,(q = true ↔ (x.1.k = 5∧x.1.s = wd))→CallX Tryz.prog 26 #[.bool q,.int .i64 3] w4 (pk K) fun t16 w => K (.returned (.tuple #[])) w:=by
  intro q hq
  refine c_bneed (fun h => ?_) fun h => ?_
  ·obtain⟨h5,hw⟩:=hq.1 h
   rw [if_neg (by simp [h5,hw])] at hret
   exact hret rfl _ _ w4 [] ho.tail ⟨rfl,rfl⟩
  ·have hne : x.1.k≠5∨x.1.s≠wd:=by
    by_cases h5 : x.1.k = 5
    ·right
     intro hw
     rw [hq.2 ⟨h5,hw⟩] at h;cases h
    ·exact .inl h5
   rw [if_pos hne] at hpan
   exact hpan (by decide) _ w4 [] ho.tail
 rw [fa_t0,tk_k ho 0 rfl]
 by_cases h5 : x.1.k = 5
 ·simp only [rs,decide_eq_true h5,fa_t4',tk_s ho 0 rfl]
  exact fin _ (by simp [h5])
 ·simp only [rs,decide_eq_false h5,g_un]
  exact fin _ (by simp [h5])
theorem bnum_ret (b : Nat) (s : List UInt8) (a lo hi : Int) (w : World) (hs : s.length≤1099511627776) (hr : (brE b s a).is w) :
  Lend Tryz.prog 59 #[rdP b,.int .i64 lo,.int .i64 hi] (brE b s a) w ((Bd.num s a lo hi).2.2 = 0) (fun v e' => v = .int .i64 (Bd.num s a lo hi).1∧e' = brE b s (Bd.num s a lo hi).2.1) [upE (Bd.num s a lo hi).2.2]:=by
 refine lend_of hr (fun K ho hret hpan => S_body_reader_number_ok ?_)
 unfold S_body_reader_number
 generalize hS0 : (brE b s a).blk = S0 at *
 unfold Bd.num at hret hpan
 refine c_lend ho 0 rfl (bnext_ret b s a w hs (ho.at_ 0 rfl)) ?_ fun e2 w2 hn ho => ?_
 rotate_left
 ·unfold Has at hn
  unfold lacks
  by_cases hz : (Lx.next s a).2≠0
  ·rw [if_pos hz]
   rw [if_pos hz] at hpan
   exact hpan hz _ _ _ ho
  ·rw [if_neg hz]
   have hk : (Lx.next s a).1.k = 0:=by
    by_cases hk : (Lx.next s a).1.k = 0
    ·exact hk
    ·exact absurd ⟨by omega,hk⟩ hn
   rw [if_neg hz,if_pos hk] at hpan
   exact hpan (by decide) _ _ _ ho
 rintro _ _ w2 ⟨hz,hk⟩ ⟨rfl,rfl⟩ ho
 rw [if_neg (by simp [hz]),if_neg hk] at hret hpan
 generalize Lx.next s a = x at *
 refine o_tok ho fun b4 w3 ho => ?_
 refine tk_put 0 ho rfl fun w4 ho => ?_
 have ho : OwnS S0 w w4 [tokE b4 x.1,brE b s x.1.t]:=ho
 rw [fa_t0,tk_k ho 0 rfl]
 simp only [rs]
 refine c_bneed (fun h => ?_) fun h => ?_
 rotate_left
 ·have h1 : x.1.k≠1:=of_decide_eq_false h
  rw [if_pos h1] at hpan
  exact hpan (by decide) _ w4 [] ho.tail
 have h1 : x.1.k = 1:=of_decide_eq_true h
 rw [if_neg (by simp [h1])] at hret hpan
 have fin : ∀ q : Bool,(q = true ↔ (lo≤x.1.n∧x.1.n≤hi))→CallX Tryz.prog 26 #[.bool q,.int .i64 2] w4 (pk K) fun t16 w => DoX Tryz.prog (mFA 58 (.pointer (some ⟨b4,0,none⟩)) 3) w (pk K) fun t25 w => DoX Tryz.prog (mLoad 2 t25) w (pk K) fun t26 w => K (.returned t26) w:=by
  intro q hq
  refine c_bneed (fun h => ?_) fun h => ?_
  ·have hb:=hq.1 h
   rw [if_neg (by omega)] at hret
   rw [fa_t3,tk_n ho 0 rfl]
   exact hret rfl _ _ w4 [] ho.tail ⟨rfl,rfl⟩
  ·have hne : x.1.n < lo∨hi < x.1.n:=by
    have hb : ¬ (lo≤x.1.n∧x.1.n≤hi):=fun hb => by rw [hq.2 hb] at h;cases h
    omega
   rw [if_pos hne] at hpan
   exact hpan (by decide) _ w4 [] ho.tail
 simp only [fa_t3,tk_n ho 0 rfl] at fin ⊢
 by_cases h5 : x.1.n ≥ lo
 ·simp only [rs,decide_eq_true h5,fa_t3,tk_n ho 0 rfl]
  exact fin (decide (x.1.n≤hi)) ⟨fun h => ⟨h5,of_decide_eq_true h⟩,fun h => decide_eq_true h.2⟩
 ·simp only [rs,decide_eq_false h5,g_un]
  exact fin false ⟨fun h => (by cases h),fun h => absurd h.1 h5⟩
theorem bhead_ret (b : Nat) (s : List UInt8) (a : Int) (w : World) (hs : s.length≤1099511627776) (hr : (brE b s a).is w) :
  Lend Tryz.prog 27 #[rdP b] (brE b s a) w ((Bd.headG s a).e = 0) (fun v e' => v = .tuple #[.int .i64 (Bd.headG s a).num,.int .i64 (Bd.headG s a).gen]∧e' = brE b s (Bd.headG s a).t) [upE (Bd.headG s a).e]:=by
 refine lend_of hr (fun K ho hret hpan => S_body_reader_head_ok ?_)
 unfold S_body_reader_head
 generalize hS0 : (brE b s a).blk = S0 at *
 unfold Bd.headG at hret hpan
 refine c_lend ho 0 rfl (bnum_ret b s a 1 8191 w hs (ho.at_ 0 rfl)) ?_ fun e2 w2 hn ho => ?_
 rotate_left
 ·rw [if_pos hn] at hpan
  exact hpan hn _ _ _ ho
 rintro _ _ w2 hz ⟨rfl,rfl⟩ ho
 rw [if_neg (by simp [hz])] at hret hpan
 refine c_lend ho 0 rfl (bnum_ret b s _ 0 65535 w2 hs (ho.at_ 0 rfl)) ?_ fun e2 w3 hn ho => ?_
 rotate_left
 ·rw [if_pos hn] at hpan
  exact hpan hn _ _ _ ho
 rintro _ _ w3 hz2 ⟨rfl,rfl⟩ ho
 rw [if_neg (by simp [hz2])] at hret hpan
 refine c_lend ho 0 rfl (bword_ret b s _ Bd.objW w3 hs (ho.at_ 0 rfl)) ?_ fun e2 w4 hn ho => ?_
 rotate_left
 ·rw [if_pos hn] at hpan
  exact hpan hn _ _ _ ho
 rintro _ _ w4 hz3 ⟨rfl,rfl⟩ ho
 rw [if_neg (by simp [hz3])] at hret
 exact hret rfl _ _ w4 [] ho ⟨rfl,rfl⟩
end Go.Proofs.YtkejpieaafeblaaGreatDoor
namespace Go.Proofs.YtkejpieaafeblaaGreatDoor
set_option maxRecDepth 20000
open Eng Go.RowKit
namespace Eng
theorem ret_v4 {P : Program} {w : World} {r1 r2 r3 r4 : RV} {v1 v2 v3 v4 : Value} {K : Ending→World→Prop} (h1 : r1.read.run P w = .ok v1 w) (h2 : r2.read.run P w = .ok v2 w) (h3 : r3.read.run P w = .ok v3 w) (h4 : r4.read.run P w = .ok v4 w) (k : K (.returned (.tuple #[v1,v2,v3,v4])) w) : RetX P [r1,r2,r3,r4] w K:=
 ⟨_,by simp [resRun,h1,h2,h3,h4],k⟩
end Eng
abbrev errE (b : Nat) (e : Int) : Ent:=.cells b [.int .i64 e] 30
abbrev ciE (b : Nat) (n : Int) : Ent:=.cells b [.int .i64 n] 3
section
variable {w : World} {PK : List PanicEntry→World→Prop} {K : Value→World→Prop} {S : Nat→Prop} {w0 : World} {L : List Ent}
theorem c_bcaughtN {v : Value} (k : K (.tuple #[]) w) : CallX Tryz.prog 24 #[.nilIface,v] w PK K:=by
 refine⟨S_body_caught_ok ?_⟩
 simp only [S_body_caught,Eng.e_nil Tryz.underlying20,i_t]
 exact k
theorem c_bcaughtE {be : Nat} {x e : Int} (ho : OwnS S w0 w L) (i : Nat) (hi : L[i]? = some (errE be x)) (k : ∀ w',OwnS S w0 w' (L.set i (errE be e))→K (.tuple #[]) w') :
  CallX Tryz.prog 24 #[.iface 96 (.agg #[.int .i64 e]),.pointer (some ⟨be,0,none⟩)] w PK K:=by
 refine⟨S_body_caught_ok ?_⟩
 simp only [S_body_caught,Eng.e_some Tryz.underlying20,rs,t_hit nfG,ex,i_t,i_f]
 refine o_new (fun b => .pointer (some ⟨b,0,none⟩)) [.int .i64 0] 96 (fun _ => by kernel_rfl) ho fun b5 w5 ho => ?_
 refine o_put 0 ho rfl (new:=[.int .i64 e]) (show (Tryz.prog.info? 96).map (·.size) = some 1 by kernel_rfl) (by simp;rfl) rfl fun w6 ho => ?_
 rw [f_addr (show fOff Tryz.prog 96 0 = some 0 by kernel_rfl),l_cell nErr5 (ho.cell 0 rfl 0 rfl)]
 try simp only [rs]
 refine o_store (i + 1) ho (by simpa using hi) (by kernel_rfl) rfl (by simp) fun w7 ho => ?_
 exact k _ ho.tail
end
theorem bhead1_plain : plainB Tryz.prog 39 = true:=by kernel_rfl
def hdV (h : Bd.Hd) : Value:=.tuple #[.int .i64 h.num,.int .i64 h.gen,.int .i64 h.t,.int .i64 h.e]
theorem bHead_ret (s : List UInt8) (a : Int) (w : World) (hs : s.length≤1099511627776) :
  Ret Tryz.prog 13 #[.string ⟨s.toArray⟩,.int .i64 a] w (fun v w' => v = hdV (Bd.head s a)∧Below w.heap.size w w'):=by
 refine ret_of fun K hK => S_body_Head_ok ?_
 unfold S_body_Head
 refine o_new (fun b => .pointer (some ⟨b,0,none⟩)) [.int .i64 0] 3 (fun _ => by kernel_rfl) (Own.start w) fun b4 w1 ho => ?_
 refine o_new (fun b => .pointer (some ⟨b,0,none⟩)) [.int .i64 0] 3 (fun _ => by kernel_rfl) ho fun b5 w2 ho => ?_
 refine o_new (fun b => .pointer (some ⟨b,0,none⟩)) [.int .i64 0] 3 (fun _ => by kernel_rfl) ho fun b6 w3 ho => ?_
 refine o_new (fun b => .pointer (some ⟨b,0,none⟩)) [.int .i64 0] 30 (fun _ => by kernel_rfl) ho fun b7 w4 ho => ?_
 have ho : OwnS NoB w w4 [errE b7 0,ciE b6 0,ciE b5 0,ciE b4 0]:=ho
 rw [m_func]
 refine⟨_,rfl,?_⟩
 have fail : ∀ {W : World} {L : List Ent} {x y z e : Int},OwnS NoB w W (L++([errE b7 x,ciE b6 0,ciE b5 y,ciE b4 z]++[]))→e≠0→Bd.head s a = ⟨0,0,0,e⟩ →
   S_body_Head_p0 { target:=.fn (.func 39) #[.pointer (some ⟨b7,0,none⟩),.pointer (some ⟨b4,0,none⟩),.pointer (some ⟨b5,0,none⟩),.pointer (some ⟨b6,0,none⟩)],args:=#[]++#[] } (.pointer (some ⟨b4,0,none⟩)) (.pointer (some ⟨b5,0,none⟩)) (.pointer (some ⟨b6,0,none⟩)) (.pointer (some ⟨b7,0,none⟩)) K [upE e] W:=by
  intro W L x y z e ho h0 hh
  have ho:=ho.front
  show pd Tryz.prog _ K _ [upE e] W
  unfold pd
  refine leave_fn (by simp) bhead1_plain (S_body_Head_1_dok (t0:=.pointer (some ⟨b7,0,none⟩)) (t1:=.pointer (some ⟨b4,0,none⟩)) (t2:=.pointer (some ⟨b5,0,none⟩)) (t3:=.pointer (some ⟨b6,0,none⟩)) ?_)
  simp only [S_body_Head_1,recV,recM,upE]
  refine c_bcaughtE (e:=e) ho 0 rfl fun w5 ho => ?_
  have ho : OwnS NoB w w5 (errE b7 e :: ciE b6 0 :: ciE b5 y :: ciE b4 z :: (L++[])):=ho
  unfold S_body_Head_1_r
  rw [l_cell nErr5 (ho.cell 0 rfl 0 rfl)]
  simp only [rs,decide_eq_true (show e≠0 from h0),i_t]
  refine o_store 3 ho rfl (by kernel_rfl) rfl (by simp) fun w6 ho => ?_
  refine o_store 2 ho rfl (by kernel_rfl) rfl (by simp) fun w7 ho => ?_
  refine o_store 1 ho rfl (by kernel_rfl) rfl (by simp) fun w8 ho => ?_
  refine ret_v4 (rv_cell (AtV.cell nInt5 (ho.cell 3 rfl 0 rfl))) (rv_cell (AtV.cell nInt5 (ho.cell 2 rfl 0 rfl))) (rv_cell (AtV.cell nInt5 (ho.cell 1 rfl 0 rfl))) (rv_cell (AtV.cell nErr5 (ho.cell 0 rfl 0 rfl))) (hK _ _ ⟨?_,ho.done⟩)
  rw [hh];rfl
 by_cases hr : 0≤a∧a≤s.length
 case neg =>
  refine c_bfrom ho (fun h => absurd h hr) fun _ => fail (L:=[]) ho (by decide) ?_
  unfold Bd.head
  rw [if_pos (by omega)]
 have hh : Bd.head s a = Bd.headG s a:=by unfold Bd.head;rw [if_neg (by omega)]
 refine c_bfrom ho (fun _ b w5 ho => ?_) fun h => absurd hr h
 have ho : OwnS NoB w w5 [brE b s a,errE b7 0,ciE b6 0,ciE b5 0,ciE b4 0]:=ho
 refine c_lend ho 0 rfl (bhead_ret b s a w5 hs (ho.at_ 0 rfl)) ?_ fun e2 w6 hn ho => ?_
 rotate_left
 ·refine fail (L:=[e2]) ho hn ?_
  rw [hh]
  unfold Bd.headG at hn ⊢
  split
  ·rfl
  rename_i h1
  rw [if_neg h1] at hn
  split
  ·rfl
  rename_i h2
  rw [if_neg h2] at hn
  split
  ·rfl
  rename_i h3
  rw [if_neg h3] at hn
  exact absurd rfl hn
 rintro _ _ w6 hz ⟨rfl,rfl⟩ ho
 simp only [ex]
 refine o_store 4 ho rfl (by kernel_rfl) rfl (by simp) fun w7 ho => ?_
 refine o_store 3 ho rfl (by kernel_rfl) rfl (by simp) fun w8 ho => ?_
 have ho : OwnS NoB w w8 [brE b s (Bd.headG s a).t,errE b7 0,ciE b6 0,ciE b5 (Bd.headG s a).gen,ciE b4 (Bd.headG s a).num]:=ho
 rw [← hh] at ho hz
 have ho:=ho.drew
 refine⟨fun W => (brE b s (Bd.head s a).t).is W∧(ciE b5 (Bd.head s a).gen).is W∧(ciE b4 (Bd.head s a).num).is W,⟨ho.at_ 0 rfl,ho.at_ 3 rfl,ho.at_ 4 rfl⟩,?_⟩
 refine hd_do _ (fun W h => run_load_cell nInt5 (cells_cell (T:=3) (cs:=[.int .i64 (Bd.head s a).num]) (i:=0) h.2.2 rfl)) ?_
 refine hd_do _ (fun W h => run_load_cell nInt5 (cells_cell (T:=3) (cs:=[.int .i64 (Bd.head s a).gen]) (i:=0) h.2.1 rfl)) ?_
 refine hd_pure _ (fun _ => run_nil) (hd_pure _ (fun _ => run_fa fbr1) (hd_do _ (fun W h => br_a h.1) ?_))
 refine o_store 4 ho rfl (by kernel_rfl) rfl (by simp) fun w9 ho => ⟨⟨ho.at_ 0 rfl,ho.at_ 3 rfl,ho.at_ 4 rfl⟩,?_⟩
 refine o_store 3 ho rfl (by kernel_rfl) rfl (by simp) fun w10 ho => ⟨⟨ho.at_ 0 rfl,ho.at_ 3 rfl,ho.at_ 4 rfl⟩,?_⟩
 refine o_store 2 ho rfl (by kernel_rfl) rfl (by simp) fun w11 ho => ?_
 refine o_store 1 ho rfl (by kernel_rfl) rfl (by simp) fun w12 ho => ?_
 refine leave_fn (by simp) bhead1_plain (S_body_Head_1_dok (t0:=.pointer (some ⟨b7,0,none⟩)) (t1:=.pointer (some ⟨b4,0,none⟩)) (t2:=.pointer (some ⟨b5,0,none⟩)) (t3:=.pointer (some ⟨b6,0,none⟩)) ?_)
 simp only [S_body_Head_1,recV,recM]
 refine c_bcaughtN ?_
 unfold S_body_Head_1_r
 rw [l_cell nErr5 (ho.cell 1 rfl 0 rfl)]
 simp only [rs,show decide ((0 : Int)≠0) = false by decide,i_f]
 refine ret_v4 (rv_cell (AtV.cell nInt5 (ho.cell 4 rfl 0 rfl))) (rv_cell (AtV.cell nInt5 (ho.cell 3 rfl 0 rfl))) (rv_cell (AtV.cell nInt5 (ho.cell 2 rfl 0 rfl))) (rv_cell (AtV.cell nErr5 (ho.cell 1 rfl 0 rfl))) (hK _ _ ⟨?_,ho.done⟩)
 rw [hdV,hz]
theorem bobject_ret (b : Nat) (s : List UInt8) (a : Int) (M : Mem) (w : World) (hs : s.length≤1000000000) (hr : (Ent.two (brE b s a) (.mem M)).is w) :
  Lent Tryz.prog 28 #[rdP b] (brE b s a) M w ((Ps.object s a).2.2 = 0) (brE b s (Ps.object s a).2.1) (fun v N => OV N.A N.w v (Ps.object s a).1) [upE (Ps.object s a).2.2]:=by
 refine lent_of (fun K ho hret hpan => S_body_reader_object_ok ?_) hr
 unfold S_body_reader_object
 generalize hS0 : (Ent.two (brE b s a) (.mem M)).blk = S0 at *
 refine o_oba ho fun b2 w1 ho => ?_
 have two : ∀ {W : World} {b3 : Nat} {N : Mem} {xk xc : Value},OwnS S0 w W [obE b3 (Ps.object s a).1 xk xc,obE b2 ob0 nilS nilS,brE b s a,.mem N]→M.le N→OV N.A N.w (obV (Ps.object s a).1 xk xc) (Ps.object s a).1 →
   S_body_reader_object_0 (rdP b) (.pointer (some ⟨b2,0,none⟩)) (.pointer (some ⟨b3,0,none⟩)) (.int .i64 (Ps.object s a).2.1) (.int .i64 (Ps.object s a).2.2) W K:=by
  intro W b3 N xk xc ho hle hov
  generalize Ps.object s a = x at *
  unfold S_body_reader_object_0
  simp only [rs]
  refine c_bneed (fun h => ?_) fun h => hpan (of_decide_eq_false h) _ N W [] ho.tail.tail hle
  rw [fa_br1]
  refine br_put 2 ho rfl fun w2 ho => ?_
  have ho : OwnS S0 w w2 [obE b3 x.1 xk xc,obE b2 ob0 nilS nilS,brE b s x.2.1,.mem N]:=ho
  rw [ob_v ho 0 rfl]
  refine ob_put 1 hov.oneK hov.oneC ho rfl fun w3 ho => ?_
  refine ret_v1 (rv_cell (ho.agg 1 rfl aggOb)) ?_
  exact hret (of_decide_eq_true h) _ N w3 [] ho.tail.tail hle hov
 have ho:=ho.drew
 refine⟨fun W => (brE b s a).is W,ho.at_ 1 rfl,?_⟩
 refine hd_pure _ (fun _ => run_nil) (hd_pure _ (fun _ => run_fa fbr0) (hd_do _ (fun W h => br_s h) ?_))
 refine hd_pure _ (fun _ => run_nil) (hd_pure _ (fun _ => run_fa fbr1) (hd_do _ (fun W h => br_a h) ?_))
 refine⟨?_,?_⟩
 ·refine c_mem ho 2 rfl (psobject_ret s a hs M _ (ho.hasM 2 rfl)) ?_
  rintro _ N w2 hle ⟨u,rfl,hu⟩ ho
  obtain⟨xk,xc,xcs,rfl,hx⟩:=hu.open
  refine hd_pure (obV (Ps.object s a).1 xk xc) (fun _ => rfl) (hd_pure (.int .i64 (Ps.object s a).2.1) (fun _ => rfl) (hd_pure (.int .i64 (Ps.object s a).2.2) (fun _ => rfl) ?_))
  refine o_oba ho fun b3 w3 ho => ⟨ho.at_ 2 rfl,?_⟩
  refine ob_put 0 hx.keys.one hx.kids.one ho rfl fun w4 ho => ?_
  exact two ho hle hx.ov
 ·refine o_oba ho fun b3 w3 ho => ⟨ho.at_ 2 rfl,?_⟩
  refine c_mem ho 3 rfl (psobject_ret s a hs M _ (ho.hasM 3 rfl)) ?_
  rintro _ N w2 hle ⟨u,rfl,hu⟩ ho
  obtain⟨xk,xc,xcs,rfl,hx⟩:=hu.open
  refine hd_pure (obV (Ps.object s a).1 xk xc) (fun _ => rfl) (hd_pure (.int .i64 (Ps.object s a).2.1) (fun _ => rfl) (hd_pure (.int .i64 (Ps.object s a).2.2) (fun _ => rfl) ?_))
  refine ob_put 0 hx.keys.one hx.kids.one ho rfl fun w4 ho => ?_
  exact two ho hle hx.ov
theorem bCheck_ret (i : It) {vk vc : Value} (w : World) (hw : i.obj.wt≤100000000000) (hv : OV (InW w) w (obV i.obj vk vc) i.obj) : Ret Tryz.prog 18 #[itV i vk vc] w (fun v w' => v = .int .i64 (Bd.check i)∧Below w.heap.size w w'):=by
 refine ret_of fun K hK => S_body_Check_ok ?_
 unfold S_body_Check
 refine o_itb i hv.oneK hv.oneC (Own.start w) fun b w1 ho => ?_
 have out : Dk.numbers i = false→K (.returned (.int .i64 2)) w1:=fun h => hK _ _ ⟨by rw [Bd.check,if_pos h],ho.done⟩
 have hn : Dk.numbers i = true ↔ 1≤i.num∧i.num≤8191∧0≤i.gen∧i.gen≤65535:=by
  simp only [Dk.numbers,Bool.and_eq_true,decide_eq_true_eq]
  omega
 have outs : ¬ (1≤i.num∧i.num≤8191∧0≤i.gen∧i.gen≤65535)→K (.returned (.int .i64 2)) w1:=fun h => out (by
  cases hq : Dk.numbers i with
  | true => exact absurd (hn.1 hq) h
  | false => rfl)
 by_cases h1 : i.num < 1
 ·simp only [rs,fa_i0,it_num ho 0 rfl,decide_eq_true h1,g_un]
  exact outs (by omega)
 by_cases h2 : i.num > 8191
 ·simp only [rs,fa_i0,it_num ho 0 rfl,decide_eq_false h1,decide_eq_true h2,g_un]
  exact outs (by omega)
 by_cases h3 : i.gen < 0
 ·simp only [rs,fa_i0,fa_i1,it_num ho 0 rfl,it_gen ho 0 rfl,decide_eq_false h1,decide_eq_false h2,decide_eq_true h3,g_un]
  exact outs (by omega)
 by_cases h4 : i.gen > 65535
 ·simp only [rs,fa_i0,fa_i1,it_num ho 0 rfl,it_gen ho 0 rfl,decide_eq_false h1,decide_eq_false h2,decide_eq_false h3,decide_eq_true h4,g_un]
  exact outs (by omega)
 simp only [rs,fa_i0,fa_i1,it_num ho 0 rfl,it_gen ho 0 rfl,decide_eq_false h1,decide_eq_false h2,decide_eq_false h3,decide_eq_false h4,g_un,fa_i2,it_obj ho 0 rfl]
 have hnt : Dk.numbers i = true:=hn.2 (by omega)
 obtain⟨cs,ha⟩:=hv.slices
 refine c_told (vCheck_ret i.obj _ w1 (ha.in_ ho).ov (by omega)) rfl ho fun w2 ho => ?_
 rw [n_err]
 by_cases hc : Vl.check 1 i.obj = 0
 case neg =>
  simp only [decide_eq_true (show Vl.check 1 i.obj≠0 from hc),i_t]
  exact hK _ _ ⟨by rw [Bd.check,if_neg (by simp [hnt]),if_pos hc],ho.done⟩
 simp only [hc,show decide ((0 : Int)≠0) = false by decide,i_f,fa_i2,fa_o0,it_k ho 0 rfl,rs]
 by_cases h8 : i.obj.k = 8
 ·simp only [decide_eq_true h8,i_t]
  exact hK _ _ ⟨by rw [Bd.check,if_neg (by simp [hnt]),if_neg (by simp [hc]),if_pos h8],ho.done⟩
 ·simp only [decide_eq_false h8,i_f]
  exact hK _ _ ⟨by rw [Bd.check,if_neg (by simp [hnt]),if_neg (by simp [hc]),if_neg h8],ho.done⟩
end Go.Proofs.YtkejpieaafeblaaGreatDoor


namespace Go.Proofs.YtkejpieaafeblaaGreatDoor
set_option maxRecDepth 20000
open Eng
def S_value_Stream (t0 t1 : Value) (w : World) (K : Ending→World→Prop) : Prop:=
 DoX Tryz.prog (mBox 25 t0) w (pk K) fun t2 w =>
 DoX Tryz.prog (mAlloc 25) w (pk K) fun t4 w =>
 DoX Tryz.prog (mFA 25 t2 0) w (pk K) fun t8 w =>
 DoX Tryz.prog (mLoad 3 t8) w (pk K) fun t9 w =>
 DoX Tryz.prog (mEq .neq 3 (.tmp 9) (.const (.int .i64 7)) t9 (.int .i64 7)) w (pk K) fun t10 w =>
 IfX t10 (DoX Tryz.prog (mBuild 25 #[]) w (pk K) fun t11 w =>
 DoX Tryz.prog (mStore 25 t4 t11) w (pk K) fun _ w =>
 RetX Tryz.prog [.cell t4 25,.val (.int .i64 10)] w K) (DoX Tryz.prog (mLoad 25 t2) w (pk K) fun t12 w =>
 CallX Tryz.prog 57 #[t12] w (pk K) fun t13 w =>
 DoX Tryz.prog (mEq .neq 30 (.tmp 14) (.const (.int .i64 0)) t13 (.int .i64 0)) w (pk K) fun t15 w =>
 IfX t15 (DoX Tryz.prog (mBuild 25 #[]) w (pk K) fun t16 w =>
 DoX Tryz.prog (mStore 25 t4 t16) w (pk K) fun _ w =>
 RetX Tryz.prog [.cell t4 25,.val t13] w K) (DoX Tryz.prog (mLoad 25 t2) w (pk K) fun t18 w =>
 CallX Tryz.prog 86 #[t18,(.string ⟨#[76,101,110,103,116,104]⟩)] w (pk K) fun t19 w =>
 DoX Tryz.prog (mAlloc 25) w (pk K) fun t7 w =>
 DoX Tryz.prog (mStore 25 t7 t19) w (pk K) fun _ w =>
 DoX Tryz.prog (mFA 25 t7 0) w (pk K) fun t20 w =>
 DoX Tryz.prog (mStore 3 t20 (.int .i64 9)) w (pk K) fun _ w =>
 DoX Tryz.prog (mFA 25 t7 3) w (pk K) fun t22 w =>
 DoX Tryz.prog (mStore 9 t22 t1) w (pk K) fun _ w =>
 DoX Tryz.prog (mLoad 25 t7) w (pk K) fun t23 w =>
 CallX Tryz.prog 87 #[t23] w (pk K) fun t24 w =>
 DoX Tryz.prog (mExt t24 0) w (pk K) fun t25 w =>
 DoX Tryz.prog (mExt t24 1) w (pk K) fun t26 w =>
 DoX Tryz.prog (mStore 25 t4 t25) w (pk K) fun _ w =>
 RetX Tryz.prog [.cell t4 25,.val t26] w K))
theorem S_value_Stream_eq (t0 t1 : Value) (w : World) (K : Ending→World→Prop) : wpX Tryz.prog 27 [] [] none (bodyOf Tryz.f65) (topQ Tryz.prog [.cell 4 25,.tmp 5] K) (startX [t0,t1]) [] w = S_value_Stream t0 t1 w K:=by kernel_rfl
theorem S_value_Stream_ok {t0 t1 : Value} {w : World} {K : Ending→World→Prop} (h : S_value_Stream t0 t1 w K) : Calls Tryz.prog 65 #[t0,t1] w K:=
 calls_of_wpX Tryz.func65 rfl rfl rfl rfl (Eq.mpr (S_value_Stream_eq t0 t1 w K) h)
end Go.Proofs.YtkejpieaafeblaaGreatDoor

namespace Go.Proofs.YtkejpieaafeblaaGreatDoor
set_option maxRecDepth 20000
open Eng Go.RowKit
theorem vstream_ret (o : Ob) (v : Value) (data : List UInt8) (M : Mem) (w : World) (h7 : o.k = 7) (hc : Vl.check 1 o = 0) (hd : data.length≤1048576) (hw : o.wt≤1000000000) (hM : M.has w) (hv : OV M.A M.w v o) :
  RetM Tryz.prog 65 #[v,.string ⟨data.toArray⟩] M w (fun r N => ∃ v',r = errV v' 0∧OV N.A N.w v' (Bd.strm o data)):=by
 obtain⟨vk,vc,cs,rfl,ha⟩:=hv.open
 refine retM_of hM fun K hK => S_value_Stream_ok ?_
 unfold S_value_Stream
 refine o_obb o ha.keys.one ha.kids.one (OwnS.memS hM) fun b2 w1 ho => ?_
 refine o_oba ho fun b4 w2 ho => ?_
 rw [fa_o0,ob_k ho 1 rfl]
 simp only [rs,h7,show decide ((7 : Int)≠7) = false by decide,i_f]
 rw [ob_v ho 1 rfl]
 refine c_below ho (R:=fun v => v = .int .i64 (Vl.check 1 o)) (vCheck_ret o _ w2 (OV.inw (ho.hasM 2 rfl) hv) (by omega)) ?_
 rintro _ w3 rfl ho
 simp only [hc,n_err,show decide ((0 : Int)≠0) = false by decide,i_f]
 rw [ob_v ho 1 rfl]
 refine c_mem ho 2 rfl (vdrop_ret o _ Vl.lenK M w3 (by omega) (ho.hasM 2 rfl) hv) fun y N w4 hle hy ho => ?_
 have hdr : Vl.drop o Vl.lenK = Vl.without o Vl.lenK:=by unfold Vl.drop;exact Bd.drop_without hc h7
 rw [hdr] at hy
 have hck:=Bd.strm_check (data:=data) hc h7 hd
 have hwt:=Vl.without_wt o Vl.lenK
 have hst : Bd.strm o data = .mk 9 (Vl.without o Vl.lenK).n (Vl.without o Vl.lenK).g data (Vl.without o Vl.lenK).keys (Vl.without o Vl.lenK).kids:=rfl
 generalize Vl.without o Vl.lenK = x at *
 obtain⟨yk,yc,ycs,rfl,hya⟩:=hy.open
 refine o_oba ho fun b7 w5 ho => ?_
 refine ob_put 0 hya.keys.one hya.kids.one ho rfl fun w6 ho => ?_
 rw [fa_o0]
 refine o_store 0 ho rfl (by kernel_rfl) rfl (show 0 < 6 by omega) fun w7 ho => ?_
 rw [fa_o3]
 refine o_store 0 ho rfl (by kernel_rfl) rfl (show 0 + 3 < 6 by omega) fun w8 ho => ?_
 have ho : OwnS M.A w w8 [obE b7 (Bd.strm o data) yk yc,obE b4 ob0 nilS nilS,obE b2 o vk vc,.mem N]:=by rw [hst];exact ho
 have hsv : OV N.A N.w (obV (Bd.strm o data) yk yc) (Bd.strm o data):=by
  rw [hst]
  exact ObAt.ov (o:=.mk 9 x.n x.g data x.keys x.kids) (vk:=yk) (vc:=yc) (cs:=ycs) ⟨hya.keys,hya.kids,hya.all⟩
 have hsw : (Bd.strm o data).wt≤100000000000:=by
  have e1:=Vl.wt_eq (Bd.strm o data)
  have e2:=Vl.wt_eq x
  rw [hst] at e1 ⊢
  simp only [Ob.s,Ob.keys,Ob.kids] at e1 e2 ⊢
  omega
 rw [ob_v ho 0 rfl]
 refine c_mem ho 3 rfl (sound_ret _ _ N w8 hsw (ho.hasM 3 rfl) hsv) ?_
 rintro _ N2 w9 hle2 ⟨t,rfl,ht⟩ ho
 have hrt : Vl.right (Bd.strm o data) = (Bd.strm o data,0):=by unfold Vl.right;rw [if_neg (by simp [hck])]
 rw [hrt] at ht
 obtain⟨tk,tc,tcs,rfl,hta⟩:=ht.open
 simp only [errV,ex,hrt]
 refine ob_put 1 hta.keys.one hta.kids.one ho rfl fun w10 ho => ?_
 exact ret_ob2 1 ho rfl (hK _ _ N2 _ 3 ho rfl (hle.trans hle2) ⟨_,rfl,hta.ov⟩)
theorem c_bown {w : World} {PK : List PanicEntry→World→Prop} {K : Value→World→Prop} {S : Nat→Prop} {w0 : World} {L : List Ent} {o : Ob} {v : Value} {M : Mem} (i : Nat) (hw : o.wt≤100000000000) (ho : OwnS S w0 w L) (hi : L[i]? = some (.mem M)) (hv : OV M.A M.w v o)
  (kr : (Bd.own o).2 = 0→∀ N w',M.le N→OwnS S w0 w' (L.set i (.mem N))→K (.int .i64 (Bd.own o).1) w') (kp : (Bd.own o).2≠0→∀ N w',M.le N→OwnS S w0 w' (L.set i (.mem N))→PK [upE (Bd.own o).2] w') : CallX Tryz.prog 64 #[v] w PK K:=by
 obtain⟨vk,vc,cs,rfl,ha⟩:=hv.open
 refine⟨S_body_own_ok ?_⟩
 unfold S_body_own
 refine o_obb o ha.keys.one ha.kids.one ho fun b1 w1 ho => ?_
 rw [ob_v ho 0 rfl]
 refine c_mem ho (i + 1) (by simpa using hi) (vget_ret o _ Vl.lenK M w1 hw (ho.hasM (i + 1) (by simpa using hi)) hv) ?_
 rintro _ N w2 hle ⟨u,rfl,hu⟩ ho
 obtain⟨xk,xc,xcs,rfl,hx⟩:=hu.open
 simp only [getV,ex]
 refine o_oba ho fun b3 w3 ho => ?_
 refine ob_put 0 hx.keys.one hx.kids.one ho rfl fun w4 ho => ?_
 have hO : OwnS S w0 w4 (L.set i (.mem N)):=ho.tail.tail
 unfold Bd.own at kr kp
 cases hg : Vl.get o Vl.lenK with
 | none =>
  rw [hg] at kp
  simp only [Option.isSome]
  exact c_bneed (fun h => by cases h) fun _ => kp (by decide) N w4 hle hO
 | some x =>
  rw [hg] at kr kp ho
  simp only [Option.isSome] at ho ⊢
  simp only at kr kp
  refine c_bneed (fun _ => ?_) fun h => by cases h
  rw [fa_o0,ob_k ho 0 rfl]
  simp only [rs,Option.getD_some]
  refine c_bneed (fun h => ?_) fun h => ?_
  rotate_left
  ·rw [if_pos (of_decide_eq_false h)] at kp
   exact kp (by decide) N w4 hle hO
  have h2 : x.k = 2:=of_decide_eq_true h
  rw [if_neg (by simp [h2])] at kr kp
  rw [fa_o1,ob_n ho 0 rfl]
  simp only [rs,Option.getD_some]
  refine c_bneed (fun h => ?_) fun h => ?_
  rotate_left
  ·have hn : x.n < 0:=by have:=of_decide_eq_false h;omega
   rw [if_pos hn] at kp
   exact kp (by decide) N w4 hle hO
  have hn : 0≤x.n:=of_decide_eq_true h
  rw [if_neg (by omega)] at kr
  rw [fa_o1,ob_n ho 0 rfl]
  exact kr rfl N w4 hle hO
end Go.Proofs.YtkejpieaafeblaaGreatDoor
namespace Go.Proofs.YtkejpieaafeblaaGreatDoor
set_option maxRecDepth 20000
open Eng Go.RowKit
theorem o_strb2b (s t : List UInt8) {w : World} {PK : List PanicEntry→World→Prop} {K : Value→World→Prop} {S : Nat→Prop} {w0 : World} {L : List Ent} (ho : OwnS S w0 w L) (k : ∀ b w',OwnS S w0 w' (.cells b [.string ⟨s.toArray⟩,.string ⟨t.toArray⟩] 9 :: L)→K (.slice (some ⟨b,0,none⟩) 2 2) w') :
  DoX Tryz.prog (mBuildS 22 2 #[(0,.string ⟨s.toArray⟩),(1,.string ⟨t.toArray⟩)]) w PK K:=
 o_new (fun b => .slice (some ⟨b,0,none⟩) 2 2) [.string ⟨s.toArray⟩,.string ⟨t.toArray⟩] 9 (fun _ => by kernel_rfl) ho k
theorem begins_cons (l p : List UInt8) : begins l p 0 = p.isPrefixOf l:=by simp [begins]
theorem bline_ret (b : Nat) (s : List UInt8) (a : Nat) (w : World) (ha : a≤s.length) (hs : s.length≤1099511627776) (hr : (brE b s a).is w) :
  Lend Tryz.prog 63 #[rdP b] (brE b s a) w ((Bd.line s a).2 = 0) (fun v e' => v = .tuple #[]∧e' = brE b s (Bd.line s a).1) [upE (Bd.line s a).2]:=by
 refine lend_of hr (fun K ho hret hpan => S_body_reader_line_ok ?_)
 unfold S_body_reader_line
 generalize hS0 : (brE b s a).blk = S0 at *
 refine quiet ?_
 refine q_do _ (fun _ => run_nil) (q_do _ (fun _ => run_fa fbr0) (q_at _ (fun _ hb => br_s ((ho.grow hb).at_ 0 rfl)) ?_))
 refine q_do _ (fun _ => run_nil) (q_do _ (fun _ => run_fa fbr1) (q_at _ (fun _ hb => br_a ((ho.grow hb).at_ 0 rfl)) ?_))
 refine q_do (.string ⟨(s.drop a).toArray⟩) (fun _ => run_from Tryz.underlying9 (by omega) (by omega)) ?_
 intro w1 hb
 have ho:=ho.grow hb
 have ho : OwnS S0 w w1 [brE b s a]:=ho
 unfold Bd.line at hret hpan
 have hlen : (s.drop a).length = s.length - a:=List.length_drop
 generalize hl : s.drop a = l at *
 have en0 : ∀ {W : World} {PK : List PanicEntry→World→Prop} {K : Value→World→Prop} {xo yo : Operand},DoX Tryz.prog (mEq .neq 9 xo yo (.string ⟨l.toArray⟩) (.string ⟨#[]⟩)) W PK K = K (.bool (decide (l≠[]))) W:=n_str (b:=[])
 have en1 : ∀ {W : World} {PK : List PanicEntry→World→Prop} {K : Value→World→Prop} {xo yo : Operand},DoX Tryz.prog (mEq .neq 9 xo yo (.string ⟨l.toArray⟩) (.string ⟨#[13]⟩)) W PK K = K (.bool (decide (l≠[13]))) W:=n_str (b:=[13])
 rw [en0]
 cases l with
 | nil =>
  simp only [rs,show decide (([] : List UInt8)≠[]) = false by decide,g_un]
  exact c_bneed (fun h => by cases h) fun _ => hpan (by simp) _ w1 [] ho
 | cons c t =>
  simp only at hret hpan
  simp only [rs,show decide ((c :: t)≠[]) = true by simp,en1]
  refine c_bneed (fun h => ?_) fun h => ?_
  rotate_left
  ·have h13 : c :: t = [13]:=by have:=of_decide_eq_false h;simpa using this
   injection h13 with e1 e2
   rw [if_pos ⟨e1,e2⟩] at hpan
   exact hpan (by decide) _ w1 [] ho
  have h13 : ¬ (c = 13∧t = []):=by
   rintro⟨rfl,rfl⟩
   exact (of_decide_eq_true h) rfl
  rw [if_neg h13] at hret hpan
  refine o_strb2b [10] [13,10] ho fun b2 w2 ho => ?_
  have ho : OwnS S0 w w2 [.cells b2 [.string ⟨#[10]⟩,.string ⟨#[13,10]⟩] 9,brE b s a]:=ho
  have hlen2 : ∀ {W : World} {PK : List PanicEntry→World→Prop} {K : Value→World→Prop} {T : TypeId} {cb : Array Bool},DoX Tryz.prog (mB .len #[22] T cb #[.slice (some ⟨b2,0,none⟩) 2 2]) W PK K = K (.int .i64 2) W:=do_eq (by kernel_rfl)
  rw [hlen2]
  refine loop (fun vs' W => ∃ i : Nat,vs' = [.int .i64 i]∧i≤2∧(1≤i→c≠10)∧(2≤i→¬ (c = 13∧t.head? = some 10))∧OwnS S0 w W [.cells b2 [.string ⟨#[10]⟩,.string ⟨#[13,10]⟩] 9,brE b s a]) (fun vs' _ => 2 - n0 vs') ⟨0,rfl,by omega,fun h => absurd h (by omega),fun h => absurd h (by omega),ho⟩ ?_
  clear ho
  rintro vs' w3 ⟨i,rfl,hi,h1,h2,ho⟩ _
  simp only [S_body_reader_line_0,gd,rs]
  have hit : ∀ {p : List UInt8} {W : World},OwnS S0 w W [.cells b2 [.string ⟨#[10]⟩,.string ⟨#[13,10]⟩] 9,brE b s a]→p.length≤2 →
    (if c = 10 then ((a + 1,0) : Nat × Int) else if c = 13∧t.head? = some 10 then (a + 2,0) else (0,3)) = (a + p.length,0) →
    DoX Tryz.prog (mFA 62 (rdP b) 1) W (pk K) (fun t32 w => DoX Tryz.prog (mLoad 3 t32) w (pk K) fun t33 w => DoX Tryz.prog (mB .len #[9] 3 #[false] #[.string ⟨p.toArray⟩]) w (pk K) fun t35 w => DoX Tryz.prog (mBin .add 3 t33 t35) w (pk K) fun t36 w =>
     DoX Tryz.prog (mFA 62 (rdP b) 1) w (pk K) fun t38 w => DoX Tryz.prog (mStore 3 t38 t36) w (pk K) fun _ w => K (.returned (.tuple #[])) w):=by
   intro p W ho hp he
   rw [he] at hret
   rw [fa_br1]
   refine do_eq (br_a (ho.at_ 1 rfl)) |>.mpr ?_
   rw [s_len Tryz.underlying9]
   simp only [rs]
   rw [wrap64_id (by omega) (by omega),fa_br1]
   refine br_put 1 ho rfl fun w5 ho => ?_
   exact hret rfl _ _ w5 [] ho.tail ⟨rfl,by simp⟩
  by_cases hlt : (i : Int) < 2
  case neg =>
   simp only [decide_eq_false hlt,i_f]
   have e : (if c = 10 then ((a + 1,0) : Nat × Int) else if c = 13∧t.head? = some 10 then (a + 2,0) else (0,3)) = (0,3):=by rw [if_neg (h1 (by omega)),if_neg (h2 (by omega))]
   rw [e] at hpan
   exact c_bneed (fun h => by cases h) fun _ => hpan (by decide) _ w3 [] ho.tail
  simp only [decide_eq_true hlt,i_t]
  have hc01 : i = 0∨i = 1:=by omega
  rcases hc01 with rfl | rfl
  ·have i0 : ∀ {PK : List PanicEntry→World→Prop} {K : Value→World→Prop},DoX Tryz.prog (mIA 22 (.slice (some ⟨b2,0,none⟩) 2 2) (.int .i64 ((0 : Nat) : Int))) w3 PK K = K (.pointer (some ⟨b2,0,none⟩)) w3:=do_eq (by kernel_rfl)
   rw [i0,l_cell nStr5 (ho.cell 0 rfl 0 rfl)]
   refine c_eq (begins_ret (c :: t) [10] 0 w3) ?_
   rw [begins_cons]
   by_cases h10 : c = 10
   ·subst h10
    simp only [List.isPrefixOf,beq_self_eq_true,Bool.true_and,i_t]
    exact hit (p:=[10]) ho (by simp) (by rw [if_pos rfl];rfl)
   ·have hp : List.isPrefixOf [10] (c :: t) = false:=by simp [List.isPrefixOf];exact fun h => h10 h.symm
    rw [hp]
    simp only [i_f]
    rw [wrap64_id (by omega) (by omega)]
    exact nextX ⟨1,rfl,by omega,fun _ => h10,fun h => absurd h (by omega),ho⟩ (by simp [n0,RowKit.intOf])
  ·have i1 : ∀ {PK : List PanicEntry→World→Prop} {K : Value→World→Prop},DoX Tryz.prog (mIA 22 (.slice (some ⟨b2,0,none⟩) 2 2) (.int .i64 ((1 : Nat) : Int))) w3 PK K = K (.pointer (some ⟨b2,1,none⟩)) w3:=do_eq (by kernel_rfl)
   rw [i1,l_cell nStr5 (ho.cell 0 rfl 1 rfl)]
   refine c_eq (begins_ret (c :: t) [13,10] 0 w3) ?_
   rw [begins_cons]
   by_cases h1310 : c = 13∧t.head? = some 10
   ·obtain⟨rfl,ht⟩:=h1310
    obtain⟨t',rfl⟩ : ∃ t',t = 10 :: t':=by
     cases t with
     | nil => cases ht
     | cons d t' => exact⟨t',by rw [Option.some.inj ht]⟩
    simp only [List.isPrefixOf,beq_self_eq_true,Bool.true_and,i_t]
    exact hit (p:=[13,10]) ho (by simp) (by rw [if_neg (by decide),if_pos ⟨rfl,rfl⟩];rfl)
   ·have hp : List.isPrefixOf [13,10] (c :: t) = false:=by
     cases t with
     | nil => simp [List.isPrefixOf]
     | cons d t' =>
      simp only [List.isPrefixOf,Bool.and_true,Bool.and_eq_false_iff,beq_eq_false_iff_ne,ne_eq]
      by_cases hc : (13 : UInt8) = c
      ·exact .inr fun hd => h1310 ⟨hc.symm,by rw [← hd];rfl⟩
      ·exact .inl hc
    rw [hp]
    simp only [i_f]
    rw [wrap64_id (by omega) (by omega)]
    exact nextX ⟨2,rfl,by omega,fun _ => h1 (by omega),fun _ => h1310,ho⟩ (by simp [n0,RowKit.intOf])
end Go.Proofs.YtkejpieaafeblaaGreatDoor



namespace Go.Proofs.YtkejpieaafeblaaGreatDoor
set_option maxRecDepth 20000
open Eng Go.RowKit
theorem r_leqI {P : Program} {w : World} {T : TypeId} {k : IntKind} {a b : Int} : (mBin .leq T (.int k a) (.int k b)).run P w = .ok (.value (.bool (decide (a≤b)))) w:=mv_run (by simp [binOp,Op.intCmp])
def Bd.stE (s : List UInt8) (a : Nat) (len : Int) (o : Ob) : Int:=if (Bd.stream s a len o).2.2≠0 then (Bd.stream s a len o).2.2 else (Bd.word s (Bd.stream s a len o).2.1 Bd.endobj).2
theorem bstream_ret (b : Nat) (s : List UInt8) (a : Nat) (len : Int) (o : Ob) (v : Value) (M : Mem) (w : World) (ha : a≤s.length) (hs : s.length≤1000000000) (h7 : o.k = 7) (hc : Vl.check 1 o = 0) (hw : o.wt≤1000000000) (hv : OV M.A M.w v o) (hr : (Ent.two (brE b s a) (.mem M)).is w) :
  Lent Tryz.prog 30 #[rdP b,v,.int .i64 len] (brE b s a) M w (Bd.stE s a len o = 0) (brE b s (Bd.word s (Bd.stream s a len o).2.1 Bd.endobj).1) (fun r N => OV N.A N.w r (Bd.stream s a len o).1) [upE (Bd.stE s a len o)]:=by
 obtain⟨vk,vc,cs,rfl,hat⟩:=hv.open
 refine lent_of (fun K ho hret hpan => S_body_reader_stream_ok ?_) hr
 unfold S_body_reader_stream
 generalize hS0 : (Ent.two (brE b s a) (.mem M)).blk = S0 at *
 have fail : ∀ {e : Int} {W : World} {e2 : Ent} {N : Mem} {A : List Ent},Bd.stream s a len o = (Vl.ob0,0,e)→e≠0→OwnS S0 w W (A++([e2,.mem N]++[]))→M.le N→K (.panicked [upE e]) W:=by
  intro e W e2 N A h h0 ho hle
  have hE : Bd.stE s a len o = e:=by
   unfold Bd.stE
   rw [h,if_pos h0]
  rw [hE] at hpan
  exact hpan h0 _ N W _ ho.front hle
 refine o_obb o hat.keys.one hat.kids.one ho fun b4 w1 ho => ?_
 refine o_oba ho fun b6 w2 ho => ?_
 have ho : OwnS S0 w w2 [obE b6 ob0 nilS nilS,obE b4 o vk vc,brE b s a,.mem M]:=ho
 have hst:=Bd.stream.eq_1 s a len o
 refine c_lend ho 2 rfl (bline_ret b s a w2 ha (by omega) (ho.at_ 2 rfl)) ?_ fun e2 w3 hn ho => ?_
 rotate_left
 ·rw [if_pos hn] at hst
  exact fail (A:=[_,_]) hst hn ho M.le_refl
 rintro _ _ w3 hl ⟨rfl,rfl⟩ ho
 rw [if_neg (by simp [hl])] at hst
 have hlm:=(Bd.line_more [] ha hl).2
 have ho : OwnS S0 w w3 [obE b6 ob0 nilS nilS,obE b4 o vk vc,brE b s (Bd.line s a).1,.mem M]:=ho
 generalize (Bd.line s a).1 = d at *
 refine join fun J hJ => ?_
 have go : ∀ {W : World} {N : Mem} {n : Int},OwnS S0 w W [obE b6 ob0 nilS nilS,obE b4 o vk vc,brE b s d,.mem N]→M.le N→Bd.size o len = (n,0)→0≤n→J [.int .i64 n] W:=by
  intro W N n ho hle hsz hn0
  refine hJ _ _ fun _ => ?_
  simp only [gd]
  rw [hsz] at hst
  rw [if_neg (by simp)] at hst
  simp only at hst
  unfold S_body_reader_stream_0
  simp only [rs]
  refine c_bneed (fun h => ?_) fun h => ?_
  rotate_left
  ·have h1 : 1048576 < n:=by have:=of_decide_eq_false h;omega
   rw [if_pos h1] at hst
   exact fail (A:=[_,_]) hst (by decide) ho hle
  have h1 : n≤1048576:=of_decide_eq_true h
  rw [if_neg (by omega)] at hst
  refine quiet ?_
  refine q_do _ (fun _ => run_nil) (q_do _ (fun _ => run_fa fbr0) (q_at _ (fun _ hb => br_s ((ho.grow hb).at_ 2 rfl)) ?_))
  refine q_do _ (fun _ => run_len Tryz.underlying9) ?_
  refine q_do _ (fun _ => run_nil) (q_do _ (fun _ => run_fa fbr1) (q_at _ (fun _ hb => br_a ((ho.grow hb).at_ 2 rfl)) ?_))
  refine q_do (.int .i64 ((s.length : Int) - d)) (fun _ => by rw [r_sub,wrap64_id (by omega) (by omega)]) ?_
  refine q_do (.bool (decide (n≤(s.length : Int) - d))) (fun _ => r_leqI) ?_
  intro w4 hb
  have ho:=ho.grow hb
  refine c_bneed (fun h => ?_) fun h => ?_
  rotate_left
  ·have h2 : (s.length : Int) - d < n:=by have:=of_decide_eq_false h;omega
   rw [if_pos h2] at hst
   exact fail (A:=[_,_]) hst (by decide) ho hle
  have h2 : n≤(s.length : Int) - d:=of_decide_eq_true h
  rw [if_neg (by omega)] at hst
  refine quiet ?_
  refine q_do _ (fun _ => run_nil) (q_do _ (fun _ => run_fa fbr0) (q_at _ (fun _ hb => br_s ((ho.grow hb).at_ 2 rfl)) ?_))
  refine q_do _ (fun _ => run_nil) (q_do _ (fun _ => run_fa fbr1) (q_at _ (fun _ hb => br_a ((ho.grow hb).at_ 2 rfl)) ?_))
  refine q_do _ (fun _ => run_nil) (q_do _ (fun _ => run_fa fbr1) (q_at _ (fun _ hb => br_a ((ho.grow hb).at_ 2 rfl)) ?_))
  refine q_do (.int .i64 ((d : Int) + n)) (fun _ => by rw [r_add,wrap64_id (by omega) (by omega)]) ?_
  refine q_do (.string ⟨((s.drop d).take n.toNat).toArray⟩) (fun _ => by
   have:=run_s_slice (P:=Tryz.prog) (w:=‹World›) (T:=9) (a:=s) (k:=.i64) (k':=.i64) (lo:=(d : Int)) (hi:=(d : Int) + n) Tryz.underlying9 (by omega) (by omega) (by omega)
   rw [show (d : Int).toNat = d by omega,show ((d : Int) + n).toNat - d = n.toNat by omega] at this
   exact this) ?_
  intro w5 hb
  have ho:=ho.grow hb
  try simp only [rs]
  rw [fa_br1]
  refine do_eq (br_a (ho.at_ 2 rfl)) |>.mpr ?_
  simp only [rs]
  rw [wrap64_id (by omega) (by omega),fa_br1]
  refine br_put (a':=(d : Int) + n) 2 ho rfl fun w6 ho => ?_
  have ho : OwnS S0 w w6 [obE b6 ob0 nilS nilS,obE b4 o vk vc,brE b s ((d : Int) + n),.mem N]:=ho
  refine c_lend ho 2 rfl (bword_ret b s _ Bd.endstream w6 (by omega) (ho.at_ 2 rfl)) ?_ fun e2 w7 hn ho => ?_
  rotate_left
  ·rw [if_pos hn] at hst
   exact fail (A:=[_,_]) hst hn ho hle
  rintro _ _ w7 hz ⟨rfl,rfl⟩ ho
  rw [if_neg (by simp [hz])] at hst
  have hE : Bd.stE s a len o = (Bd.word s (Bd.word s ((d : Int) + n) Bd.endstream).1 Bd.endobj).2:=by
   unfold Bd.stE
   rw [hst]
   simp
  rw [hE,hst] at hret
  rw [hE] at hpan
  simp only at hret
  refine c_lend ho 2 rfl (bword_ret b s _ Bd.endobj w7 (by omega) (ho.at_ 2 rfl)) ?_ fun e2 w8 hn ho => ?_
  rotate_left
  ·have ho : OwnS S0 w w8 ([obE b6 ob0 nilS nilS,obE b4 o vk vc]++([e2,.mem N]++[])):=ho
   exact hpan hn _ N w8 _ ho.front hle
  rintro _ _ w8 hz2 ⟨rfl,rfl⟩ ho
  rw [ob_v ho 1 rfl]
  refine c_mem ho 3 rfl (vstream_ret o _ ((s.drop d).take n.toNat) N w8 h7 hc (by rw [List.length_take];omega) hw (ho.hasM 3 rfl) (hv.le hle)) ?_
  rintro _ N2 w9 hle2 ⟨u,rfl,hu⟩ ho
  obtain⟨xk,xc,xcs,rfl,hx⟩:=hu.open
  simp only [errV,ex]
  refine c_bmustO hx.keys.one hx.kids.one ho (fun _ w10 ho => ?_) fun h => absurd rfl h
  refine ob_put 0 hx.keys.one hx.kids.one ho rfl fun w11 ho => ?_
  refine ret_v1 (rv_cell (ho.agg 0 rfl aggOb)) ?_
  have ho : OwnS S0 w w11 ([obE b6 (Bd.strm o ((s.drop d).take n.toNat)) xk xc,obE b4 o vk vc]++([brE b s (Bd.word s (Bd.word s ((d : Int) + n) Bd.endstream).1 Bd.endobj).1,.mem N2]++[])):=ho
  exact hret hz2 _ N2 w11 _ ho.front (hle.trans hle2) hx.ov
 simp only [rs]
 by_cases hneg : len < 0
 ·simp only [decide_eq_true hneg,i_t]
  rw [ob_v ho 1 rfl]
  have hsz : Bd.size o len = Bd.own o:=by unfold Bd.size;rw [if_neg (by omega)]
  refine c_bown 3 (by omega) ho rfl hv (fun hz N w4 hle ho => ?_) fun hz N w4 hle ho => ?_
  ·have ho : OwnS S0 w w4 [obE b6 ob0 nilS nilS,obE b4 o vk vc,brE b s d,.mem N]:=ho
   have hnn:=Bd.size_nn (o:=o) (len:=len) (by rw [hsz];exact hz)
   rw [hsz] at hnn
   exact go ho hle (by rw [hsz,← hz]) hnn
  ·have ho : OwnS S0 w w4 [obE b6 ob0 nilS nilS,obE b4 o vk vc,brE b s d,.mem N]:=ho
   rw [hsz,if_pos hz] at hst
   exact fail (A:=[_,_]) hst hz ho hle
 ·simp only [decide_eq_false hneg,i_f]
  exact go ho M.le_refl (by unfold Bd.size;rw [if_pos (by omega)]) (by omega)
end Go.Proofs.YtkejpieaafeblaaGreatDoor
namespace Go.Proofs.YtkejpieaafeblaaGreatDoor
set_option maxRecDepth 20000
open Eng Go.RowKit
theorem bread1_plain : plainB Tryz.prog 23 = true:=by kernel_rfl
def itmR (r : It × Int × Int) (v : Value) (N : Mem) : Prop:=∃ vk vc,v = .tuple #[itV r.1 vk vc,.int .i64 r.2.1,.int .i64 r.2.2]∧OV N.A N.w (obV r.1.obj vk vc) r.1.obj
theorem bread_ret (s : List UInt8) (a len : Int) (M : Mem) (w : World) (hs : s.length≤20000) (hM : M.has w) : RetM Tryz.prog 9 #[.string ⟨s.toArray⟩,.int .i64 a,.int .i64 len] M w (itmR (Bd.read s a len)):=by
 refine retM_of hM fun K hK => S_body_Read_ok ?_
 unfold S_body_Read
 refine o_ita (OwnS.memS hM) fun b6 w1 ho => ?_
 refine o_new (fun b => .pointer (some ⟨b,0,none⟩)) [.int .i64 0] 3 (fun _ => by kernel_rfl) ho fun b7 w2 ho => ?_
 refine o_new (fun b => .pointer (some ⟨b,0,none⟩)) [.int .i64 0] 30 (fun _ => by kernel_rfl) ho fun b8 w3 ho => ?_
 have ho : OwnS M.A w w3 ([errE b8 0,ciE b7 0,itE b6 Dk.it0 nilS nilS]++[.mem M]):=ho
 have ho:=ho.perm List.perm_append_comm
 have ho : OwnS M.A w w3 [.mem M,errE b8 0,ciE b7 0,itE b6 Dk.it0 nilS nilS]:=ho
 rw [m_func]
 refine⟨_,rfl,?_⟩
 have fail : ∀ {W : World} {L : List Ent} {x y e : Int} {it : It} {vk vc : Value} {N : Mem},OwnS M.A w W (L++([.mem N,errE b8 x,ciE b7 y,itE b6 it vk vc]++[]))→M.le N→e≠0→Bd.read s a len = Bd.bad e →
   S_body_Read_p0 { target:=.fn (.func 23) #[.pointer (some ⟨b8,0,none⟩),.pointer (some ⟨b6,0,none⟩),.pointer (some ⟨b7,0,none⟩)],args:=#[]++#[] } (.pointer (some ⟨b6,0,none⟩)) (.pointer (some ⟨b7,0,none⟩)) (.pointer (some ⟨b8,0,none⟩)) K [upE e] W:=by
  intro W L x y e it vk vc N ho hle h0 hh
  have ho:=ho.front
  show pd Tryz.prog _ K _ [upE e] W
  unfold pd
  refine leave_fn (by simp) bread1_plain (S_body_Read_1_dok (t0:=.pointer (some ⟨b8,0,none⟩)) (t1:=.pointer (some ⟨b6,0,none⟩)) (t2:=.pointer (some ⟨b7,0,none⟩)) ?_)
  simp only [S_body_Read_1,recV,recM,upE]
  refine c_bcaughtE (e:=e) ho 1 rfl fun w5 ho => ?_
  have ho : OwnS M.A w w5 (.mem N :: errE b8 e :: ciE b7 y :: itE b6 it vk vc :: (L++[])):=ho
  unfold S_body_Read_1_r
  rw [l_cell nErr5 (ho.cell 1 rfl 0 rfl)]
  simp only [rs,decide_eq_true (show e≠0 from h0),i_t]
  rw [m_it0]
  refine it_put 3 rfl rfl ho rfl fun w6 ho => ?_
  refine o_store 2 ho rfl (by kernel_rfl) rfl (by simp) fun w7 ho => ?_
  refine ret_v3 (rv_cell (ho.agg 3 rfl aggIt)) (rv_cell (AtV.cell nInt5 (ho.cell 2 rfl 0 rfl))) (rv_cell (AtV.cell nErr5 (ho.cell 1 rfl 0 rfl))) (hK _ _ N _ 0 ho rfl hle ?_)
  rw [hh]
  exact⟨nilS,nilS,rfl,ob0_ov2⟩
 have hread:=Bd.read.eq_1 s a len
 by_cases hr : 0≤a∧a≤s.length
 case neg =>
  rw [if_pos (by omega)] at hread
  refine c_bfrom ho (fun h => absurd h hr) fun _ => fail (L:=[]) ho M.le_refl (by decide) hread
 refine c_bfrom ho (fun _ b w4 ho => ?_) fun h => absurd hr h
 have ho : OwnS M.A w w4 [brE b s a,.mem M,errE b8 0,ciE b7 0,itE b6 Dk.it0 nilS nilS]:=ho
 simp only [rs]
 refine c_bneed (fun h => ?_) fun h => ?_
 rotate_left
 ·rw [if_pos (by have:=of_decide_eq_false h;omega)] at hread
  exact fail (L:=[_]) ho M.le_refl (by decide) hread
 have hl1 : len ≥ -1:=of_decide_eq_true h
 rw [if_neg (by omega)] at hread
 have hh : Bd.head s a = Bd.headG s a:=by unfold Bd.head;rw [if_neg (by omega)]
 refine c_lend ho 0 rfl (bhead_ret b s a w4 (by omega) (ho.at_ 0 rfl)) ?_ fun e2 w5 hn ho => ?_
 rotate_left
 ·rw [← hh] at hn ⊢
  rw [if_pos hn] at hread
  exact fail (L:=[_]) ho M.le_refl hn hread
 rintro _ _ w5 hz ⟨rfl,rfl⟩ ho
 rw [← hh] at hz ho ⊢
 rw [if_neg (by simp [hz])] at hread
 have hhb:=Bd.head_bd hz
 generalize Bd.head s a = hd at *
 simp only [ex,fa_i0]
 refine o_store 4 ho rfl (by kernel_rfl) rfl (show 0 < 8 by omega) fun w6 ho => ?_
 rw [fa_i1]
 refine o_store 4 ho rfl (by kernel_rfl) rfl (show 0 + 1 < 8 by omega) fun w7 ho => ?_
 have ho : OwnS M.A w w7 [brE b s hd.t,.mem M,errE b8 0,ciE b7 0,itE b6 ⟨hd.num,hd.gen,Vl.ob0⟩ nilS nilS]:=ho
 refine c_lent ho (bobject_ret b s hd.t M w7 (by omega) (ho.pair.at_ 0 rfl)) ?_ fun e2 w8 hn ho => ?_
 rotate_left
 ·rw [if_pos hn] at hread
  exact fail (L:=[_]) ho M.le_refl hn hread
 rintro u N w8 hz2 hle hu ho
 rw [if_neg (by simp [hz2])] at hread
 have hck:=Bd.object_check hz2
 have hwt : (Ps.object s hd.t).1.wt≤1000000000:=by
  unfold Ps.object at hz2 ⊢
  split at hz2
  ·simp [Ps.bad] at hz2
  ·rename_i hb
   rw [if_neg hb]
   have h1:=Ps.obj_wt s 24 hd.t hz2
   have h2:=Ps.obj_bd hz2
   omega
 generalize Ps.object s hd.t = x at *
 obtain⟨xk,xc,xcs,rfl,hx⟩:=hu.open
 rw [fa_i2]
 refine it_putO 4 hx.keys.one hx.kids.one ho rfl fun w9 ho => ?_
 have ho : OwnS M.A w w9 [brE b s x.2.1,.mem N,errE b8 0,ciE b7 0,itE b6 ⟨hd.num,hd.gen,x.1⟩ xk xc]:=ho
 rw [fa_i2,fa_o0,it_k ho 4 rfl]
 simp only [rs]
 refine c_bneed (fun h => ?_) fun h => ?_
 rotate_left
 ·have h8 : x.1.k = 8:=by simpa using of_decide_eq_false h
  rw [if_pos h8] at hread
  exact fail (L:=[_]) ho hle (by decide) hread
 have h8 : x.1.k≠8:=of_decide_eq_true h
 rw [if_neg h8] at hread
 refine join fun J hJ => ?_
 have fin : ∀ {W : World} {L : List Ent} {N' : Mem} {it' : It} {yk yc : Value} {t : Int},OwnS M.A w W (L++([brE b s t,.mem N',errE b8 0,ciE b7 0,itE b6 it' yk yc]++[]))→M.le N'→OV N'.A N'.w (obV it'.obj yk yc) it'.obj→Bd.read s a len = (it',t,0)→J [] W:=by
  intro W L N' it' yk yc t ho hle hov hR
  refine hJ _ _ fun _ => ?_
  have ho:=ho.front
  unfold S_body_Read_0
  have ho:=ho.drew
  refine⟨fun W => (itE b6 it' yk yc).is W∧(brE b s t).is W,⟨ho.at_ 4 rfl,ho.at_ 0 rfl⟩,?_⟩
  refine hd_do (itV it' yk yc) (fun W h => run_it fun j u hj => by rw [Nat.zero_add];exact cells_cell (T:=27) h.1 hj) ?_
  refine hd_pure _ (fun _ => run_nil) (hd_pure _ (fun _ => run_fa fbr1) (hd_do _ (fun W h => br_a h.2) ?_))
  refine it_put 4 hov.oneK hov.oneC ho rfl fun w' ho => ⟨⟨ho.at_ 4 rfl,ho.at_ 0 rfl⟩,?_⟩
  refine o_store 3 ho rfl (by kernel_rfl) rfl (by simp) fun w' ho => ?_
  refine o_store 2 ho rfl (by kernel_rfl) rfl (by simp) fun w' ho => ?_
  refine leave_fn (by simp) bread1_plain (S_body_Read_1_dok (t0:=.pointer (some ⟨b8,0,none⟩)) (t1:=.pointer (some ⟨b6,0,none⟩)) (t2:=.pointer (some ⟨b7,0,none⟩)) ?_)
  simp only [S_body_Read_1,recV,recM]
  refine c_bcaughtN ?_
  unfold S_body_Read_1_r
  rw [l_cell nErr5 (ho.cell 2 rfl 0 rfl)]
  simp only [rs,show decide ((0 : Int)≠0) = false by decide,i_f]
  refine ret_v3 (rv_cell (ho.agg 4 rfl aggIt)) (rv_cell (AtV.cell nInt5 (ho.cell 3 rfl 0 rfl))) (rv_cell (AtV.cell nErr5 (ho.cell 2 rfl 0 rfl))) (hK _ _ N' _ 1 ho rfl hle ?_)
  rw [hR]
  exact⟨yk,yc,rfl,hov⟩
 unfold Bd.body at hread
 refine c_lend ho 0 rfl (bnext_ret b s x.2.1 w9 (by omega) (ho.at_ 0 rfl)) ?_ fun e2 w10 hn ho => ?_
 rotate_left
 ·have hw : ∀ wd,(Bd.word s x.2.1 wd).2 = lacks s x.2.1:=by
   intro wd
   unfold Bd.word lacks
   unfold Has at hn
   by_cases hz : (Lx.next s x.2.1).2≠0
   ·rw [if_pos hz,if_pos hz]
   ·rw [if_neg hz,if_neg hz,if_pos (by
     by_cases hk : (Lx.next s x.2.1).1.k = 0
     ·exact hk
     ·exact absurd ⟨by omega,hk⟩ hn)]
  have hl0 : lacks s x.2.1≠0:=lacks_pos
  rw [if_neg (by rw [hw];exact fun h => hl0 h.1),Bd.tail,if_pos (by rw [hw];exact hl0),hw] at hread
  exact fail (L:=[_]) ho hle hl0 hread
 rintro _ _ w10 ⟨hz3,hk3⟩ ⟨rfl,rfl⟩ ho
 have hbd:=Lx.next_bd hz3 hk3
 have hw : ∀ wd,Bd.word s x.2.1 wd = if (Lx.next s x.2.1).1.k≠5∨(Lx.next s x.2.1).1.s≠wd then (0,3) else ((Lx.next s x.2.1).1.t,0):=by
  intro wd
  unfold Bd.word
  rw [if_neg (by simp [hz3]),if_neg hk3]
 generalize Lx.next s x.2.1 = t1 at *
 refine o_tok ho fun b10 w11 ho => ?_
 refine tk_put 0 ho rfl fun w12 ho => ?_
 have ho : OwnS M.A w w12 [tokE b10 t1.1,brE b s t1.1.t,.mem N,errE b8 0,ciE b7 0,itE b6 ⟨hd.num,hd.gen,x.1⟩ xk xc]:=ho
 have bad3 : Bd.read s a len = Bd.bad 3→CallX Tryz.prog 26 #[.bool false,.int .i64 3] w12 (S_body_Read_p0 { target:=.fn (.func 23) #[.pointer (some ⟨b8,0,none⟩),.pointer (some ⟨b6,0,none⟩),.pointer (some ⟨b7,0,none⟩)],args:=#[]++#[] } (.pointer (some ⟨b6,0,none⟩)) (.pointer (some ⟨b7,0,none⟩)) (.pointer (some ⟨b8,0,none⟩)) K) fun t35 w => AtX [{ target:=.fn (.func 23) #[.pointer (some ⟨b8,0,none⟩),.pointer (some ⟨b6,0,none⟩),.pointer (some ⟨b7,0,none⟩)],args:=#[]++#[] }] [{ target:=.fn (.func 23) #[.pointer (some ⟨b8,0,none⟩),.pointer (some ⟨b6,0,none⟩),.pointer (some ⟨b7,0,none⟩)],args:=#[]++#[] }] (J [] w):=by
  intro h
  exact c_bneed (fun h => by cases h) fun _ => fail (L:=[_,_]) ho hle (by decide) h
 by_cases h5 : t1.1.k = 5
 case neg =>
  rw [if_neg (by rw [hw,if_pos (.inl h5)];simp),Bd.tail,if_pos (by rw [hw,if_pos (.inl h5)];decide),hw,if_pos (.inl h5)] at hread
  simp only [rs,fa_t0,tk_k ho 0 rfl,decide_eq_false h5,g_un]
  exact bad3 hread
 by_cases he : t1.1.s = Bd.endobj
 ·have he' : t1.1.s = [101,110,100,111,98,106]:=he
  have hne : t1.1.s≠Bd.streamW:=by rw [he];decide
  have hwe : Bd.word s x.2.1 Bd.endobj = (t1.1.t,0):=by rw [hw,if_neg (by simp [h5,he])]
  rw [if_neg (by rw [hw,if_pos (.inr hne)];simp),Bd.tail,hwe,if_neg (by simp)] at hread
  simp only [rs,fa_t0,tk_k ho 0 rfl,decide_eq_true h5,fa_t4',tk_s ho 0 rfl,decide_eq_true he']
  exact⟨rfl,fin (L:=[_]) ho hle hx.ov hread⟩
 have he' : ¬ t1.1.s = [101,110,100,111,98,106]:=he
 by_cases hsw : t1.1.s = Bd.streamW
 case neg =>
  have hsw' : ¬ t1.1.s = [115,116,114,101,97,109]:=hsw
  rw [if_neg (by rw [hw,if_pos (.inr hsw)];simp),Bd.tail,if_pos (by rw [hw,if_pos (.inr he)];decide),hw,if_pos (.inr he)] at hread
  simp only [rs,fa_t0,tk_k ho 0 rfl,decide_eq_true h5,fa_t4',tk_s ho 0 rfl,decide_eq_false he',decide_eq_false hsw',g_un]
  exact bad3 hread
 have hsw' : t1.1.s = [115,116,114,101,97,109]:=hsw
 by_cases h7 : x.1.k = 7
 case neg =>
  rw [if_neg (fun h => h7 h.2),Bd.tail,if_pos (by rw [hw,if_pos (.inr he)];decide),hw,if_pos (.inr he)] at hread
  simp only [rs,fa_t0,tk_k ho 0 rfl,decide_eq_true h5,fa_t4',tk_s ho 0 rfl,decide_eq_false he',decide_eq_true hsw',fa_i2,fa_o0,it_k ho 5 rfl,decide_eq_false h7,g_un]
  exact bad3 hread
 have hws : Bd.word s x.2.1 Bd.streamW = (t1.1.t,0):=by rw [hw,if_neg (by simp [h5,hsw])]
 rw [if_pos ⟨by rw [hws],h7⟩,hws] at hread
 simp only at hread
 simp only [rs,fa_t0,tk_k ho 0 rfl,decide_eq_true h5,fa_t4',tk_s ho 0 rfl,decide_eq_false he',decide_eq_true hsw',fa_i2,fa_o0,it_k ho 5 rfl,decide_eq_true h7,it_obj ho 5 rfl]
 have ho:=ho.tail
 obtain⟨n,hn⟩ : ∃ n : Nat,t1.1.t = n:=⟨t1.1.t.toNat,by omega⟩
 rw [hn] at hread ho
 rw [Int.toNat_natCast] at hread
 refine c_lent ho (bstream_ret b s n len x.1 _ N w12 (by omega) (by omega) h7 hck hwt hx.ov (ho.pair.at_ 0 rfl)) ?_ fun e2 w13 hE ho => ?_
 rotate_left
 ·refine fail (L:=[_]) ho hle hE ?_
  rw [hread]
  unfold Bd.stE at hE ⊢
  by_cases hs2 : (Bd.stream s n len x.1).2.2≠0
  ·rw [if_pos hs2,if_pos hs2]
  ·rw [if_neg hs2] at hE
   rw [if_neg hs2,if_neg hs2,Bd.tail,if_pos hE]
 rintro u N2 w13 hE hle2 hu ho
 obtain⟨yk,yc,ycs,rfl,hy⟩:=hu.open
 refine it_putO 4 hy.keys.one hy.kids.one ho rfl fun w14 ho => ?_
 refine⟨rfl,fin (L:=[]) ho (hle.trans hle2) hy.ov ?_⟩
 rw [hread]
 unfold Bd.stE at hE
 have hs2 : ¬ (Bd.stream s n len x.1).2.2≠0:=fun h => by rw [if_pos h] at hE;exact h hE
 rw [if_neg hs2] at hE
 rw [if_neg hs2,Bd.tail,if_neg (by simp [hE])]
end Go.Proofs.YtkejpieaafeblaaGreatDoor

namespace Go.Proofs.YtkejpieaafeblaaGreatDoor
set_option maxRecDepth 20000
open Eng
def S_foliantlaw08_Held (w : World) (K : Ending→World→Prop) : Prop:=
 DoX Tryz.prog (mAlloc 27) w (pk K) fun t0 w =>
 DoX Tryz.prog (mBuild 25 #[(0,(.int .i64 9)),(3,(.string ⟨#[97,98]⟩))]) w (pk K) fun t1 w =>
 DoX Tryz.prog (mBuild 27 #[(0,(.int .i64 4)),(1,(.int .i64 1)),(2,t1)]) w (pk K) fun t2 w =>
 DoX Tryz.prog (mStore 27 t0 t2) w (pk K) fun _ w =>
 RetX Tryz.prog [.cell t0 27] w K
theorem S_foliantlaw08_Held_eq (w : World) (K : Ending→World→Prop) : wpX Tryz.prog 3 [] [] none (bodyOf Tryz.f22) (topQ Tryz.prog [.cell 0 27] K) (startX []) [] w = S_foliantlaw08_Held w K:=by kernel_rfl
theorem S_foliantlaw08_Held_ok {w : World} {K : Ending→World→Prop} (h : S_foliantlaw08_Held w K) : Calls Tryz.prog 22 #[] w K:=
 calls_of_wpX Tryz.func22 rfl rfl rfl rfl (Eq.mpr (S_foliantlaw08_Held_eq w K) h)
def S_foliantlaw08_lives (w : World) (K : Ending→World→Prop) : Prop:=
 DoX Tryz.prog (mBuild 25 #[(0,(.int .i64 2)),(1,(.int .i64 7))]) w (pk K) fun t51 w =>
 DoX Tryz.prog (mBuild 27 #[(0,(.int .i64 3)),(2,t51)]) w (pk K) fun t52 w =>
 CallX Tryz.prog 15 #[t52] w (pk K) fun t53 w =>
 DoX Tryz.prog (mExt t53 0) w (pk K) fun t54 w =>
 DoX Tryz.prog (mExt t53 1) w (pk K) fun t55 w =>
 CallX Tryz.prog 22 #[] w (pk K) fun t57 w =>
 CallX Tryz.prog 15 #[t57] w (pk K) fun t58 w =>
 DoX Tryz.prog (mExt t58 0) w (pk K) fun t59 w =>
 DoX Tryz.prog (mExt t58 1) w (pk K) fun t60 w =>
 CallX Tryz.prog 9 #[(.string ⟨#[49,32,48,32,111,98,106,32,53,32,101,110,100,111,98,106]⟩),(.int .i64 0),(.int .i64 (-1))] w (pk K) fun t62 w =>
 DoX Tryz.prog (mExt t62 0) w (pk K) fun t63 w =>
 DoX Tryz.prog (mExt t62 1) w (pk K) fun t64 w =>
 DoX Tryz.prog (mExt t62 2) w (pk K) fun t65 w =>
 DoX Tryz.prog (mAlloc 27) w (pk K) fun t5 w =>
 DoX Tryz.prog (mStore 27 t5 t63) w (pk K) fun _ w =>
 CallX Tryz.prog 9 #[(.string ⟨#[49,32,48,32,111,98,106,32,50,32,48,32,82,32,101,110,100,111,98,106]⟩),(.int .i64 0),(.int .i64 (-1))] w (pk K) fun t67 w =>
 DoX Tryz.prog (mExt t67 0) w (pk K) fun t68 w =>
 DoX Tryz.prog (mExt t67 1) w (pk K) fun t69 w =>
 DoX Tryz.prog (mExt t67 2) w (pk K) fun t70 w =>
 DoX Tryz.prog (mAlloc 27) w (pk K) fun t8 w =>
 DoX Tryz.prog (mStore 27 t8 t68) w (pk K) fun _ w =>
 CallX Tryz.prog 9 #[(.string ⟨#[48,32,48,32,111,98,106,32,53,32,101,110,100,111,98,106]⟩),(.int .i64 0),(.int .i64 (-1))] w (pk K) fun t72 w =>
 DoX Tryz.prog (mExt t72 0) w (pk K) fun t73 w =>
 DoX Tryz.prog (mExt t72 1) w (pk K) fun t74 w =>
 DoX Tryz.prog (mExt t72 2) w (pk K) fun t75 w =>
 DoX Tryz.prog (mAlloc 27) w (pk K) fun t11 w =>
 DoX Tryz.prog (mStore 27 t11 t73) w (pk K) fun _ w =>
 CallX Tryz.prog 9 #[(.string ⟨#[49,32,48,32,111,98,106,32,53,32,101,110,100]⟩),(.int .i64 0),(.int .i64 (-1))] w (pk K) fun t77 w =>
 DoX Tryz.prog (mExt t77 0) w (pk K) fun t78 w =>
 DoX Tryz.prog (mExt t77 1) w (pk K) fun t79 w =>
 DoX Tryz.prog (mExt t77 2) w (pk K) fun t80 w =>
 DoX Tryz.prog (mAlloc 27) w (pk K) fun t14 w =>
 DoX Tryz.prog (mStore 27 t14 t78) w (pk K) fun _ w =>
 CallX Tryz.prog 9 #[(.string ⟨#[49,32,48,32,111,98,106,32,53]⟩),(.int .i64 0),(.int .i64 (-1))] w (pk K) fun t82 w =>
 DoX Tryz.prog (mExt t82 0) w (pk K) fun t83 w =>
 DoX Tryz.prog (mExt t82 1) w (pk K) fun t84 w =>
 DoX Tryz.prog (mExt t82 2) w (pk K) fun t85 w =>
 DoX Tryz.prog (mAlloc 27) w (pk K) fun t17 w =>
 DoX Tryz.prog (mStore 27 t17 t83) w (pk K) fun _ w =>
 CallX Tryz.prog 9 #[t59,(.int .i64 0),(.int .i64 2)] w (pk K) fun t88 w =>
 DoX Tryz.prog (mExt t88 0) w (pk K) fun t89 w =>
 DoX Tryz.prog (mExt t88 1) w (pk K) fun t90 w =>
 DoX Tryz.prog (mExt t88 2) w (pk K) fun t91 w =>
 DoX Tryz.prog (mAlloc 27) w (pk K) fun t20 w =>
 DoX Tryz.prog (mStore 27 t20 t89) w (pk K) fun _ w =>
 CallX Tryz.prog 9 #[(.string ⟨#[49,32,48,32,111,98,106,60,60,47,76,101,110,103,116,104,32,57,32,48,32,82,62,62,115,116,114,101,97,109,13,10,97,98,99,32,101,110,100,115,116,114,101,97,109,32,101,110,100,111,98,106]⟩),(.int .i64 0),(.int .i64 3)] w (pk K) fun t93 w =>
 DoX Tryz.prog (mExt t93 0) w (pk K) fun t94 w =>
 DoX Tryz.prog (mExt t93 1) w (pk K) fun t95 w =>
 DoX Tryz.prog (mExt t93 2) w (pk K) fun t96 w =>
 DoX Tryz.prog (mAlloc 27) w (pk K) fun t23 w =>
 DoX Tryz.prog (mStore 27 t23 t94) w (pk K) fun _ w =>
 CallX Tryz.prog 9 #[(.string ⟨#[49,32,48,32,111,98,106,60,60,47,76,101,110,103,116,104,32,57,32,48,32,82,62,62,115,116,114,101,97,109,13,10,97,98,99,32,101,110,100,115,116,114,101,97,109,32,101,110,100,111,98,106]⟩),(.int .i64 0),(.int .i64 (-1))] w (pk K) fun t98 w =>
 DoX Tryz.prog (mExt t98 0) w (pk K) fun t99 w =>
 DoX Tryz.prog (mExt t98 1) w (pk K) fun t100 w =>
 DoX Tryz.prog (mExt t98 2) w (pk K) fun t101 w =>
 DoX Tryz.prog (mAlloc 27) w (pk K) fun t26 w =>
 DoX Tryz.prog (mStore 27 t26 t99) w (pk K) fun _ w =>
 CallX Tryz.prog 9 #[(.string ⟨#[49,32,48,32,111,98,106,60,60,62,62,115,116,114,101,97,109,10,97,98,99,32,101,110,100,115,116,114,101,97,109,32,101,110,100,111,98,106]⟩),(.int .i64 0),(.int .i64 (-1))] w (pk K) fun t103 w =>
 DoX Tryz.prog (mExt t103 0) w (pk K) fun t104 w =>
 DoX Tryz.prog (mExt t103 1) w (pk K) fun t105 w =>
 DoX Tryz.prog (mExt t103 2) w (pk K) fun t106 w =>
 DoX Tryz.prog (mAlloc 27) w (pk K) fun t29 w =>
 DoX Tryz.prog (mStore 27 t29 t104) w (pk K) fun _ w =>
 CallX Tryz.prog 9 #[(.string ⟨#[49,32,48,32,111,98,106,60,60,47,76,101,110,103,116,104,32,57,48,48,62,62,115,116,114,101,97,109,10,97,98,99,32,101,110,100,115,116,114,101,97,109,32,101,110,100,111,98,106]⟩),(.int .i64 0),(.int .i64 (-1))] w (pk K) fun t108 w =>
 DoX Tryz.prog (mExt t108 0) w (pk K) fun t109 w =>
 DoX Tryz.prog (mExt t108 1) w (pk K) fun t110 w =>
 DoX Tryz.prog (mExt t108 2) w (pk K) fun t111 w =>
 DoX Tryz.prog (mAlloc 27) w (pk K) fun t32 w =>
 DoX Tryz.prog (mStore 27 t32 t109) w (pk K) fun _ w =>
 CallX Tryz.prog 9 #[(.string ⟨#[49,32,48,32,111,98,106,60,60,47,76,101,110,103,116,104,32,51,62,62,115,116,114,101,97,109,32,97,98,99,32,101,110,100,115,116,114,101,97,109,32,101,110,100,111,98,106]⟩),(.int .i64 0),(.int .i64 (-1))] w (pk K) fun t113 w =>
 DoX Tryz.prog (mExt t113 0) w (pk K) fun t114 w =>
 DoX Tryz.prog (mExt t113 1) w (pk K) fun t115 w =>
 DoX Tryz.prog (mExt t113 2) w (pk K) fun t116 w =>
 DoX Tryz.prog (mAlloc 27) w (pk K) fun t35 w =>
 DoX Tryz.prog (mStore 27 t35 t114) w (pk K) fun _ w =>
 CallX Tryz.prog 11 #[(.string ⟨#[49,32,48,32,111,98,106,60,60,47,76,101,110,103,116,104,32,57,32,48,32,82,62,62,115,116,114,101,97,109]⟩),(.int .i64 0)] w (pk K) fun t118 w =>
 DoX Tryz.prog (mExt t118 0) w (pk K) fun t119 w =>
 DoX Tryz.prog (mExt t118 1) w (pk K) fun t120 w =>
 DoX Tryz.prog (mAlloc 25) w (pk K) fun t38 w =>
 DoX Tryz.prog (mStore 25 t38 t119) w (pk K) fun _ w =>
 CallX Tryz.prog 11 #[(.string ⟨#[49,32,48,32,111,98,106,60,60,47,76,101,110,103,116,104,32,57,62,62,101,110,100,111,98,106]⟩),(.int .i64 0)] w (pk K) fun t122 w =>
 DoX Tryz.prog (mExt t122 0) w (pk K) fun t123 w =>
 DoX Tryz.prog (mExt t122 1) w (pk K) fun t124 w =>
 DoX Tryz.prog (mAlloc 25) w (pk K) fun t40 w =>
 DoX Tryz.prog (mStore 25 t40 t123) w (pk K) fun _ w =>
 CallX Tryz.prog 13 #[(.string ⟨#[37,10,49,50,32,51,32,111,98,106,32,120]⟩),(.int .i64 0)] w (pk K) fun t126 w =>
 DoX Tryz.prog (mExt t126 0) w (pk K) fun t127 w =>
 DoX Tryz.prog (mExt t126 1) w (pk K) fun t128 w =>
 DoX Tryz.prog (mExt t126 2) w (pk K) fun t129 w =>
 DoX Tryz.prog (mExt t126 3) w (pk K) fun t130 w =>
 CallX Tryz.prog 13 #[(.string ⟨#[]⟩),(.int .i64 1)] w (pk K) fun t132 w =>
 DoX Tryz.prog (mExt t132 0) w (pk K) fun t133 w =>
 DoX Tryz.prog (mExt t132 1) w (pk K) fun t134 w =>
 DoX Tryz.prog (mExt t132 2) w (pk K) fun t135 w =>
 DoX Tryz.prog (mExt t132 3) w (pk K) fun t136 w =>
 DoX Tryz.prog (mEq .neq 9 (.tmp 137) (.const (.string ⟨#[51,32,48,32,111,98,106,10,55,10,101,110,100,111,98,106,10]⟩)) t54 (.string ⟨#[51,32,48,32,111,98,106,10,55,10,101,110,100,111,98,106,10]⟩)) w (pk K) fun t138 w =>
 GDo t138 false (fun E => E t55 w) w fun t140 w =>
 GDo t138 false (fun E => DoX Tryz.prog (mEq .neq 30 (.tmp 140) (.const (.int .i64 0)) t140 (.int .i64 0)) w (pk K) E) w fun t141 w =>
 DoX Tryz.prog (mPick t138 (.bool true) t141) w (pk K) fun t142 w =>
 GDo t142 false (fun E => E t59 w) w fun t144 w =>
 GDo t142 false (fun E => DoX Tryz.prog (mEq .neq 9 (.tmp 144) (.const (.string ⟨#[52,32,49,32,111,98,106,10,60,60,47,76,101,110,103,116,104,32,50,62,62,10,115,116,114,101,97,109,10,97,98,10,101,110,100,115,116,114,101,97,109,10,101,110,100,111,98,106,10]⟩)) t144 (.string ⟨#[52,32,49,32,111,98,106,10,60,60,47,76,101,110,103,116,104,32,50,62,62,10,115,116,114,101,97,109,10,97,98,10,101,110,100,115,116,114,101,97,109,10,101,110,100,111,98,106,10]⟩)) w (pk K) E) w fun t145 w =>
 DoX Tryz.prog (mPick t142 (.bool true) t145) w (pk K) fun t146 w =>
 GDo t146 false (fun E => E t60 w) w fun t148 w =>
 GDo t146 false (fun E => DoX Tryz.prog (mEq .neq 30 (.tmp 148) (.const (.int .i64 0)) t148 (.int .i64 0)) w (pk K) E) w fun t149 w =>
 DoX Tryz.prog (mPick t146 (.bool true) t149) w (pk K) fun t150 w =>
 GDo t150 false (fun E => DoX Tryz.prog (mFA 27 t5 0) w (pk K) E) w fun t152 w =>
 GDo t150 false (fun E => DoX Tryz.prog (mLoad 3 t152) w (pk K) E) w fun t153 w =>
 GDo t150 false (fun E => DoX Tryz.prog (mEq .neq 3 (.tmp 153) (.const (.int .i64 1)) t153 (.int .i64 1)) w (pk K) E) w fun t154 w =>
 DoX Tryz.prog (mPick t150 (.bool true) t154) w (pk K) fun t155 w =>
 GDo t155 false (fun E => DoX Tryz.prog (mFA 27 t5 2) w (pk K) E) w fun t157 w =>
 GDo t155 false (fun E => DoX Tryz.prog (mFA 25 t157 1) w (pk K) E) w fun t158 w =>
 GDo t155 false (fun E => DoX Tryz.prog (mLoad 2 t158) w (pk K) E) w fun t159 w =>
 GDo t155 false (fun E => DoX Tryz.prog (mEq .neq 2 (.tmp 159) (.const (.int .i64 5)) t159 (.int .i64 5)) w (pk K) E) w fun t160 w =>
 DoX Tryz.prog (mPick t155 (.bool true) t160) w (pk K) fun t161 w =>
 GDo t161 false (fun E => E t64 w) w fun t163 w =>
 GDo t161 false (fun E => DoX Tryz.prog (mEq .neq 3 (.tmp 163) (.const (.int .i64 16)) t163 (.int .i64 16)) w (pk K) E) w fun t164 w =>
 DoX Tryz.prog (mPick t161 (.bool true) t164) w (pk K) fun t165 w =>
 GDo t165 false (fun E => E t65 w) w fun t167 w =>
 GDo t165 false (fun E => DoX Tryz.prog (mEq .neq 30 (.tmp 167) (.const (.int .i64 0)) t167 (.int .i64 0)) w (pk K) E) w fun t168 w =>
 DoX Tryz.prog (mPick t165 (.bool true) t168) w (pk K) fun t169 w =>
 GDo t169 false (fun E => E t70 w) w fun t171 w =>
 GDo t169 false (fun E => DoX Tryz.prog (mEq .neq 30 (.tmp 171) (.const (.int .i64 10)) t171 (.int .i64 10)) w (pk K) E) w fun t172 w =>
 DoX Tryz.prog (mPick t169 (.bool true) t172) w (pk K) fun t173 w =>
 GDo t173 false (fun E => E t75 w) w fun t175 w =>
 GDo t173 false (fun E => DoX Tryz.prog (mEq .neq 30 (.tmp 175) (.const (.int .i64 2)) t175 (.int .i64 2)) w (pk K) E) w fun t176 w =>
 DoX Tryz.prog (mPick t173 (.bool true) t176) w (pk K) fun t177 w =>
 GDo t177 false (fun E => E t80 w) w fun t179 w =>
 GDo t177 false (fun E => DoX Tryz.prog (mEq .neq 30 (.tmp 179) (.const (.int .i64 3)) t179 (.int .i64 3)) w (pk K) E) w fun t180 w =>
 DoX Tryz.prog (mPick t177 (.bool true) t180) w (pk K) fun t181 w =>
 GDo t181 false (fun E => E t85 w) w fun t183 w =>
 GDo t181 false (fun E => DoX Tryz.prog (mEq .neq 30 (.tmp 183) (.const (.int .i64 4)) t183 (.int .i64 4)) w (pk K) E) w fun t184 w =>
 DoX Tryz.prog (mPick t181 (.bool true) t184) w (pk K) fun t185 w =>
 IfX t185 (K (.returned (.bool false)) w) (QuietX w (fun C1 =>
 QDo Tryz.prog C1 (mFA 27 t20 0) fun t186 =>
 QDo Tryz.prog C1 (mLoad 3 t186) fun t187 =>
 QDo Tryz.prog C1 (mEq .neq 3 (.tmp 187) (.const (.int .i64 4)) t187 (.int .i64 4)) fun t188 =>
 GQ t188 false (fun E => QDo Tryz.prog C1 (mFA 27 t20 1) E) fun t190 =>
 GQ t188 false (fun E => QDo Tryz.prog C1 (mLoad 3 t190) E) fun t191 =>
 GQ t188 false (fun E => QDo Tryz.prog C1 (mEq .neq 3 (.tmp 191) (.const (.int .i64 1)) t191 (.int .i64 1)) E) fun t192 =>
 QDo Tryz.prog C1 (mPick t188 (.bool true) t192) fun t193 =>
 GQ t193 false (fun E => QDo Tryz.prog C1 (mFA 27 t20 2) E) fun t195 =>
 GQ t193 false (fun E => QDo Tryz.prog C1 (mLoad 25 t195) E) fun t196 =>
 GQ t193 false (fun E => QCall Tryz.prog C1 22 #[] E) fun t197 =>
 GQ t193 false (fun E => QDo Tryz.prog C1 (mFld 27 t197 2) E) fun t198 =>
 GQ t193 false (fun E => QCall Tryz.prog C1 17 #[t196,t198] E) fun t199 =>
 GQ t193 false (fun E => QDo Tryz.prog C1 (mUn .not t199) E) fun t200 =>
 QDo Tryz.prog C1 (mPick t193 (.bool true) t200) fun t201 =>
 GQ t201 false (fun E => E t90) fun t203 =>
 GQ t201 false (fun E => E t59) fun t204 =>
 GQ t201 false (fun E => QDo Tryz.prog C1 (mB .len #[9] 3 #[false] #[t204]) E) fun t205 =>
 GQ t201 false (fun E => QDo Tryz.prog C1 (mBin .sub 3 t205 (.int .i64 1)) E) fun t206 =>
 GQ t201 false (fun E => QDo Tryz.prog C1 (mEq .neq 3 (.tmp 203) (.tmp 206) t203 t206) E) fun t207 =>
 QDo Tryz.prog C1 (mPick t201 (.bool true) t207) fun t208 =>
 GQ t208 false (fun E => E t91) fun t210 =>
 GQ t208 false (fun E => QDo Tryz.prog C1 (mEq .neq 30 (.tmp 210) (.const (.int .i64 0)) t210 (.int .i64 0)) E) fun t211 =>
 QDo Tryz.prog C1 (mPick t208 (.bool true) t211) fun t212 =>
 GQ t212 false (fun E => QDo Tryz.prog C1 (mFA 27 t23 2) E) fun t214 =>
 GQ t212 false (fun E => QDo Tryz.prog C1 (mFA 25 t214 3) E) fun t215 =>
 GQ t212 false (fun E => QDo Tryz.prog C1 (mLoad 9 t215) E) fun t216 =>
 GQ t212 false (fun E => QDo Tryz.prog C1 (mEq .neq 9 (.tmp 216) (.const (.string ⟨#[97,98,99]⟩)) t216 (.string ⟨#[97,98,99]⟩)) E) fun t217 =>
 QDo Tryz.prog C1 (mPick t212 (.bool true) t217) fun t218 =>
 GQ t218 false (fun E => QDo Tryz.prog C1 (mFA 27 t23 2) E) fun t220 =>
 GQ t218 false (fun E => QDo Tryz.prog C1 (mFA 25 t220 4) E) fun t221 =>
 GQ t218 false (fun E => QDo Tryz.prog C1 (mLoad 22 t221) E) fun t222 =>
 GQ t218 false (fun E => QDo Tryz.prog C1 (mB .len #[22] 3 #[false] #[t222]) E) fun t223 =>
 GQ t218 false (fun E => QDo Tryz.prog C1 (mEq .neq 3 (.tmp 223) (.const (.int .i64 0)) t223 (.int .i64 0)) E) fun t224 =>
 QDo Tryz.prog C1 (mPick t218 (.bool true) t224) fun t225 =>
 GQ t225 false (fun E => E t96) fun t227 =>
 GQ t225 false (fun E => QDo Tryz.prog C1 (mEq .neq 30 (.tmp 227) (.const (.int .i64 0)) t227 (.int .i64 0)) E) fun t228 =>
 QDo Tryz.prog C1 (mPick t225 (.bool true) t228) fun t229 =>
 GQ t229 false (fun E => E t101) fun t231 =>
 GQ t229 false (fun E => QDo Tryz.prog C1 (mEq .neq 30 (.tmp 231) (.const (.int .i64 10)) t231 (.int .i64 10)) E) fun t232 =>
 QDo Tryz.prog C1 (mPick t229 (.bool true) t232) fun t233 =>
 GQ t233 false (fun E => E t106) fun t235 =>
 GQ t233 false (fun E => QDo Tryz.prog C1 (mEq .neq 30 (.tmp 235) (.const (.int .i64 3)) t235 (.int .i64 3)) E) fun t236 =>
 QDo Tryz.prog C1 (mPick t233 (.bool true) t236) fun t237 =>
 GQ t237 false (fun E => E t111) fun t239 =>
 GQ t237 false (fun E => QDo Tryz.prog C1 (mEq .neq 30 (.tmp 239) (.const (.int .i64 4)) t239 (.int .i64 4)) E) fun t240 =>
 QDo Tryz.prog C1 (mPick t237 (.bool true) t240) fun t241 =>
 GQ t241 false (fun E => E t116) fun t243 =>
 GQ t241 false (fun E => QDo Tryz.prog C1 (mEq .neq 30 (.tmp 243) (.const (.int .i64 3)) t243 (.int .i64 3)) E) fun t244 =>
 QDo Tryz.prog C1 (mPick t241 (.bool true) t244) fun t245 =>
 ∀ w,C1 w →
 IfX t245 (K (.returned (.bool false)) w) (DoX Tryz.prog (mFA 25 t38 0) w (pk K) fun t246 w =>
 DoX Tryz.prog (mLoad 3 t246) w (pk K) fun t247 w =>
 DoX Tryz.prog (mEq .eql 3 (.tmp 247) (.const (.int .i64 8)) t247 (.int .i64 8)) w (pk K) fun t248 w =>
 GDo t248 true (fun E => DoX Tryz.prog (mFA 25 t38 1) w (pk K) E) w fun t250 w =>
 GDo t248 true (fun E => DoX Tryz.prog (mLoad 2 t250) w (pk K) E) w fun t251 w =>
 GDo t248 true (fun E => DoX Tryz.prog (mEq .eql 2 (.tmp 251) (.const (.int .i64 9)) t251 (.int .i64 9)) w (pk K) E) w fun t252 w =>
 DoX Tryz.prog (mPick t248 t252 (.bool false)) w (pk K) fun t253 w =>
 GDo t253 true (fun E => E t120 w) w fun t255 w =>
 GDo t253 true (fun E => DoX Tryz.prog (mEq .eql 30 (.tmp 255) (.const (.int .i64 0)) t255 (.int .i64 0)) w (pk K) E) w fun t256 w =>
 DoX Tryz.prog (mPick t253 t256 (.bool false)) w (pk K) fun t257 w =>
 GDo t257 true (fun E => DoX Tryz.prog (mFA 25 t40 0) w (pk K) E) w fun t259 w =>
 GDo t257 true (fun E => DoX Tryz.prog (mLoad 3 t259) w (pk K) E) w fun t260 w =>
 GDo t257 true (fun E => DoX Tryz.prog (mEq .eql 3 (.tmp 260) (.const (.int .i64 0)) t260 (.int .i64 0)) w (pk K) E) w fun t261 w =>
 DoX Tryz.prog (mPick t257 t261 (.bool false)) w (pk K) fun t262 w =>
 GDo t262 true (fun E => E t124 w) w fun t264 w =>
 GDo t262 true (fun E => DoX Tryz.prog (mEq .eql 30 (.tmp 264) (.const (.int .i64 0)) t264 (.int .i64 0)) w (pk K) E) w fun t265 w =>
 DoX Tryz.prog (mPick t262 t265 (.bool false)) w (pk K) fun t266 w =>
 GDo t266 true (fun E => E t127 w) w fun t268 w =>
 GDo t266 true (fun E => DoX Tryz.prog (mEq .eql 3 (.tmp 268) (.const (.int .i64 12)) t268 (.int .i64 12)) w (pk K) E) w fun t269 w =>
 DoX Tryz.prog (mPick t266 t269 (.bool false)) w (pk K) fun t270 w =>
 GDo t270 true (fun E => E t128 w) w fun t272 w =>
 GDo t270 true (fun E => DoX Tryz.prog (mEq .eql 3 (.tmp 272) (.const (.int .i64 3)) t272 (.int .i64 3)) w (pk K) E) w fun t273 w =>
 DoX Tryz.prog (mPick t270 t273 (.bool false)) w (pk K) fun t274 w =>
 GDo t274 true (fun E => E t129 w) w fun t276 w =>
 GDo t274 true (fun E => DoX Tryz.prog (mEq .eql 3 (.tmp 276) (.const (.int .i64 10)) t276 (.int .i64 10)) w (pk K) E) w fun t277 w =>
 DoX Tryz.prog (mPick t274 t277 (.bool false)) w (pk K) fun t278 w =>
 GDo t278 true (fun E => E t130 w) w fun t280 w =>
 GDo t278 true (fun E => DoX Tryz.prog (mEq .eql 30 (.tmp 280) (.const (.int .i64 0)) t280 (.int .i64 0)) w (pk K) E) w fun t281 w =>
 DoX Tryz.prog (mPick t278 t281 (.bool false)) w (pk K) fun t282 w =>
 GDo t282 true (fun E => E t136 w) w fun t284 w =>
 GDo t282 true (fun E => DoX Tryz.prog (mEq .eql 30 (.tmp 284) (.const (.int .i64 1)) t284 (.int .i64 1)) w (pk K) E) w fun t285 w =>
 DoX Tryz.prog (mPick t282 t285 (.bool false)) w (pk K) fun t286 w =>
 GDo t286 true (fun E => CallX Tryz.prog 22 #[] w (pk K) E) w fun t288 w =>
 GDo t286 true (fun E => CallX Tryz.prog 18 #[t288] w (pk K) E) w fun t289 w =>
 GDo t286 true (fun E => DoX Tryz.prog (mEq .eql 30 (.tmp 289) (.const (.int .i64 0)) t289 (.int .i64 0)) w (pk K) E) w fun t290 w =>
 DoX Tryz.prog (mPick t286 t290 (.bool false)) w (pk K) fun t291 w =>
 GDo t291 true (fun E => DoX Tryz.prog (mBuild 25 #[(0,(.int .i64 8)),(1,(.int .i64 1))]) w (pk K) E) w fun t293 w =>
 GDo t291 true (fun E => DoX Tryz.prog (mBuild 27 #[(0,(.int .i64 1)),(2,t293)]) w (pk K) E) w fun t294 w =>
 GDo t291 true (fun E => CallX Tryz.prog 18 #[t294] w (pk K) E) w fun t295 w =>
 GDo t291 true (fun E => DoX Tryz.prog (mEq .eql 30 (.tmp 295) (.const (.int .i64 10)) t295 (.int .i64 10)) w (pk K) E) w fun t296 w =>
 DoX Tryz.prog (mPick t291 t296 (.bool false)) w (pk K) fun t297 w =>
 K (.returned t297) w)))
theorem S_foliantlaw08_lives_eq (w : World) (K : Ending→World→Prop) : wpX Tryz.prog 298 [] [] none (bodyOf Tryz.f8) (topQ Tryz.prog [.tmp 0] K) (startX []) [] w = S_foliantlaw08_lives w K:=by kernel_rfl
theorem S_foliantlaw08_lives_ok {w : World} {K : Ending→World→Prop} (h : S_foliantlaw08_lives w K) : Calls Tryz.prog 8 #[] w K:=
 calls_of_wpX Tryz.func8 rfl rfl rfl rfl (Eq.mpr (S_foliantlaw08_lives_eq w K) h)
def S_foliantlaw08_BodyLong_0 (t0 t1 t2 t7 : Value) (w : World) (N1 : List Value→World→Prop) (K : Ending→World→Prop) : Prop:=
 DoX Tryz.prog (mB .len #[9] 3 #[false] #[t1]) w (pk K) fun t42 w =>
 DoX Tryz.prog (mBin .lss 3 t7 t42) w (pk K) fun t43 w =>
 IfX t43 (DoX Tryz.prog (mIx 9 t1 t7) w (pk K) fun t48 w =>
 DoX Tryz.prog (mBin .lss 5 t48 (.int .u8 97)) w (pk K) fun t49 w =>
 GDo t49 false (fun E => E t1 w) w fun t51 w =>
 GDo t49 false (fun E => E t7 w) w fun t52 w =>
 GDo t49 false (fun E => DoX Tryz.prog (mIx 9 t51 t52) w (pk K) E) w fun t53 w =>
 GDo t49 false (fun E => DoX Tryz.prog (mBin .gtr 5 t53 (.int .u8 122)) w (pk K) E) w fun t54 w =>
 DoX Tryz.prog (mPick t49 (.bool true) t54) w (pk K) fun t55 w =>
 IfX t55 (K (.returned (.bool true)) w) (DoX Tryz.prog (mBin .add 3 t7 (.int .i64 1)) w (pk K) fun t45 w =>
 N1 [t45] w)) (DoX Tryz.prog (mBin .add 9 (.string ⟨#[55,32,48,32,111,98,106,60,60,47]⟩) t1) w (pk K) fun t57 w =>
 DoX Tryz.prog (mBin .add 9 t57 (.string ⟨#[32,49,47,76,101,110,103,116,104,32,57,32,48,32,82,62,62,115,116,114,101,97,109,10]⟩)) w (pk K) fun t58 w =>
 DoX Tryz.prog (mBin .add 9 t58 t0) w (pk K) fun t60 w =>
 DoX Tryz.prog (mBin .add 9 t60 (.string ⟨#[10,101,110,100,115,116,114,101,97,109,10,101,110,100,111,98,106]⟩)) w (pk K) fun t61 w =>
 DoX Tryz.prog (mB .len #[9] 3 #[false] #[t0]) w (pk K) fun t65 w =>
 CallX Tryz.prog 9 #[t61,(.int .i64 0),t65] w (pk K) fun t66 w =>
 DoX Tryz.prog (mExt t66 0) w (pk K) fun t67 w =>
 DoX Tryz.prog (mExt t66 1) w (pk K) fun t68 w =>
 DoX Tryz.prog (mExt t66 2) w (pk K) fun t69 w =>
 DoX Tryz.prog (mAlloc 27) w (pk K) fun t9 w =>
 DoX Tryz.prog (mStore 27 t9 t67) w (pk K) fun _ w =>
 CallX Tryz.prog 9 #[t61,(.int .i64 0),(.int .i64 (-1))] w (pk K) fun t72 w =>
 DoX Tryz.prog (mExt t72 0) w (pk K) fun t73 w =>
 DoX Tryz.prog (mExt t72 1) w (pk K) fun t74 w =>
 DoX Tryz.prog (mExt t72 2) w (pk K) fun t75 w =>
 DoX Tryz.prog (mAlloc 27) w (pk K) fun t12 w =>
 DoX Tryz.prog (mStore 27 t12 t73) w (pk K) fun _ w =>
 DoX Tryz.prog (mEq .neq 30 (.tmp 76) (.const (.int .i64 0)) t69 (.int .i64 0)) w (pk K) fun t77 w =>
 GDo t77 false (fun E => E t68 w) w fun t79 w =>
 GDo t77 false (fun E => E t61 w) w fun t80 w =>
 GDo t77 false (fun E => DoX Tryz.prog (mB .len #[9] 3 #[false] #[t80]) w (pk K) E) w fun t81 w =>
 GDo t77 false (fun E => DoX Tryz.prog (mEq .neq 3 (.tmp 79) (.tmp 81) t79 t81) w (pk K) E) w fun t82 w =>
 DoX Tryz.prog (mPick t77 (.bool true) t82) w (pk K) fun t83 w =>
 GDo t83 false (fun E => DoX Tryz.prog (mFA 27 t9 0) w (pk K) E) w fun t85 w =>
 GDo t83 false (fun E => DoX Tryz.prog (mLoad 3 t85) w (pk K) E) w fun t86 w =>
 GDo t83 false (fun E => DoX Tryz.prog (mEq .neq 3 (.tmp 86) (.const (.int .i64 7)) t86 (.int .i64 7)) w (pk K) E) w fun t87 w =>
 DoX Tryz.prog (mPick t83 (.bool true) t87) w (pk K) fun t88 w =>
 GDo t88 false (fun E => DoX Tryz.prog (mFA 27 t9 2) w (pk K) E) w fun t90 w =>
 GDo t88 false (fun E => DoX Tryz.prog (mFA 25 t90 0) w (pk K) E) w fun t91 w =>
 GDo t88 false (fun E => DoX Tryz.prog (mLoad 3 t91) w (pk K) E) w fun t92 w =>
 GDo t88 false (fun E => DoX Tryz.prog (mEq .neq 3 (.tmp 92) (.const (.int .i64 9)) t92 (.int .i64 9)) w (pk K) E) w fun t93 w =>
 DoX Tryz.prog (mPick t88 (.bool true) t93) w (pk K) fun t94 w =>
 GDo t94 false (fun E => DoX Tryz.prog (mFA 27 t9 2) w (pk K) E) w fun t96 w =>
 GDo t94 false (fun E => DoX Tryz.prog (mFA 25 t96 3) w (pk K) E) w fun t97 w =>
 GDo t94 false (fun E => DoX Tryz.prog (mLoad 9 t97) w (pk K) E) w fun t98 w =>
 GDo t94 false (fun E => E t0 w) w fun t99 w =>
 GDo t94 false (fun E => DoX Tryz.prog (mEq .neq 9 (.tmp 98) (.tmp 99) t98 t99) w (pk K) E) w fun t100 w =>
 DoX Tryz.prog (mPick t94 (.bool true) t100) w (pk K) fun t101 w =>
 GDo t101 false (fun E => DoX Tryz.prog (mFA 27 t9 2) w (pk K) E) w fun t103 w =>
 GDo t101 false (fun E => DoX Tryz.prog (mFA 25 t103 4) w (pk K) E) w fun t104 w =>
 GDo t101 false (fun E => DoX Tryz.prog (mLoad 22 t104) w (pk K) E) w fun t105 w =>
 GDo t101 false (fun E => DoX Tryz.prog (mB .len #[22] 3 #[false] #[t105]) w (pk K) E) w fun t106 w =>
 GDo t101 false (fun E => DoX Tryz.prog (mEq .neq 3 (.tmp 106) (.const (.int .i64 1)) t106 (.int .i64 1)) w (pk K) E) w fun t107 w =>
 DoX Tryz.prog (mPick t101 (.bool true) t107) w (pk K) fun t108 w =>
 GDo t108 false (fun E => DoX Tryz.prog (mFA 27 t9 2) w (pk K) E) w fun t110 w =>
 GDo t108 false (fun E => DoX Tryz.prog (mFA 25 t110 4) w (pk K) E) w fun t111 w =>
 GDo t108 false (fun E => DoX Tryz.prog (mLoad 22 t111) w (pk K) E) w fun t112 w =>
 GDo t108 false (fun E => DoX Tryz.prog (mIA 22 t112 (.int .i64 0)) w (pk K) E) w fun t113 w =>
 GDo t108 false (fun E => DoX Tryz.prog (mLoad 9 t113) w (pk K) E) w fun t114 w =>
 GDo t108 false (fun E => E t1 w) w fun t115 w =>
 GDo t108 false (fun E => DoX Tryz.prog (mEq .neq 9 (.tmp 114) (.tmp 115) t114 t115) w (pk K) E) w fun t116 w =>
 DoX Tryz.prog (mPick t108 (.bool true) t116) w (pk K) fun t117 w =>
 GDo t117 false (fun E => E t75 w) w fun t119 w =>
 GDo t117 false (fun E => DoX Tryz.prog (mEq .neq 30 (.tmp 119) (.const (.int .i64 10)) t119 (.int .i64 10)) w (pk K) E) w fun t120 w =>
 DoX Tryz.prog (mPick t117 (.bool true) t120) w (pk K) fun t121 w =>
 IfX t121 (K (.returned (.bool false)) w) (CallX Tryz.prog 9 #[t61,(.int .i64 0),t2] w (pk K) fun t125 w =>
 DoX Tryz.prog (mExt t125 0) w (pk K) fun t126 w =>
 DoX Tryz.prog (mExt t125 1) w (pk K) fun t127 w =>
 DoX Tryz.prog (mExt t125 2) w (pk K) fun t128 w =>
 DoX Tryz.prog (mAlloc 27) w (pk K) fun t15 w =>
 DoX Tryz.prog (mStore 27 t15 t126) w (pk K) fun _ w =>
 DoX Tryz.prog (mEq .neq 30 (.tmp 129) (.const (.int .i64 0)) t128 (.int .i64 0)) w (pk K) fun t130 w =>
 GDo t130 false (fun E => DoX Tryz.prog (mFA 27 t15 2) w (pk K) E) w fun t132 w =>
 GDo t130 false (fun E => DoX Tryz.prog (mFA 25 t132 3) w (pk K) E) w fun t133 w =>
 GDo t130 false (fun E => DoX Tryz.prog (mLoad 9 t133) w (pk K) E) w fun t134 w =>
 GDo t130 false (fun E => DoX Tryz.prog (mB .len #[9] 3 #[false] #[t134]) w (pk K) E) w fun t135 w =>
 GDo t130 false (fun E => E t2 w) w fun t136 w =>
 GDo t130 false (fun E => DoX Tryz.prog (mEq .eql 3 (.tmp 135) (.tmp 136) t135 t136) w (pk K) E) w fun t137 w =>
 DoX Tryz.prog (mPick t130 (.bool true) t137) w (pk K) fun t138 w =>
 K (.returned t138) w))
def S_foliantlaw08_BodyLong (t0 t1 t2 : Value) (w : World) (K : Ending→World→Prop) : Prop:=
 CallX Tryz.prog 8 #[] w (pk K) fun t18 w =>
 DoX Tryz.prog (mUn .not t18) w (pk K) fun t19 w =>
 IfX t19 (K (.returned (.bool false)) w) (DoX Tryz.prog (mB .len #[9] 3 #[false] #[t0]) w (pk K) fun t21 w =>
 DoX Tryz.prog (mBin .gtr 3 t21 (.int .i64 2000)) w (pk K) fun t22 w =>
 GDo t22 false (fun E => E t1 w) w fun t24 w =>
 GDo t22 false (fun E => DoX Tryz.prog (mEq .eql 9 (.tmp 24) (.const (.string ⟨#[]⟩)) t24 (.string ⟨#[]⟩)) w (pk K) E) w fun t25 w =>
 DoX Tryz.prog (mPick t22 (.bool true) t25) w (pk K) fun t26 w =>
 GDo t26 false (fun E => E t1 w) w fun t28 w =>
 GDo t26 false (fun E => DoX Tryz.prog (mB .len #[9] 3 #[false] #[t28]) w (pk K) E) w fun t29 w =>
 GDo t26 false (fun E => DoX Tryz.prog (mBin .gtr 3 t29 (.int .i64 20)) w (pk K) E) w fun t30 w =>
 DoX Tryz.prog (mPick t26 (.bool true) t30) w (pk K) fun t31 w =>
 GDo t31 false (fun E => E t2 w) w fun t33 w =>
 GDo t31 false (fun E => DoX Tryz.prog (mBin .lss 3 t33 (.int .i64 0)) w (pk K) E) w fun t34 w =>
 DoX Tryz.prog (mPick t31 (.bool true) t34) w (pk K) fun t35 w =>
 GDo t35 false (fun E => E t2 w) w fun t37 w =>
 GDo t35 false (fun E => DoX Tryz.prog (mBin .gtr 3 t37 (.int .i64 5000)) w (pk K) E) w fun t38 w =>
 DoX Tryz.prog (mPick t35 (.bool true) t38) w (pk K) fun t39 w =>
 IfX t39 (K (.returned (.bool true)) w) (LoopX [(.int .i64 0)] w (fun vs1 w N1 => ∀ _ : Sg,S_foliantlaw08_BodyLong_0 t0 t1 t2 (vs1.getD 0 undef) w N1 K)))
theorem S_foliantlaw08_BodyLong_eq (t0 t1 t2 : Value) (w : World) (K : Ending→World→Prop) : wpX Tryz.prog 139 [] [(6,[7])] none (bodyOf Tryz.f6) (topQ Tryz.prog [.tmp 6] K) (startX [t0,t1,t2]) [] w = S_foliantlaw08_BodyLong t0 t1 t2 w K:=by kernel_rfl
theorem S_foliantlaw08_BodyLong_ok {t0 t1 t2 : Value} {w : World} {K : Ending→World→Prop} (h : S_foliantlaw08_BodyLong t0 t1 t2 w K) : Calls Tryz.prog 6 #[t0,t1,t2] w K:=
 calls_of_wpX Tryz.func6 rfl rfl rfl rfl (Eq.mpr (S_foliantlaw08_BodyLong_eq t0 t1 t2 w K) h)
end Go.Proofs.YtkejpieaafeblaaGreatDoor
namespace Go.Proofs.YtkejpieaafeblaaGreatDoor
set_option maxRecDepth 20000
open Eng Go.RowKit
theorem c_bmustI {w : World} {PK : List PanicEntry→World→Prop} {K : Value→World→Prop} {S : Nat→Prop} {w0 : World} {L : List Ent} {i : It} {vk vc : Value} {e : Int} (hk : vk.oneCell' = true) (hc : vc.oneCell' = true) (ho : OwnS S w0 w L) (kr : e = 0→∀ w',OwnS S w0 w' L→K (itV i vk vc) w') (kp : e≠0→∀ w',OwnS S w0 w' L→PK [upE e] w') : CallX Tryz.prog 42 #[itV i vk vc,.int .i64 e] w PK K:=by
 refine⟨S_body_must_foliant_api_Item_ok ?_⟩
 unfold S_body_must_foliant_api_Item
 refine o_itb i hk hc ho fun b w1 ho => ?_
 refine o_ita ho fun b2 w2 ho => ?_
 simp only [rs]
 refine c_bneed (fun h => ?_) fun h => kp (of_decide_eq_false h) _ ho.tail.tail
 rw [it_v ho 1 rfl]
 refine it_put 0 hk hc ho rfl fun w3 ho => ?_
 exact ret_v1 (rv_cell (ho.agg 0 rfl aggIt)) (kr (of_decide_eq_true h) _ ho.tail.tail)
end Go.Proofs.YtkejpieaafeblaaGreatDoor
namespace Go.Proofs.YtkejpieaafeblaaGreatDoor
set_option maxRecDepth 20000
open Eng Go.RowKit
abbrev bsE (b : Nat) (s : List UInt8) : Ent:=.cells b [.string ⟨s.toArray⟩] 9
theorem btext1_plain : plainB Tryz.prog 41 = true:=by kernel_rfl
theorem run_obKK {vk vc : Value} (hk : vk.oneCell' = true) (hc : vc.oneCell' = true) (o : Ob) (W : World) : (mBuild 25 #[(0,.int .i64 7),(4,vk),(5,vc)]).run Tryz.prog W = .ok (.value (obV (.mk 7 0 0 [] o.keys o.kids) vk vc)) W:=by
 cases vk<;>first | (cases hk;done) | skip
 all_goals cases vc<;>first | (cases hc;done) | kernel_rfl
theorem o_strb3 {S : Nat→Prop} {w0 w : World} {L : List Ent} {PK : List PanicEntry→World→Prop} {K : Value→World→Prop} (s t u : List UInt8) (ho : OwnS S w0 w L) (k : ∀ b w',OwnS S w0 w' (.cells b (strsV [s,t,u]) 9 :: L)→K (.slice (some ⟨b,0,none⟩) 3 3) w') :
  DoX Tryz.prog (mBuildS 22 3 #[(0,.string ⟨s.toArray⟩),(1,.string ⟨t.toArray⟩),(2,.string ⟨u.toArray⟩)]) w PK K:=
 o_new (fun b => .slice (some ⟨b,0,none⟩) 3 3) (strsV [s,t,u]) 9 (fun _ => by kernel_rfl) ho k
theorem pNum_ok {n : Int} (h0 : 0≤n) (h1 : n≤2147483647) : Pl.pInt n = (Lib.itoa n,0):=by
 unfold Pl.pInt
 rw [if_pos (by omega)]
def Bd.rest (i : It) : List UInt8:=if i.obj.k = 9 then Bd.streamW++Bd.nl++i.obj.s++Bd.nl++Bd.endstream++Bd.nl else []
def Bd.textO (i : It) (o : Ob) : List UInt8 × Int:=if (Wr.text o).2≠0 then ([],(Wr.text o).2) else (Bd.headT i++(Wr.text o).1++Bd.nl++Bd.rest i++Bd.endobj++Bd.nl,0)
theorem Bd.text_eq (i : It) : Bd.text i = if Bd.check i≠0 then ([],Bd.check i) else if i.obj.k = 9 then (if (Bd.dictOf i.obj).2≠0 then ([],(Bd.dictOf i.obj).2) else Bd.textO i (Bd.dictOf i.obj).1) else Bd.textO i i.obj:=by
 unfold Bd.text Bd.textO Bd.rest
 by_cases h : i.obj.k = 9
 ·simp only [h,if_true,List.append_assoc]
 ·simp only [h,if_false,List.append_nil]
theorem Bd.dict_wt (o : Ob) : (Ob.mk 7 0 0 [] o.keys o.kids).wt≤o.wt:=by
 have e1:=Vl.wt_eq o
 have e2 : (Ob.mk 7 0 0 [] o.keys o.kids).wt = 6 + 0 + Pl.tot o.keys + Ob.wts o.kids:=Vl.wt_eq _
 omega
theorem Bd.int_wt (n : Int) : (Ob.mk 2 n 0 [] [] []).wt = 6:=by
 have e3 : (Ob.mk 2 n 0 [] [] []).wt = 6 + 0 + Pl.tot [] + Ob.wts []:=Vl.wt_eq _
 have e5 : Pl.tot [] = 0:=rfl
 have e6 : Ob.wts [] = 0:=by simp [Ob.wts]
 omega
theorem Bd.dictOf_wt (o : Ob) : (Bd.dictOf o).1.wt≤o.wt + 100:=by
 have h:=Vl.set_wt (.mk 7 0 0 [] o.keys o.kids) Vl.lenK (.mk 2 o.s.length 0 [] [] [])
 have h1:=Bd.dict_wt o
 have h2:=Bd.int_wt o.s.length
 have e4 : Vl.lenK.length = 6:=rfl
 unfold Bd.dictOf
 omega
theorem btext_ret (i : It) {vk vc : Value} (M : Mem) (w : World) (ht : Tb w) (hw : i.obj.wt≤50000000) (hM : M.has w) (hv : OV M.A M.w (obV i.obj vk vc) i.obj) :
  Ret Tryz.prog 15 #[itV i vk vc] w (fun r w' => r = txtV (Bd.text i)∧Below w.heap.size w w'):=by
 refine ret_of fun K hK => S_body_Text_ok ?_
 unfold S_body_Text
 refine o_itb i hv.oneK hv.oneC (OwnS.memS hM) fun b1 w1 ho => ?_
 refine o_new (fun b => .pointer (some ⟨b,0,none⟩)) [.string ⟨#[]⟩] 9 (fun _ => by kernel_rfl) ho fun b2 w2 ho => ?_
 refine o_new (fun b => .pointer (some ⟨b,0,none⟩)) [.int .i64 0] 30 (fun _ => by kernel_rfl) ho fun b3 w3 ho => ?_
 have ho : OwnS M.A w w3 ([errE b3 0,bsE b2 [],itE b1 i vk vc]++[.mem M]):=ho
 have ho:=ho.perm List.perm_append_comm
 have ho : OwnS M.A w w3 [.mem M,errE b3 0,bsE b2 [],itE b1 i vk vc]:=ho
 rw [m_func]
 refine⟨_,rfl,?_⟩
 have tb : ∀ {W : World} {L : List Ent} {N : Mem} (j : Nat),OwnS M.A w W L→L[j]? = some (.mem N)→M.le N→Tb W:=fun j ho hj hle => ht.mono (ho.toGives j hj hle hM).below
 have fail : ∀ {W : World} {L : List Ent} {x e : Int} {s : List UInt8} {N : Mem},OwnS M.A w W (L++([.mem N,errE b3 x,bsE b2 s,itE b1 i vk vc]++[]))→M.le N→e≠0→Bd.text i = ([],e) →
   S_body_Text_p0 { target:=.fn (.func 41) #[.pointer (some ⟨b3,0,none⟩),.pointer (some ⟨b2,0,none⟩)],args:=#[]++#[] } (.pointer (some ⟨b2,0,none⟩)) (.pointer (some ⟨b3,0,none⟩)) K [upE e] W:=by
  intro W L x e s N ho hle h0 hh
  have ho:=ho.front
  show pd Tryz.prog _ K _ [upE e] W
  unfold pd
  refine leave_fn (by simp) btext1_plain (S_body_Text_fn1_dok (t0:=.pointer (some ⟨b3,0,none⟩)) (t1:=.pointer (some ⟨b2,0,none⟩)) ?_)
  simp only [S_body_Text_fn1,recV,recM,upE]
  refine c_bcaughtE (e:=e) ho 1 rfl fun w5 ho => ?_
  have ho : OwnS M.A w w5 (.mem N :: errE b3 e :: bsE b2 s :: itE b1 i vk vc :: (L++[])):=ho
  unfold S_body_Text_fn1_r
  rw [l_cell nErr5 (ho.cell 1 rfl 0 rfl)]
  simp only [rs,decide_eq_true (show e≠0 from h0),i_t]
  refine o_store 2 ho rfl (by kernel_rfl) rfl (by simp) fun w6 ho => ?_
  refine ret_v2 (rv_cell (AtV.cell nStr5 (ho.cell 2 rfl 0 rfl))) (rv_cell (AtV.cell nErr5 (ho.cell 1 rfl 0 rfl))) (hK _ _ ⟨?_,(ho.toGives 0 rfl hle hM).below⟩)
  rw [hh];rfl
 have htx:=Bd.text_eq i
 refine quietC (fun W => OwnS M.A w W [.mem M,errE b3 0,bsE b2 [],itE b1 i vk vc]) ho.drew ?_
 have hld : ∀ W,OwnS M.A w W [.mem M,errE b3 0,bsE b2 [],itE b1 i vk vc]→(mLoad 27 (.pointer (some ⟨b1,0,none⟩))).run Tryz.prog W = .ok (.value (itV i vk vc)) W:=
  fun W h => run_it fun j u hj => by rw [Nat.zero_add];exact cells_cell (T:=27) (h.at_ 3 rfl) hj
 refine q_at _ hld (q_at _ hld (q_call (.int .i64 (Bd.check i)) (fun W h => (bCheck_ret i W (by omega) (OV.inw (h.hasM 0 rfl) hv)).mono fun v w' r => ⟨r.1,h.grow r.2⟩) ?_))
 clear ho
 intro w4 ho
 have ho : OwnS M.A w w4 [.mem M,errE b3 0,bsE b2 [],itE b1 i vk vc]:=ho
 refine c_bmustI hv.oneK hv.oneC ho (fun hc w5 ho => ?_) fun hc w5 ho => fail (L:=[]) ho M.le_refl hc (by rw [htx,if_pos hc])
 rw [if_neg (by simp [hc])] at htx
 obtain⟨⟨n1,n2⟩,⟨n3,n4⟩,hvc,hk8⟩:=Bd.check_ok hc
 refine o_new (fun b => .pointer (some ⟨b,0,none⟩)) [.pointer none,.slice none 0 0] 78 (fun _ => by kernel_rfl) ho fun b4 w6 ho => ?_
 have hB0 : ∃ v0,OwnS M.A w w6 [Bld b4 v0 [],.mem M,errE b3 0,bsE b2 [],itE b1 i vk vc]:=⟨_,OwnS.closeB (l:=[]) (.inl rfl) roomy_nil (ho.nilRow 5 1).swap⟩
 clear ho
 obtain⟨v0,ho⟩:=hB0
 have ho:=ho.drew
 refine⟨fun W => (itE b1 i vk vc).is W,ho.at_ 4 rfl,?_⟩
 refine hd_pure _ (fun _ => run_fa fo_i0) (hd_do _ (fun W h => run_load_cell nInt5 (cells_cell (T:=27) (cs:=itC i vk vc) (i:=0) h rfl)) ?_)
 refine hd_pure _ (fun _ => run_fa fo_i1) (hd_do _ (fun W h => run_load_cell nInt5 (cells_cell (T:=27) (cs:=itC i vk vc) (i:=1) h rfl)) ?_)
 refine c_below ho (R:=fun v => v = .tuple #[.string ⟨(Pl.pInt i.num).1.toArray⟩,.int .i64 (Pl.pInt i.num).2]) (pint_ret _ _ (tb 1 ho rfl M.le_refl)) ?_
 rintro _ w7 rfl ho
 rw [pNum_ok (by omega) (by omega)]
 refine⟨ho.at_ 4 rfl,?_⟩
 refine hd_pure _ (fun _ => run_ext0) (hd_pure _ (fun _ => run_ext1) ?_)
 refine c_bmustS (fun _ => ⟨ho.at_ 4 rfl,?_⟩) fun h => absurd rfl h
 refine c_below ho (R:=fun v => v = .tuple #[.string ⟨(Pl.pInt i.gen).1.toArray⟩,.int .i64 (Pl.pInt i.gen).2]) (pint_ret _ _ (tb 1 ho rfl M.le_refl)) ?_
 rintro _ w8 rfl ho
 rw [pNum_ok (by omega) (by omega)]
 refine⟨ho.at_ 4 rfl,?_⟩
 refine hd_pure _ (fun _ => run_ext0) (hd_pure _ (fun _ => run_ext1) ?_)
 refine c_bmustS (fun _ => ⟨ho.at_ 4 rfl,?_⟩) fun h => absurd rfl h
 have hl1:=itoa_len i.num (by omega) (by omega)
 have hl2:=itoa_len i.gen (by omega) (by omega)
 refine o_strb3 (Lib.itoa i.num) (Lib.itoa i.gen) Bd.objW ho fun b5 w9 ho => ⟨ho.at_ 5 rfl,?_⟩
 refine c_below ho (R:=fun v => v = .string ⟨(Pl.join [Lib.itoa i.num,Lib.itoa i.gen,Bd.objW]).toArray⟩) (pjoin_ret [Lib.itoa i.num,Lib.itoa i.gen,Bd.objW] _ _ (ho.sl 0 rfl 1 3 3 rfl) (by
  have e3 : Bd.objW.length = 3:=rfl
  simp only [Pl.tot,List.map_cons,List.map_nil,List.sum_cons,List.sum_nil,e3];omega)) ?_
 rintro _ w10 rfl ho
 have hj:=Bd.head_join (i:=i) (by omega) (by omega)
 have hjl : (Pl.join [Lib.itoa i.num,Lib.itoa i.gen,Bd.objW]).length≤60:=by
  have e3 : Bd.objW.length = 3:=rfl
  rw [Bd.join_head (by omega) (by omega)]
  simp only [List.length_append,List.length_cons,List.length_nil,e3];omega
 have hhl : (Bd.headT i).length≤61:=by
  rw [← hj]
  have e3 : Bd.nl.length = 1:=rfl
  simp only [List.length_append,e3];omega
 refine⟨ho.at_ 5 rfl,?_⟩
 refine hd_pure _ (fun _ => run_s_add (b:=[10]) (by simp only [List.length_cons,List.length_nil];omega)) ?_
 rw [show Pl.join [Lib.itoa i.num,Lib.itoa i.gen,Bd.objW]++[10] = Bd.headT i from hj]
 refine c_turn 1 ho rfl (writeString_ret (ho.at_ 1 rfl) (by simp only [List.length_nil];omega)) ?_
 rintro _ _ w11 ⟨_,v1,rfl⟩ ho
 have ho : OwnS M.A w w11 [Bld b4 v1 (Bd.headT i),.mem M,errE b3 0,bsE b2 [],itE b1 i vk vc]:=ho.tail
 refine⟨ho.at_ 4 rfl,?_⟩
 rw [fa_i2,it_obj ho 4 rfl]
 refine o_oba ho fun b6 w12 ho => ?_
 refine ob_put 0 hv.oneK hv.oneC ho rfl fun w13 ho => ?_
 have ho : OwnS M.A w w13 [obE b6 i.obj vk vc,Bld b4 v1 (Bd.headT i),.mem M,errE b3 0,bsE b2 [],itE b1 i vk vc]:=ho
 refine join fun J hJ => ?_
 have hos:=Vl.wt_eq i.obj
 have fin : ∀ {W : World} {o : Ob} {yk yc : Value} {N : Mem},OwnS M.A w W [obE b6 o yk yc,Bld b4 v1 (Bd.headT i),.mem N,errE b3 0,bsE b2 [],itE b1 i vk vc]→M.le N→OV N.A N.w (obV o yk yc) o→o.wt≤100000000→Bd.text i = Bd.textO i o→J [] W:=by
  intro W o yk yc N ho hle hov hwo hR
  refine hJ _ _ fun _ => ?_
  unfold S_body_Text_0
  rw [ob_v ho 0 rfl]
  refine c_below ho (R:=fun v => v = txtV (Wr.text o)) (wtext7_ret o _ W (tb 2 ho rfl hle) (OV.inw (ho.hasM 2 rfl) hov) hwo) ?_
  rintro _ w14 rfl ho
  have hwl:=Wr.text_len o
  unfold Bd.textO at hR
  simp only [txtV,ex]
  refine c_bmustS (fun he => ?_) fun he => fail (L:=[_,_]) ho hle he (by rw [hR,if_pos he])
  rw [if_neg (by simp [he])] at hR
  generalize (Wr.text o).1 = t at *
  have e1 : ∀ {PK : List PanicEntry→World→Prop} {K : Value→World→Prop} {T : TypeId} {W : World},DoX Tryz.prog (mBin .add T (.string ⟨t.toArray⟩) (.string ⟨#[10]⟩)) W PK K = K (.string ⟨(t++Bd.nl).toArray⟩) W:=s_add (b:=Bd.nl) (by show t.length + 1≤_;omega)
  rw [e1]
  have hnl : Bd.nl.length = 1:=rfl
  refine c_turn 1 ho rfl (writeString_ret (ho.at_ 1 rfl) (by simp only [List.length_append,hnl];omega)) ?_
  rintro _ _ w15 ⟨_,v2,rfl⟩ ho
  refine join fun J6 hJ6 => ?_
  have fin2 : ∀ {W : World} {v3 : Value},OwnS M.A w W [obE b6 o yk yc,Bld b4 v3 (Bd.headT i++(t++Bd.nl)++Bd.rest i),.mem N,errE b3 0,bsE b2 [],itE b1 i vk vc]→J6 [] W:=by
   intro W v3 ho
   refine hJ6 _ _ fun _ => ?_
   unfold S_body_Text_1
   have hrl : (Bd.rest i).length≤i.obj.s.length + 40:=by
    have a1 : Bd.streamW.length = 6:=rfl
    have a2 : Bd.endstream.length = 9:=rfl
    unfold Bd.rest
    split
    ·simp only [List.length_append,hnl,a1,a2];omega
    ·simp
   refine c_turn 1 ho rfl (writeString_ret (s:=Bd.endobj++Bd.nl) (ho.at_ 1 rfl) (by
    have a3 : Bd.endobj.length = 6:=rfl
    simp only [List.length_append,hnl,a3];omega)) ?_
   rintro _ _ w16 ⟨_,v4,rfl⟩ ho
   refine c_turn 1 ho rfl (bldString_ret (ho.at_ 1 rfl)) ?_
   rintro _ _ w17 ⟨rfl,rfl⟩ ho
   refine o_store 4 ho rfl (by kernel_rfl) rfl (by simp) fun w18 ho => ?_
   refine o_store 3 ho rfl (by kernel_rfl) rfl (by simp) fun w19 ho => ?_
   refine leave_fn (by simp) btext1_plain (S_body_Text_fn1_dok (t0:=.pointer (some ⟨b3,0,none⟩)) (t1:=.pointer (some ⟨b2,0,none⟩)) ?_)
   simp only [S_body_Text_fn1,recV,recM]
   refine c_bcaughtN ?_
   unfold S_body_Text_fn1_r
   rw [l_cell nErr5 (ho.cell 3 rfl 0 rfl)]
   simp only [rs,show decide ((0 : Int)≠0) = false by decide,i_f]
   refine ret_v2 (rv_cell (AtV.cell nStr5 (ho.cell 4 rfl 0 rfl))) (rv_cell (AtV.cell nErr5 (ho.cell 3 rfl 0 rfl))) (hK _ _ ⟨?_,(ho.toGives 2 rfl hle hM).below⟩)
   rw [hR]
   show _ = Value.tuple #[.string ⟨(Bd.headT i++t++Bd.nl++Bd.rest i++Bd.endobj++Bd.nl).toArray⟩,.int .i64 0]
   simp only [List.append_assoc]
  rw [fa_i2,fa_o0,it_k ho 5 rfl]
  by_cases h9 : i.obj.k = 9
  case neg =>
   simp only [rs,decide_eq_false h9,i_f]
   refine⟨rfl,fin2 (v3:=v2) ?_⟩
   rw [Bd.rest,if_neg h9,List.append_nil]
   exact ho
  simp only [rs,decide_eq_true h9,i_t]
  rw [fa_i2,fa_o3]
  refine do_eq (run_load_cell nStr5 (ho.cell 5 rfl 5 rfl)) |>.mpr ?_
  have e2 : ∀ {PK : List PanicEntry→World→Prop} {K : Value→World→Prop} {T : TypeId} {W : World},DoX Tryz.prog (mBin .add T (.string ⟨#[115,116,114,101,97,109,10]⟩) (.string ⟨i.obj.s.toArray⟩)) W PK K = K (.string ⟨(Bd.streamW++Bd.nl++i.obj.s).toArray⟩) W:=s_add (a:=Bd.streamW++Bd.nl) (by show 7 + i.obj.s.length≤_;omega)
  have e3 : ∀ {PK : List PanicEntry→World→Prop} {K : Value→World→Prop} {T : TypeId} {W : World},DoX Tryz.prog (mBin .add T (.string ⟨(Bd.streamW++Bd.nl++i.obj.s).toArray⟩) (.string ⟨#[10,101,110,100,115,116,114,101,97,109,10]⟩)) W PK K = K (.string ⟨(Bd.streamW++Bd.nl++i.obj.s++(Bd.nl++Bd.endstream++Bd.nl)).toArray⟩) W:=s_add (b:=Bd.nl++Bd.endstream++Bd.nl) (by
   have a1 : Bd.streamW.length = 6:=rfl
   have a2 : Bd.endstream.length = 9:=rfl
   simp only [List.length_append,hnl,a1,a2];omega)
  rw [e2,e3]
  refine c_turn 1 ho rfl (writeString_ret (ho.at_ 1 rfl) (by
   have a1 : Bd.streamW.length = 6:=rfl
   have a2 : Bd.endstream.length = 9:=rfl
   simp only [List.length_append,hnl,a1,a2];omega)) ?_
  rintro _ _ w16 ⟨_,v3,rfl⟩ ho
  refine⟨rfl,fin2 (v3:=v3) ?_⟩
  rw [Bd.rest,if_pos h9]
  simpa only [List.append_assoc,List.set_cons_zero,List.set_cons_succ] using ho
 rw [fa_o0,ob_k ho 0 rfl]
 by_cases h9 : i.obj.k = 9
 case neg =>
  rw [if_neg h9] at htx
  simp only [rs,decide_eq_false h9,i_f]
  exact⟨rfl,fin ho M.le_refl hv (by omega) htx⟩
 rw [if_pos h9] at htx
 simp only [rs,decide_eq_true h9,i_t]
 have ho:=ho.drew
 refine⟨fun W => (obE b6 i.obj vk vc).is W,ho.at_ 0 rfl,?_⟩
 refine hd_pure _ (fun _ => run_fa fo_o4) (hd_do _ (fun W h => run_load_cell nSlS5 (cells_cell (T:=25) (cs:=obC i.obj vk vc) (i:=4) h rfl)) ?_)
 refine hd_pure _ (fun _ => run_fa fo_o5) (hd_do _ (fun W h => run_load_cell nSlOb (cells_cell (T:=25) (cs:=obC i.obj vk vc) (i:=5) h rfl)) ?_)
 refine hd_pure _ (fun _ => run_obKK hv.oneK hv.oneC i.obj _) ?_
 refine hd_pure _ (fun _ => run_fa fo_o3) (hd_do _ (fun W h => run_load_cell nStr5 (cells_cell (T:=25) (cs:=obC i.obj vk vc) (i:=3) h rfl)) ?_)
 refine hd_pure _ (fun _ => run_len Tryz.underlying9) ?_
 refine c_below ho (R:=fun v => v = obV (ob1 2 i.obj.s.length 0 []) nilS nilS) (vint_ret _ _) ?_
 rintro _ w14 rfl ho
 refine⟨ho.at_ 0 rfl,?_⟩
 obtain⟨cs,ha⟩:=hv.slices
 have hdv : OV M.A M.w (obV (.mk 7 0 0 [] i.obj.keys i.obj.kids) vk vc) (.mk 7 0 0 [] i.obj.keys i.obj.kids):=ObAt.ov (o:=.mk 7 0 0 [] i.obj.keys i.obj.kids) (cs:=cs) ⟨ha.keys,ha.kids,ha.all⟩
 have hdw:=Bd.dict_wt i.obj
 have hxw : (ob1 2 i.obj.s.length 0 []).wt = 6:=Bd.int_wt _
 refine c_mem ho 2 rfl (vset_ret (.mk 7 0 0 [] i.obj.keys i.obj.kids) (ob1 2 i.obj.s.length 0 []) _ _ Vl.lenK M w14 (by omega) (by omega) (by decide) (ho.hasM 2 rfl) hdv ob1_ov2) ?_
 rintro _ N w15 hle ⟨y,rfl,hy⟩ ho
 have hy : OV N.A N.w y (Bd.dictOf i.obj).1:=hy
 have hset : Vl.set (.mk 7 0 0 [] i.obj.keys i.obj.kids) Vl.lenK (ob1 2 i.obj.s.length 0 []) = Bd.dictOf i.obj:=rfl
 rw [hset]
 obtain⟨yk,yc,ycs,rfl,hya⟩:=hy.open
 have hdo:=Bd.dictOf_wt i.obj
 generalize hD : Bd.dictOf i.obj = D at *
 refine⟨ho.at_ 0 rfl,?_⟩
 refine hd_pure (obV D.1 yk yc) (fun _ => rfl) (hd_pure (.int .i64 D.2) (fun _ => rfl) ?_)
 refine c_bmustO hya.keys.one hya.kids.one ho (fun he w16 ho => ⟨ho.at_ 0 rfl,?_⟩) fun he w16 ho => fun _ _ _ _ _ _ _ _ _ _ => fail (L:=[_,_]) ho hle he (by rw [htx,if_pos he])
 rw [if_neg (by simp [he])] at htx
 refine ob_put 0 hya.keys.one hya.kids.one ho rfl fun w17 ho => ?_
 exact⟨rfl,fin ho hle hya.ov (by omega) htx⟩
end Go.Proofs.YtkejpieaafeblaaGreatDoor

namespace Go.Proofs.YtkejpieaafeblaaGreatDoor
set_option maxRecDepth 20000
open Eng Go.RowKit
theorem blen1_plain : plainB Tryz.prog 34 = true:=by kernel_rfl
theorem blength_ret (s : List UInt8) (a : Int) (M : Mem) (w : World) (hs : s.length≤20000) (hM : M.has w) : RetM Tryz.prog 11 #[.string ⟨s.toArray⟩,.int .i64 a] M w (fun v N => ∃ u,v = errV u (Bd.length s a).2∧OV N.A N.w u (Bd.length s a).1):=by
 refine retM_of hM fun K hK => S_body_Length_ok ?_
 unfold S_body_Length
 refine o_oba (OwnS.memS hM) fun b4 w1 ho => ?_
 refine o_new (fun b => .pointer (some ⟨b,0,none⟩)) [.int .i64 0] 30 (fun _ => by kernel_rfl) ho fun b5 w3 ho => ?_
 have ho : OwnS M.A w w3 ([errE b5 0,obE b4 ob0 nilS nilS]++[.mem M]):=ho
 have ho:=ho.perm List.perm_append_comm
 have ho : OwnS M.A w w3 [.mem M,errE b5 0,obE b4 ob0 nilS nilS]:=ho
 rw [m_func]
 refine⟨_,rfl,?_⟩
 have fail : ∀ {W : World} {L : List Ent} {x e : Int} {o : Ob} {vk vc : Value} {N : Mem},OwnS M.A w W (L++([.mem N,errE b5 x,obE b4 o vk vc]++[]))→M.le N→e≠0→Bd.length s a = (Vl.ob0,e) →
   S_body_Length_p0 { target:=.fn (.func 34) #[.pointer (some ⟨b5,0,none⟩),.pointer (some ⟨b4,0,none⟩)],args:=#[]++#[] } (.pointer (some ⟨b4,0,none⟩)) (.pointer (some ⟨b5,0,none⟩)) K [upE e] W:=by
  intro W L x e o vk vc N ho hle h0 hh
  have ho:=ho.front
  show pd Tryz.prog _ K _ [upE e] W
  unfold pd
  refine leave_fn (by simp) blen1_plain (S_body_Length_1_dok (t0:=.pointer (some ⟨b5,0,none⟩)) (t1:=.pointer (some ⟨b4,0,none⟩)) ?_)
  simp only [S_body_Length_1,recV,recM,upE]
  refine c_bcaughtE (e:=e) ho 1 rfl fun w5 ho => ?_
  have ho : OwnS M.A w w5 (.mem N :: errE b5 e :: obE b4 o vk vc :: (L++[])):=ho
  unfold S_body_Length_1_r
  rw [l_cell nErr5 (ho.cell 1 rfl 0 rfl)]
  simp only [rs,decide_eq_true (show e≠0 from h0),i_t]
  rw [m_ob0]
  refine ob_put 2 rfl rfl ho rfl fun w6 ho => ?_
  refine ret_v2 (rv_cell (ho.agg 2 rfl aggOb)) (rv_cell (AtV.cell nErr5 (ho.cell 1 rfl 0 rfl))) (hK _ _ N _ 0 ho rfl hle ?_)
  rw [hh]
  exact⟨_,rfl,ob0_ov2⟩
 have hread:=Bd.length.eq_1 s a
 by_cases hr : 0≤a∧a≤s.length
 case neg =>
  have hb : Bd.head s a = ⟨0,0,0,1⟩:=by unfold Bd.head;rw [if_pos (by omega)]
  rw [hb,if_pos (by decide)] at hread
  refine c_bfrom ho (fun h => absurd h hr) fun _ => fail (L:=[]) ho M.le_refl (by decide) hread
 refine c_bfrom ho (fun _ b w4 ho => ?_) fun h => absurd hr h
 have ho : OwnS M.A w w4 [brE b s a,.mem M,errE b5 0,obE b4 ob0 nilS nilS]:=ho
 have hh : Bd.head s a = Bd.headG s a:=by unfold Bd.head;rw [if_neg (by omega)]
 refine c_lend ho 0 rfl (bhead_ret b s a w4 (by omega) (ho.at_ 0 rfl)) ?_ fun e2 w5 hn ho => ?_
 rotate_left
 ·rw [← hh] at hn ⊢
  rw [if_pos hn] at hread
  exact fail (L:=[_]) ho M.le_refl hn hread
 rintro _ _ w5 hz ⟨rfl,rfl⟩ ho
 rw [← hh] at hz ho
 rw [if_neg (by simp [hz])] at hread
 have hhb:=Bd.head_bd hz
 generalize Bd.head s a = hd at *
 have ho : OwnS M.A w w5 [brE b s hd.t,.mem M,errE b5 0,obE b4 ob0 nilS nilS]:=ho
 refine c_lent ho (bobject_ret b s hd.t M w5 (by omega) (ho.pair.at_ 0 rfl)) ?_ fun e2 w8 hn ho => ?_
 rotate_left
 ·rw [if_pos hn] at hread
  exact fail (L:=[_]) ho M.le_refl hn hread
 rintro u N w8 hz2 hle hu ho
 rw [if_neg (by simp [hz2])] at hread
 have hwt : (Ps.object s hd.t).1.wt≤1000000000:=by
  unfold Ps.object at hz2 ⊢
  split at hz2
  ·simp [Ps.bad] at hz2
  ·rename_i hb
   rw [if_neg hb]
   have h1:=Ps.obj_wt s 24 hd.t hz2
   have h2:=Ps.obj_bd hz2
   omega
 generalize Ps.object s hd.t = x at *
 obtain⟨xk,xc,xcs,rfl,hx⟩:=hu.open
 refine o_oba ho fun b7 w9 ho => ?_
 refine ob_put 0 hx.keys.one hx.kids.one ho rfl fun w10 ho => ?_
 have ho : OwnS M.A w w10 [obE b7 x.1 xk xc,brE b s x.2.1,.mem N,errE b5 0,obE b4 ob0 nilS nilS]:=ho
 simp only [rs]
 rw [fa_br1]
 refine do_eq (br_a (ho.at_ 1 rfl)) |>.mpr ?_
 refine c_below ho (R:=fun v => v = tokR (Lx.next s x.2.1)) (next_ret s x.2.1 w10 (by omega)) ?_
 rintro _ w11 rfl ho
 simp only [tokR,ex]
 have hw : Bd.word s x.2.1 Bd.streamW = if (Lx.next s x.2.1).2≠0 then (0,(Lx.next s x.2.1).2) else if (Lx.next s x.2.1).1.k = 0 then (0,4) else if (Lx.next s x.2.1).1.k≠5∨(Lx.next s x.2.1).1.s≠Bd.streamW then (0,3) else ((Lx.next s x.2.1).1.t,0):=rfl
 generalize Lx.next s x.2.1 = t1 at *
 refine o_tok ho fun b8 w12 ho => ?_
 refine tk_put 0 ho rfl fun w13 ho => ?_
 have ho : OwnS M.A w w13 [tokE b8 t1.1,obE b7 x.1 xk xc,brE b s x.2.1,.mem N,errE b5 0,obE b4 ob0 nilS nilS]:=ho
 have fin : ∀ {W : World} {L : List Ent} {N' : Mem} {o : Ob} {yk yc : Value},OwnS M.A w W (L++([.mem N',errE b5 0,obE b4 o yk yc]++[]))→M.le N'→OV N'.A N'.w (obV o yk yc) o→Bd.length s a = (o,0) →
   DoX Tryz.prog (mStore 30 (.pointer (some ⟨b5,0,none⟩)) (.int .i64 0)) W (S_body_Length_p0 { target:=.fn (.func 34) #[.pointer (some ⟨b5,0,none⟩),.pointer (some ⟨b4,0,none⟩)],args:=#[]++#[] } (.pointer (some ⟨b4,0,none⟩)) (.pointer (some ⟨b5,0,none⟩)) K) fun _ w =>
    Leave Tryz.prog [.cell (.pointer (some ⟨b4,0,none⟩)) 25,.cell (.pointer (some ⟨b5,0,none⟩)) 30] K [{ target:=.fn (.func 34) #[.pointer (some ⟨b5,0,none⟩),.pointer (some ⟨b4,0,none⟩)],args:=#[]++#[] }] .returning w:=by
  intro W L N' o yk yc ho hle hov hR
  have ho:=ho.front
  refine o_store 1 ho rfl (by kernel_rfl) rfl (by simp) fun w' ho => ?_
  refine leave_fn (by simp) blen1_plain (S_body_Length_1_dok (t0:=.pointer (some ⟨b5,0,none⟩)) (t1:=.pointer (some ⟨b4,0,none⟩)) ?_)
  simp only [S_body_Length_1,recV,recM]
  refine c_bcaughtN ?_
  unfold S_body_Length_1_r
  rw [l_cell nErr5 (ho.cell 1 rfl 0 rfl)]
  simp only [rs,show decide ((0 : Int)≠0) = false by decide,i_f]
  refine ret_v2 (rv_cell (ho.agg 2 rfl aggOb)) (rv_cell (AtV.cell nErr5 (ho.cell 1 rfl 0 rfl))) (hK _ _ N' _ 0 ho rfl hle ?_)
  rw [hR]
  exact⟨_,rfl,hov⟩
 have none_ : Bd.length s a = (Vl.ob0,0)→CallX Tryz.prog 36 #[] w13 (S_body_Length_p0 { target:=.fn (.func 34) #[.pointer (some ⟨b5,0,none⟩),.pointer (some ⟨b4,0,none⟩)],args:=#[]++#[] } (.pointer (some ⟨b4,0,none⟩)) (.pointer (some ⟨b5,0,none⟩)) K) fun t46 w =>
   DoX Tryz.prog (mStore 25 (.pointer (some ⟨b4,0,none⟩)) t46) w (S_body_Length_p0 { target:=.fn (.func 34) #[.pointer (some ⟨b5,0,none⟩),.pointer (some ⟨b4,0,none⟩)],args:=#[]++#[] } (.pointer (some ⟨b4,0,none⟩)) (.pointer (some ⟨b5,0,none⟩)) K) fun _ w =>
   DoX Tryz.prog (mStore 30 (.pointer (some ⟨b5,0,none⟩)) (.int .i64 0)) w (S_body_Length_p0 { target:=.fn (.func 34) #[.pointer (some ⟨b5,0,none⟩),.pointer (some ⟨b4,0,none⟩)],args:=#[]++#[] } (.pointer (some ⟨b4,0,none⟩)) (.pointer (some ⟨b5,0,none⟩)) K) fun _ w =>
    Leave Tryz.prog [.cell (.pointer (some ⟨b4,0,none⟩)) 25,.cell (.pointer (some ⟨b5,0,none⟩)) 30] K [{ target:=.fn (.func 34) #[.pointer (some ⟨b5,0,none⟩),.pointer (some ⟨b4,0,none⟩)],args:=#[]++#[] }] .returning w:=by
  intro hR
  refine c_below ho (R:=fun v => v = obV Vl.ob0 nilS nilS) (vnull_ret w13) ?_
  rintro _ w14 rfl ho
  refine ob_put 5 rfl rfl ho rfl fun w15 ho => ?_
  exact fin (L:=[_,_,_]) ho hle ob0_ov2 hR
 by_cases hz3 : t1.2 = 0
 case neg =>
  rw [if_pos (.inr (by rw [hw,if_pos hz3];exact hz3))] at hread
  simp only [n_err,decide_eq_true (show t1.2≠0 from hz3),rs,g_un,i_t]
  exact none_ hread
 by_cases h5 : t1.1.k = 5
 case neg =>
  have hb : (Bd.word s x.2.1 Bd.streamW).2≠0:=by
   rw [hw,if_neg (by simp [hz3])]
   by_cases h0 : t1.1.k = 0
   ·rw [if_pos h0];decide
   ·rw [if_neg h0,if_pos (.inl h5)];decide
  rw [if_pos (.inr hb)] at hread
  simp only [n_err,hz3,show decide ((0 : Int)≠0) = false by decide,rs,fa_t0,tk_k ho 0 rfl,decide_eq_true (show t1.1.k≠5 from h5),g_un,i_t]
  exact none_ hread
 by_cases hsw : t1.1.s = Bd.streamW
 case neg =>
  have hsw' : t1.1.s≠[115,116,114,101,97,109]:=hsw
  rw [if_pos (.inr (by rw [hw,if_neg (by simp [hz3]),if_neg (by omega),if_pos (.inr hsw)];decide))] at hread
  simp only [n_err,hz3,h5,show decide ((0 : Int)≠0) = false by decide,show decide ((5 : Int)≠5) = false by decide,rs,fa_t0,tk_k ho 0 rfl,fa_t4',tk_s ho 0 rfl,decide_eq_true hsw',g_un,i_t]
  exact none_ hread
 have hsw' : t1.1.s = [115,116,114,101,97,109]:=hsw
 have hws : (Bd.word s x.2.1 Bd.streamW).2 = 0:=by rw [hw,if_neg (by simp [hz3]),if_neg (by omega),if_neg (by simp [h5,hsw])]
 by_cases h7 : x.1.k = 7
 case neg =>
  rw [if_pos (.inl h7)] at hread
  simp only [n_err,hz3,h5,hsw',show decide ((0 : Int)≠0) = false by decide,show decide ((5 : Int)≠5) = false by decide,rs,fa_t0,tk_k ho 0 rfl,fa_t4',tk_s ho 0 rfl,ne_eq,not_true,decide_false,fa_o0,ob_k ho 1 rfl,h7,not_false_eq_true,decide_true,g_un,i_t]
  exact none_ hread
 rw [if_neg (by simp [h7,hws])] at hread
 simp only [n_err,hz3,h5,hsw',show decide ((0 : Int)≠0) = false by decide,show decide ((5 : Int)≠5) = false by decide,rs,fa_t0,tk_k ho 0 rfl,fa_t4',tk_s ho 0 rfl,ne_eq,not_true,decide_false,fa_o0,ob_k ho 1 rfl,h7,g_un,i_f,ob_v ho 1 rfl]
 refine c_mem ho 3 rfl (vget_ret x.1 _ Vl.lenK N w13 (by omega) (ho.hasM 3 rfl) hx.ov) ?_
 rintro _ N2 w14 hle2 ⟨u,rfl,hu⟩ ho
 obtain⟨yk,yc,ycs,rfl,hy⟩:=hu.open
 simp only [getV,ex]
 refine o_oba ho fun b10 w15 ho => ?_
 refine ob_put 0 hy.keys.one hy.kids.one ho rfl fun w16 ho => ?_
 rw [ob_v ho 0 rfl]
 refine ob_put 6 hy.keys.one hy.kids.one ho rfl fun w17 ho => ?_
 exact fin (L:=[_,_,_,_]) ho (hle.trans hle2) hy.ov hread
end Go.Proofs.YtkejpieaafeblaaGreatDoor
namespace Go.Proofs.YtkejpieaafeblaaGreatDoor
set_option maxRecDepth 20000
open Eng Go.RowKit
namespace Bd
def heldI : It:=⟨4,1,heldO⟩
end Bd
theorem run_notB {P : Program} {W : World} {b : Bool} : (mUn .not (.bool b)).run P W = .ok (.value (.bool (!b))) W:=mv_run (by simp [Op.unary])
theorem heldO_ov {A : Nat→Prop} {w : World} : OV A w (obV Bd.heldO nilS nilS) Bd.heldO:=ob1_ov2 (k:=9) (n:=0) (g:=0) (s:=[97,98])
theorem held_ret (w : World) : Ret Tryz.prog 22 #[] w (fun v w' => v = itV Bd.heldI nilS nilS∧Below w.heap.size w w'):=by
 refine ret_of fun K hK => S_foliantlaw08_Held_ok ?_
 unfold S_foliantlaw08_Held
 refine o_ita (Own.start w) fun b w1 ho => ?_
 have h1 : ∀ {PK : List PanicEntry→World→Prop} {K : Value→World→Prop},DoX Tryz.prog (mBuild 25 #[(0,.int .i64 9),(3,.string ⟨#[97,98]⟩)]) w1 PK K = K (obV Bd.heldO nilS nilS) w1:=do_eq (by kernel_rfl)
 have h2 : ∀ {PK : List PanicEntry→World→Prop} {K : Value→World→Prop},DoX Tryz.prog (mBuild 27 #[(0,.int .i64 4),(1,.int .i64 1),(2,obV Bd.heldO nilS nilS)]) w1 PK K = K (itV Bd.heldI nilS nilS) w1:=do_eq (by kernel_rfl)
 rw [h1,h2]
 refine it_put 0 rfl rfl ho rfl fun w2 ho => ?_
 exact ret_v1 (rv_cell (ho.agg 0 rfl aggIt)) (hK _ _ ⟨rfl,ho.done⟩)
section
variable {w : World} {PK : List PanicEntry→World→Prop} {S : Nat→Prop} {w0 : World} {L : List Ent}
theorem c_bread {s : List UInt8} {a len : Int} {M : Mem} {K : Value→Value→Value→World→Prop} (i : Nat) (ho : OwnS S w0 w L) (hi : L[i]? = some (.mem M)) (hs : s.length≤20000)
  (k : ∀ b vk vc N w',M.le N→OV N.A N.w (obV (Bd.read s a len).1.obj vk vc) (Bd.read s a len).1.obj→OwnS S w0 w' (itE b (Bd.read s a len).1 vk vc :: L.set i (.mem N))→K (.int .i64 (Bd.read s a len).2.1) (.int .i64 (Bd.read s a len).2.2) (.pointer (some ⟨b,0,none⟩)) w') :
  CallX Tryz.prog 9 #[.string ⟨s.toArray⟩,.int .i64 a,.int .i64 len] w PK fun t w => DoX Tryz.prog (mExt t 0) w PK fun t0 w => DoX Tryz.prog (mExt t 1) w PK fun t1 w => DoX Tryz.prog (mExt t 2) w PK fun t2 w =>
   DoX Tryz.prog (mAlloc 27) w PK fun p w => DoX Tryz.prog (mStore 27 p t0) w PK fun _ w => K t1 t2 p w:=by
 refine c_mem ho i hi (bread_ret s a len M w hs (ho.hasM i hi)) ?_
 rintro _ N w1 hle ⟨vk,vc,rfl,hov⟩ ho
 simp only [ex]
 refine o_ita ho fun b w2 ho => ?_
 refine it_put (i':=(Bd.read s a len).1) 0 hov.oneK hov.oneC ho rfl fun w3 ho => ?_
 exact k b vk vc N w3 hle hov ho
theorem c_blength {s : List UInt8} {a : Int} {M : Mem} {K : Value→Value→World→Prop} (i : Nat) (ho : OwnS S w0 w L) (hi : L[i]? = some (.mem M)) (hs : s.length≤20000)
  (k : ∀ b vk vc N w',M.le N→OV N.A N.w (obV (Bd.length s a).1 vk vc) (Bd.length s a).1→OwnS S w0 w' (obE b (Bd.length s a).1 vk vc :: L.set i (.mem N))→K (.int .i64 (Bd.length s a).2) (.pointer (some ⟨b,0,none⟩)) w') :
  CallX Tryz.prog 11 #[.string ⟨s.toArray⟩,.int .i64 a] w PK fun t w => DoX Tryz.prog (mExt t 0) w PK fun t0 w => DoX Tryz.prog (mExt t 1) w PK fun t1 w =>
   DoX Tryz.prog (mAlloc 25) w PK fun p w => DoX Tryz.prog (mStore 25 p t0) w PK fun _ w => K t1 p w:=by
 refine c_mem ho i hi (blength_ret s a M w hs (ho.hasM i hi)) ?_
 rintro _ N w1 hle ⟨u,rfl,hu⟩ ho
 obtain⟨vk,vc,cs,rfl,ha⟩:=hu.open
 simp only [errV,ex]
 refine o_oba ho fun b w2 ho => ?_
 refine ob_put (o':=(Bd.length s a).1) 0 ha.keys.one ha.kids.one ho rfl fun w3 ho => ?_
 exact k b vk vc N w3 hle ha.ov ho
end
end Go.Proofs.YtkejpieaafeblaaGreatDoor
namespace Go.Proofs.YtkejpieaafeblaaGreatDoor
set_option maxRecDepth 20000
open Eng Go.RowKit
theorem lives08_ret (w : World) (ht : Tb w) : Ret Tryz.prog 8 #[] w (fun v w' => v = .bool true∧Below w.heap.size w w'):=by
 refine ret_of fun K hK => S_foliantlaw08_lives_ok ?_
 unfold S_foliantlaw08_lives
 have hM : (Mem.all w).has w:=Mem.all_has w
 have ho : OwnS (Mem.all w).A w w [.mem (Mem.all w)]:=OwnS.memS hM
 have tb : ∀ {W : World} {L : List Ent} {N : Mem} (j : Nat),OwnS (Mem.all w).A w W L→L[j]? = some (.mem N)→(Mem.all w).le N→Tb W:=fun j ho hj hle => ht.mono (ho.toGives j hj hle hM).below
 have m1 : ∀ {PK : List PanicEntry→World→Prop} {K : Value→World→Prop},DoX Tryz.prog (mBuild 25 #[(0,.int .i64 2),(1,.int .i64 7)]) w PK K = K (obV (.mk 2 7 0 [] [] []) nilS nilS) w:=do_eq (by kernel_rfl)
 have m2 : ∀ {PK : List PanicEntry→World→Prop} {K : Value→World→Prop},DoX Tryz.prog (mBuild 27 #[(0,.int .i64 3),(2,obV (.mk 2 7 0 [] [] []) nilS nilS)]) w PK K = K (itV ⟨3,0,.mk 2 7 0 [] [] []⟩ nilS nilS) w:=do_eq (by kernel_rfl)
 rw [m1,m2]
 refine c_below ho (R:=fun v => v = txtV (Bd.text ⟨3,0,.mk 2 7 0 [] [] []⟩)) (btext_ret ⟨3,0,.mk 2 7 0 [] [] []⟩ (Mem.all w) w ht (by decide) hM (ob1_ov2 (k:=2) (n:=7) (g:=0) (s:=[]))) ?_
 rintro _ w1 rfl ho
 rw [Bd.smp1]
 simp only [txtV,ex]
 refine c_below ho (R:=fun v => v = itV Bd.heldI nilS nilS) (held_ret w1) ?_
 rintro _ w2 rfl ho
 refine c_below ho (R:=fun v => v = txtV (Bd.text Bd.heldI)) (btext_ret Bd.heldI (Mem.all w) w2 (tb 0 ho rfl (Mem.all w).le_refl) (by decide) (ho.hasM 0 rfl) heldO_ov) ?_
 rintro _ w3 rfl ho
 rw [show Bd.text Bd.heldI = (Bd.sF,0) from Bd.smp2]
 simp only [txtV,ex]
 refine c_bread (s:=Bd.sA) 0 ho rfl (by decide) fun b5 ak ac N1 w4 h1 ov1 ho => ?_
 have ho : OwnS (Mem.all w).A w w4 [itE b5 (Bd.read Bd.sA 0 (-1)).1 ak ac,.mem N1]:=ho
 refine c_bread (s:=Bd.sB) 1 ho rfl (by decide) fun b8 _ _ N2 w5 h2 _ ho => ?_
 have ho : OwnS (Mem.all w).A w w5 [itE b5 (Bd.read Bd.sA 0 (-1)).1 ak ac,.mem N2]:=ho.tail
 refine c_bread (s:=Bd.sC) 1 ho rfl (by decide) fun b11 _ _ N3 w6 h3 _ ho => ?_
 have ho : OwnS (Mem.all w).A w w6 [itE b5 (Bd.read Bd.sA 0 (-1)).1 ak ac,.mem N3]:=ho.tail
 refine c_bread (s:=Bd.sD) 1 ho rfl (by decide) fun b14 _ _ N4 w7 h4 _ ho => ?_
 have ho : OwnS (Mem.all w).A w w7 [itE b5 (Bd.read Bd.sA 0 (-1)).1 ak ac,.mem N4]:=ho.tail
 refine c_bread (s:=Bd.sE) 1 ho rfl (by decide) fun b17 _ _ N5 w8 h5 _ ho => ?_
 have ho : OwnS (Mem.all w).A w w8 [itE b5 (Bd.read Bd.sA 0 (-1)).1 ak ac,.mem N5]:=ho.tail
 refine c_bread (s:=Bd.sF) 1 ho rfl (by decide) fun b20 fk fc N6 w9 h6 ov6 ho => ?_
 have ho : OwnS (Mem.all w).A w w9 [itE b20 (Bd.read Bd.sF 0 2).1 fk fc,itE b5 (Bd.read Bd.sA 0 (-1)).1 ak ac,.mem N6]:=ho
 refine c_bread (s:=Bd.sG) 2 ho rfl (by decide) fun b23 gk gc N7 w10 h7 ov7 ho => ?_
 have ho : OwnS (Mem.all w).A w w10 [itE b23 (Bd.read Bd.sG 0 3).1 gk gc,itE b20 (Bd.read Bd.sF 0 2).1 fk fc,itE b5 (Bd.read Bd.sA 0 (-1)).1 ak ac,.mem N7]:=ho
 refine c_bread (s:=Bd.sG) 3 ho rfl (by decide) fun b26 _ _ N8 w11 h8 _ ho => ?_
 have ho : OwnS (Mem.all w).A w w11 [itE b23 (Bd.read Bd.sG 0 3).1 gk gc,itE b20 (Bd.read Bd.sF 0 2).1 fk fc,itE b5 (Bd.read Bd.sA 0 (-1)).1 ak ac,.mem N8]:=ho.tail
 refine c_bread (s:=Bd.sH) 3 ho rfl (by decide) fun b29 _ _ N9 w12 h9 _ ho => ?_
 have ho : OwnS (Mem.all w).A w w12 [itE b23 (Bd.read Bd.sG 0 3).1 gk gc,itE b20 (Bd.read Bd.sF 0 2).1 fk fc,itE b5 (Bd.read Bd.sA 0 (-1)).1 ak ac,.mem N9]:=ho.tail
 refine c_bread (s:=Bd.sI) 3 ho rfl (by decide) fun b32 _ _ N10 w13 h10 _ ho => ?_
 have ho : OwnS (Mem.all w).A w w13 [itE b23 (Bd.read Bd.sG 0 3).1 gk gc,itE b20 (Bd.read Bd.sF 0 2).1 fk fc,itE b5 (Bd.read Bd.sA 0 (-1)).1 ak ac,.mem N10]:=ho.tail
 refine c_bread (s:=Bd.sJ) 3 ho rfl (by decide) fun b35 _ _ N11 w14 h11 _ ho => ?_
 have ho : OwnS (Mem.all w).A w w14 [itE b23 (Bd.read Bd.sG 0 3).1 gk gc,itE b20 (Bd.read Bd.sF 0 2).1 fk fc,itE b5 (Bd.read Bd.sA 0 (-1)).1 ak ac,.mem N11]:=ho.tail
 refine c_blength (s:=Bd.sK) 3 ho rfl (by decide) fun b38 kk kc N12 w15 h12 ov12 ho => ?_
 have ho : OwnS (Mem.all w).A w w15 [obE b38 (Bd.length Bd.sK 0).1 kk kc,itE b23 (Bd.read Bd.sG 0 3).1 gk gc,itE b20 (Bd.read Bd.sF 0 2).1 fk fc,itE b5 (Bd.read Bd.sA 0 (-1)).1 ak ac,.mem N12]:=ho
 refine c_blength (s:=Bd.sL) 4 ho rfl (by decide) fun b40 lk lc N13 w16 h13 ov13 ho => ?_
 have ho : OwnS (Mem.all w).A w w16 [obE b40 (Bd.length Bd.sL 0).1 lk lc,obE b38 (Bd.length Bd.sK 0).1 kk kc,itE b23 (Bd.read Bd.sG 0 3).1 gk gc,itE b20 (Bd.read Bd.sF 0 2).1 fk fc,itE b5 (Bd.read Bd.sA 0 (-1)).1 ak ac,.mem N13]:=ho
 have hle6:=((((h1.trans h2).trans h3).trans h4).trans h5).trans h6
 have hle67:=((((((h7.trans h8).trans h9).trans h10).trans h11).trans h12).trans h13)
 have hle7:=(((((h8.trans h9).trans h10).trans h11).trans h12).trans h13)
 have hle:=hle6.trans hle67
 refine c_below ho (R:=fun v => v = hdV (Bd.head Bd.sM 0)) (bHead_ret Bd.sM 0 w16 (by decide)) ?_
 rintro _ w17 rfl ho
 rw [Bd.smp16]
 simp only [hdV,ex]
 refine c_below ho (R:=fun v => v = hdV (Bd.head [] 1)) (bHead_ret [] 1 w17 (by decide)) ?_
 rintro _ w18 rfl ho
 have hX:=Bd.smp17
 simp only [hdV,ex,hX]
 have hA:=Bd.smp3
 have hB:=Bd.smp4
 have hC:=Bd.smp5
 have hD:=Bd.smp6
 have hE:=Bd.smp7
 have hF:=Bd.smp8
 have hG:=Bd.smp9
 have hG2:=Bd.smp10
 have hH:=Bd.smp11
 have hI:=Bd.smp12
 have hJ:=Bd.smp13
 have hKK:=Bd.smp14
 have hL:=Bd.smp15
 have hF1 : (Bd.read Bd.sF 0 2).1 = Bd.heldI:=by
  obtain⟨f1,f2,f3,_⟩:=hF
  rw [Ob.eqb_iff] at f3
  generalize (Bd.read Bd.sF 0 2).1 = x at *
  obtain⟨a,b,c⟩:=x
  simp only at f1 f2 f3
  rw [f1,f2,f3];rfl
 rw [hF1] at ho ov6
 have hF2:=hF.2.2.2
 rw [hB,hC,hD,hE,hG2,hH,hI,hJ,hF2]
 have hA2:=hA.2.2
 rw [hA2]
 clear hF hF1 hF2 hB hC hD hE hG2 hH hI hJ
 generalize Bd.read Bd.sA 0 (-1) = rA at *
 generalize Bd.read Bd.sG 0 3 = rG at *
 generalize Bd.length Bd.sK 0 = rK at *
 generalize Bd.length Bd.sL 0 = rL at *
 have e1 : ∀ {PK : List PanicEntry→World→Prop} {K : Value→World→Prop} {W : World} {xo yo : Operand},DoX Tryz.prog (mEq .neq 9 xo yo (.string ⟨Bd.sN.toArray⟩) (.string ⟨#[51,32,48,32,111,98,106,10,55,10,101,110,100,111,98,106,10]⟩)) W PK K = K (.bool false) W:=by
  intro PK K W xo yo
  have:=n_str (P:=Tryz.prog) (w:=W) (PK:=PK) (K:=K) (T:=9) (xo:=xo) (yo:=yo) (a:=Bd.sN) (b:=Bd.sN)
  rw [decide_eq_false (fun h => h rfl)] at this
  exact this
 have e2 : ∀ {PK : List PanicEntry→World→Prop} {K : Value→World→Prop} {W : World} {xo yo : Operand},DoX Tryz.prog (mEq .neq 9 xo yo (.string ⟨Bd.sF.toArray⟩) (.string ⟨#[52,32,49,32,111,98,106,10,60,60,47,76,101,110,103,116,104,32,50,62,62,10,115,116,114,101,97,109,10,97,98,10,101,110,100,115,116,114,101,97,109,10,101,110,100,111,98,106,10]⟩)) W PK K = K (.bool false) W:=by
  intro PK K W xo yo
  have:=n_str (P:=Tryz.prog) (w:=W) (PK:=PK) (K:=K) (T:=9) (xo:=xo) (yo:=yo) (a:=Bd.sF) (b:=Bd.sF)
  rw [decide_eq_false (fun h => h rfl)] at this
  exact this
 have ln : ∀ {PK : List PanicEntry→World→Prop} {K : Value→World→Prop},DoX Tryz.prog (mLoad 2 (.pointer (some ⟨b5,0 + 2 + 1,none⟩))) w18 PK K = K (.int .i64 rA.1.obj.n) w18:=do_eq (run_load_cell nI65 (ho.cell 4 rfl 3 rfl))
 simp only [rs,e1,e2,fa_i0,fa_i2,fa_o1,it_num ho 4 rfl,ln,hA.1,hA.2.1,ne_eq,not_true_eq_false,decide_false]
 refine quietC (fun W => OwnS (Mem.all w).A w W [obE b40 rL.1 lk lc,obE b38 rK.1 kk kc,itE b23 rG.1 gk gc,itE b20 Bd.heldI fk fc,itE b5 rA.1 ak ac,.mem N13]) ho.drew ?_
 refine q_do _ (fun _ => run_fa fo_i0) (q_at (.int .i64 4) (fun W h => run_load_cell nInt5 (h.cell 3 rfl 0 rfl)) (q_ne ?_))
 simp only [ne_eq,not_true_eq_false,decide_false,gq]
 refine q_do _ (fun _ => run_fa fo_i1) (q_at (.int .i64 1) (fun W h => run_load_cell nInt5 (h.cell 3 rfl 1 rfl)) (q_ne ?_))
 simp only [ne_eq,not_true_eq_false,decide_false]
 refine q_pf ?_
 simp only [gq]
 refine q_do _ (fun _ => run_fa fo_i2) (q_at (obV Bd.heldO fk fc) (fun W h => run_load_at (AtV.agg aggOb rfl fun j u hj => by
  have:=(Ent.cells b20 (itC Bd.heldI fk fc) 27)
  exact cells_cell (T:=27) (cs:=itC Bd.heldI fk fc) (h.at_ 3 rfl) (by rw [show (0 + 2 + j) = j + 2 by omega];exact hj))) ?_)
 refine q_call (itV Bd.heldI nilS nilS) (fun W h => (held_ret W).mono fun v w' r => ⟨r.1,h.grow r.2⟩) ?_
 refine q_do (obV Bd.heldO nilS nilS) (fun _ => by kernel_rfl) ?_
 refine q_call (.bool (Ob.eqb Bd.heldO Bd.heldO)) (fun W h => (rsame5_ret _ Bd.heldO Bd.heldO _ _ W (Nat.le_refl _) (by decide) (OV.inw (h.hasM 5 rfl) (OV.le hle67 ov6)) heldO_ov).mono fun v w' r => ⟨r.1,h.grow r.2⟩) ?_
 rw [Ob.eqb_iff Bd.heldO Bd.heldO |>.2 rfl]
 refine q_do _ (fun _ => run_notB) (q_pf ?_)
 simp only [gq,Bool.not_true]
 refine q_slen Tryz.underlying9 (q_sub ?_)
 rw [show IntKind.wrap .i64 ((Bd.sF.length : Int) - 1) = 48 by decide]
 refine q_ne ?_
 simp only [ne_eq,not_true_eq_false,decide_false]
 refine q_pf ?_
 simp only [gq]
 refine q_ne ?_
 simp only [ne_eq,not_true_eq_false,decide_false]
 refine q_pf ?_
 simp only [gq]
 refine q_do _ (fun _ => run_fa fo_i2) (q_do _ (fun _ => run_fa fo_o3) (q_at (.string ⟨rG.1.obj.s.toArray⟩) (fun W h => run_load_cell nStr5 (h.cell 2 rfl 5 rfl)) ?_))
 rw [hG.1]
 refine q_sne (a:=[97,98,99]) (b:=[97,98,99]) ?_
 simp only [ne_eq,not_true_eq_false,decide_false]
 refine q_pf ?_
 simp only [gq]
 obtain⟨gcs,hgs⟩:=ov7.slices
 have hks:=hgs.keys.le hle7
 rw [hG.2.1] at hks
 refine q_do _ (fun _ => run_fa fo_i2) (q_do _ (fun _ => run_fa fo_o4) (q_at gk (fun W h => run_load_cell nSlS5 (h.cell 2 rfl 6 rfl)) ?_))
 refine q_at (.int .i64 0) (fun W h => run_sl_len Tryz.underlying22 (hks.now (h.hasM 5 rfl))) (q_ne ?_)
 simp only [ne_eq,not_true_eq_false,decide_false]
 refine q_pf ?_
 simp only [gq]
 rw [hG.2.2]
 refine q_ne ?_
 simp only [ne_eq,not_true_eq_false,decide_false]
 refine q_pf ?_
 simp only [gq]
 refine q_ne ?_
 simp only [ne_eq,not_true_eq_false,decide_false]
 refine q_pf ?_
 simp only [gq]
 refine q_ne ?_
 simp only [ne_eq,not_true_eq_false,decide_false]
 refine q_pf ?_
 simp only [gq]
 refine q_ne ?_
 simp only [ne_eq,not_true_eq_false,decide_false]
 refine q_pf ?_
 simp only [gq]
 refine q_ne ?_
 simp only [ne_eq,not_true_eq_false,decide_false]
 refine q_pf ?_
 clear ho ln
 intro w19 ho
 have ho : OwnS (Mem.all w).A w w19 [obE b40 rL.1 lk lc,obE b38 rK.1 kk kc,itE b23 rG.1 gk gc,itE b20 Bd.heldI fk fc,itE b5 rA.1 ak ac,.mem N13]:=ho
 simp only [rs,fa_o0,fa_o1,ob_k ho 1 rfl,ob_n ho 1 rfl,ob_k ho 0 rfl,hKK.1,hKK.2.1,hKK.2.2,hL.1,hL.2,decide_true]
 refine c_below ho (R:=fun v => v = itV Bd.heldI nilS nilS) (held_ret w19) ?_
 rintro _ w20 rfl ho
 refine c_below ho (R:=fun v => v = .int .i64 (Bd.check Bd.heldI)) (bCheck_ret Bd.heldI w20 (by decide) heldO_ov) ?_
 rintro _ w21 rfl ho
 have m3 : ∀ {PK : List PanicEntry→World→Prop} {K : Value→World→Prop},DoX Tryz.prog (mBuild 25 #[(0,.int .i64 8),(1,.int .i64 1)]) w21 PK K = K (obV (.mk 8 1 0 [] [] []) nilS nilS) w21:=do_eq (by kernel_rfl)
 have m4 : ∀ {PK : List PanicEntry→World→Prop} {K : Value→World→Prop},DoX Tryz.prog (mBuild 27 #[(0,.int .i64 1),(2,obV (.mk 8 1 0 [] [] []) nilS nilS)]) w21 PK K = K (itV ⟨1,0,.mk 8 1 0 [] [] []⟩ nilS nilS) w21:=do_eq (by kernel_rfl)
 rw [show Bd.check Bd.heldI = 0 from Bd.smp18]
 simp only [rs,decide_true,m3,m4]
 refine c_below ho (R:=fun v => v = .int .i64 (Bd.check ⟨1,0,.mk 8 1 0 [] [] []⟩)) (bCheck_ret ⟨1,0,.mk 8 1 0 [] [] []⟩ w21 (by decide) (ob1_ov2 (k:=8) (n:=1) (g:=0) (s:=[]))) ?_
 rintro _ w22 rfl ho
 rw [Bd.smp19]
 simp only [rs,decide_true]
 exact hK _ _ ⟨rfl,(ho.toGives 5 rfl hle hM).below⟩
end Go.Proofs.YtkejpieaafeblaaGreatDoor


namespace Go.Proofs.YtkejpieaafeblaaGreatDoor
open Go
namespace Bd
open Lx (next Tok Single skip)
open Ps (At Toks)
def low (key : List UInt8) : Bool:=key.all fun c => decide (97≤c.toNat) && decide (c.toNat≤122)
def longT (key data : List UInt8) : List UInt8:=[55,32,48,32,111,98,106,60,60,47]++key++[32,49,47,76,101,110,103,116,104,32,57,32,48,32,82,62,62,115,116,114,101,97,109,10]++data++[10,101,110,100,115,116,114,101,97,109,10,101,110,100,111,98,106]
theorem low_reg : ∀ c : UInt8,(decide (97≤c.toNat) && decide (c.toNat≤122)) = true→Oc.regular c = true∧Pl.nmc c = [c]∧c≠0:=by
 intro c h
 have : ∀ n : Fin 256,(decide (97≤n.val) && decide (n.val≤122)) = true→Oc.regular (UInt8.ofNat n.val) = true∧Pl.nmc (UInt8.ofNat n.val) = [UInt8.ofNat n.val]∧UInt8.ofNat n.val≠0:=by decide +kernel
 have h2:=this ⟨c.toNat,c.toNat_lt⟩ h
 simpa only [UInt8.ofNat_toNat] using h2
theorem low_flat : ∀ {key : List UInt8},low key = true→key.flatMap Pl.nmc = key∧(0 : UInt8) ∉ key
 | [],_ => ⟨rfl,by simp⟩
 | c :: t,h => by
  have h' : (decide (97≤c.toNat) && decide (c.toNat≤122)) = true∧low t = true:=by
   unfold low at h ⊢
   simpa [List.all_cons] using h
  obtain⟨h1,h2,h3⟩:=low_reg c h'.1
  obtain⟨i1,i2⟩:=low_flat h'.2
  refine⟨by rw [List.flatMap_cons,h2,i1];rfl,?_⟩
  simp only [List.mem_cons,not_or]
  exact⟨fun e => h3 e.symm,i2⟩
theorem low_name {key : List UInt8} (h : low key = true) (hl : key.length≤20) : Vl.name key = true∧(Pl.pName key).1 = 47 :: key:=by
 obtain⟨h1,h2⟩:=low_flat h
 constructor
 ·unfold Vl.name
  simp only [Bool.and_eq_true,decide_eq_true_eq]
  exact⟨by omega,h2⟩
 ·unfold Pl.pName
  rw [if_neg (by omega),if_neg (by simpa using h2)]
  show [47]++key.flatMap Pl.nmc = _
  rw [h1];rfl
theorem low_last {key : List UInt8} (h : low key = true) (hne : key≠[]) : Oc.regular (Pl.lastC (47 :: key)) = true:=by
 unfold Pl.lastC
 have hm : key.getLast hne ∈ key:=List.getLast_mem hne
 have : (47 :: key).getLast? = some (key.getLast hne):=by
  rw [List.getLast?_cons,List.getLast?_eq_some_getLast hne];rfl
 rw [this]
 unfold low at h
 exact (low_reg _ (List.all_eq_true.1 h _ hm)).1
def longP (key : List UInt8) : List (List UInt8):=[[48],objW,[60,60],47 :: key,[49],47 :: Vl.lenK,[57],[48],[82],[62,62],streamW]
theorem long_join {key : List UInt8} (h : low key = true) (hne : key≠[]) : Lx.joinR 32 ([55] :: longP key) = [55,32,48,32,111,98,106,60,60,47]++key++[32,49,47,76,101,110,103,116,104,32,57,32,48,32,82,62,62,115,116,114,101,97,109]:=by
 have hr:=low_last h hne
 have g1 : Lx.gap (Pl.lastC (47 :: key)) [49] = [32]:=by
  unfold Lx.gap
  rw [hr]
  have : Oc.regular 49 = true:=by decide
  simp [this]
 have e : ∀ (l : UInt8) (p : List UInt8) (ps : List (List UInt8)),Lx.joinR l (p :: ps) = Lx.gap l p++(p++Lx.joinR (Pl.lastC p) ps):=fun _ _ _ => rfl
 have g0 : Lx.gap (Pl.lastC [60,60]) (47 :: key) = []:=by
  unfold Lx.gap
  have : Oc.regular 47 = false:=by decide
  simp [this]
 have t1 : Lx.joinR (Pl.lastC [49]) [47 :: Vl.lenK,[57],[48],[82],[62,62],streamW] = [47,76,101,110,103,116,104,32,57,32,48,32,82,62,62,115,116,114,101,97,109]:=by decide +kernel
 have t0 : ∀ r : List UInt8,Lx.gap 32 [55]++([55]++(Lx.gap (Pl.lastC [55]) [48]++([48]++(Lx.gap (Pl.lastC [48]) objW++(objW++(Lx.gap (Pl.lastC objW) [60,60]++([60,60]++r))))))) = [55,32,48,32,111,98,106,60,60]++r:=by
  intro r
  have a1 : Lx.gap 32 [55] = []:=by decide +kernel
  have a2 : Lx.gap (Pl.lastC [55]) [48] = [32]:=by decide +kernel
  have a3 : Lx.gap (Pl.lastC [48]) objW = [32]:=by decide +kernel
  have a4 : Lx.gap (Pl.lastC objW) [60,60] = []:=by decide +kernel
  rw [a1,a2,a3,a4];rfl
 unfold longP
 rw [e,e,e,e,e,e,g0,g1,t1,t0]
 simp
theorem long_toks {key data : List UInt8} (h : low key = true) (hne : key≠[]) (hl : key.length≤20) : Toks (longT key data) 0 ([55] :: longP key) ((key.length : Int) + 33):=by
 obtain⟨n1,n2⟩:=low_name h hl
 have hS : longT key data = []++(Lx.joinR 32 ([55] :: longP key)++([10]++(data++[10,101,110,100,115,116,114,101,97,109,10,101,110,100,111,98,106]))):=by
  rw [long_join h hne];simp [longT]
 have hsing : ∀ q ∈ ([55] :: longP key),∃ x,Single q x:=by
  intro q hq
  simp only [longP,List.mem_cons,List.not_mem_nil,or_false] at hq
  rcases hq with rfl | rfl | rfl | rfl | rfl | rfl | rfl | rfl | rfl | rfl | rfl | rfl
  ·exact⟨⟨1,0,1,7,[]⟩,by unfold Single;decide +kernel⟩
  ·exact⟨⟨1,0,1,0,[]⟩,by unfold Single;decide +kernel⟩
  ·exact⟨_,tk_obj⟩
  ·exact⟨_,Ps.tk_c⟩
  ·rw [← n2];exact⟨_,Ps.tk_name n1⟩
  ·exact⟨⟨1,0,1,1,[]⟩,by unfold Single;decide +kernel⟩
  ·exact⟨⟨4,0,7,0,Vl.lenK⟩,by unfold Single;decide +kernel⟩
  ·exact⟨⟨1,0,1,9,[]⟩,by unfold Single;decide +kernel⟩
  ·exact⟨⟨1,0,1,0,[]⟩,by unfold Single;decide +kernel⟩
  ·exact⟨_,Ps.tk_R⟩
  ·exact⟨_,Ps.tk_d⟩
  ·exact⟨_,tk_stream⟩
 have g : Lx.gap 32 [55] = []:=by decide +kernel
 have:=Ps.joins_toks (longP key) [55] [] 32 ([10]++(data++[10,101,110,100,115,116,114,101,97,109,10,101,110,100,111,98,106])) 0 hsing (by
  have e : (([55] :: longP key).getLast (by simp)) = streamW:=by simp [longP]
  rw [e]
  exact Ps.ends_stop (stops_nl _)) (by omega) (by
  rw [← hS,g]
  show skip (longT key data) 0 = 0
  unfold longT
  rfl)
 rw [← hS] at this
 have e : (([] : List UInt8).length : Int) + (Lx.joinR 32 ([55] :: longP key)).length = (key.length : Int) + 33:=by
  rw [long_join h hne];simp;omega
 rw [e] at this
 exact this
def longO (key : List UInt8) : Ob:=.mk 7 0 0 [] [Vl.lenK,key] [.mk 8 9 0 [] [] [],.mk 2 1 0 [] [] []]
theorem low_len {key : List UInt8} (h : low key = true) (hne : key≠[]) : key≠Vl.lenK∧Vl.less key Vl.lenK = false:=by
 cases key with
 | nil => exact absurd rfl hne
 | cons c t =>
  have h' : (decide (97≤c.toNat) && decide (c.toNat≤122)) = true:=by
   unfold low at h
   rw [List.all_cons,Bool.and_eq_true] at h
   exact h.1
  simp only [Bool.and_eq_true,decide_eq_true_eq] at h'
  constructor
  ·intro e
   unfold Vl.lenK at e
   injection e with e1 _
   rw [e1] at h'
   exact absurd h'.1 (by decide)
  ·unfold Vl.lenK
   show Op.bytesLess (c :: t) (76 :: [101,110,103,116,104]) = false
   unfold Op.bytesLess
   have h1 : ¬ c < 76:=by
    intro hc
    have : c.toNat < 76:=hc
    omega
   have h2 : (76 : UInt8) < c:=by
    show (76 : UInt8).toNat < c.toNat
    have : (76 : UInt8).toNat = 76:=rfl
    omega
   have h3 : c≠76:=fun e => by rw [e] at h';exact absurd h'.1 (by decide)
   simp [h1,h2,h3]
theorem long_join2 {key : List UInt8} (h : low key = true) (hne : key≠[]) : Ps.join (Ps.join Ps.dict0 key (.mk 2 1 0 [] [] [])) Vl.lenK (.mk 8 9 0 [] [] []) = longO key:=by
 obtain⟨h1,h2⟩:=low_len h hne
 have e1 : Ps.join Ps.dict0 key (.mk 2 1 0 [] [] []) = .mk 7 0 0 [] [key] [.mk 2 1 0 [] [] []]:=by
  unfold Ps.join
  rw [if_pos (by simp [Ob.k])]
  rfl
 rw [e1]
 unfold Ps.join
 rw [if_pos (by simp [Ob.k])]
 unfold Vl.put
 have e2 : Vl.place [key] Vl.lenK = 0:=by
  unfold Vl.place
  rw [List.takeWhile_cons,h2];rfl
 have e3 : Vl.hit [key] Vl.lenK = false:=by
  unfold Vl.hit
  rw [e2]
  simp [h1]
 simp only [Ob.keys,Ob.kids,Ob.k,Ob.n,Ob.g,Ob.s,e2,e3]
 rfl
theorem long_front {key data : List UInt8} (h : low key = true) (hne : key≠[]) (hl : key.length≤20) : ∃ c3 : Int,∃ c11 : Int,0≤c3∧c3≤(longT key data).length∧head (longT key data) 0 = ⟨7,0,c3,0⟩∧Ps.object (longT key data) c3 = (longO key,c11,0)∧word (longT key data) c11 streamW = ((key.length : Int) + 33,0):=by
 obtain⟨c1,a1,c2,a2,c3,a3,c4,a4,c5,a5,c6,a6,c7,a7,c8,a8,c9,a9,c10,a10,c11,a11,c12,a12,he⟩:=long_toks (data:=data) h hne hl
 have he : c12 = (key.length : Int) + 33:=he
 subst he
 generalize longT key data = S at *
 obtain⟨n1,n2⟩:=low_name h hl
 have b1:=a1.bd
 have b3:=a3.bd
 have b4:=a4.bd
 have s7 : Single [55] ⟨1,0,1,7,[]⟩:=by unfold Single;decide +kernel
 have s0 : Single [48] ⟨1,0,1,0,[]⟩:=by unfold Single;decide +kernel
 have s1 : Single [49] ⟨1,0,1,1,[]⟩:=by unfold Single;decide +kernel
 have sL : Single (47 :: Vl.lenK) ⟨4,0,7,0,Vl.lenK⟩:=by unfold Single;decide +kernel
 have s9 : Single [57] ⟨1,0,1,9,[]⟩:=by unfold Single;decide +kernel
 have sk : Single (47 :: key) ⟨4,0,(Pl.pName key).1.length,0,key⟩:=by rw [← n2];exact Ps.tk_name n1
 refine⟨c3,c11,by omega,by omega,?_,?_,?_⟩
 ·unfold head
  rw [if_neg (by omega)]
  unfold headG
  rw [at_num a1 s7 (by omega) (by omega)]
  simp only
  rw [at_num a2 s0 (by omega) (by omega)]
  simp only
  rw [Bd.at_word a3 tk_obj rfl rfl]
  simp
 ·unfold Ps.object
  rw [if_neg (by omega),Ps.obj]
  obtain⟨x4,e4⟩:=a4.next Ps.tk_c
  rw [e4]
  simp only
  rw [if_neg (by simp),if_neg (by simp),if_neg (by simp [Ps.begins]),if_neg (by simp),if_neg (by simp)]
  -- the first pair
  obtain⟨x5,e5⟩:=a5.next sk
  have v1 : Ps.obj S 23 c5 = (.mk 2 1 0 [] [] [],c6,0):=by
   have:=Ps.obj_back S _ (.mk 2 1 0 [] [] []) 2 (Nat.le_refl _) (by omega) (by decide) (by decide) c5 c6 (by rw [show Wr.parts (.mk 2 1 0 [] [] []) = [[49]] by decide +kernel];exact⟨c6,a6,rfl⟩) fun _ => Ps.noRef_head a7 (Ps.notI_of sL (by decide))
   exact this
  obtain⟨x7,e7⟩:=a7.next sL
  have v2 : Ps.obj S 23 c7 = (.mk 8 9 0 [] [] [],c10,0):=by
   have:=Ps.obj_back S _ (.mk 8 9 0 [] [] []) 2 (Nat.le_refl _) (by omega) (by decide) (by decide) c7 c10 (by rw [show Wr.parts (.mk 8 9 0 [] [] []) = [[57],[48],[82]] by decide +kernel];exact⟨c8,a8,c9,a9,c10,a10,rfl⟩) fun hk => absurd hk (by decide)
   exact this
  obtain⟨x11,e11⟩:=a11.next Ps.tk_d
  have hSl : 3≤S.length:=by have:=a12.bd;omega
  obtain⟨m,hm⟩ : ∃ m,S.length + 1 = m + 3:=⟨S.length - 2,by omega⟩
  rw [hm,Ps.dict,e5]
  simp only
  rw [if_neg (by simp),if_neg (by simp),if_neg (by simp),if_neg (by simp),if_neg (by simp),if_neg (by simp),v1]
  simp only
  rw [if_neg (by simp),Ps.dict,e7]
  simp only
  rw [if_neg (by simp),if_neg (by simp),if_neg (by simp),if_neg (by simp),if_neg (by
   have:=(low_len h hne).1
   simp only [List.nil_append,List.mem_singleton]
   exact fun e => this e.symm),if_neg (by simp),v2]
  simp only
  rw [if_neg (by simp),Ps.dict,e11]
  simp only
  rw [if_neg (by simp),if_pos (by simp),long_join2 h hne]
 ·exact Bd.at_word a12 tk_stream rfl rfl
theorem long_strm {key data : List UInt8} (h : low key = true) (hne : key≠[]) : strm (longO key) data = .mk 9 0 0 data [key] [.mk 2 1 0 [] [] []]:=by
 have h1:=(low_len h hne).1
 unfold strm Vl.without longO
 simp only [Ob.keys,Ob.kids,Ob.k,Ob.n,Ob.g,Ob.s,Vl.dropK,if_true,if_neg h1]
theorem long_own (key : List UInt8) : own (longO key) = (0,10):=by
 unfold own
 have : Vl.get (longO key) Vl.lenK = some (.mk 8 9 0 [] [] []):=by
  unfold Vl.get
  rw [if_pos (by rfl)]
  have e : (longO key).keys.idxOf Vl.lenK = 0:=by
   show List.idxOf Vl.lenK [Vl.lenK,key] = 0
   rw [List.idxOf_cons_self]
  rw [e,if_pos (by show 0 < 2;omega)]
  rfl
 rw [this]
 rfl
theorem long_line {key data : List UInt8} : line (longT key data) (key.length + 33) = (key.length + 34,0)∧(longT key data).length = key.length + 34 + data.length + 17∧(longT key data).drop (key.length + 34) = data++[10,101,110,100,115,116,114,101,97,109,10,101,110,100,111,98,106]:=by
 have e1 : longT key data = ([55,32,48,32,111,98,106,60,60,47]++key++[32,49,47,76,101,110,103,116,104,32,57,32,48,32,82,62,62,115,116,114,101,97,109])++(10 :: (data++[10,101,110,100,115,116,114,101,97,109,10,101,110,100,111,98,106])):=by simp [longT]
 have p1 : ([55,32,48,32,111,98,106,60,60,47]++key++[32,49,47,76,101,110,103,116,104,32,57,32,48,32,82,62,62,115,116,114,101,97,109]).length = key.length + 33:=by simp
 have d1 : (longT key data).drop (key.length + 33) = 10 :: (data++[10,101,110,100,115,116,114,101,97,109,10,101,110,100,111,98,106]):=by
  rw [e1,← p1,List.drop_left]
 refine⟨?_,?_,?_⟩
 ·unfold line
  rw [d1]
  simp only
  rw [if_neg (by simp),if_true]
 ·rw [e1,List.length_append,p1];simp;omega
 ·rw [show key.length + 34 = (key.length + 33) + 1 by omega,← List.drop_drop,d1];rfl
theorem long_any {key data : List UInt8} (h : low key = true) (hne : key≠[]) (hl : key.length≤20) {n : Int} (h0 : 0≤n) (hn : n≤5000) : (read (longT key data) 0 n).2.2≠0∨((read (longT key data) 0 n).1.obj.s.length : Int) = n:=by
 obtain⟨c3,c11,b1,b2,f1,f2,f3⟩:=long_front (data:=data) h hne hl
 obtain⟨g1,g2,g3⟩:=@long_line key data
 by_cases he : (read (longT key data) 0 n).2.2 = 0
 case neg => exact .inl he
 refine .inr ?_
 unfold read at he ⊢
 rw [if_neg (by omega),f1] at he ⊢
 simp only at he ⊢
 rw [f2] at he ⊢
 simp only at he ⊢
 rw [if_neg (by simp),if_neg (by simp),if_neg (by show ¬ (7 : Int) = 8;omega)] at he ⊢
 unfold body at he ⊢
 rw [f3] at he ⊢
 simp only at he ⊢
 rw [if_pos ⟨trivial,rfl⟩] at he ⊢
 have e : ((key.length : Int) + 33).toNat = key.length + 33:=by omega
 rw [e] at he ⊢
 have hs : (stream (longT key data) (key.length + 33) n (longO key)).2.2 = 0→((stream (longT key data) (key.length + 33) n (longO key)).1.s.length : Int) = n:=by
  intro hz
  unfold stream at hz ⊢
  rw [g1] at hz ⊢
  unfold size at hz ⊢
  rw [if_pos h0] at hz ⊢
  simp only at hz ⊢
  rw [if_neg (by simp),if_neg (by simp),if_neg (by omega)] at hz ⊢
  split at hz
  ·cases hz
  rename_i h4
  rw [if_neg h4]
  split at hz
  ·rename_i h5;exact absurd hz h5
  rename_i h5
  rw [if_neg h5]
  show ((((longT key data).drop (key.length + 34)).take n.toNat).length : Int) = n
  rw [List.length_take,List.length_drop]
  omega
 split at he
 ·rename_i h5;exact absurd he h5
 rename_i h5
 rw [if_neg h5]
 have hs:=hs (Classical.not_not.1 h5)
 unfold tail at he ⊢
 split at he
 ·rename_i h6;exact absurd he h6
 rename_i h6
 rw [if_neg h6]
 exact hs
theorem long_read {key data : List UInt8} (h : low key = true) (hne : key≠[]) (hl : key.length≤20) (hd : data.length≤2000) :
  read (longT key data) 0 data.length = ((⟨7,0,.mk 9 0 0 data [key] [.mk 2 1 0 [] [] []]⟩ : It),((longT key data).length : Int),(0 : Int))∧read (longT key data) 0 (-1) = bad 10:=by
 obtain⟨c3,c11,b1,b2,f1,f2,f3⟩:=long_front (data:=data) h hne hl
 obtain⟨g1,g2,g3⟩:=@long_line key data
 have e : ((key.length : Int) + 33).toNat = key.length + 33:=by omega
 constructor
 ·unfold read
  rw [if_neg (by omega),f1]
  simp only
  rw [f2]
  simp only
  rw [if_neg (by simp),if_neg (by simp),if_neg (by show ¬ (7 : Int) = 8;omega)]
  unfold body
  rw [f3]
  simp only
  rw [if_pos ⟨trivial,rfl⟩]
  rw [e]
  obtain⟨P,hP⟩ : ∃ P,P = [55,32,48,32,111,98,106,60,60,47]++key++[32,49,47,76,101,110,103,116,104,32,57,32,48,32,82,62,62,115,116,114,101,97,109,10]:=⟨_,rfl⟩
  have hPl : P.length = key.length + 34:=by rw [hP];simp
  have hsz : size (longO key) data.length = ((data.length : Int),(0 : Int)):=by unfold size;rw [if_pos (by omega)]
  have s1 : longT key data = (P++data)++(nl++(endstream++(nl++(endobj++[])))):=by rw [hP];simp [longT,nl,endstream,endobj]
  have s2 : longT key data = (P++data++nl)++(endstream++(nl++(endobj++[]))):=by rw [s1];simp
  have s3 : longT key data = (P++data++nl++endstream)++(nl++(endobj++[])):=by rw [s1];simp
  have s4 : longT key data = (P++data++nl++endstream++nl)++(endobj++[]):=by rw [s1];simp
  have q1 : (P++data).length = key.length + 34 + data.length:=by rw [List.length_append,hPl]
  have q2 : (P++data++nl).length = key.length + 34 + data.length + 1:=by rw [List.length_append,q1];rfl
  have q3 : (P++data++nl++endstream).length = key.length + 34 + data.length + 10:=by rw [List.length_append,q2];rfl
  have q4 : (P++data++nl++endstream++nl).length = key.length + 34 + data.length + 11:=by rw [List.length_append,q3];rfl
  have w1 : word (longT key data) ((key.length + 34 : Nat) + (data.length : Int)) endstream = (((key.length + 34 + data.length + 10 : Nat) : Int),(0 : Int)):=by
   have k1:=Tl.skip_ws (pre:=P++data) (ws:=nl) (t:=endstream++(nl++(endobj++[]))) (by decide) (Tl.clean_single tk_endstream)
   rw [← s1,q1] at k1
   have k2:=Ps.at_of tk_endstream (P++data++nl) (nl++(endobj++[])) (Ps.ends_stop (stops_nl _)) (a:=key.length + 34 + data.length) (by rw [← s2,g2];omega) (by rw [← s2,k1,q2];rfl)
   rw [← s2,q2] at k2
   have:=Bd.at_word k2 tk_endstream rfl rfl
   rw [show ((key.length + 34 : Nat) : Int) + (data.length : Int) = ((key.length + 34 + data.length : Nat) : Int) by omega,this]
   simp only [endstream,List.length_cons,List.length_nil,Prod.mk.injEq,and_true]
   omega
  have w2 : word (longT key data) ((key.length + 34 + data.length + 10 : Nat)) endobj = (((longT key data).length : Int),(0 : Int)):=by
   have k1:=Tl.skip_ws (pre:=P++data++nl++endstream) (ws:=nl) (t:=endobj++[]) (by decide) (Tl.clean_single tk_endobj)
   rw [← s3,q3] at k1
   have k2:=Ps.at_of tk_endobj (P++data++nl++endstream++nl) [] (Ps.ends_stop Ps.stops_nil) (a:=key.length + 34 + data.length + 10) (by rw [← s4,g2];omega) (by rw [← s4,k1,q4];rfl)
   rw [← s4,q4] at k2
   have:=Bd.at_word k2 tk_endobj rfl rfl
   rw [this]
   simp only [endobj,List.length_cons,List.length_nil,Prod.mk.injEq,and_true]
   rw [g2];omega
  have hst : stream (longT key data) (key.length + 33) data.length (longO key) = ((.mk 9 0 0 data [key] [.mk 2 1 0 [] [] []] : Ob),(((key.length + 34 + data.length + 10 : Nat) : Int)),(0 : Int)):=by
   unfold stream
   rw [g1,hsz]
   simp only
   rw [if_neg (by simp),if_neg (by simp),if_neg (by omega),if_neg (by omega),w1]
   simp only
   rw [if_neg (by simp),long_strm h hne,g3,Int.toNat_natCast,List.take_left]
  rw [hst]
  simp only
  rw [if_neg (by simp)]
  unfold tail
  rw [w2]
  simp only
  rw [if_neg (by simp)]
 ·unfold read
  rw [if_neg (by omega),f1]
  simp only
  rw [f2]
  simp only
  rw [if_neg (by simp),if_neg (by simp),if_neg (by show ¬ (7 : Int) = 8;omega)]
  unfold body
  rw [f3]
  simp only
  rw [if_pos ⟨trivial,rfl⟩]
  rw [e]
  have hst : stream (longT key data) (key.length + 33) (-1) (longO key) = (Vl.ob0,0,10):=by
   have hsz : size (longO key) (-1) = (0,10):=by unfold size;rw [if_neg (by omega),long_own]
   unfold stream
   rw [g1,hsz]
   simp only
   rw [if_neg (by simp),if_pos (by simp)]
  rw [hst]
  simp
end Bd
end Go.Proofs.YtkejpieaafeblaaGreatDoor
namespace Go.Proofs.YtkejpieaafeblaaGreatDoor
set_option maxRecDepth 20000
open Eng Go.RowKit
theorem Bd.low_take {key : List UInt8} (h : ∀ i,(hi : i < key.length)→97≤key[i].toNat∧key[i].toNat≤122) : Bd.low key = true:=by
 unfold Bd.low
 rw [List.all_eq_true]
 intro c hc
 obtain⟨i,hi,rfl⟩:=List.getElem_of_mem hc
 have:=h i hi
 simp [this.1,this.2]
theorem bodyLong_ret (data key : List UInt8) (n : Int) (W : World) (ht : Tb W) :
  Ret Tryz.prog 6 #[.string ⟨data.toArray⟩,.string ⟨key.toArray⟩,.int .i64 n] W (fun v w' => v = .bool true∧Below W.heap.size W w'):=by
 refine ret_of fun K hK => S_foliantlaw08_BodyLong_ok ?_
 unfold S_foliantlaw08_BodyLong
 have hM : (Mem.all W).has W:=Mem.all_has W
 have ho : OwnS (Mem.all W).A W W [.mem (Mem.all W)]:=OwnS.memS hM
 have tb : ∀ {w : World} {L : List Ent} {N : Mem} (j : Nat),OwnS (Mem.all W).A W w L→L[j]? = some (.mem N)→(Mem.all W).le N→Tb w:=fun j ho hj hle => ht.mono (ho.toGives j hj hle hM).below
 refine c_below ho (R:=fun v => v = .bool true) (lives08_ret W ht) ?_
 rintro _ w2 rfl ho
 have out : ∀ {w : World},OwnS (Mem.all W).A W w [.mem (Mem.all W)]→K (.returned (.bool true)) w:=fun ho => hK _ _ ⟨rfl,(ho.toGives 0 rfl (Mem.all W).le_refl hM).below⟩
 simp only [rs,Bool.not_true,s_len Tryz.underlying9]
 by_cases h1 : (2000 : Int) < (data.length : Int)
 ·simp only [decide_eq_true h1,rs,g_un]
  exact out ho
 have e0 : ∀ {PK : List PanicEntry→World→Prop} {K : Value→World→Prop} {xo yo : Operand} {w : World},DoX Tryz.prog (mEq .eql 9 xo yo (.string ⟨key.toArray⟩) (.string ⟨#[]⟩)) w PK K = K (.bool (decide (key = []))) w:=e_str (b:=[])
 simp only [decide_eq_false h1,rs,e0]
 by_cases h2 : key = []
 ·simp only [decide_eq_true h2,rs,g_un]
  exact out ho
 simp only [decide_eq_false h2,rs,s_len Tryz.underlying9]
 by_cases h3 : (20 : Int) < (key.length : Int)
 ·simp only [decide_eq_true h3,rs,g_un]
  exact out ho
 simp only [decide_eq_false h3,rs]
 by_cases h4 : n < 0
 ·simp only [decide_eq_true h4,rs,g_un]
  exact out ho
 simp only [decide_eq_false h4,rs]
 by_cases h5 : 5000 < n
 ·simp only [decide_eq_true h5,rs,g_un]
  exact out ho
 simp only [decide_eq_false h5,rs]
 refine loop (fun vs' w => ∃ i : Nat,vs' = [.int .i64 i]∧i≤key.length∧(∀ j,(hj : j < key.length)→j < i→97≤key[j].toNat∧key[j].toNat≤122)∧OwnS (Mem.all W).A W w [.mem (Mem.all W)])
  (fun vs' _ => key.length - n0 vs') ⟨0,rfl,by omega,fun j hj h => by omega,ho⟩ ?_
 clear ho
 rintro vs' w3 ⟨i,rfl,hi,hlo,ho⟩ _
 simp only [S_foliantlaw08_BodyLong_0,gd]
 rw [s_len Tryz.underlying9]
 simp only [rs]
 by_cases hlt : (i : Int) < (key.length : Int)
 ·have hi' : i < key.length:=by omega
  have hg : key[((i : Int)).toNat]? = some key[i]:=by rw [Int.toNat_natCast];exact List.getElem?_eq_getElem hi'
  simp only [decide_eq_true hlt,i_t,s_ix Tryz.underlying9 (show (0 : Int)≤(i : Int) by omega) hg,rs]
  by_cases q1 : ((key[i].toNat : Nat) : Int) < 97
  ·simp only [decide_eq_true q1,rs,g_un]
   exact out ho
  simp only [decide_eq_false q1,rs,s_ix Tryz.underlying9 (show (0 : Int)≤(i : Int) by omega) hg]
  by_cases q2 : (122 : Int) < ((key[i].toNat : Nat) : Int)
  ·simp only [decide_eq_true q2,rs,g_un]
   exact out ho
  simp only [decide_eq_false q2,rs]
  rw [wrap64_id (by omega) (by omega)]
  refine nextX ⟨i + 1,rfl,by omega,fun j hj hji => ?_,ho⟩ (by show key.length - Int.toNat ((i : Int) + 1) < key.length - Int.toNat (i : Int);omega)
  by_cases hji' : j < i
  ·exact hlo j hj hji'
  ·obtain rfl : j = i:=by omega
   omega
 simp only [decide_eq_false hlt,i_f]
 have hlow : Bd.low key = true:=Bd.low_take fun j hj => hlo j hj (by omega)
 have hlen : (Bd.longT key data).length = key.length + 34 + data.length + 17:=(Bd.long_line (key:=key) (data:=data)).2.1
 obtain⟨r1,r2⟩:=Bd.long_read hlow h2 (by omega) (show data.length≤2000 by omega)
 have r3:=Bd.long_any (data:=data) hlow h2 (by omega) (n:=n) (by omega) (by omega)
 rw [s_add (a:=[55,32,48,32,111,98,106,60,60,47]) (by simp only [List.length_cons,List.length_nil];omega),
  s_add (b:=[32,49,47,76,101,110,103,116,104,32,57,32,48,32,82,62,62,115,116,114,101,97,109,10]) (by simp only [List.length_append,List.length_cons,List.length_nil];omega),
  s_add (by simp only [List.length_append,List.length_cons,List.length_nil];omega),
  s_add (b:=[10,101,110,100,115,116,114,101,97,109,10,101,110,100,111,98,106]) (by simp only [List.length_append,List.length_cons,List.length_nil];omega),s_len Tryz.underlying9]
 rw [show [55,32,48,32,111,98,106,60,60,47]++key++[32,49,47,76,101,110,103,116,104,32,57,32,48,32,82,62,62,115,116,114,101,97,109,10]++data++[10,101,110,100,115,116,114,101,97,109,10,101,110,100,111,98,106] = Bd.longT key data from rfl]
 generalize Bd.longT key data = T at *
 refine c_bread (s:=T) 0 ho rfl (by omega) fun b9 k1 c1 N1 w4 g1 ov1 ho => ?_
 rw [r1] at ov1 ho ⊢
 generalize hX : (Ob.mk 9 0 0 data [key] [.mk 2 1 0 [] [] []]) = x at *
 have ho : OwnS (Mem.all W).A W w4 [itE b9 ⟨7,0,x⟩ k1 c1,.mem N1]:=ho
 refine c_bread (s:=T) 1 ho rfl (by omega) fun b12 k2 c2 N2 w5 g2 ov2 ho => ?_
 rw [r2] at ov2 ho ⊢
 have ho : OwnS (Mem.all W).A W w5 [itE b9 ⟨7,0,x⟩ k1 c1,.mem N2]:=ho.tail
 have ov1 : OV N2.A N2.w (obV x k1 c1) x:=ov1.le g2
 obtain⟨xcs,ha⟩:=ov1.slices
 have xk : x.k = 9:=by rw [← hX];rfl
 have xs : x.s = data:=by rw [← hX];rfl
 have xks : x.keys = [key]:=by rw [← hX];rfl
 have hkl : x.keys.length = 1:=by rw [xks];rfl
 obtain⟨p,hp⟩:=key_at ha (i:=0) (by omega)
 obtain⟨p1,p2⟩:=hp w5 (ho.hasM 1 rfl)
 have hk0 : x.keys[0]'(by omega) = key:=by simp only [xks,List.getElem_cons_zero]
 rw [hk0] at p2
 have i1 : ∀ {PK : List PanicEntry→World→Prop} {K : Value→World→Prop},DoX Tryz.prog (mIA 22 k1 (.int .i64 0)) w5 PK K = K (.pointer (some p)) w5:=do_eq p1
 have i2 : ∀ {PK : List PanicEntry→World→Prop} {K : Value→World→Prop},DoX Tryz.prog (mLoad 9 (.pointer (some p))) w5 PK K = K (.string ⟨key.toArray⟩) w5:=do_eq p2
 have ls : ∀ {PK : List PanicEntry→World→Prop} {K : Value→World→Prop},DoX Tryz.prog (mLoad 9 (.pointer (some ⟨b9,0 + 2 + 3,none⟩))) w5 PK K = K (.string ⟨data.toArray⟩) w5:=by
  intro PK K
  have:=do_eq (P:=Tryz.prog) (PK:=PK) (K:=K) (run_load_cell nStr5 (ho.cell 0 rfl 5 rfl))
  rw [show (⟨7,0,x⟩ : It).obj.s = data from xs] at this
  exact this
 have lk : ∀ {PK : List PanicEntry→World→Prop} {K : Value→World→Prop},DoX Tryz.prog (mLoad 22 (.pointer (some ⟨b9,0 + 2 + 4,none⟩))) w5 PK K = K k1 w5:=do_eq (run_load_cell nSlS5 (ho.cell 0 rfl 6 rfl))
 have ll : ∀ {PK : List PanicEntry→World→Prop} {K : Value→World→Prop} {T : TypeId} {cb : Array Bool},DoX Tryz.prog (mB .len #[22] T cb #[k1]) w5 PK K = K (.int .i64 1) w5:=by
  intro PK K T cb
  have:=sl_len (P:=Tryz.prog) (PK:=PK) (K:=K) (U:=T) (cb:=cb) Tryz.underlying22 (ha.keys.now (ho.hasM 1 rfl))
  rw [hkl] at this
  exact this
 simp only [Bd.bad,rs,ne_eq,not_true_eq_false,decide_false,s_len Tryz.underlying9,fa_i0,it_num ho 0 rfl,fa_i2,fa_o0,it_k ho 0 rfl,xk,fa_o3,ls,n_str,fa_o4,lk,ll,i1,i2]
 refine c_bread (s:=T) 1 ho rfl (by omega) fun b15 k3 c3 N3 w6 g3 ov3 ho => ?_
 have hB:=(ho.toGives 2 rfl ((g1.trans g2).trans g3) hM).below
 by_cases he : (Bd.read T 0 n).2.2 = 0
 case neg =>
  simp only [rs,decide_eq_true (show (Bd.read T 0 n).2.2≠0 from he),g_un]
  exact hK _ _ ⟨rfl,hB⟩
 have hn : ((Bd.read T 0 n).1.obj.s.length : Int) = n:=r3.resolve_left (by simp [he])
 have l3 : ∀ {PK : List PanicEntry→World→Prop} {K : Value→World→Prop},DoX Tryz.prog (mLoad 9 (.pointer (some ⟨b15,0 + 2 + 3,none⟩))) w6 PK K = K (.string ⟨(Bd.read T 0 n).1.obj.s.toArray⟩) w6:=do_eq (run_load_cell nStr5 (ho.cell 0 rfl 5 rfl))
 simp only [rs,he,ne_eq,not_true_eq_false,decide_false,fa_i2,fa_o3,l3,s_len Tryz.underlying9,hn,decide_true]
 exact hK _ _ ⟨rfl,hB⟩
end Go.Proofs.YtkejpieaafeblaaGreatDoor


