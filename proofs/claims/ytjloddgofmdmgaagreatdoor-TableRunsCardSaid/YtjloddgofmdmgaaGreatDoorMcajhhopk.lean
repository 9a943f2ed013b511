/- Texts that go together: LxU LxV LxW LxX LxY LxZ LxAA LxAB LxAC SLaw04 PlT LxAD SLaw03 LxAE HdB HdC SLaw17 HdD SRef55 ScA ObJ MkB SWrite ObK ObL ObM ObN ObO MkC LxAF LxAG SLaw04B PlW SRef06 SParse PsA MkD MkE MkF EngZ MkG Plain19 KdA DcA SDocs SRef19 DcB DcC SSlcI SlcI DcD DcE DcF Plain19B DcG EngAC PsB PsC Plain07B Plain38 SLabel SRef38 SCut LbA LbB LbC LbD LbE DcH SLaw07 ObP ObQ ObR STexts OcTx SSame SApart Plain07C ObS0 ObT DcI LbF Plain38B Plain38C Plain38D Plain38E Plain06B Plain06C Plain06D Plain06E PsD PsE PsF SMake6 PsG PsH PsI PsJ Plain06F EngAA PsK PsL PsM Plain18. -/
import Derived.Test.YtjloddgofmdmgaaGreatDoorRows
import Derived.Lib.SmallJoins
import Derived.Lib.Overlaps
import Derived.Laws.Externs
import Derived.Lib.Repeat
import Derived.Lib.Case
import Derived.Maps.RangeRun
import Derived.Test.YtjloddgofmdmgaaGreatDoorMeigkflnk
import Derived.Test.YtjloddgofmdmgaaGreatDoorMlpecagee
import Derived.Test.YtjloddgofmdmgaaGreatDoorMhalgbpod
set_option linter.defProp false
set_option linter.unusedSimpArgs false
set_option linter.unusedVariables false



namespace Go.Proofs.YtjloddgofmdmgaaGreatDoor
open Eng Go.RowKit
section
variable {w : World} {PK : List PanicEntry→World→Prop} {K : Value→World→Prop} {S : Nat→Prop} {w0 : World} {L : List Ent}
theorem fa_t0 {b : Nat} : DoX Tryz.prog (mFA 90 (.pointer (some ⟨b,0,none⟩)) 0) w PK K = K (.pointer (some ⟨b,0,none⟩)) w := f_addr (show fOff Tryz.prog 90 0 = some 0 by kernel_rfl)
theorem fa_t1 {b : Nat} : DoX Tryz.prog (mFA 90 (.pointer (some ⟨b,0,none⟩)) 1) w PK K = K (.pointer (some ⟨b,1,none⟩)) w := f_addr (show fOff Tryz.prog 90 1 = some 1 by kernel_rfl)
theorem fa_t2 {b : Nat} : DoX Tryz.prog (mFA 90 (.pointer (some ⟨b,0,none⟩)) 2) w PK K = K (.pointer (some ⟨b,2,none⟩)) w := f_addr (show fOff Tryz.prog 90 2 = some 2 by kernel_rfl)
end
end Go.Proofs.YtjloddgofmdmgaaGreatDoor
namespace Go.Proofs.YtjloddgofmdmgaaGreatDoor
open Eng Go.RowKit
section
variable {w : World} {PK : List PanicEntry→World→Prop} {K : Value→World→Prop} {S : Nat→Prop} {w0 : World} {L : List Ent}
end
theorem upto_end {s : List UInt8} {i b : Int} {l : List Lx.Tok} {n : Nat} (h : Lx.Steps s i l b) (hn : l.length < n) (he : (Lx.next s b).2 = 0) (hk : (Lx.next s b).1.k = 0) : Lx.upto s n i = .inl l:= by
 obtain ⟨m,rfl⟩ : ∃ m,n = l.length + (m + 1) := ⟨n - l.length - 1,by omega⟩
 rw [h (m + 1),Lx.upto,if_neg (by rw [he]; simp),if_pos hk]
 simp
end Go.Proofs.YtjloddgofmdmgaaGreatDoor
namespace Go.Proofs.YtjloddgofmdmgaaGreatDoor
open Eng Go.RowKit
theorem draw {w : World} {F : World→Prop} (h : F w.drew) : DrawX w F := ⟨h⟩
end Go.Proofs.YtjloddgofmdmgaaGreatDoor


namespace Go.Proofs.YtjloddgofmdmgaaGreatDoor
open Eng Go.RowKit
theorem flat_get : ∀ (l : List Lx.Tok) (k j : Nat) (hk : k < l.length),j < 5→(l.flatMap tokC)[k * 5 + j]? = (tokC l[k])[j]?
 | x :: l,0,j,_,hj => by
  rw [List.flatMap_cons,List.getElem?_append_left (by simpa [tokC] using hj)]; simp
 | x :: l,k + 1,j,hk,hj => by
  have h5 : (tokC x).length = 5 := rfl
  rw [List.flatMap_cons,List.getElem?_append_right (by rw [h5]; omega),h5,show (k + 1) * 5 + j - 5 = k * 5 + j by omega]
  rw [flat_get l k j (by simpa using hk) hj]; simp
end Go.Proofs.YtjloddgofmdmgaaGreatDoor

namespace Go.Proofs.YtjloddgofmdmgaaGreatDoor
open Eng Go.RowKit
theorem Tb.mono {w w' : World} (h : Tb w) (hb : Below w.heap.size w w') : Tb w' :=
 Go.Joins.tab_stays (show Tryz.prog.globalNamed "internal/strconv.uint64pow10" = some 0 by kernel_rfl) h hb (Nat.le_refl _)
theorem Tb.own {w w' : World} {L : List Ent} (h : Tb w) (ho : Own w w' L) : Tb w' := h.mono ho.done
end Go.Proofs.YtjloddgofmdmgaaGreatDoor
namespace Go.Proofs.YtjloddgofmdmgaaGreatDoor
open Eng Go.RowKit
theorem smp1 : Lx.next [55,46] 0 = (⟨2,0,2,70000,[]⟩,0) := by decide +kernel
theorem smp2 : Lx.next [32,55,120] 0 = (⟨5,1,3,0,[55,120]⟩,0) := by decide +kernel
theorem smp3 : Lx.next [45,48] 0 = (⟨1,0,2,0,[]⟩,0) := by decide +kernel
theorem smp4 : Lx.next [41] 0 = (Lx.none_,3) := by decide +kernel
theorem smp5 : Lx.next [40,97] 0 = (Lx.none_,4) := by decide +kernel
end Go.Proofs.YtjloddgofmdmgaaGreatDoor







namespace Go.Proofs.YtjloddgofmdmgaaGreatDoor
open Eng Go.RowKit
section
variable {w : World} {PK : List PanicEntry→World→Prop} {K : Value→World→Prop} {S : Nat→Prop} {w0 : World} {L : List Ent}
end
abbrev StrRow (v : Value) (l : List (List UInt8)) : Ent := .row 9 1 v l.length (strsV l)
end Go.Proofs.YtjloddgofmdmgaaGreatDoor
namespace Go.Proofs.YtjloddgofmdmgaaGreatDoor
open Eng Go.RowKit
theorem kid_at {A : Nat→Prop} {wb : World} {o : Ob} {vk vc : Value} {cs : List Value} (h : ObAt A wb o vk vc cs) {i : Nat} (hi : i < o.kids.length) :
  ∃ v p,OV A wb v o.kids[i]∧∀ W,Kept A wb W→(mIA 25 vc (.int .i64 (i : Int))).run Tryz.prog W = .ok (.value (.pointer (some p))) W∧(mLoad 27 (.pointer (some p))).run Tryz.prog W = .ok (.value v) W:= by
 obtain ⟨b,off,cap,rfl,_⟩ := sl_open h.kids.1 (by omega)
 obtain ⟨a,hl,hov,hget⟩ := OVs.get _ _ i hi h.all
 refine ⟨.agg a.toArray,⟨b,off + i * 6,none⟩,hov,fun W hk => ⟨?_,?_⟩⟩
 ·have := run_ia (P := Tryz.prog) (T := 25) (b := b) (off := off) (cap := cap) (n := o.kids.length) (k := .i64) (i := (i : Int)) (w := W) Tryz.underlying25 szOb (by omega) (by omega)
  rw [Int.toNat_natCast] at this
  exact this
 ·obtain ⟨b',off',cap',he,hc⟩ := sl_open (h.kept hk).kids.1 (by omega)
  cases he
  refine run_load_at (v := .agg a.toArray) (AtV.agg aggOb hl fun j v hj => ?_)
  rw [Nat.add_assoc]
  exact hc _ _ (hget j v hj)
theorem key_at {A : Nat→Prop} {wb : World} {o : Ob} {vk vc : Value} {cs : List Value} (h : ObAt A wb o vk vc cs) {i : Nat} (hi : i < o.keys.length) :
  ∃ p,∀ W,Kept A wb W→(mIA 24 vk (.int .i64 (i : Int))).run Tryz.prog W = .ok (.value (.pointer (some p))) W∧(mLoad 9 (.pointer (some p))).run Tryz.prog W = .ok (.value (.string ⟨o.keys[i].toArray⟩)) W:= by
 obtain ⟨b,off,cap,rfl,_⟩ := sl_open h.keys.1 (by omega)
 refine ⟨⟨b,off + i,none⟩,fun W hk => ⟨?_,?_⟩⟩
 ·have := run_ia (P := Tryz.prog) (T := 24) (b := b) (off := off) (cap := cap) (n := o.keys.length) (k := .i64) (i := (i : Int)) (w := W) Tryz.underlying24 (show _ = some 1 by kernel_rfl) (by omega) (by omega)
  rw [Int.toNat_natCast,Nat.mul_one] at this
  exact this
 ·obtain ⟨b',off',cap',he,hc⟩ := sl_open (h.kept hk).keys.1 (by omega)
  cases he
  exact run_load_cell nStr5 (hc i _ (strsV_get hi))
theorem sl_one5 {w : World} {v : Value} {sz n : Nat} {cs : List Value} (h : Sl w v sz n cs) : v.oneCell' = true:= by
 obtain ⟨_,a,cap,rfl,_⟩ := h
 rfl
theorem strsV_one' {l : List (List UInt8)} : ∀ x ∈ strsV l,x.oneCell' = true:= by
 intro x hx
 obtain ⟨y,_,rfl⟩ := List.mem_map.1 hx
 rfl
section
variable {w : World} {PK : List PanicEntry→World→Prop} {K : Value→World→Prop} {S : Nat→Prop} {w0 : World} {L : List Ent}
theorem o_appSs (i : Nat) {v v2 : Value} {xs ys : List (List UInt8)} {cs : Array Bool} (ho : OwnS S w0 w L) (hi : L[i]? = some (StrRow v xs)) (hs : Sl w v2 1 ys.length (strsV ys)) (hb : xs.length + ys.length≤1099511627776)
  (k : ∀ v' w',OwnS S w0 w' (L.set i (StrRow v' (xs++ys)))→K v' w') : DoX Tryz.prog (mB .append #[24,24] 24 cs #[v,v2]) w PK K:= by
 refine o_append i Tryz.underlying24 (show elB Tryz.prog 9 1 16 = true by kernel_rfl) (by decide) ho hi hs strsV_one' (by omega) (by omega) fun v' w' h => k v' w' ?_
 have e : StrRow v' (xs++ys) = .row 9 1 v' (xs.length + ys.length) (strsV xs++strsV ys):= by
  rw [StrRow,List.length_append]; simp [strsV]
 rw [e]; exact h
theorem o_appS1 (i : Nat) {v : Value} {xs : List (List UInt8)} {y : List UInt8} {cs : Array Bool} {PK2 : List PanicEntry→World→Prop} (ho : OwnS S w0 w L) (hi : L[i]? = some (StrRow v xs)) (hb : xs.length≤100000000000)
  (k : ∀ v' w',OwnS S w0 w' (L.set i (StrRow v' (xs++[y])))→K v' w') :
  DoX Tryz.prog (mBuildS 24 1 #[(0,.string ⟨y.toArray⟩)]) w PK fun t w => DoX Tryz.prog (mB .append #[24,24] 24 cs #[v,t]) w PK2 K:= by
 refine o_new (fun b => .slice (some ⟨b,0,none⟩) 1 1) [.string ⟨y.toArray⟩] 9 (fun _ => by kernel_rfl) ho fun nb w4 h4 => ?_
 refine o_appSs (i + 1) h4 (by rw [List.getElem?_cons_succ]; exact hi) (ys := [y]) (h4.sl 0 rfl 1 1 1 rfl) (by simp; omega) fun v' w5 h5 => k v' w5 h5.tail
end
theorem why_fields {d : Nat} {o : Ob} (h : Vl.why d o = 0) : d≤24∧Vl.usesOk o = true∧¬ (o.k = 9∧1 < d)∧Vl.fits o = true∧o.s.length≤Vl.long o.k∧o.kids.length≤8191∧Vl.form o = true:= by
 unfold Vl.why at h
 split at h
 ·cases h
 split at h
 ·cases h
 split at h
 ·cases h
 split at h
 ·cases h
 split at h
 ·cases h
 split at h
 ·cases h
 rename_i h1 h2 h3 h4 h5 h6
 rw [not_or] at h2
 exact ⟨by omega,by simpa using h2.1,h2.2,by simpa using h3,by omega,by omega,by simpa using h6⟩
end Go.Proofs.YtjloddgofmdmgaaGreatDoor
namespace Go.Proofs.YtjloddgofmdmgaaGreatDoor
set_option maxRecDepth 20000
open Eng Go.RowKit
theorem Eng.Mem.le.trans {M N O : Mem} (h : M.le N) (k : N.le O) : M.le O := Mem.le_trans h k
theorem strsV_one5 {l : List (List UInt8)} : ∀ x ∈ strsV l,x.oneCell' = true:= by
 intro x hx
 obtain ⟨y,_,rfl⟩ := List.mem_map.1 hx
 rfl
theorem urow_one {w : World} {T : TypeId} {sz : Nat} {v : Value} {n : Nat} {xs : List Value} (h : (Ent.urow T sz v n xs).is w) : v.oneCell' = true:= by
 rcases (show w.ownsRow 0 T sz v n xs from h).2 with ⟨rfl,_⟩ | ⟨g,cap,cur,rfl,_⟩ <;> rfl
theorem ovs_app {A : Nat→Prop} {w : World} : ∀ {os ps : List Ob} {cs ds : List Value},OVs A w cs os→OVs A w ds ps→OVs A w (cs++ds) (os++ps)
 | [],ps,cs,ds,h,k => by rw [OVs] at h; subst h; simpa using k
 | o :: os,ps,cs,ds,h,k => by
  rw [OVs] at h
  obtain ⟨a,rest,rfl,hl,h1,h2⟩ := h
  rw [List.cons_append,OVs]
  exact ⟨a,rest++ds,by simp,hl,h1,ovs_app h2 k⟩
theorem ovs_1 {A : Nat→Prop} {w : World} {o : Ob} {vk vc : Value} (h : OV A w (obV o vk vc) o) : OVs A w (obC o vk vc) [o]:= by
 rw [OVs]
 exact ⟨obC o vk vc,[],by simp,rfl,h,OVs.nil⟩
theorem ObAt.le {M N : Mem} {o : Ob} {vk vc : Value} {cs : List Value} (hl : M.le N) (h : ObAt M.A M.w o vk vc cs) : ObAt N.A N.w o vk vc cs := ⟨h.keys.le hl,h.kids.le hl,h.all.le hl⟩
theorem obAt_mk {M : Mem} {k n g : Int} {s : List UInt8} {keys : List (List UInt8)} {kids : List Ob} {vk vc : Value} {cs : List Value} (h1 : SlA M.A M.w vk 1 keys.length (strsV keys)) (h2 : SlA M.A M.w vc 6 kids.length cs) (h3 : OVs M.A M.w cs kids) : ObAt M.A M.w (.mk k n g s keys kids) vk vc cs := ⟨h1,h2,h3⟩
theorem ob0_ov (M : Mem) : OV M.A M.w (obV Vl.ob0 (.slice none 0 0) (.slice none 0 0)) Vl.ob0 := (obAt_mk (M := M) (keys := []) (kids := []) (SlA.nil _ _ _ _) (SlA.nil _ _ _ _) OVs.nil).ov
theorem clone1_ret (o : Ob) {vk vc : Value} (hk : vk.oneCell' = true) (hc : vc.oneCell' = true) (w : World) : Ret Tryz.prog 190 #[obV o vk vc] w (fun v w' => v = obV o vk vc∧Below w.heap.size w w'):= by
 refine ret_of fun K hK => S_value_Clone_1_ok ?_
 unfold S_value_Clone_1
 refine o_obb o hk hc (Own.start w) fun b w1 ho => ?_
 refine o_oba ho fun b2 w2 ho => ?_
 rw [ob_v ho 1 rfl]
 refine ob_put 0 hk hc ho rfl fun w3 ho => ?_
 exact ret_v1 (rv_cell (ho.agg 0 rfl aggOb)) (hK _ _ ⟨rfl,ho.done⟩)
theorem clone1_plain : plainB Tryz.prog 190 = true := by kernel_rfl
abbrev cloneF : Value := .func (.func 190) #[] #[]
theorem changed_ret (n : Nat) : ∀ (o : Ob) (v : Value) (M : Mem) (w : World),o.wt≤n→o.wt≤100000000000→M.has w→OV M.A M.w v o→RetM Tryz.prog 189 #[v,cloneF] M w (fun v' N => OV N.A N.w v' o):= by
 induction n with
 | zero => intro o v M w h; have := o.wt_pos; omega
 | succ n ih =>
 intro o v M w hn hw hM hv
 obtain ⟨vk,vc,cs,rfl,ha⟩ := hv.open
 have hww : Ob.wts o.kids≤100000000000 := by cases o; rw [Ob.wt] at hw; simp only [Ob.kids]; omega
 have hkt : Pl.tot o.keys≤100000000000 := by cases o; rw [Ob.wt] at hw; simp only [Ob.keys]; omega
 have hlk := Ob.len_wts o.kids
 have hkl := Pl.length_tot o.keys
 refine retM_of hM fun K hK => S_value_changed_ok ?_
 unfold S_value_changed
 refine o_obb o ha.keys.one ha.kids.one (OwnS.memS hM) fun b w1 ho => ?_
 refine o_oba ho fun b4 w2 ho => ?_
 rw [ob_v ho 1 rfl]
 refine c_val clone1_plain (c_below ho (R := fun v => v = obV o vk vc) (clone1_ret o ha.keys.one ha.kids.one w2) ?_)
 rintro _ w3 rfl ho
 refine ob_put 1 ha.keys.one ha.kids.one ho rfl fun w4 ho => ?_
 rw [fa_o4,ob_keys ho 1 rfl]
 refine c_ret (sclone_s_ret vk _ _ w4 (ha.keys.now (ho.hasM 2 rfl)) strsV_one5 (by omega)) fun vk' w5 hnew => ?_
 have ho := ho.join hnew
 have ho : OwnS M.A w w5 [.urow 9 1 vk' o.keys.length (strsV o.keys),obE b4 ob0 (.slice none 0 0) (.slice none 0 0),obE b o vk vc,.mem M] := ho
 have hk1 : vk'.oneCell' = true := urow_one (ho.at_ 0 rfl)
 rw [fa_o4]
 refine o_store 2 ho rfl (by kernel_rfl) hk1 (show 0 + 4 < 6 by omega) fun w6 ho => ?_
 have ho : OwnS M.A w w6 [.urow 9 1 vk' o.keys.length (strsV o.keys),obE b4 ob0 (.slice none 0 0) (.slice none 0 0),obE b o vk' vc,.mem M] := ho
 obtain ⟨N,hMN,hkeys,ho⟩ := ho.freezeU 2 rfl
 have ho : OwnS M.A w w6 [obE b4 ob0 (.slice none 0 0) (.slice none 0 0),obE b o vk' vc,.mem N] := ho
 refine join fun J hJ => ?_
 have fin : ∀ (W : World) (N' : Mem) (vc' : Value) (cs' : List Value),OwnS M.A w W [obE b4 ob0 (.slice none 0 0) (.slice none 0 0),obE b o vk' vc',.mem N']→N.le N'→vc'.oneCell' = true→SlA N'.A N'.w vc' 6 o.kids.length cs'→OVs N'.A N'.w cs' o.kids→J [] W:= by
  intro W N' vc' cs' ho hle hc1 h1 h2
  refine hJ _ _ fun _ => ?_
  unfold S_value_changed_1
  rw [ob_v ho 1 rfl]
  refine ob_put 0 hk1 hc1 ho rfl fun w7 ho => ?_
  refine ret_v1 (rv_cell (ho.agg 0 rfl aggOb)) (hK _ _ N' _ 2 ho rfl (hMN.trans hle) ?_)
  exact ObAt.ov (⟨hkeys.le hle,h1,h2⟩ : ObAt N'.A N'.w o vk' vc' cs')
 have hav := ha.le hMN
 rw [fa_o5,ob_kids ho 1 rfl]
 obtain ⟨a,cap,rfl,hnil⟩ : ∃ a cap,vc = .slice a o.kids.length cap∧(a = none→o.kids.length = 0):= by
  obtain ⟨⟨_,a,cap,e,h1,_⟩,_⟩ := ha.kids
  exact ⟨a,cap,e,h1⟩
 rw [n_nilS Tryz.underlying25]
 cases a with
 | none =>
  simp only [Option.isNone_none,Bool.not_true,i_f]
  exact fin _ N _ _ ho N.le_refl rfl hav.kids hav.all
 | some p =>
  simp only [Option.isNone_some,Bool.not_false,i_t]
  rw [fa_o5,ob_kids ho 1 rfl,sl_len_any Tryz.underlying25]
  refine o_makeN (sz := 6) (bytes := 88) Tryz.underlying25 (by kernel_rfl) (by omega) (by omega) ho fun g w7 zs hzs ho => ?_
  have ho := ho.toU 6 o.kids.length o.kids.length hzs (Nat.le_refl _) (by omega)
  rw [List.take_of_length_le (by omega)] at ho
  rw [fa_o5,ob_kids ho 2 rfl,sl_len_any Tryz.underlying25]
  refine loop (fun vs W => ∃ (i : Nat) (N' : Mem) (cs' zs' : List Value),vs = [.int .i64 i]∧i≤o.kids.length∧N.le N'∧OVs N'.A N'.w cs' (o.kids.take i)∧cs'.length = i * 6 ∧
    OwnS M.A w W [.urow 27 6 (.slice (some ⟨g,0,none⟩) o.kids.length o.kids.length) o.kids.length (cs'++zs'),obE b4 ob0 (.slice none 0 0) (.slice none 0 0),obE b o vk' (.slice (some p) o.kids.length cap),.mem N']) (fun vs _ => o.kids.length - n0 vs)
   ⟨0,N,[],zs,rfl,by omega,N.le_refl,OVs.nil,rfl,ho⟩ ?_
  clear ho
  rintro vs w8 ⟨i,N',cs',zs',rfl,hi,hle,hcs',hl',ho⟩ _
  simp only [S_value_changed_0,gd,rs]
  have hrl := (show w8.ownsRow 0 27 6 _ _ (cs'++zs') from ho.at_ 0 rfl).1
  rw [List.length_append,hl'] at hrl
  by_cases hlt : (i : Int) < (o.kids.length : Int)
  ·have hi' : i < o.kids.length := by omega
   simp only [hlt,decide_true,i_t]
   obtain ⟨x,q,hx,hrx⟩ := kid_at (hav.le hle) hi'
   obtain ⟨r1,r2⟩ := hrx w8 (ho.hasM 3 rfl)
   refine do_eq r1 |>.mpr (do_eq r2 |>.mpr ?_)
   obtain ⟨xk,xc,xcs,rfl,hxa⟩ := hx.open
   refine o_oba ho fun b7 w9 ho => ?_
   refine ob_put 0 hxa.keys.one hxa.kids.one ho rfl fun w10 ho => ?_
   rw [ob_v ho 0 rfl]
   have hkw := kid_wt hi'
   refine c_mem ho 4 rfl (ih _ _ N' w10 (by omega) (by omega) (ho.hasM 4 rfl) hx) fun y N2 w11 hle2 hy ho => ?_
   obtain ⟨yk,yc,ycs,rfl,hya⟩ := hy.open
   have ho : OwnS M.A w w11 [.urow 27 6 (.slice (some ⟨g,0,none⟩) o.kids.length o.kids.length) o.kids.length (cs'++zs'),obE b4 ob0 (.slice none 0 0) (.slice none 0 0),obE b o vk' (.slice (some p) o.kids.length cap),.mem N2] := ho.tail
   refine do_eq (run_ia Tryz.underlying25 szOb (by omega) (by omega)) |>.mpr ?_
   rw [Int.toNat_natCast,Nat.zero_add]
   refine o_storeU 0 ho rfl (u := obV o.kids[i] yk yc) (new := obC o.kids[i] yk yc) rfl szOb (obC_one _ hya.keys.one hya.kids.one) (by show i * 6 + 6≤_; omega) fun w12 ho => ?_
   rw [wrap64_id (by omega) (by omega)]
   refine nextX ⟨i + 1,N2,cs'++obC o.kids[i] yk yc,zs'.drop 6,rfl,by omega,hle.trans hle2,?_,?_,?_⟩ (by simp [n0,RowKit.intOf]; omega)
   ·rw [List.take_succ_eq_append_getElem hi']
    exact ovs_app (hcs'.le hle2) (ovs_1 hy)
   ·rw [List.length_append,hl']; show i * 6 + 6 = _; omega
   ·have e : (cs'++zs').take (i * 6)++obC o.kids[i] yk yc++(cs'++zs').drop (i * 6 + (obC o.kids[i] yk yc).length) = cs'++obC o.kids[i] yk yc++zs'.drop 6:= by
     rw [List.take_left' hl',List.drop_append,List.drop_eq_nil_of_le (by rw [hl']; omega),List.nil_append,hl']
     congr 2
     show i * 6 + 6 - i * 6 = 6
     omega
    rw [e] at ho
    exact ho
  ·have hi' : i = o.kids.length := by omega
   subst hi'
   simp only [hlt,decide_false,i_f]
   have hz : zs' = [] := List.eq_nil_of_length_eq_zero (by omega)
   subst hz
   rw [List.append_nil,List.take_of_length_le (Nat.le_refl _)] at *
   rw [fa_o5]
   refine o_store 2 ho rfl (by kernel_rfl) rfl (show 0 + 5 < 6 by omega) fun w9 ho => ?_
   obtain ⟨N2,hle2,hrow,ho⟩ := OwnS.freezeU (L := [obE b4 ob0 (.slice none 0 0) (.slice none 0 0),obE b o vk' (.slice (some ⟨g,0,none⟩) o.kids.length o.kids.length),.mem N']) ho 2 rfl
   exact fin _ N2 _ _ ho (hle.trans hle2) rfl hrow (hcs'.le hle2)
theorem clone_ret (o : Ob) (v : Value) (M : Mem) (w : World) (hw : o.wt≤100000000000) (hM : M.has w) (hv : OV M.A M.w v o) : RetM Tryz.prog 121 #[v] M w (fun v' N => OV N.A N.w v' o):= by
 obtain ⟨vk,vc,cs,rfl,ha⟩ := hv.open
 refine retM_of hM fun K hK => S_value_Clone_ok ?_
 unfold S_value_Clone
 refine o_obb o ha.keys.one ha.kids.one (OwnS.memS hM) fun b w1 ho => ?_
 refine o_oba ho fun b4 w2 ho => ?_
 rw [ob_v ho 1 rfl]
 refine c_mem ho 2 rfl (changed_ret o.wt o _ M w2 (Nat.le_refl _) hw (ho.hasM 2 rfl) hv) fun y N w3 hle hy ho => ?_
 obtain ⟨yk,yc,ycs,rfl,hya⟩ := hy.open
 refine ob_put 0 hya.keys.one hya.kids.one ho rfl fun w4 ho => ?_
 exact ret_v1 (rv_cell (ho.agg 0 rfl aggOb)) (hK _ _ N _ 2 ho rfl hle hy)
end Go.Proofs.YtjloddgofmdmgaaGreatDoor
namespace Go.Proofs.YtjloddgofmdmgaaGreatDoor
set_option maxRecDepth 20000
open Eng
def S_write_single_0 (t3 : Value) (w : World) (K : Ending→World→Prop) : Prop :=
 DoX Tryz.prog (mBuildS 24 1 #[(0,t3)]) w (pk K) fun t68 w =>
 K (.returned t68) w
def S_write_single (t0 : Value) (w : World) (K : Ending→World→Prop) : Prop :=
 DoX Tryz.prog (mBox 27 t0) w (pk K) fun t1 w =>
 JoinX (fun J1 =>
 DoX Tryz.prog (mFA 27 t1 0) w (pk K) fun t8 w =>
 DoX Tryz.prog (mLoad 3 t8) w (pk K) fun t9 w =>
 DoX Tryz.prog (mEq .eql 3 (.tmp 9) (.const (.int .i64 0)) t9 (.int .i64 0)) w (pk K) fun t11 w =>
 IfX t11 (J1 [(.string ⟨#[110,117,108,108]⟩)] w) (DoX Tryz.prog (mEq .eql 3 (.tmp 9) (.const (.int .i64 1)) t9 (.int .i64 1)) w (pk K) fun t13 w =>
 IfX t13 (DoX Tryz.prog (mBuild 135 #[(0,(.string ⟨#[102,97,108,115,101]⟩)),(1,(.string ⟨#[116,114,117,101]⟩))]) w (pk K) fun t14 w =>
 DoX Tryz.prog (mFA 27 t1 1) w (pk K) fun t15 w =>
 DoX Tryz.prog (mLoad 2 t15) w (pk K) fun t16 w =>
 DoX Tryz.prog (mIx 135 t14 t16) w (pk K) fun t17 w =>
 J1 [t17] w) (DoX Tryz.prog (mEq .eql 3 (.tmp 9) (.const (.int .i64 2)) t9 (.int .i64 2)) w (pk K) fun t19 w =>
 IfX t19 (DoX Tryz.prog (mFA 27 t1 1) w (pk K) fun t21 w =>
 DoX Tryz.prog (mLoad 2 t21) w (pk K) fun t22 w =>
 CallX Tryz.prog 32 #[t22] w (pk K) fun t23 w =>
 DoX Tryz.prog (mExt t23 0) w (pk K) fun t24 w =>
 DoX Tryz.prog (mExt t23 1) w (pk K) fun t25 w =>
 J1 [t24] w) (DoX Tryz.prog (mEq .eql 3 (.tmp 9) (.const (.int .i64 3)) t9 (.int .i64 3)) w (pk K) fun t27 w =>
 IfX t27 (DoX Tryz.prog (mFA 27 t1 1) w (pk K) fun t29 w =>
 DoX Tryz.prog (mLoad 2 t29) w (pk K) fun t30 w =>
 CallX Tryz.prog 139 #[t30] w (pk K) fun t31 w =>
 DoX Tryz.prog (mExt t31 0) w (pk K) fun t32 w =>
 DoX Tryz.prog (mExt t31 1) w (pk K) fun t33 w =>
 J1 [t32] w) (DoX Tryz.prog (mEq .eql 3 (.tmp 9) (.const (.int .i64 4)) t9 (.int .i64 4)) w (pk K) fun t35 w =>
 IfX t35 (DoX Tryz.prog (mFA 27 t1 3) w (pk K) fun t37 w =>
 DoX Tryz.prog (mLoad 9 t37) w (pk K) fun t38 w =>
 CallX Tryz.prog 140 #[t38] w (pk K) fun t39 w =>
 DoX Tryz.prog (mExt t39 0) w (pk K) fun t40 w =>
 DoX Tryz.prog (mExt t39 1) w (pk K) fun t41 w =>
 J1 [t40] w) (DoX Tryz.prog (mEq .eql 3 (.tmp 9) (.const (.int .i64 5)) t9 (.int .i64 5)) w (pk K) fun t43 w =>
 IfX t43 (DoX Tryz.prog (mFA 27 t1 3) w (pk K) fun t45 w =>
 DoX Tryz.prog (mLoad 9 t45) w (pk K) fun t46 w =>
 CallX Tryz.prog 91 #[t46] w (pk K) fun t47 w =>
 DoX Tryz.prog (mExt t47 0) w (pk K) fun t48 w =>
 DoX Tryz.prog (mExt t47 1) w (pk K) fun t49 w =>
 J1 [t48] w) (DoX Tryz.prog (mEq .eql 3 (.tmp 9) (.const (.int .i64 8)) t9 (.int .i64 8)) w (pk K) fun t51 w =>
 IfX t51 (DoX Tryz.prog (mFA 27 t1 1) w (pk K) fun t53 w =>
 DoX Tryz.prog (mLoad 2 t53) w (pk K) fun t54 w =>
 CallX Tryz.prog 32 #[t54] w (pk K) fun t55 w =>
 DoX Tryz.prog (mExt t55 0) w (pk K) fun t56 w =>
 DoX Tryz.prog (mExt t55 1) w (pk K) fun t57 w =>
 DoX Tryz.prog (mFA 27 t1 2) w (pk K) fun t59 w =>
 DoX Tryz.prog (mLoad 3 t59) w (pk K) fun t60 w =>
 CallX Tryz.prog 32 #[t60] w (pk K) fun t61 w =>
 DoX Tryz.prog (mExt t61 0) w (pk K) fun t62 w =>
 DoX Tryz.prog (mExt t61 1) w (pk K) fun t63 w =>
 DoX Tryz.prog (mBuildS 24 3 #[(0,t56),(1,t62),(2,(.string ⟨#[82]⟩))]) w (pk K) fun t66 w =>
 K (.returned t66) w) (J1 [(.string ⟨#[]⟩)] w)))))))) (fun vs1 w => ∀ _ : Sg,S_write_single_0 (vs1.getD 0 undef) w K)
theorem S_write_single_eq (t0 : Value) (w : World) (K : Ending→World→Prop) : wpX Tryz.prog 69 [(19,[3])] [] none (bodyOf Tryz.f90) (topQ Tryz.prog [.tmp 2] K) (startX [t0]) [] w = S_write_single t0 w K := by kernel_rfl
theorem S_write_single_ok {t0 : Value} {w : World} {K : Ending→World→Prop} (h : S_write_single t0 w K) : Calls Tryz.prog 90 #[t0] w K :=
 calls_of_wpX Tryz.func90 rfl rfl rfl rfl (Eq.mpr (S_write_single_eq t0 w K) h)
def S_write_parts_1_1_3 (t2 t9 t40 : Value) (w : World) (N3 : List Value→World→Prop) (K : Ending→World→Prop) : Prop :=
 DoX Tryz.prog (mLoad 134 t2) w (pk K) fun t61 w =>
 DoX Tryz.prog (mLoad 27 t9) w (pk K) fun t62 w =>
 DoX Tryz.prog (mCallV t61 #[t62]) w (pk K) fun t63 w =>
 DoX Tryz.prog (mUn .not t63) w (pk K) fun t64 w =>
 IfX t64 (K (.returned (.bool false)) w) (DoX Tryz.prog (mBin .add 3 t40 (.int .i64 1)) w (pk K) fun t65 w =>
 N3 [t65] w)
def S_write_parts_1_1_2 (t1 t2 t3 t5 t38 t39 t40 : Value) (w : World) (N3 : List Value→World→Prop) (K : Ending→World→Prop) : Prop :=
 DoX Tryz.prog (mBin .lss 3 t40 t39) w (pk K) fun t41 w =>
 IfX t41 (DoX Tryz.prog (mIA 25 t38 t40) w (pk K) fun t43 w =>
 DoX Tryz.prog (mLoad 27 t43) w (pk K) fun t44 w =>
 DoX Tryz.prog (mAlloc 27) w (pk K) fun t9 w =>
 DoX Tryz.prog (mStore 27 t9 t44) w (pk K) fun _ w =>
 JoinX (fun J4 =>
 DoX Tryz.prog (mFA 27 t3 0) w (pk K) fun t45 w =>
 DoX Tryz.prog (mLoad 3 t45) w (pk K) fun t46 w =>
 DoX Tryz.prog (mEq .eql 3 (.tmp 46) (.const (.int .i64 7)) t46 (.int .i64 7)) w (pk K) fun t47 w =>
 IfX t47 (DoX Tryz.prog (mFA 27 t3 4) w (pk K) fun t49 w =>
 DoX Tryz.prog (mLoad 24 t49) w (pk K) fun t50 w =>
 DoX Tryz.prog (mIA 24 t50 t40) w (pk K) fun t52 w =>
 DoX Tryz.prog (mLoad 9 t52) w (pk K) fun t53 w =>
 CallX Tryz.prog 91 #[t53] w (pk K) fun t54 w =>
 DoX Tryz.prog (mExt t54 0) w (pk K) fun t55 w =>
 DoX Tryz.prog (mExt t54 1) w (pk K) fun t56 w =>
 DoX Tryz.prog (mLoad 133 t1) w (pk K) fun t57 w =>
 DoX Tryz.prog (mCallV t57 #[t55]) w (pk K) fun t59 w =>
 DoX Tryz.prog (mUn .not t59) w (pk K) fun t60 w =>
 IfX t60 (K (.returned (.bool false)) w) (J4 [] w)) (J4 [] w)) (fun vs4 w => ∀ _ : Sg,S_write_parts_1_1_3 t2 t9 t40 w N3 K)) (DoX Tryz.prog (mLoad 133 t1) w (pk K) fun t66 w =>
 DoX Tryz.prog (mIA 135 t5 (.int .i64 1)) w (pk K) fun t67 w =>
 DoX Tryz.prog (mLoad 9 t67) w (pk K) fun t68 w =>
 DoX Tryz.prog (mCallV t66 #[t68]) w (pk K) fun t69 w =>
 K (.returned t69) w)
def S_write_parts_1_1_1 (t1 t2 t3 t5 : Value) (w : World) (K : Ending→World→Prop) : Prop :=
 DoX Tryz.prog (mLoad 133 t1) w (pk K) fun t32 w =>
 DoX Tryz.prog (mIA 135 t5 (.int .i64 0)) w (pk K) fun t33 w =>
 DoX Tryz.prog (mLoad 9 t33) w (pk K) fun t34 w =>
 DoX Tryz.prog (mCallV t32 #[t34]) w (pk K) fun t35 w =>
 DoX Tryz.prog (mUn .not t35) w (pk K) fun t36 w =>
 IfX t36 (K (.returned (.bool false)) w) (DoX Tryz.prog (mFA 27 t3 5) w (pk K) fun t37 w =>
 DoX Tryz.prog (mLoad 25 t37) w (pk K) fun t38 w =>
 DoX Tryz.prog (mB .len #[25] 3 #[false] #[t38]) w (pk K) fun t39 w =>
 LoopX [(.int .i64 0)] w (fun vs3 w N3 => ∀ _ : Sg,S_write_parts_1_1_2 t1 t2 t3 t5 t38 t39 (vs3.getD 0 undef) w N3 K))
def S_write_parts_1_1_0 (t1 t16 t17 t18 : Value) (w : World) (N2 : List Value→World→Prop) (K : Ending→World→Prop) : Prop :=
 DoX Tryz.prog (mBin .lss 3 t18 t17) w (pk K) fun t19 w =>
 IfX t19 (DoX Tryz.prog (mIA 24 t16 t18) w (pk K) fun t20 w =>
 DoX Tryz.prog (mLoad 9 t20) w (pk K) fun t21 w =>
 DoX Tryz.prog (mLoad 133 t1) w (pk K) fun t22 w =>
 DoX Tryz.prog (mCallV t22 #[t21]) w (pk K) fun t24 w =>
 DoX Tryz.prog (mUn .not t24) w (pk K) fun t25 w =>
 IfX t25 (K (.returned (.bool false)) w) (DoX Tryz.prog (mBin .add 3 t18 (.int .i64 1)) w (pk K) fun t26 w =>
 N2 [t26] w)) (K (.returned (.bool true)) w)
def S_write_parts_1_1 (t0 t1 t2 : Value) (w : World) (K : Ending→World→Prop) : Prop :=
 DoX Tryz.prog (mBox 27 t0) w (pk K) fun t3 w =>
 DoX Tryz.prog (mBuild 135 #[(0,(.string ⟨#[91]⟩)),(1,(.string ⟨#[93]⟩))]) w (pk K) fun t12 w =>
 DoX Tryz.prog (mAlloc 135) w (pk K) fun t5 w =>
 DoX Tryz.prog (mStore 135 t5 t12) w (pk K) fun _ w =>
 JoinX (fun J1 =>
 DoX Tryz.prog (mFA 27 t3 0) w (pk K) fun t13 w =>
 DoX Tryz.prog (mLoad 3 t13) w (pk K) fun t14 w =>
 DoX Tryz.prog (mEq .eql 3 (.tmp 14) (.const (.int .i64 6)) t14 (.int .i64 6)) w (pk K) fun t28 w =>
 IfX t28 (J1 [] w) (DoX Tryz.prog (mEq .eql 3 (.tmp 14) (.const (.int .i64 7)) t14 (.int .i64 7)) w (pk K) fun t30 w =>
 IfX t30 (DoX Tryz.prog (mBuild 135 #[(0,(.string ⟨#[60,60]⟩)),(1,(.string ⟨#[62,62]⟩))]) w (pk K) fun t31 w =>
 DoX Tryz.prog (mStore 135 t5 t31) w (pk K) fun _ w =>
 J1 [] w) (DoX Tryz.prog (mLoad 27 t3) w (pk K) fun t15 w =>
 CallX Tryz.prog 90 #[t15] w (pk K) fun t16 w =>
 DoX Tryz.prog (mB .len #[24] 3 #[false] #[t16]) w (pk K) fun t17 w =>
 LoopX [(.int .i64 0)] w (fun vs2 w N2 => ∀ _ : Sg,S_write_parts_1_1_0 t1 t16 t17 (vs2.getD 0 undef) w N2 K)))) (fun vs1 w => ∀ _ : Sg,S_write_parts_1_1_1 t1 t2 t3 t5 w K)
theorem S_write_parts_1_1_eq (t0 t1 t2 : Value) (w : World) (K : Ending→World→Prop) : wpX Tryz.prog 70 [(13,[]),(22,[])] [(4,[18]),(16,[40])] none (bodyOf Tryz.f89) (topQ Tryz.prog [.tmp 4] K) (startX [t0,t1,t2]) [] w = S_write_parts_1_1 t0 t1 t2 w K := by kernel_rfl
theorem S_write_parts_1_1_ok {t0 t1 t2 : Value} {w : World} {K : Ending→World→Prop} (h : S_write_parts_1_1 t0 t1 t2 w K) : Calls Tryz.prog 89 #[t0,t1,t2] w K :=
 calls_of_wpX Tryz.func89 rfl rfl rfl rfl (Eq.mpr (S_write_parts_1_1_eq t0 t1 t2 w K) h)
def S_write_parts_1 (t0 t1 : Value) (w : World) (K : Ending→World→Prop) : Prop :=
 DoX Tryz.prog (mBox 133 t0) w (pk K) fun t2 w =>
 DoX Tryz.prog (mAlloc 134) w (pk K) fun t3 w =>
 DoX Tryz.prog (mFunc (.func 89) #[] #[t2,t3]) w (pk K) fun t4 w =>
 DoX Tryz.prog (mStore 134 t3 t4) w (pk K) fun _ w =>
 DoX Tryz.prog (mLoad 134 t3) w (pk K) fun t5 w =>
 DoX Tryz.prog (mLoad 27 t1) w (pk K) fun t6 w =>
 DoX Tryz.prog (mCallV t5 #[t6]) w (pk K) fun t7 w =>
 K (.returned (.tuple #[])) w
theorem S_write_parts_1_eq (t0 t1 : Value) (w : World) (K : Ending→World→Prop) : wpX Tryz.prog 8 [] [] none (bodyOf Tryz.f88) (topQ Tryz.prog [] K) (startX [t0,t1]) [] w = S_write_parts_1 t0 t1 w K := by kernel_rfl
theorem S_write_parts_1_ok {t0 t1 : Value} {w : World} {K : Ending→World→Prop} (h : S_write_parts_1 t0 t1 w K) : Calls Tryz.prog 88 #[t0,t1] w K :=
 calls_of_wpX Tryz.func88 rfl rfl rfl rfl (Eq.mpr (S_write_parts_1_eq t0 t1 w K) h)
def S_write_parts (t0 : Value) (w : World) (K : Ending→World→Prop) : Prop :=
 DoX Tryz.prog (mBox 27 t0) w (pk K) fun t1 w =>
 DoX Tryz.prog (mFunc (.func 88) #[] #[t1]) w (pk K) fun t3 w =>
 K (.returned t3) w
theorem S_write_parts_eq (t0 : Value) (w : World) (K : Ending→World→Prop) : wpX Tryz.prog 4 [] [] none (bodyOf Tryz.f54) (topQ Tryz.prog [.tmp 2] K) (startX [t0]) [] w = S_write_parts t0 w K := by kernel_rfl
theorem S_write_parts_ok {t0 : Value} {w : World} {K : Ending→World→Prop} (h : S_write_parts t0 w K) : Calls Tryz.prog 54 #[t0] w K :=
 calls_of_wpX Tryz.func54 rfl rfl rfl rfl (Eq.mpr (S_write_parts_eq t0 w K) h)
def S_slices_AppendSeq_string_string_p0 (x0 : Nat) (K : Ending→World→Prop) := pdM Tryz.prog [.val (.slice none 0 0)] K [(mkD x0)]
def S_slices_AppendSeq_string_string (t0 t1 : Value) (w : World) (K : Ending→World→Prop) : Prop :=
 DoX Tryz.prog (mBox 24 t0) w (pk K) fun t2 w =>
 RangeX Tryz.prog none 1 t1 w (fun l1 as1 w R1 =>
 BegX Tryz.prog l1 w (fun w =>
 DoX Tryz.prog (mLoad 24 t2) w pkR fun t8 w =>
 DoX Tryz.prog (mBuildS 24 1 #[(0,(as1.getD 0 undef))]) w pkR fun t10 w =>
 DoX Tryz.prog (mB .append #[24,24] 24 #[false,false] #[t8,t10]) w pkR fun t11 w =>
 DoX Tryz.prog (mStore 24 t2 t11) w pkR fun _ w =>
 EndX Tryz.prog l1 none w R1))
 [(none,fun r1 w =>
 DoX Tryz.prog (mLoad 24 t2) w (S_slices_AppendSeq_string_string_p0 r1 K) fun t12 w =>
 LeaveM Tryz.prog [.val t12] K [(mkD r1)] .returning w)]
theorem S_slices_AppendSeq_string_string_eq (t0 t1 : Value) (w : World) (K : Ending→World→Prop) : wpX Tryz.prog 13 [] [] none (bodyOf Tryz.f87) (topM Tryz.prog [.tmp 4] K) (startX [t0,t1]) [] w = S_slices_AppendSeq_string_string t0 t1 w K := by kernel_rfl
theorem S_slices_AppendSeq_string_string_ok {t0 t1 : Value} {w : World} {K : Ending→World→Prop} (h : S_slices_AppendSeq_string_string t0 t1 w K) : Calls Tryz.prog 87 #[t0,t1] w K :=
 calls_of_wpM Tryz.func87 rfl rfl rfl rfl (Eq.mpr (S_slices_AppendSeq_string_string_eq t0 t1 w K) h)
def S_slices_Collect_string (t0 : Value) (w : World) (K : Ending→World→Prop) : Prop :=
 CallX Tryz.prog 87 #[(.slice none 0 0),t0] w (pk K) fun t4 w =>
 K (.returned t4) w
theorem S_slices_Collect_string_eq (t0 : Value) (w : World) (K : Ending→World→Prop) : wpX Tryz.prog 5 [] [] none (bodyOf Tryz.f53) (topQ Tryz.prog [.tmp 2] K) (startX [t0]) [] w = S_slices_Collect_string t0 w K := by kernel_rfl
theorem S_slices_Collect_string_ok {t0 : Value} {w : World} {K : Ending→World→Prop} (h : S_slices_Collect_string t0 w K) : Calls Tryz.prog 53 #[t0] w K :=
 calls_of_wpX Tryz.func53 rfl rfl rfl rfl (Eq.mpr (S_slices_Collect_string_eq t0 w K) h)
def S_write_Text (t0 : Value) (w : World) (K : Ending→World→Prop) : Prop :=
 DoX Tryz.prog (mBox 27 t0) w (pk K) fun t1 w =>
 DoX Tryz.prog (mLoad 27 t1) w (pk K) fun t5 w =>
 CallX Tryz.prog 51 #[t5] w (pk K) fun t6 w =>
 DoX Tryz.prog (mEq .neq 30 (.tmp 7) (.const (.int .i64 0)) t6 (.int .i64 0)) w (pk K) fun t8 w =>
 IfX t8 (K (.returned (.tuple #[(.string ⟨#[]⟩),t6])) w) (DoX Tryz.prog (mFA 27 t1 0) w (pk K) fun t10 w =>
 DoX Tryz.prog (mLoad 3 t10) w (pk K) fun t11 w =>
 DoX Tryz.prog (mEq .eql 3 (.tmp 11) (.const (.int .i64 9)) t11 (.int .i64 9)) w (pk K) fun t12 w =>
 IfX t12 (K (.returned (.tuple #[(.string ⟨#[]⟩),(.int .i64 10)])) w) (DoX Tryz.prog (mLoad 27 t1) w (pk K) fun t13 w =>
 CallX Tryz.prog 54 #[t13] w (pk K) fun t14 w =>
 CallX Tryz.prog 53 #[t14] w (pk K) fun t15 w =>
 CallX Tryz.prog 52 #[t15] w (pk K) fun t16 w =>
 K (.returned (.tuple #[t16,(.int .i64 0)])) w))
theorem S_write_Text_eq (t0 : Value) (w : World) (K : Ending→World→Prop) : wpX Tryz.prog 17 [] [] none (bodyOf Tryz.f30) (topQ Tryz.prog [.tmp 2,.tmp 3] K) (startX [t0]) [] w = S_write_Text t0 w K := by kernel_rfl
theorem S_write_Text_ok {t0 : Value} {w : World} {K : Ending→World→Prop} (h : S_write_Text t0 w K) : Calls Tryz.prog 30 #[t0] w K :=
 calls_of_wpX Tryz.func30 rfl rfl rfl rfl (Eq.mpr (S_write_Text_eq t0 w K) h)
end Go.Proofs.YtjloddgofmdmgaaGreatDoor
namespace Go.Proofs.YtjloddgofmdmgaaGreatDoor
open Eng Go.RowKit
section
variable {w : World} {PK : List PanicEntry→World→Prop} {K : Value→World→Prop} {S : Nat→Prop} {w0 : World}
theorem perm3 {A B C : List Ent} : (A++(B++C)).Perm (B++(A++C)):= by
 rw [← List.append_assoc,← List.append_assoc]; exact List.Perm.append_right C List.perm_append_comm
theorem own_sink {A B M X : List Ent} (h : OwnS S w0 w (A++(B++(M++X)))) : OwnS S w0 w (B++(M++(A++X))) := h.perm (perm3.trans (perm3.append_left _))
theorem own_float {A B M X : List Ent} (h : OwnS S w0 w (B++(M++(A++X)))) : OwnS S w0 w (A++(B++(M++X))) := h.perm (perm3.trans (perm3.append_left _)).symm
theorem ia2_0 {b : Nat} : DoX Tryz.prog (mIA 135 (.pointer (some ⟨b,0,none⟩)) (.int .i64 0)) w PK K = K (.pointer (some ⟨b,0,none⟩)) w := do_eq (by kernel_rfl)
theorem ia2_1 {b : Nat} : DoX Tryz.prog (mIA 135 (.pointer (some ⟨b,0,none⟩)) (.int .i64 1)) w PK K = K (.pointer (some ⟨b,1,none⟩)) w := do_eq (by kernel_rfl)
theorem ix2_0 {x y : Value} : DoX Tryz.prog (mIx 135 (.agg #[x,y]) (.int .i64 0)) w PK K = K x w := do_eq (by kernel_rfl)
theorem ix2_1 {x y : Value} : DoX Tryz.prog (mIx 135 (.agg #[x,y]) (.int .i64 1)) w PK K = K y w := do_eq (by kernel_rfl)
end
theorem single_ret (o : Ob) (v : Value) (d : Nat) (w : World) (ht : Tb w) (hov : OV (InW w) w v o) (hc : Vl.check d o = 0) (k6 : o.k≠6) (k7 : o.k≠7) (k9 : o.k≠9) :
  Ret Tryz.prog 90 #[v] w (fun v' w' => Own w w' [StrRow v' (Wr.parts o)]):= by
 obtain ⟨vk,vc,cs,rfl,ha⟩ := hov.open
 obtain ⟨_,huse,_,hfit,hsl,_,_⟩ := why_fields (Wr.check_why hc)
 refine ret_of fun K hK => S_write_single_ok ?_
 unfold S_write_single
 refine o_obb o ha.keys.one ha.kids.one (Own.start w) fun b w1 ho => ?_
 rw [Wr.parts_eq,if_neg k6,if_neg k7] at hK
 refine join fun J hJ => ?_
 have fin : ∀ {t : List UInt8} {W : World} {L : List Ent},Own w W L→o.k≠8→t = Wr.leaf o.k o.n o.s→J [.string ⟨t.toArray⟩] W:= by
  rintro t W L ho h8 rfl
  refine hJ _ _ fun _ => ?_
  simp only [S_write_single_0,gd]
  rw [if_neg h8] at hK
  refine o_new (fun b => .slice (some ⟨b,0,none⟩) 1 1) [.string ⟨(Wr.leaf o.k o.n o.s).toArray⟩] 9 (fun _ => by kernel_rfl) ho fun nb w4 h4 => ?_
  exact hK _ _ ((h4.toRow 1 1 1 rfl (by omega) (by omega)).sub (.cons_cons _ (List.nil_sublist _)))
 rw [fa_o0,ob_k ho 0 rfl]
 simp only [rs,fa_o1,fa_o2,fa_o3,ob_n ho 0 rfl,ob_s ho 0 rfl]
 by_cases k0 : o.k = 0
 ·simp only [k0,decide_true,i_t]
  exact fin (t := Wr.nul) ho (by omega) (by simp [Wr.leaf,k0])
 by_cases k1 : o.k = 1
 ·simp only [k1,Int.reduceEq,decide_true,decide_false,i_t,i_f]
  have hf : 0≤o.n∧o.n≤1 := by simpa [Vl.fits,k1] using hfit
  have hb : ∀ {PK : List PanicEntry→World→Prop} {K : Value→World→Prop},DoX Tryz.prog (mBuild 135 #[(0,(.string ⟨#[102,97,108,115,101]⟩)),(1,(.string ⟨#[116,114,117,101]⟩))]) w1 PK K = K (.agg #[.string ⟨Wr.fal.toArray⟩,.string ⟨Wr.tru.toArray⟩]) w1 := do_eq (by kernel_rfl)
  rw [hb,ob_n ho 0 rfl]
  rcases (show o.n = 0∨o.n = 1 by omega) with hn | hn
  ·skip
   rw [hn,ix2_0]
   exact fin ho (by omega) (by simp [Wr.leaf,k1,hn])
  ·rw [hn,ix2_1]
   exact fin ho (by omega) (by simp [Wr.leaf,k1,hn])
 by_cases k2 : o.k = 2
 ·simp only [k2,Int.reduceEq,decide_true,decide_false,i_t,i_f]
  refine c_told (pint_ret o.n w1 (ht.own ho)) rfl ho fun w2 ho => ?_
  simp only [ex]
  exact fin ho (by omega) (by simp [Wr.leaf,k2,Wr.num])
 by_cases k3 : o.k = 3
 ·simp only [k3,Int.reduceEq,decide_true,decide_false,i_t,i_f]
  refine c_told (preal_ret o.n w1) rfl ho fun w2 ho => ?_
  simp only [ex]
  exact fin ho (by omega) (by simp [Wr.leaf,k3])
 by_cases k4 : o.k = 4
 ·simp only [k4,Int.reduceEq,decide_true,decide_false,i_t,i_f]
  have hl : Vl.long o.k = 32767 := by rw [k4]; rfl
  refine c_told (pstr_ret o.s w1 (by omega)) rfl ho fun w2 ho => ?_
  simp only [ex]
  exact fin ho (by omega) (by simp [Wr.leaf,k4])
 by_cases k5 : o.k = 5
 ·simp only [k5,Int.reduceEq,decide_true,decide_false,i_t,i_f]
  refine c_told (pname_ret o.s w1) rfl ho fun w2 ho => ?_
  simp only [ex]
  exact fin ho (by omega) (by simp [Wr.leaf,k5])
 have k8 : o.k = 8:= by
  unfold Vl.usesOk Vl.used at huse
  simp only [k0,k1,k2,k3,k4,k5,k6,k7,k9,or_self,if_false] at huse
  by_cases h : o.k = 8
  ·exact h
  ·simp [h] at huse
 rw [if_pos k8] at hK
 simp only [k8,Int.reduceEq,decide_true,decide_false,i_t,i_f]
 refine c_told (pint_ret o.n w1 (ht.own ho)) rfl ho fun w2 ho => ?_
 simp only [ex,ob_g ho 0 rfl]
 refine c_told (pint_ret o.g w2 (ht.own ho)) rfl ho fun w3 ho => ?_
 simp only [ex]
 refine o_new (fun b => .slice (some ⟨b,0,none⟩) 3 3) [.string ⟨(Wr.num o.n).toArray⟩,.string ⟨(Wr.num o.g).toArray⟩,.string ⟨#[82]⟩] 9 (fun _ => by kernel_rfl) ho fun nb w4 h4 => ?_
 exact hK _ _ ((h4.toRow 1 3 3 rfl (by omega) (by omega)).sub (.cons_cons _ (List.nil_sublist _)))
end Go.Proofs.YtjloddgofmdmgaaGreatDoor
namespace Go.Proofs.YtjloddgofmdmgaaGreatDoor
open Eng Go.RowKit
def yldE (b lb : Nat) : Ent := .cells b [.func (.yield lb) #[] #[]] 133
def telV (b1 b2 : Nat) : Value := .func (.func 89) #[] #[.pointer (some ⟨b1,0,none⟩),.pointer (some ⟨b2,0,none⟩)]
def telE (b1 b2 : Nat) : Ent := .cells b2 [telV b1 b2] 134
def endE (b : Nat) (x y : List UInt8) : Ent := .cells b [.string ⟨x.toArray⟩,.string ⟨y.toArray⟩] 135
theorem nFs : notAgg Tryz.prog 133 = true := by kernel_rfl
theorem nFo : notAgg Tryz.prog 134 = true := by kernel_rfl
theorem sz2 : (Tryz.prog.info? 135).map (·.size) = some 2 := by kernel_rfl
theorem tell_plain : plainB Tryz.prog 89 = true := by kernel_rfl
def midTo (o : Ob) (i : Nat) : List (List UInt8) := if o.k = 7 then Wr.partsD (o.keys.take i) (o.kids.take i) else Wr.partsL (o.kids.take i)
theorem strs_get {ps : List (List UInt8)} {j : Nat} {x : Value} (h : (strsV ps)[j]? = some x) : ∃ y,ps[j]? = some y∧x = .string ⟨y.toArray⟩:= by
 unfold strsV at h
 rw [List.getElem?_map] at h
 cases hy : ps[j]? with
 | none => rw [hy] at h; cases h
 | some y => rw [hy] at h; exact ⟨y,rfl,by simpa [strV] using h.symm⟩
theorem mid_split (o : Ob) (i : Nat) : ∃ t,midTo o o.kids.length = midTo o i++t:= by
 unfold midTo
 split
 ·rw [Wr.partsD_min _ _ _ (.inr (Nat.le_refl _))]; exact ⟨_,Wr.partsD_split o.keys o.kids i⟩
 ·rw [List.take_length]
  exact ⟨Wr.partsL (o.kids.drop i),by rw [← Wr.partsL_app,List.take_append_drop]⟩
theorem tell_any (A : Nat→Prop) (wb : World) (S : Nat→Prop) (w0 : World) (L0 : Loop) (lb df b1 b2 : Nat) (R : Nat→List Ent→Prop) (vs : List Value) (Kf : World→Prop)
  (hI : ∀ (L : List Ent) (W : World),OwnS S w0 W L→Tb W∧Kept A wb W) (hA : ∀ (L : List Ent) (W : World),OwnS S w0 W L→∀ b,A b→b < W.heap.size)
  (hy : ∀ (k : Nat) (v : Value) (M X : List Ent) (W : World),vs[k]? = some v→R k M→OwnS S w0 W (loopE L0 lb df++(M++X)) →
   Yld Tryz.prog lb [v] W (fun r W' => (r = .bool true∧∃ M',R (k + 1) M'∧OwnS S w0 W' (loopE L0 lb df++(M'++X)))∨(r = .bool false∧Kf W'))) (n : Nat) :
  ∀ (o : Ob) (v : Value) (d : Nat) (M X : List Ent) (k : Nat) (w1 : World) (K : Ending→World→Prop),o.wt≤n→OV A wb v o→o.wt≤100000000→Vl.check d o = 0→1≤d→o.k≠9 →
   yldE b1 lb ∈ X→telE b1 b2 ∈ X→OwnS S w0 w1 (loopE L0 lb df++(M++X))→R k M→(∀ (j : Nat) (x : List UInt8),(Wr.parts o)[j]? = some x→vs[k + j]? = some (.string ⟨x.toArray⟩)) →
   (∀ (M' : List Ent) (W : World),R (k + (Wr.parts o).length) M'→OwnS S w0 W (loopE L0 lb df++(M'++X))→K (.returned (.bool true)) W)→(∀ W,Kf W→K (.returned (.bool false)) W) →
   Calls Tryz.prog 89 #[v,.pointer (some ⟨b1,0,none⟩),.pointer (some ⟨b2,0,none⟩)] w1 K:= by
 induction n with
 | zero => intro o v d M X k w1 K h; have := o.wt_pos; omega
 | succ n ih =>
 intro o v d M X k w1 K hn hov hb hc hd k9 hX1 hX2 ho hR hseg hK hKf
 obtain ⟨vk,vc,cs,rfl,ha⟩ := hov.open
 obtain ⟨hd24,_,_,_,hsl,hkl,hform⟩ := why_fields (Wr.check_why hc)
 have hkc := Wr.check_kids hc
 -- the cells of the closure
 have c1 : ∀ {A' M' : List Ent} {W : World},OwnS S w0 W (A'++(loopE L0 lb df++(M'++X)))→∀ {PK : List PanicEntry→World→Prop} {K : Value→World→Prop},DoX Tryz.prog (mLoad 133 (.pointer (some ⟨b1,0,none⟩))) W PK K = K (.func (.yield lb) #[] #[]) W := fun h => l_cell nFs (cells_cell (h.mem (e := yldE b1 lb) (by simp [hX1])) (i := 0) rfl)
 have c2 : ∀ {A' M' : List Ent} {W : World},OwnS S w0 W (A'++(loopE L0 lb df++(M'++X)))→∀ {PK : List PanicEntry→World→Prop} {K : Value→World→Prop},DoX Tryz.prog (mLoad 134 (.pointer (some ⟨b2,0,none⟩))) W PK K = K (telV b1 b2) W := fun h => l_cell nFo (cells_cell (h.mem (e := telE b1 b2) (by simp [hX2])) (i := 0) rfl)
 -- one piece is handed out
 have give : ∀ (A' M' : List Ent) (j : Nat) (x : List UInt8) (W : World) (PK : List PanicEntry→World→Prop) (K' : Value→World→Prop),(Wr.parts o)[j]? = some x→R (k + j) M'→OwnS S w0 W (A'++(loopE L0 lb df++(M'++X))) →
   (∀ M2 W2,R (k + j + 1) M2→OwnS S w0 W2 (A'++(loopE L0 lb df++(M2++X)))→K' (.bool true) W2)→(∀ W2,Kf W2→K' (.bool false) W2) →
   DoX Tryz.prog (mCallV (.func (.yield lb) #[] #[]) #[.string ⟨x.toArray⟩]) W PK K':= by
  intro A' M' j x W PK K' hx hR ho h1 h2
  refine c_yld (hy (k + j) _ M' (A'++X) W (hseg j x hx) hR (own_sink ho)) ?_
  rintro r W2 (⟨rfl,M2,hR2,ho2⟩ | ⟨rfl,hk⟩)
  ·exact h1 M2 W2 hR2 (own_float ho2)
  ·exact h2 W2 hk
 refine S_write_parts_1_1_ok ?_
 unfold S_write_parts_1_1
 refine o_obb o ha.keys.one ha.kids.one ho fun b3 w2 ho => ?_
 have mb : ∀ {x y : List UInt8} {W : World} {PK : List PanicEntry→World→Prop} {K : Value→World→Prop},DoX Tryz.prog (mBuild 135 #[(0,.string ⟨x.toArray⟩),(1,.string ⟨y.toArray⟩)]) W PK K = K (.agg #[.string ⟨x.toArray⟩,.string ⟨y.toArray⟩]) W := do_eq (by kernel_rfl)
 rw [mb (x := [91]) (y := [93])]
 refine o_new (fun b => .pointer (some ⟨b,0,none⟩)) [.string ⟨#[]⟩,.string ⟨#[]⟩] 135 (fun _ => by kernel_rfl) ho fun b5 w3 ho => ?_
 refine o_put 0 ho rfl (new := [.string ⟨([91] : List UInt8).toArray⟩,.string ⟨([93] : List UInt8).toArray⟩]) sz2 (by simp; exact ⟨rfl,rfl⟩) rfl fun w4 ho => ?_
 have ho : OwnS S w0 w4 ([endE b5 [91] [93],obE b3 o vk vc]++(loopE L0 lb df++(M++X))) := ho
 refine join fun J hJ => ?_
 -- behind the choice of the brackets
 have main : ∀ (x y : List UInt8) (W : World),OwnS S w0 W ([endE b5 x y,obE b3 o vk vc]++(loopE L0 lb df++(M++X)))→(o.k = 6∨o.k = 7)→Wr.parts o = [x]++(midTo o o.kids.length++[y]) →
   S_write_parts_1_1_1 (.pointer (some ⟨b1,0,none⟩)) (.pointer (some ⟨b2,0,none⟩)) (.pointer (some ⟨b3,0,none⟩)) (.pointer (some ⟨b5,0,none⟩)) W K:= by
  intro x y W ho h67 hp
  unfold S_write_parts_1_1_1
  have le0 : ∀ {A' : List Ent} {W : World},OwnS S w0 W (endE b5 x y :: A')→∀ {PK : List PanicEntry→World→Prop} {K : Value→World→Prop},DoX Tryz.prog (mLoad 9 (.pointer (some ⟨b5,0,none⟩))) W PK K = K (.string ⟨x.toArray⟩) W := fun h => l_cell nStr5 (h.cell 0 rfl 0 rfl)
  have le1 : ∀ {A' : List Ent} {W : World},OwnS S w0 W (endE b5 x y :: A')→∀ {PK : List PanicEntry→World→Prop} {K : Value→World→Prop},DoX Tryz.prog (mLoad 9 (.pointer (some ⟨b5,1,none⟩))) W PK K = K (.string ⟨y.toArray⟩) W := fun h => l_cell nStr5 (h.cell 0 rfl 1 rfl)
  rw [c1 ho,ia2_0,le0 ho]
  refine give [endE b5 x y,obE b3 o vk vc] M 0 x W _ _ (by rw [hp]; rfl) hR ho ?_ (fun W2 hk => by rw [u_not,Bool.not_false,i_t]; exact hKf W2 hk)
  intro M2 W2 hR2 ho
  rw [u_not,Bool.not_true,i_f,fa_o5,ob_kids ho 1 rfl]
  have lc : ∀ {W : World} {L : List Ent},OwnS S w0 W L→∀ {PK : List PanicEntry→World→Prop} {K : Value→World→Prop},DoX Tryz.prog (mB .len #[25] 3 #[false] #[vc]) W PK K = K (.int .i64 (o.kids.length : Int)) W := fun ho => sl_len Tryz.underlying25 (ha.kept (hI _ _ ho).2).kids.1
  rw [lc ho]
  have hmem : ∀ (i q : Nat) (z : List UInt8),(midTo o i)[q]? = some z→(Wr.parts o)[1 + q]? = some z:= by
   intro i q z hz
   obtain ⟨t,ht⟩ := mid_split o i
   rw [hp,List.getElem?_append_right (by simp),List.length_singleton,Nat.add_sub_cancel_left,ht,List.append_assoc,List.getElem?_append_left (List.getElem?_eq_some_iff.1 hz).1]
   exact hz
  refine loop (fun vs' w' => ∃ (i : Nat) (M' : List Ent),vs' = [.int .i64 i]∧i≤o.kids.length∧R (k + 1 + (midTo o i).length) M'∧OwnS S w0 w' ([endE b5 x y,obE b3 o vk vc]++(loopE L0 lb df++(M'++X)))) (fun vs' _ => o.kids.length - n0 vs')
   ⟨0,M2,rfl,by omega,by simpa [midTo,Wr.partsD,Wr.partsL] using hR2,ho⟩ ?_
  rintro vs' w5 ⟨i,M3,rfl,hi,hR3,ho⟩ _
  simp only [S_write_parts_1_1_2,gd,rs]
  by_cases hlt : (i : Int) < (o.kids.length : Int)
  ·have hi' : i < o.kids.length := by omega
   simp only [hlt,decide_true,i_t]
   obtain ⟨v,p,hv,hr⟩ := kid_at ha hi'
   obtain ⟨r1,r2⟩ := hr w5 (hI _ _ ho).2
   refine do_eq r1 |>.mpr (do_eq r2 |>.mpr ?_)
   obtain ⟨vk',vc',cs',rfl,hkid⟩ := hv.open
   refine o_oba ho fun b9 w6 ho => ?_
   refine ob_put 0 hkid.keys.one hkid.kids.one ho rfl fun w7 ho => ?_
   have ho : OwnS S w0 w7 ([obE b9 o.kids[i] vk' vc',endE b5 x y,obE b3 o vk vc]++(loopE L0 lb df++(M3++X))) := ho
   refine join fun J2 hJ2 => ?_
   have hkw := kid_wt hi'
   -- the kid,behind its key
   have kid : ∀ (m : Nat) (M4 : List Ent) (W : World),(midTo o (i + 1)).length = m + (Wr.parts o.kids[i]).length→(∀ (j : Nat) (z : List UInt8),(Wr.parts o.kids[i])[j]? = some z→(Wr.parts o)[1 + m + j]? = some z)→R (k + 1 + m) M4 →
     OwnS S w0 W ([obE b9 o.kids[i] vk' vc',endE b5 x y,obE b3 o vk vc]++(loopE L0 lb df++(M4++X)))→J2 [] W:= by
    intro m M4 W hm hsub hR4 ho
    refine hJ2 _ _ fun _ => ?_
    unfold S_write_parts_1_1_3
    rw [c2 ho,ob_v ho 0 rfl]
    refine c_val tell_plain ?_
    refine c_any (ih o.kids[i] _ (d + 1) M4 ([obE b9 o.kids[i] vk' vc',endE b5 x y,obE b3 o vk vc]++X) (k + 1 + m) W
     (fun e w' => (e = .returned (.bool true)∧∃ M',R (k + 1 + m + (Wr.parts o.kids[i]).length) M'∧OwnS S w0 w' (loopE L0 lb df++(M'++([obE b9 o.kids[i] vk' vc',endE b5 x y,obE b3 o vk vc]++X))))∨(e = .returned (.bool false)∧Kf w'))
     (by omega) hkid.ov (by omega) (hkc _ (List.getElem_mem hi')) (by omega) ?_ (by simp [hX1]) (by simp [hX2]) (own_sink ho) hR4 ?_ (fun M' W' h1 h2 => .inl ⟨rfl,M',h1,h2⟩) (fun W' h => .inr ⟨rfl,h⟩)) ?_
    ·intro h9
     have := (why_fields (Wr.check_why (hkc _ (List.getElem_mem hi')))).2.2.1
     exact this ⟨h9,by omega⟩
    ·intro j z hz
     rw [show k + 1 + m + j = k + (1 + m + j) by omega]
     exact hseg _ z (hsub j z hz)
    ·rintro e w8 (⟨rfl,M5,hR5,ho5⟩ | ⟨rfl,hk⟩)
     ·simp only [Cont]
      rw [u_not,Bool.not_true,i_f,b_add,wrap64_id (by omega) (by omega)]
      refine nextX ⟨i + 1,M5,rfl,by omega,?_,(own_float ho5).tail⟩ (by simp [n0,RowKit.intOf]; omega)
      rw [hm,← Nat.add_assoc]; exact hR5
     ·simp only [Cont]
      rw [u_not,Bool.not_false,i_t]
      exact hKf w8 hk
   rw [fa_o0,ob_k ho 2 rfl]
   simp only [rs]
   by_cases k7 : o.k = 7
   ·have hle : o.keys.length = o.kids.length:= by
     have hf := hform
     simp only [Vl.form,k7,true_or,decide_true,Bool.not_true,Bool.false_or,Bool.and_eq_true] at hf
     have := hf.2
     simp only [Vl.rising,Bool.and_eq_true,decide_eq_true_eq] at this
     exact this.1
    have hik : i < o.keys.length := by omega
    have hs : midTo o (i + 1) = midTo o i++(Pl.pName o.keys[i]).1 :: Wr.parts o.kids[i]:= by
     unfold midTo; rw [if_pos k7,if_pos k7]; exact Wr.partsD_succ o.keys o.kids i hik hi'
    simp only [k7,decide_true,i_t,fa_o4,ob_keys ho 2 rfl]
    obtain ⟨pk',hrk⟩ := key_at ha hik
    obtain ⟨q1,q2⟩ := hrk w7 (hI _ _ ho).2
    refine do_eq q1 |>.mpr (do_eq q2 |>.mpr ?_)
    refine c_ret (pname_ret o.keys[i] w7) ?_
    rintro v8 w8 ⟨rfl,hb8⟩
    have ho := ho.grow hb8
    simp only [ex]
    rw [c1 ho]
    refine give [obE b9 o.kids[i] vk' vc',endE b5 x y,obE b3 o vk vc] M3 (1 + (midTo o i).length) (Pl.pName o.keys[i]).1 w8 _ _ (hmem (i + 1) _ _ ?_) (by rw [← Nat.add_assoc]; exact hR3) ho (fun M4 W4 hR4 ho4 => ?_) (fun W hk => ?_)
    ·rw [hs,List.getElem?_append_right (Nat.le_refl _)]; simp
    ·rw [u_not,Bool.not_true,i_f]
     refine kid ((midTo o i).length + 1) M4 W4 ?_ ?_ ?_ ho4
     ·rw [hs]; simp; omega
     ·intro j z hz
      rw [Nat.add_assoc]
      refine hmem (i + 1) _ z ?_
      rw [hs,List.getElem?_append_right (by omega),show (midTo o i).length + 1 + j - (midTo o i).length = j + 1 by omega,List.getElem?_cons_succ]
      exact hz
     ·rw [show k + 1 + ((midTo o i).length + 1) = k + (1 + (midTo o i).length) + 1 by omega]; exact hR4
    ·rw [u_not,Bool.not_false,i_t]; exact hKf W hk
   ·have hs : midTo o (i + 1) = midTo o i++Wr.parts o.kids[i]:= by
     unfold midTo; rw [if_neg k7,if_neg k7]; exact Wr.partsL_succ o.kids i hi'
    simp only [k7,decide_false,i_f]
    refine kid (midTo o i).length M3 w7 (by rw [hs,List.length_append]) ?_ hR3 ho
    intro j z hz
    rw [Nat.add_assoc]
    refine hmem (i + 1) _ z ?_
    rw [hs,List.getElem?_append_right (by omega),Nat.add_sub_cancel_left]
    exact hz
  ·simp only [hlt,decide_false,i_f]
   have hie : i = o.kids.length := by omega
   subst hie
   rw [c1 ho,ia2_1,le1 ho]
   refine give [endE b5 x y,obE b3 o vk vc] M3 (1 + (midTo o o.kids.length).length) y w5 _ _ ?_ (by rw [← Nat.add_assoc]; exact hR3) ho (fun M4 W4 hR4 ho4 => hK M4 W4 ?_ ?_) (fun W2 hk => hKf W2 hk)
   ·rw [hp,List.getElem?_append_right (by simp),List.getElem?_append_right (by simp)]; simp
   ·rw [hp]; simp only [List.length_append,List.length_cons,List.length_nil]
    have e : k + (0 + 1 + ((midTo o o.kids.length).length + (0 + 1))) = k + (1 + (midTo o o.kids.length).length) + 1 := by omega
    rw [e]; exact hR4
   ·exact ho4.tail.tail
 rw [fa_o0,ob_k ho 1 rfl]
 simp only [rs]
 by_cases k6 : o.k = 6
 ·simp only [k6,decide_true,i_t]
  refine hJ _ _ fun _ => main [91] [93] w4 ho (.inl k6) ?_
  rw [Wr.parts_eq,if_neg (by omega),if_pos k6,midTo,if_neg (by omega),List.take_length]; rfl
 by_cases k7 : o.k = 7
 ·simp only [k7,Int.reduceEq,decide_true,decide_false,i_t,i_f]
  rw [mb (x := [60,60]) (y := [62,62])]
  refine o_put 0 ho rfl (new := [.string ⟨([60,60] : List UInt8).toArray⟩,.string ⟨([62,62] : List UInt8).toArray⟩]) sz2 (by simp; exact ⟨rfl,rfl⟩) rfl fun w5 ho => ?_
  refine hJ _ _ fun _ => main [60,60] [62,62] w5 ho (.inr k7) ?_
  rw [Wr.parts_eq,if_neg (by omega),if_neg (by omega),if_pos k7,midTo,if_pos k7,Wr.partsD_min _ _ _ (.inr (Nat.le_refl _))]; rfl
 simp only [k6,k7,decide_false,i_f]
 rw [ob_v ho 1 rfl]
 refine c_ret (single_ret o _ d w4 (hI _ _ ho).1 (OV.mono (hA _ _ ho) _ _ (ha.kept (hI _ _ ho).2).ov) hc k6 k7 k9) ?_
 intro v5 w5 hnew
 have ho := ho.join hnew
 have ho : OwnS S w0 w5 ([StrRow v5 (Wr.parts o),endE b5 [91] [93],obE b3 o vk vc]++(loopE L0 lb df++(M++X))) := ho
 have hpos : 0 < (Wr.parts o).length := by rw [Wr.parts_eq,if_neg k6,if_neg k7]; split <;> simp
 have hpl := Wr.parts_len o
 obtain ⟨g,off,cap,rfl,_⟩ := sl_open (ho.slRow 0 rfl) hpos
 rw [show DoX Tryz.prog (mB .len #[24] 3 #[false] #[.slice (some ⟨g,off,none⟩) (Wr.parts o).length cap]) w5 = DoX Tryz.prog (mB .len #[24] 3 #[false] #[.slice (some ⟨g,off,none⟩) (Wr.parts o).length cap]) w5 from rfl,sl_len Tryz.underlying24 (ho.slRow 0 rfl)]
 refine loop (fun vs' w' => ∃ (i : Nat) (M' : List Ent),vs' = [.int .i64 i]∧i≤(Wr.parts o).length∧R (k + i) M'∧OwnS S w0 w' ([StrRow (.slice (some ⟨g,off,none⟩) (Wr.parts o).length cap) (Wr.parts o),endE b5 [91] [93],obE b3 o vk vc]++(loopE L0 lb df++(M'++X))))
  (fun vs' _ => (Wr.parts o).length - n0 vs') ⟨0,M,rfl,by omega,hR,ho⟩ ?_
 rintro vs' w6 ⟨i,M3,rfl,hi,hR3,ho⟩ _
 simp only [S_write_parts_1_1_0,gd,rs]
 by_cases hlt : (i : Int) < ((Wr.parts o).length : Int)
 ·have hi' : i < (Wr.parts o).length := by omega
  simp only [hlt,decide_true,i_t]
  obtain ⟨g',off',cap',he,hcl⟩ := sl_open (ho.slRow 0 rfl) hpos
  cases he
  refine do_eq (run_ia Tryz.underlying24 (show _ = some 1 by kernel_rfl) (by omega) (by omega)) |>.mpr ?_
  have hq := hcl i _ (strsV_get hi')
  rw [Int.toNat_natCast,Nat.mul_one,l_cell nStr5 hq,c1 ho]
  refine give [StrRow (.slice (some ⟨g,off,none⟩) (Wr.parts o).length cap) (Wr.parts o),endE b5 [91] [93],obE b3 o vk vc] M3 i (Wr.parts o)[i] w6 _ _ (List.getElem?_eq_getElem hi') hR3 ho (fun M4 W4 hR4 ho4 => ?_) (fun W hk => ?_)
  ·rw [u_not,Bool.not_true,i_f,wrap64_id (by omega) (by omega)]
   exact nextX ⟨i + 1,M4,rfl,by omega,hR4,ho4⟩ (by simp [n0,RowKit.intOf]; omega)
  ·rw [u_not,Bool.not_false,i_t]; exact hKf W hk
 ·simp only [hlt,decide_false,i_f]
  have hie : i = (Wr.parts o).length := by omega
  subst hie
  exact hK M3 w6 hR3 ho.tail.tail.tail
end Go.Proofs.YtjloddgofmdmgaaGreatDoor
namespace Go.Proofs.YtjloddgofmdmgaaGreatDoor
open Eng Go.RowKit
def Obw (wb : World) (W : World) : Prop := Tb W∧Kept (InW wb) wb W∧wb.heap.size≤W.heap.size
theorem parts_seq (wb : World) (o : Ob) (vk vc : Value) (cs : List Value) (b : Nat) (ha : ObAt (InW wb) wb o vk vc cs) (hb : o.wt≤100000000) (hc : Vl.check 1 o = 0) (k9 : o.k≠9) :
  Seq Tryz.prog (Obw wb) 88 #[] #[.pointer (some ⟨b,0,none⟩)] [obE b o vk vc] (strsV (Wr.parts o)):= by
 intro S w0 w1 L0 lb df M0 R K hI ho hR hy hend
 show Calls Tryz.prog 88 #[.func (.yield lb) #[] #[],.pointer (some ⟨b,0,none⟩)] w1 K
 refine S_write_parts_1_ok ?_
 unfold S_write_parts_1
 refine o_new (fun b => .pointer (some ⟨b,0,none⟩)) [.func (.yield lb) #[] #[]] 133 (fun _ => by kernel_rfl) ho fun b1 w2 ho => ?_
 refine o_new (fun b => .pointer (some ⟨b,0,none⟩)) [.nilFunc] 134 (fun _ => by kernel_rfl) ho fun b2 w3 ho => ?_
 rw [m_func]
 refine o_store 0 ho rfl (by kernel_rfl) rfl (by simp) fun w4 ho => ?_
 have ho : OwnS S w0 w4 ([telE b1 b2,yldE b1 lb]++(loopE L0 lb df++(M0++[obE b o vk vc]))) := ho
 rw [l_cell nFo (ho.cell 0 rfl 0 rfl),l_at ((show (Ent.cells b (obC o vk vc) 27).is w4 from ho.mem (by simp [obE])) |> fun h => AtV.agg aggOb rfl fun j v hj => by simpa using cells_cell h hj)]
 refine c_val tell_plain ?_
 refine c_any (tell_any (InW wb) wb S w0 L0 lb df b1 b2 R (strsV (Wr.parts o)) (fun W => K (.returned (.tuple #[])) W) (fun L W h => ⟨(hI L W h).1,(hI L W h).2.1⟩) (fun L W h b hb => Nat.lt_of_lt_of_le hb (hI L W h).2.2) hy o.wt o _ 1 M0 ([telE b1 b2,yldE b1 lb]++[obE b o vk vc]) 0 w4
  (fun e w' => (e = .returned (.bool true)∧∃ M',R (0 + (Wr.parts o).length) M'∧OwnS S w0 w' (loopE L0 lb df++(M'++([telE b1 b2,yldE b1 lb]++[obE b o vk vc]))))∨(e = .returned (.bool false)∧K (.returned (.tuple #[])) w'))
  (Nat.le_refl _) ha.ov hb hc (by omega) k9 (by simp) (by simp) (own_sink ho) hR ?_ (fun M' W' h1 h2 => .inl ⟨rfl,M',h1,h2⟩) (fun W' h => .inr ⟨rfl,h⟩)) ?_
 ·intro j x hx
  rw [Nat.zero_add]
  unfold strsV
  rw [List.getElem?_map,hx]; rfl
 ·rintro e w8 (⟨rfl,M5,hR5,ho5⟩ | ⟨rfl,hk⟩)
  ·simp only [Cont]
   refine hend M5 _ w8 ?_ ho5
   rw [strsV_length,← Nat.zero_add (Wr.parts o).length]; exact hR5
  ·exact hk
def slc7 (b : Nat) (v : Value) : Ent := .cells b [v] 24
theorem collectS_ret {I : World→Prop} {f : Nat} {fa ca : Array Value} {F : List Ent} {ns : List (List UInt8)} (hseq : Seq Tryz.prog I f fa ca F (strsV ns)) (hp : plainB Tryz.prog f = true) (hl : ns.length≤100000000000)
  {S : Nat→Prop} {w0 w : World} {L : List Ent} (hI : ∀ (L : List Ent) (W : World),OwnS S w0 W L→I W) (ho : OwnS S w0 w (F++L)) :
  Ret Tryz.prog 53 #[.func (.func f) fa ca] w (fun v w' => OwnS S w0 w' (StrRow v ns :: L)):= by
 refine ret_of fun K hK => S_slices_Collect_string_ok ?_
 unfold S_slices_Collect_string
 refine c_any (S_slices_AppendSeq_string_string_ok (K := RetK fun v w' => OwnS S w0 w' (StrRow v ns :: L)) ?_) (fun e w' ⟨v,he,hv⟩ => by subst he; exact hK _ _ hv)
 unfold S_slices_AppendSeq_string_string
 have ho := ho.nilRow 9 1
 refine o_new (fun b => .pointer (some ⟨b,0,none⟩)) [.slice none 0 0] 24 (fun _ => by kernel_rfl) ho fun b2 w1 ho => ?_
 refine range ho hp fun L0 df lb w2 ho hy => ?_
 refine hseq S w0 w2 L0 lb df (slc7 b2 (.slice none 0 0) :: StrRow (.slice none 0 0) [] :: L) (fun k M => ∃ v,M = slc7 b2 v :: StrRow v (ns.take k) :: L) _ hI ?_ ⟨.slice none 0 0,by rw [List.take_zero]⟩ ?_ ?_
 ·refine ho.perm ?_
  show List.Perm (_ :: _ :: _ :: _ :: (F++L)) (_ :: _ :: _ :: _ :: (L++F))
  exact (List.Perm.cons _ (List.Perm.cons _ (List.Perm.cons _ (List.Perm.cons _ List.perm_append_comm))))
 ·rintro k v M X W hk ⟨u,rfl⟩ ho
  obtain ⟨x,hx,rfl⟩ := strs_get hk
  have hkl : k < ns.length := (List.getElem?_eq_some_iff.1 hx).1
  have ho : OwnS S w0 W (.obj lb (lp L0 .ready none) :: .obj df (.deferred (some [])) :: slc7 b2 u :: StrRow u (ns.take k) :: (L++X)) := ho
  refine hy _ W _ (ho.at_ 0 rfl) rfl ?_
  refine o_beg 0 ho rfl fun W3 ho => ?_
  rw [l_cell nSlS5 (ho.cell 2 rfl 0 rfl)]
  refine o_appS1 3 ho rfl (by rw [List.length_take]; omega) fun v' W4 ho => ?_
  refine o_store 2 ho rfl (by kernel_rfl) (sl_one5 (ho.slRow 3 rfl)) (by simp) fun W5 ho => ?_
  refine o_end 0 ho rfl fun W6 ho => ?_
  refine .inl ⟨rfl,slc7 b2 v' :: StrRow v' (ns.take (k + 1)) :: L,⟨v',rfl⟩,?_⟩
  have e : ns.take (k + 1) = ns.take k++[x]:= by
   rw [List.take_succ_eq_append_getElem hkl,(List.getElem?_eq_some_iff.1 hx).2]
  rw [e]
  exact ho
 ·rintro M X W ⟨u,rfl⟩ ho
  rw [strsV_length,List.take_length] at ho
  refine ⟨_,.ready,none,_,rfl,(by intro h; cases h),ho.at_ 0 rfl,List.mem_cons.2 (.inl rfl),?_⟩
  have hp' : OwnS S w0 (putO W lb (lp L0 .exhausted none)) (.obj lb (lp L0 .exhausted none) :: .obj df (.deferred (some [])) :: slc7 b2 u :: StrRow u ns :: (L++X)) := put_iter (o' := lp L0 .exhausted none) ho 0 rfl
  have hp' : OwnS S w0 (putO W lb (lp L0 .exhausted none)) (.obj df (.deferred (some [])) :: slc7 b2 u :: StrRow u ns :: (L++X)) := hp'.tail
  rw [l_cell nSlS5 (hp'.cell 1 rfl 0 rfl)]
  refine leave1 0 hp' rfl fun W4 ho => ?_
  show RetK (fun v w' => OwnS S w0 w' (StrRow v ns :: L)) (.returned u) W4
  refine retK ?_
  exact ho.tail.tail.sub (.cons_cons _ (List.sublist_append_left _ _))
def txtV (x : List UInt8 × Int) : Value := .tuple #[.string ⟨x.1.toArray⟩,.int .i64 x.2]
theorem parts_plain : plainB Tryz.prog 88 = true := by kernel_rfl
theorem n_err {xo yo : Operand} {a b : Int} {w : World} {PK : List PanicEntry→World→Prop} {K : Value→World→Prop} : DoX Tryz.prog (mEq .neq 30 xo yo (.int .i64 a) (.int .i64 b)) w PK K = K (.bool (decide (a≠b))) w := n_int
theorem wtext7_ret (o : Ob) (v : Value) (w : World) (ht : Tb w) (hov : OV (InW w) w v o) (hb : o.wt≤100000000) : Ret Tryz.prog 30 #[v] w (fun v w' => v = txtV (Wr.text o)∧Below w.heap.size w w'):= by
 obtain ⟨vk,vc,cs,rfl,ha⟩ := hov.open
 refine ret_of fun K hK => S_write_Text_ok ?_
 unfold S_write_Text
 refine o_obb o ha.keys.one ha.kids.one (Own.start w) fun b w1 ho => ?_
 rw [ob_v ho 0 rfl]
 refine c_told (vCheck_ret o _ w1 (ha.in_ ho).ov (by omega)) rfl ho fun w2 ho => ?_
 rw [n_err]
 by_cases hc : Vl.check 1 o = 0
 case neg =>
  simp only [ne_eq,hc,not_false_eq_true,decide_true,i_t]
  refine hK _ _ ⟨?_,ho.done⟩
  simp [Wr.text,hc,txtV]
 simp only [hc,ne_eq,not_true,decide_false,i_f]
 rw [fa_o0,ob_k ho 0 rfl]
 simp only [rs]
 by_cases k9 : o.k = 9
 ·simp only [k9,decide_true,i_t]
  refine hK _ _ ⟨?_,ho.done⟩
  simp [Wr.text,hc,k9,txtV]
 simp only [k9,decide_false,i_f]
 rw [ob_v ho 0 rfl]
 have ha2 := ha.own ho
 refine c_any (S_write_parts_ok (K := RetK fun v w' => ∃ b,v = .func (.func 88) #[] #[.pointer (some ⟨b,0,none⟩)]∧Own w w' [obE b o vk vc]) ?_) ?_
 ·unfold S_write_parts
  refine o_obb o ha.keys.one ha.kids.one ho fun b' w3 ho => ?_
  rw [m_func]
  exact ⟨_,rfl,b',rfl,ho.sub (.cons_cons _ (List.nil_sublist _))⟩
 ·rintro e w3 ⟨_,rfl,b',rfl,ho⟩
  have hpl := Wr.parts_len o
  have hpt := Wr.parts_tot o
  refine c_ret (collectS_ret (S := NoB) (w0 := w) (L := []) (parts_seq w o vk vc cs b' ha hb hc k9) parts_plain (by omega) (fun L W h => ⟨ht.own h,OwnS.keptIn h,h.size⟩) (by simpa using ho)) ?_
  intro v4 w4 ho
  refine c_told (pjoin_ret (Wr.parts o) v4 w4 (ho.slRow 0 rfl) (by omega)) rfl ho fun w5 ho => ?_
  refine hK _ _ ⟨?_,ho.done⟩
  simp [Wr.text,hc,k9,txtV]
end Go.Proofs.YtjloddgofmdmgaaGreatDoor

namespace Go.Proofs.YtjloddgofmdmgaaGreatDoor
open Eng Go.RowKit
abbrev nilS : Value := .slice none 0 0
abbrev ob1 (k n g : Int) (s : List UInt8) : Ob := .mk k n g s [] []
section
variable {w : World} {S : Nat→Prop} {w0 : World} {L : List Ent}
theorem ret_ob {K : Ending→World→Prop} {b : Nat} {o : Ob} {vk vc : Value} (ho : OwnS S w0 w (obE b o vk vc :: L)) (k : K (.returned (obV o vk vc)) w) : RetX Tryz.prog [.cell (.pointer (some ⟨b,0,none⟩)) 27] w K := ret_v1 (rv_cell (ho.agg 0 rfl aggOb)) k
end
def obR (o : Ob) (vk vc : Value) (w : World) : Value→World→Prop := fun v w' => v = obV o vk vc∧Below w.heap.size w w'
end Go.Proofs.YtjloddgofmdmgaaGreatDoor
namespace Go.Proofs.YtjloddgofmdmgaaGreatDoor
set_option maxRecDepth 20000
open Eng Go.RowKit
def getV (v : Value) (b : Bool) : Value := .tuple #[v,.bool b]
section
variable {w : World} {S : Nat→Prop} {w0 : World} {L : List Ent}
theorem ret_ob2 {K : Ending→World→Prop} {b : Nat} {o : Ob} {vk vc x : Value} (i : Nat) (ho : OwnS S w0 w L) (hi : L[i]? = some (obE b o vk vc)) (k : K (.returned (.tuple #[obV o vk vc,x])) w) : RetX Tryz.prog [.cell (.pointer (some ⟨b,0,none⟩)) 27,.val x] w K :=
 ret_v2 (rv_cell (ho.agg i hi aggOb)) rv_val k
theorem m_ob0 {PK : List PanicEntry→World→Prop} {K : Value→World→Prop} : DoX Tryz.prog (mBuild 27 #[]) w PK K = K (obV Vl.ob0 nilS nilS) w := do_eq (by kernel_rfl)
end
theorem vnull_ret (w : World) : Ret Tryz.prog 185 #[] w (obR (ob1 0 0 0 []) nilS nilS w):= by
 refine ret_of fun K hK => S_value_Null_ok ?_
 unfold S_value_Null
 refine o_oba (Own.start w) fun b w1 ho => ?_
 rw [m_ob0]
 refine ob_put 0 rfl rfl ho rfl fun w2 ho => ?_
 exact ret_ob ho (hK _ _ ⟨rfl,ho.done⟩)
theorem vint_ret (n : Int) (w : World) : Ret Tryz.prog 181 #[.int .i64 n] w (obR (ob1 2 n 0 []) nilS nilS w):= by
 refine ret_of fun K hK => S_value_Int_ok ?_
 unfold S_value_Int
 refine o_oba (Own.start w) fun b w1 ho => ?_
 have hb : ∀ {PK : List PanicEntry→World→Prop} {K : Value→World→Prop},DoX Tryz.prog (mBuild 27 #[(0,(.int .i64 2)),(1,.int .i64 n)]) w1 PK K = K (obV (ob1 2 n 0 []) nilS nilS) w1 := do_eq (by kernel_rfl)
 rw [hb]
 refine ob_put 0 rfl rfl ho rfl fun w2 ho => ?_
 exact ret_ob ho (hK _ _ ⟨rfl,ho.done⟩)
theorem vstr_ret (s : List UInt8) (w : World) : Ret Tryz.prog 183 #[.string ⟨s.toArray⟩] w (obR (ob1 4 0 0 s) nilS nilS w):= by
 refine ret_of fun K hK => S_value_String_ok ?_
 unfold S_value_String
 refine o_oba (Own.start w) fun b w1 ho => ?_
 have hb : ∀ {PK : List PanicEntry→World→Prop} {K : Value→World→Prop},DoX Tryz.prog (mBuild 27 #[(0,(.int .i64 4)),(3,.string ⟨s.toArray⟩)]) w1 PK K = K (obV (ob1 4 0 0 s) nilS nilS) w1 := do_eq (by kernel_rfl)
 rw [hb]
 refine ob_put 0 rfl rfl ho rfl fun w2 ho => ?_
 exact ret_ob ho (hK _ _ ⟨rfl,ho.done⟩)
theorem vname_ret (s : List UInt8) (w : World) : Ret Tryz.prog 184 #[.string ⟨s.toArray⟩] w (obR (ob1 5 0 0 s) nilS nilS w):= by
 refine ret_of fun K hK => S_value_Name_ok ?_
 unfold S_value_Name
 refine o_oba (Own.start w) fun b w1 ho => ?_
 have hb : ∀ {PK : List PanicEntry→World→Prop} {K : Value→World→Prop},DoX Tryz.prog (mBuild 27 #[(0,(.int .i64 5)),(3,.string ⟨s.toArray⟩)]) w1 PK K = K (obV (ob1 5 0 0 s) nilS nilS) w1 := do_eq (by kernel_rfl)
 rw [hb]
 refine ob_put 0 rfl rfl ho rfl fun w2 ho => ?_
 exact ret_ob ho (hK _ _ ⟨rfl,ho.done⟩)
theorem keyed_ret (o : Ob) {vk vc : Value} (hk : vk.oneCell' = true) (hc : vc.oneCell' = true) (w : World) : Ret Tryz.prog 119 #[obV o vk vc] w (fun v w' => v = .bool (Vl.keyed o)∧Below w.heap.size w w'):= by
 refine ret_of fun K hK => S_value_keyed_ok ?_
 unfold S_value_keyed
 refine o_obb o hk hc (Own.start w) fun b w1 ho => ?_
 rw [fa_o0,ob_k ho 0 rfl]
 unfold Vl.keyed at hK
 by_cases h7 : o.k = 7
 ·simp only [rs,h7,decide_true,g_un]
  exact hK _ _ ⟨by simp [h7],ho.done⟩
 ·simp only [rs,h7,decide_false,fa_o0,ob_k ho 0 rfl]
  exact hK _ _ ⟨by simp [h7],ho.done⟩
theorem vget_ret (o : Ob) (v : Value) (key : List UInt8) (M : Mem) (w : World) (hw : o.wt≤100000000000) (hM : M.has w) (hv : OV M.A M.w v o) :
  RetM Tryz.prog 69 #[v,.string ⟨key.toArray⟩] M w (fun r N => ∃ v',r = getV v' (Vl.get o key).isSome∧OV N.A N.w v' ((Vl.get o key).getD Vl.ob0)):= by
 obtain ⟨vk,vc,cs,rfl,ha⟩ := hv.open
 have hww : Ob.wts o.kids≤100000000000 := by cases o; rw [Ob.wt] at hw; simp only [Ob.kids]; omega
 have hkt : Pl.tot o.keys≤100000000000 := by cases o; rw [Ob.wt] at hw; simp only [Ob.keys]; omega
 have hkl := Pl.length_tot o.keys
 have hlk := Ob.len_wts o.kids
 refine retM_of hM fun K hK => S_value_Get_ok ?_
 unfold S_value_Get
 refine o_obb o ha.keys.one ha.kids.one (OwnS.memS hM) fun b w1 ho => ?_
 refine o_oba ho fun b4 w2 ho => ?_
 rw [ob_v ho 1 rfl]
 refine c_below ho (R := fun v => v = .bool (Vl.keyed o)) (keyed_ret o ha.keys.one ha.kids.one w2) ?_
 rintro _ w3 rfl ho
 have no : ∀ {W : World},OwnS M.A w W [obE b4 ob0 nilS nilS,obE b o vk vc,.mem M]→Vl.get o key = none→DoX Tryz.prog (mBuild 27 #[]) W (pk K) (fun t W => DoX Tryz.prog (mStore 27 (.pointer (some ⟨b4,0,none⟩)) t) W (pk K) fun _ W => RetX Tryz.prog [.cell (.pointer (some ⟨b4,0,none⟩)) 27,.val (.bool false)] W K):= by
  intro W ho hg
  rw [m_ob0]
  refine ob_put 0 rfl rfl ho rfl fun w4 ho => ?_
  refine ret_ob2 0 ho rfl (hK _ _ M _ 2 ho rfl M.le_refl ⟨obV Vl.ob0 nilS nilS,?_,?_⟩)
  ·rw [hg]; rfl
  ·rw [hg]; exact ob0_ov M
 cases hkd : Vl.keyed o with
 | false =>
  simp only [rs,Bool.not_false]
  exact no ho (by unfold Vl.get; rw [hkd]; rfl)
 | true =>
  simp only [rs,Bool.not_true]
  rw [fa_o4,ob_keys ho 1 rfl]
  refine c_eq (sindex_ret vk o.keys key w3 (ha.keys.now (ho.hasM 2 rfl)) (by omega)) ?_
  by_cases hi : o.keys.idxOf key < o.keys.length
  ·rw [if_pos hi]
   have h0 : ¬ ((o.keys.idxOf key : Int) < 0) := by omega
   simp only [rs,h0,decide_false,fa_o5,ob_kids ho 1 rfl]
   rw [sl_len Tryz.underlying25 (ha.kids.now (ho.hasM 2 rfl))]
   simp only [rs]
   by_cases hc : (o.kids.length : Int)≤(o.keys.idxOf key : Int)
   ·simp only [hc,decide_true,rs]
    refine no ho ?_
    unfold Vl.get
    rw [hkd,if_pos rfl,if_pos hi,List.getElem?_eq_none (by omega)]
   ·simp only [hc,decide_false,rs,fa_o5,ob_kids ho 1 rfl]
    have hi' : o.keys.idxOf key < o.kids.length := by omega
    have hg : Vl.get o key = some o.kids[o.keys.idxOf key]:= by
     unfold Vl.get
     rw [hkd,if_pos rfl,if_pos hi,List.getElem?_eq_getElem hi']
    obtain ⟨x,q,hx,hrx⟩ := kid_at ha hi'
    obtain ⟨r1,r2⟩ := hrx w3 (ho.hasM 2 rfl)
    refine do_eq r1 |>.mpr (do_eq r2 |>.mpr ?_)
    have hkw := kid_wt hi'
    refine c_mem ho 2 rfl (clone_ret _ x M w3 (by omega) (ho.hasM 2 rfl) hx) fun y N w4 hle hy ho => ?_
    obtain ⟨yk,yc,ycs,rfl,hya⟩ := hy.open
    refine ob_put 0 hya.keys.one hya.kids.one ho rfl fun w5 ho => ?_
    refine ret_ob2 0 ho rfl (hK _ _ N _ 2 ho rfl hle ⟨obV o.kids[o.keys.idxOf key] yk yc,?_,?_⟩)
    ·rw [hg]; rfl
    ·rw [hg]; exact hy
  ·rw [if_neg hi]
   have h0 : ((-1 : Int) < 0) := by omega
   simp only [rs,h0,decide_true,g_un]
   refine no ho ?_
   unfold Vl.get
   rw [hkd,if_pos rfl,if_neg hi]
end Go.Proofs.YtjloddgofmdmgaaGreatDoor



namespace Go.Proofs.YtjloddgofmdmgaaGreatDoor
open Eng Go.RowKit
section
variable {P : Program} {w w0 : World} {L : List Ent} {PK : List PanicEntry→World→Prop} {K : Value→World→Prop}
end
theorem fa_t3 {b : Nat} {w : World} {PK : List PanicEntry→World→Prop} {K : Value→World→Prop} : DoX Tryz.prog (mFA 90 (.pointer (some ⟨b,0,none⟩)) 3) w PK K = K (.pointer (some ⟨b,3,none⟩)) w := f_addr (show fOff Tryz.prog 90 3 = some 3 by kernel_rfl)
theorem fa_t4' {b : Nat} {w : World} {PK : List PanicEntry→World→Prop} {K : Value→World→Prop} : DoX Tryz.prog (mFA 90 (.pointer (some ⟨b,0,none⟩)) 4) w PK K = K (.pointer (some ⟨b,4,none⟩)) w := f_addr (show fOff Tryz.prog 90 4 = some 4 by kernel_rfl)
end Go.Proofs.YtjloddgofmdmgaaGreatDoor

namespace Go.Proofs.YtjloddgofmdmgaaGreatDoor
set_option maxRecDepth 20000
open Eng
def S_parse_reader_peek (t0 t1 : Value) (w : World) (K : Ending→World→Prop) : Prop :=
 DoX Tryz.prog (mAlloc 90) w (pk K) fun t4 w =>
 DoX Tryz.prog (mNil t0) w (pk K) fun t10 w =>
 DoX Tryz.prog (mFA 118 t10 0) w (pk K) fun t11 w =>
 DoX Tryz.prog (mLoad 9 t11) w (pk K) fun t12 w =>
 CallX Tryz.prog 63 #[t12,t1] w (pk K) fun t14 w =>
 DoX Tryz.prog (mExt t14 0) w (pk K) fun t15 w =>
 DoX Tryz.prog (mExt t14 1) w (pk K) fun t16 w =>
 DoX Tryz.prog (mAlloc 90) w (pk K) fun t6 w =>
 DoX Tryz.prog (mStore 90 t6 t15) w (pk K) fun _ w =>
 DoX Tryz.prog (mLoad 90 t6) w (pk K) fun t17 w =>
 DoX Tryz.prog (mEq .eql 30 (.tmp 18) (.const (.int .i64 0)) t16 (.int .i64 0)) w (pk K) fun t19 w =>
 DoX Tryz.prog (mStore 90 t4 t17) w (pk K) fun _ w =>
 RetX Tryz.prog [.cell t4 90,.val t19] w K
theorem S_parse_reader_peek_eq (t0 t1 : Value) (w : World) (K : Ending→World→Prop) : wpX Tryz.prog 20 [] [] none (bodyOf Tryz.f225) (topQ Tryz.prog [.cell 4 90,.tmp 5] K) (startX [t0,t1]) [] w = S_parse_reader_peek t0 t1 w K := by kernel_rfl
theorem S_parse_reader_peek_ok {t0 t1 : Value} {w : World} {K : Ending→World→Prop} (h : S_parse_reader_peek t0 t1 w K) : Calls Tryz.prog 225 #[t0,t1] w K :=
 calls_of_wpX Tryz.func225 rfl rfl rfl rfl (Eq.mpr (S_parse_reader_peek_eq t0 t1 w K) h)
def S_parse_reader_next_2 (t0 t2 t3 : Value) (w : World) (K : Ending→World→Prop) : Prop :=
 DoX Tryz.prog (mFA 90 t3 2) w (pk K) fun t26 w =>
 DoX Tryz.prog (mLoad 3 t26) w (pk K) fun t27 w =>
 DoX Tryz.prog (mNil t0) w (pk K) fun t28 w =>
 DoX Tryz.prog (mFA 118 t28 1) w (pk K) fun t29 w =>
 DoX Tryz.prog (mStore 3 t29 t27) w (pk K) fun _ w =>
 DoX Tryz.prog (mLoad 90 t3) w (pk K) fun t30 w =>
 DoX Tryz.prog (mStore 90 t2 t30) w (pk K) fun _ w =>
 RetX Tryz.prog [.cell t2 90] w K
def S_parse_reader_next_1 (t0 t2 t3 : Value) (w : World) (K : Ending→World→Prop) : Prop :=
 JoinX (fun J3 =>
 DoX Tryz.prog (mFA 90 t3 0) w (pk K) fun t21 w =>
 DoX Tryz.prog (mLoad 3 t21) w (pk K) fun t22 w =>
 DoX Tryz.prog (mEq .eql 3 (.tmp 22) (.const (.int .i64 0)) t22 (.int .i64 0)) w (pk K) fun t23 w =>
 IfX t23 (DoX Tryz.prog (mIface 200 (.int .i64 4)) w (pk K) fun t24 w =>
 DoX Tryz.prog (mPanic t24) w (pk K) fun _ w =>
 J3 [] w) (J3 [] w)) (fun vs3 w => ∀ _ : Sg,S_parse_reader_next_2 t0 t2 t3 w K)
def S_parse_reader_next_0 (t0 t2 t3 t4 : Value) (w : World) (K : Ending→World→Prop) : Prop :=
 JoinX (fun J2 =>
 DoX Tryz.prog (mEq .neq 30 (.tmp 17) (.const (.int .i64 0)) t4 (.int .i64 0)) w (pk K) fun t18 w =>
 IfX t18 (DoX Tryz.prog (mIface 200 t4) w (pk K) fun t20 w =>
 DoX Tryz.prog (mPanic t20) w (pk K) fun _ w =>
 J2 [] w) (J2 [] w)) (fun vs2 w => ∀ _ : Sg,S_parse_reader_next_1 t0 t2 t3 w K)
def S_parse_reader_next (t0 : Value) (w : World) (K : Ending→World→Prop) : Prop :=
 DoX Tryz.prog (mAlloc 90) w (pk K) fun t2 w =>
 HeldX w (fun S1 w =>
 HDo Tryz.prog (fun _ => True) (mNil t0) fun t7 =>
 HDo Tryz.prog (fun _ => True) (mFA 118 t7 0) fun t8 =>
 HDo Tryz.prog S1 (mLoad 9 t8) fun t9 =>
 HDo Tryz.prog (fun _ => True) (mNil t0) fun t11 =>
 HDo Tryz.prog (fun _ => True) (mFA 118 t11 1) fun t12 =>
 HDo Tryz.prog S1 (mLoad 3 t12) fun t13 =>
 (CallX Tryz.prog 63 #[t9,t13] w (pm1 (pm1 (pm1 (pm1 (pm1 (pm1 (pm1 (pm1 (pm1 (pm1 (pm1 (pm1 (pk K))))))))))))) fun t14 w =>
 (HDo Tryz.prog (fun _ => True) (mExt t14 0) fun t15 =>
 HDo Tryz.prog (fun _ => True) (mExt t14 1) fun t16 =>
 DoX Tryz.prog (mAlloc 90) w (pm1 (pm1 (pm1 (pm1 (pm1 (pm1 (pm1 (pm1 (pm1 (pm1 (pm1 (pm1 (pk K))))))))))))) fun t3 w =>
 S1 w∧(DoX Tryz.prog (mStore 90 t3 t15) w (pm1 (pm1 (pm1 (pm1 (pm1 (pm1 (pm1 (pm1 (pm1 (pm1 (pm1 (pm1 (pk K))))))))))))) fun _ w =>
 (S_parse_reader_next_0 t0 t2 t3 t16 w K))))∧(DoX Tryz.prog (mAlloc 90) w (pm1 (pm1 (pm1 (pm1 (pm1 (pm1 (pm1 (pm1 (pm1 (pm1 (pm1 (pm1 (pk K))))))))))))) fun t3_1 w =>
 S1 w∧(CallX Tryz.prog 63 #[t9,t13] w (pm1 (pm1 (pm1 (pm1 (pm1 (pm1 (pm1 (pm1 (pm1 (pm1 (pm1 (pm1 (pk K))))))))))))) fun t14_1 w =>
 (HDo Tryz.prog (fun _ => True) (mExt t14_1 0) fun t15_1 =>
 HDo Tryz.prog (fun _ => True) (mExt t14_1 1) fun t16_1 =>
 DoX Tryz.prog (mStore 90 t3_1 t15_1) w (pm1 (pm1 (pm1 (pm1 (pm1 (pm1 (pm1 (pm1 (pm1 (pm1 (pm1 (pm1 (pk K))))))))))))) fun _ w =>
 (S_parse_reader_next_0 t0 t2 t3_1 t16_1 w K)))))
theorem S_parse_reader_next_eq (t0 : Value) (w : World) (K : Ending→World→Prop) : wpX Tryz.prog 31 [(4,[]),(6,[])] [] none (bodyOf Tryz.f118) (topQ Tryz.prog [.cell 2 90] K) (startX [t0]) [] w = S_parse_reader_next t0 w K := by kernel_rfl
theorem S_parse_reader_next_ok {t0 : Value} {w : World} {K : Ending→World→Prop} (h : S_parse_reader_next t0 w K) : Calls Tryz.prog 118 #[t0] w K :=
 calls_of_wpX Tryz.func118 rfl rfl rfl rfl (Eq.mpr (S_parse_reader_next_eq t0 w K) h)
def S_parse_word (t0 t1 t2 : Value) (w : World) (K : Ending→World→Prop) : Prop :=
 DoX Tryz.prog (mBox 90 t0) w (pk K) fun t3 w =>
 DoX Tryz.prog (mFA 90 t3 0) w (pk K) fun t7 w =>
 DoX Tryz.prog (mLoad 3 t7) w (pk K) fun t8 w =>
 DoX Tryz.prog (mEq .eql 3 (.tmp 8) (.tmp 9) t8 t1) w (pk K) fun t10 w =>
 GDo t10 true (fun E => DoX Tryz.prog (mFA 90 t3 4) w (pk K) E) w fun t12 w =>
 GDo t10 true (fun E => DoX Tryz.prog (mLoad 9 t12) w (pk K) E) w fun t13 w =>
 GDo t10 true (fun E => E t2 w) w fun t14 w =>
 GDo t10 true (fun E => DoX Tryz.prog (mEq .eql 9 (.tmp 13) (.tmp 14) t13 t14) w (pk K) E) w fun t15 w =>
 DoX Tryz.prog (mPick t10 t15 (.bool false)) w (pk K) fun t16 w =>
 K (.returned t16) w
theorem S_parse_word_eq (t0 t1 t2 : Value) (w : World) (K : Ending→World→Prop) : wpX Tryz.prog 17 [] [] none (bodyOf Tryz.f226) (topQ Tryz.prog [.tmp 6] K) (startX [t0,t1,t2]) [] w = S_parse_word t0 t1 t2 w K := by kernel_rfl
theorem S_parse_word_ok {t0 t1 t2 : Value} {w : World} {K : Ending→World→Prop} (h : S_parse_word t0 t1 t2 w K) : Calls Tryz.prog 226 #[t0,t1,t2] w K :=
 calls_of_wpX Tryz.func226 rfl rfl rfl rfl (Eq.mpr (S_parse_word_eq t0 t1 t2 w K) h)
def S_parse_begins (t0 : Value) (w : World) (K : Ending→World→Prop) : Prop :=
 DoX Tryz.prog (mBox 90 t0) w (pk K) fun t1 w =>
 DoX Tryz.prog (mFA 90 t1 0) w (pk K) fun t3 w =>
 DoX Tryz.prog (mLoad 3 t3) w (pk K) fun t4 w =>
 DoX Tryz.prog (mEq .eql 3 (.tmp 4) (.const (.int .i64 5)) t4 (.int .i64 5)) w (pk K) fun t6 w =>
 IfX t6 (DoX Tryz.prog (mFA 90 t1 4) w (pk K) fun t7 w =>
 DoX Tryz.prog (mLoad 9 t7) w (pk K) fun t8 w =>
 DoX Tryz.prog (mEq .eql 9 (.tmp 8) (.const (.string ⟨#[116,114,117,101]⟩)) t8 (.string ⟨#[116,114,117,101]⟩)) w (pk K) fun t9 w =>
 GDo t9 false (fun E => DoX Tryz.prog (mFA 90 t1 4) w (pk K) E) w fun t11 w =>
 GDo t9 false (fun E => DoX Tryz.prog (mLoad 9 t11) w (pk K) E) w fun t12 w =>
 GDo t9 false (fun E => DoX Tryz.prog (mEq .eql 9 (.tmp 12) (.const (.string ⟨#[102,97,108,115,101]⟩)) t12 (.string ⟨#[102,97,108,115,101]⟩)) w (pk K) E) w fun t13 w =>
 DoX Tryz.prog (mPick t9 (.bool true) t13) w (pk K) fun t14 w =>
 GDo t14 false (fun E => DoX Tryz.prog (mFA 90 t1 4) w (pk K) E) w fun t16 w =>
 GDo t14 false (fun E => DoX Tryz.prog (mLoad 9 t16) w (pk K) E) w fun t17 w =>
 GDo t14 false (fun E => DoX Tryz.prog (mEq .eql 9 (.tmp 17) (.const (.string ⟨#[110,117,108,108]⟩)) t17 (.string ⟨#[110,117,108,108]⟩)) w (pk K) E) w fun t18 w =>
 DoX Tryz.prog (mPick t14 (.bool true) t18) w (pk K) fun t19 w =>
 K (.returned t19) w) (DoX Tryz.prog (mEq .eql 3 (.tmp 4) (.const (.int .i64 6)) t4 (.int .i64 6)) w (pk K) fun t21 w =>
 IfX t21 (DoX Tryz.prog (mFA 90 t1 4) w (pk K) fun t22 w =>
 DoX Tryz.prog (mLoad 9 t22) w (pk K) fun t23 w =>
 DoX Tryz.prog (mEq .eql 9 (.tmp 23) (.const (.string ⟨#[91]⟩)) t23 (.string ⟨#[91]⟩)) w (pk K) fun t24 w =>
 GDo t24 false (fun E => DoX Tryz.prog (mFA 90 t1 4) w (pk K) E) w fun t26 w =>
 GDo t24 false (fun E => DoX Tryz.prog (mLoad 9 t26) w (pk K) E) w fun t27 w =>
 GDo t24 false (fun E => DoX Tryz.prog (mEq .eql 9 (.tmp 27) (.const (.string ⟨#[60,60]⟩)) t27 (.string ⟨#[60,60]⟩)) w (pk K) E) w fun t28 w =>
 DoX Tryz.prog (mPick t24 (.bool true) t28) w (pk K) fun t29 w =>
 K (.returned t29) w) (K (.returned (.bool true)) w))
theorem S_parse_begins_eq (t0 : Value) (w : World) (K : Ending→World→Prop) : wpX Tryz.prog 30 [] [] none (bodyOf Tryz.f179) (topQ Tryz.prog [.tmp 2] K) (startX [t0]) [] w = S_parse_begins t0 w K := by kernel_rfl
theorem S_parse_begins_ok {t0 : Value} {w : World} {K : Ending→World→Prop} (h : S_parse_begins t0 w K) : Calls Tryz.prog 179 #[t0] w K :=
 calls_of_wpX Tryz.func179 rfl rfl rfl rfl (Eq.mpr (S_parse_begins_eq t0 w K) h)
def S_parse_reader_ref (t0 t1 : Value) (w : World) (K : Ending→World→Prop) : Prop :=
 DoX Tryz.prog (mBox 90 t1) w (pk K) fun t3 w =>
 DoX Tryz.prog (mAlloc 27) w (pk K) fun t4 w =>
 DoX Tryz.prog (mFA 90 t3 3) w (pk K) fun t9 w =>
 DoX Tryz.prog (mLoad 2 t9) w (pk K) fun t10 w =>
 DoX Tryz.prog (mBin .lss 2 t10 (.int .i64 1)) w (pk K) fun t11 w =>
 GDo t11 false (fun E => DoX Tryz.prog (mFA 90 t3 3) w (pk K) E) w fun t13 w =>
 GDo t11 false (fun E => DoX Tryz.prog (mLoad 2 t13) w (pk K) E) w fun t14 w =>
 GDo t11 false (fun E => DoX Tryz.prog (mBin .gtr 2 t14 (.int .i64 8191)) w (pk K) E) w fun t15 w =>
 DoX Tryz.prog (mPick t11 (.bool true) t15) w (pk K) fun t16 w =>
 IfX t16 (DoX Tryz.prog (mBuild 27 #[]) w (pk K) fun t17 w =>
 DoX Tryz.prog (mStore 27 t4 t17) w (pk K) fun _ w =>
 RetX Tryz.prog [.cell t4 27,.val (.bool false)] w K) (DoX Tryz.prog (mFA 90 t3 2) w (pk K) fun t20 w =>
 DoX Tryz.prog (mLoad 3 t20) w (pk K) fun t21 w =>
 CallX Tryz.prog 225 #[t0,t21] w (pk K) fun t22 w =>
 DoX Tryz.prog (mExt t22 0) w (pk K) fun t23 w =>
 DoX Tryz.prog (mExt t22 1) w (pk K) fun t24 w =>
 DoX Tryz.prog (mAlloc 90) w (pk K) fun t6 w =>
 DoX Tryz.prog (mStore 90 t6 t23) w (pk K) fun _ w =>
 DoX Tryz.prog (mUn .not t24) w (pk K) fun t26 w =>
 GDo t26 false (fun E => DoX Tryz.prog (mFA 90 t6 0) w (pk K) E) w fun t28 w =>
 GDo t26 false (fun E => DoX Tryz.prog (mLoad 3 t28) w (pk K) E) w fun t29 w =>
 GDo t26 false (fun E => DoX Tryz.prog (mEq .neq 3 (.tmp 29) (.const (.int .i64 1)) t29 (.int .i64 1)) w (pk K) E) w fun t30 w =>
 DoX Tryz.prog (mPick t26 (.bool true) t30) w (pk K) fun t31 w =>
 GDo t31 false (fun E => DoX Tryz.prog (mFA 90 t6 3) w (pk K) E) w fun t33 w =>
 GDo t31 false (fun E => DoX Tryz.prog (mLoad 2 t33) w (pk K) E) w fun t34 w =>
 GDo t31 false (fun E => DoX Tryz.prog (mBin .lss 2 t34 (.int .i64 0)) w (pk K) E) w fun t35 w =>
 DoX Tryz.prog (mPick t31 (.bool true) t35) w (pk K) fun t36 w =>
 GDo t36 false (fun E => DoX Tryz.prog (mFA 90 t6 3) w (pk K) E) w fun t38 w =>
 GDo t36 false (fun E => DoX Tryz.prog (mLoad 2 t38) w (pk K) E) w fun t39 w =>
 GDo t36 false (fun E => DoX Tryz.prog (mBin .gtr 2 t39 (.int .i64 65535)) w (pk K) E) w fun t40 w =>
 DoX Tryz.prog (mPick t36 (.bool true) t40) w (pk K) fun t41 w =>
 IfX t41 (DoX Tryz.prog (mBuild 27 #[]) w (pk K) fun t42 w =>
 DoX Tryz.prog (mStore 27 t4 t42) w (pk K) fun _ w =>
 RetX Tryz.prog [.cell t4 27,.val (.bool false)] w K) (DoX Tryz.prog (mFA 90 t6 2) w (pk K) fun t45 w =>
 DoX Tryz.prog (mLoad 3 t45) w (pk K) fun t46 w =>
 CallX Tryz.prog 225 #[t0,t46] w (pk K) fun t47 w =>
 DoX Tryz.prog (mExt t47 0) w (pk K) fun t48 w =>
 DoX Tryz.prog (mExt t47 1) w (pk K) fun t49 w =>
 DoX Tryz.prog (mAlloc 90) w (pk K) fun t8 w =>
 DoX Tryz.prog (mStore 90 t8 t48) w (pk K) fun _ w =>
 DoX Tryz.prog (mUn .not t49) w (pk K) fun t51 w =>
 GDo t51 false (fun E => DoX Tryz.prog (mLoad 90 t8) w (pk K) E) w fun t53 w =>
 GDo t51 false (fun E => CallX Tryz.prog 226 #[t53,(.int .i64 5),(.string ⟨#[82]⟩)] w (pk K) E) w fun t54 w =>
 GDo t51 false (fun E => DoX Tryz.prog (mUn .not t54) w (pk K) E) w fun t55 w =>
 DoX Tryz.prog (mPick t51 (.bool true) t55) w (pk K) fun t56 w =>
 IfX t56 (DoX Tryz.prog (mBuild 27 #[]) w (pk K) fun t57 w =>
 DoX Tryz.prog (mStore 27 t4 t57) w (pk K) fun _ w =>
 RetX Tryz.prog [.cell t4 27,.val (.bool false)] w K) (DoX Tryz.prog (mFA 90 t8 2) w (pk K) fun t59 w =>
 DoX Tryz.prog (mLoad 3 t59) w (pk K) fun t60 w =>
 DoX Tryz.prog (mNil t0) w (pk K) fun t61 w =>
 DoX Tryz.prog (mFA 118 t61 1) w (pk K) fun t62 w =>
 DoX Tryz.prog (mStore 3 t62 t60) w (pk K) fun _ w =>
 DoX Tryz.prog (mFA 90 t3 3) w (pk K) fun t63 w =>
 DoX Tryz.prog (mLoad 2 t63) w (pk K) fun t64 w =>
 DoX Tryz.prog (mFA 90 t6 3) w (pk K) fun t65 w =>
 DoX Tryz.prog (mLoad 2 t65) w (pk K) fun t66 w =>
 CallX Tryz.prog 227 #[t64,t66] w (pk K) fun t67 w =>
 DoX Tryz.prog (mStore 27 t4 t67) w (pk K) fun _ w =>
 RetX Tryz.prog [.cell t4 27,.val (.bool true)] w K)))
theorem S_parse_reader_ref_eq (t0 t1 : Value) (w : World) (K : Ending→World→Prop) : wpX Tryz.prog 68 [] [] none (bodyOf Tryz.f180) (topQ Tryz.prog [.cell 4 27,.tmp 5] K) (startX [t0,t1]) [] w = S_parse_reader_ref t0 t1 w K := by kernel_rfl
theorem S_parse_reader_ref_ok {t0 t1 : Value} {w : World} {K : Ending→World→Prop} (h : S_parse_reader_ref t0 t1 w K) : Calls Tryz.prog 180 #[t0,t1] w K :=
 calls_of_wpX Tryz.func180 rfl rfl rfl rfl (Eq.mpr (S_parse_reader_ref_eq t0 t1 w K) h)
def S_parse_reader_object_1 (t0 t2 t4 t6 : Value) (w : World) (K : Ending→World→Prop) : Prop :=
 DoX Tryz.prog (mFA 90 t4 0) w (pk K) fun t16 w =>
 DoX Tryz.prog (mLoad 3 t16) w (pk K) fun t17 w =>
 DoX Tryz.prog (mEq .eql 3 (.tmp 17) (.const (.int .i64 1)) t17 (.int .i64 1)) w (pk K) fun t19 w =>
 IfX t19 (DoX Tryz.prog (mLoad 90 t4) w (pk K) fun t22 w =>
 CallX Tryz.prog 180 #[t0,t22] w (pk K) fun t23 w =>
 DoX Tryz.prog (mExt t23 0) w (pk K) fun t24 w =>
 DoX Tryz.prog (mExt t23 1) w (pk K) fun t25 w =>
 DoX Tryz.prog (mAlloc 27) w (pk K) fun t7 w =>
 DoX Tryz.prog (mStore 27 t7 t24) w (pk K) fun _ w =>
 IfX t25 (DoX Tryz.prog (mLoad 27 t7) w (pk K) fun t27 w =>
 DoX Tryz.prog (mStore 27 t6 t27) w (pk K) fun _ w =>
 RetX Tryz.prog [.cell t6 27] w K) (DoX Tryz.prog (mFA 90 t4 3) w (pk K) fun t28 w =>
 DoX Tryz.prog (mLoad 2 t28) w (pk K) fun t29 w =>
 CallX Tryz.prog 181 #[t29] w (pk K) fun t30 w =>
 DoX Tryz.prog (mStore 27 t6 t30) w (pk K) fun _ w =>
 RetX Tryz.prog [.cell t6 27] w K)) (DoX Tryz.prog (mEq .eql 3 (.tmp 17) (.const (.int .i64 2)) t17 (.int .i64 2)) w (pk K) fun t32 w =>
 IfX t32 (DoX Tryz.prog (mFA 90 t4 3) w (pk K) fun t33 w =>
 DoX Tryz.prog (mLoad 2 t33) w (pk K) fun t34 w =>
 CallX Tryz.prog 182 #[t34] w (pk K) fun t35 w =>
 DoX Tryz.prog (mStore 27 t6 t35) w (pk K) fun _ w =>
 RetX Tryz.prog [.cell t6 27] w K) (DoX Tryz.prog (mEq .eql 3 (.tmp 17) (.const (.int .i64 3)) t17 (.int .i64 3)) w (pk K) fun t37 w =>
 IfX t37 (DoX Tryz.prog (mFA 90 t4 4) w (pk K) fun t38 w =>
 DoX Tryz.prog (mLoad 9 t38) w (pk K) fun t39 w =>
 CallX Tryz.prog 183 #[t39] w (pk K) fun t40 w =>
 DoX Tryz.prog (mStore 27 t6 t40) w (pk K) fun _ w =>
 RetX Tryz.prog [.cell t6 27] w K) (DoX Tryz.prog (mEq .eql 3 (.tmp 17) (.const (.int .i64 4)) t17 (.int .i64 4)) w (pk K) fun t42 w =>
 IfX t42 (DoX Tryz.prog (mFA 90 t4 4) w (pk K) fun t43 w =>
 DoX Tryz.prog (mLoad 9 t43) w (pk K) fun t44 w =>
 CallX Tryz.prog 184 #[t44] w (pk K) fun t45 w =>
 DoX Tryz.prog (mStore 27 t6 t45) w (pk K) fun _ w =>
 RetX Tryz.prog [.cell t6 27] w K) (DoX Tryz.prog (mEq .eql 3 (.tmp 17) (.const (.int .i64 5)) t17 (.int .i64 5)) w (pk K) fun t47 w =>
 IfX t47 (DoX Tryz.prog (mFA 90 t4 4) w (pk K) fun t48 w =>
 DoX Tryz.prog (mLoad 9 t48) w (pk K) fun t49 w =>
 DoX Tryz.prog (mEq .eql 9 (.tmp 49) (.const (.string ⟨#[110,117,108,108]⟩)) t49 (.string ⟨#[110,117,108,108]⟩)) w (pk K) fun t50 w =>
 IfX t50 (CallX Tryz.prog 185 #[] w (pk K) fun t51 w =>
 DoX Tryz.prog (mStore 27 t6 t51) w (pk K) fun _ w =>
 RetX Tryz.prog [.cell t6 27] w K) (DoX Tryz.prog (mFA 90 t4 4) w (pk K) fun t52 w =>
 DoX Tryz.prog (mLoad 9 t52) w (pk K) fun t53 w =>
 DoX Tryz.prog (mEq .eql 9 (.tmp 53) (.const (.string ⟨#[116,114,117,101]⟩)) t53 (.string ⟨#[116,114,117,101]⟩)) w (pk K) fun t54 w =>
 CallX Tryz.prog 186 #[t54] w (pk K) fun t55 w =>
 DoX Tryz.prog (mStore 27 t6 t55) w (pk K) fun _ w =>
 RetX Tryz.prog [.cell t6 27] w K)) (DoX Tryz.prog (mFA 90 t4 4) w (pk K) fun t56 w =>
 DoX Tryz.prog (mLoad 9 t56) w (pk K) fun t57 w =>
 DoX Tryz.prog (mEq .eql 9 (.tmp 57) (.const (.string ⟨#[91]⟩)) t57 (.string ⟨#[91]⟩)) w (pk K) fun t58 w =>
 IfX t58 (DoX Tryz.prog (mBin .add 3 t2 (.int .i64 1)) w (pk K) fun t61 w =>
 CallX Tryz.prog 187 #[t0,t61] w (pk K) fun t62 w =>
 DoX Tryz.prog (mStore 27 t6 t62) w (pk K) fun _ w =>
 RetX Tryz.prog [.cell t6 27] w K) (DoX Tryz.prog (mBin .add 3 t2 (.int .i64 1)) w (pk K) fun t65 w =>
 CallX Tryz.prog 188 #[t0,t65] w (pk K) fun t66 w =>
 DoX Tryz.prog (mStore 27 t6 t66) w (pk K) fun _ w =>
 RetX Tryz.prog [.cell t6 27] w K))))))
def S_parse_reader_object_0 (t0 t2 t4 t6 : Value) (w : World) (K : Ending→World→Prop) : Prop :=
 JoinX (fun J2 =>
 DoX Tryz.prog (mBin .geq 3 t2 (.int .i64 24)) w (pk K) fun t14 w =>
 IfX t14 (DoX Tryz.prog (mIface 200 (.int .i64 7)) w (pk K) fun t15 w =>
 DoX Tryz.prog (mPanic t15) w (pk K) fun _ w =>
 J2 [] w) (J2 [] w)) (fun vs2 w => ∀ _ : Sg,S_parse_reader_object_1 t0 t2 t4 t6 w K)
def S_parse_reader_object (t0 t1 t2 : Value) (w : World) (K : Ending→World→Prop) : Prop :=
 DoX Tryz.prog (mBox 90 t1) w (pk K) fun t4 w =>
 DoX Tryz.prog (mAlloc 27) w (pk K) fun t6 w =>
 JoinX (fun J1 =>
 DoX Tryz.prog (mLoad 90 t4) w (pk K) fun t9 w =>
 CallX Tryz.prog 179 #[t9] w (pk K) fun t10 w =>
 DoX Tryz.prog (mUn .not t10) w (pk K) fun t11 w =>
 IfX t11 (DoX Tryz.prog (mIface 200 (.int .i64 3)) w (pk K) fun t12 w =>
 DoX Tryz.prog (mPanic t12) w (pk K) fun _ w =>
 J1 [] w) (J1 [] w)) (fun vs1 w => ∀ _ : Sg,S_parse_reader_object_0 t0 t2 t4 t6 w K)
theorem S_parse_reader_object_eq (t0 t1 t2 : Value) (w : World) (K : Ending→World→Prop) : wpX Tryz.prog 67 [(3,[]),(5,[])] [] none (bodyOf Tryz.f117) (topQ Tryz.prog [.cell 6 27] K) (startX [t0,t1,t2]) [] w = S_parse_reader_object t0 t1 t2 w K := by kernel_rfl
theorem S_parse_reader_object_ok {t0 t1 t2 : Value} {w : World} {K : Ending→World→Prop} (h : S_parse_reader_object t0 t1 t2 w K) : Calls Tryz.prog 117 #[t0,t1,t2] w K :=
 calls_of_wpX Tryz.func117 rfl rfl rfl rfl (Eq.mpr (S_parse_reader_object_eq t0 t1 t2 w K) h)
def S_parse_reader_array_1 (t0 t1 t5 t6 : Value) (w : World) (N1 : List Value→World→Prop) (K : Ending→World→Prop) : Prop :=
 HeldX w (fun S3 w =>
 HDo Tryz.prog (fun _ => True) (mFA 27 t5 5) fun t26 =>
 HDo Tryz.prog S3 (mLoad 25 t26) fun t27 =>
 HDo Tryz.prog S3 (mLoad 90 t6) fun t29 =>
 CallX Tryz.prog 117 #[t0,t29,t1] w (pm1 (pm1 (pm1 (pm1 (pm1 (pm1 (pk K))))))) fun t31 w =>
 S3 w∧(DoX Tryz.prog (mBuildS 25 1 #[(0,t31)]) w (pm1 (pm1 (pm1 (pm1 (pm1 (pm1 (pk K))))))) fun t32 w =>
 S3 w∧(DoX Tryz.prog (mB .append #[25,25] 25 #[false,false] #[t27,t32]) w (pm1 (pm1 (pm1 (pm1 (pm1 (pm1 (pk K))))))) fun t33 w =>
 S3 w∧(HDo Tryz.prog (fun _ => True) (mFA 27 t5 5) fun t34 =>
 DoX Tryz.prog (mStore 25 t34 t33) w (pm1 (pm1 (pm1 (pm1 (pm1 (pm1 (pk K))))))) fun _ w =>
 (N1 [] w)))))
def S_parse_reader_array_0 (t0 t1 t4 t5 : Value) (w : World) (N1 : List Value→World→Prop) (K : Ending→World→Prop) : Prop :=
 CallX Tryz.prog 118 #[t0] w (pk K) fun t9 w =>
 DoX Tryz.prog (mAlloc 90) w (pk K) fun t6 w =>
 DoX Tryz.prog (mStore 90 t6 t9) w (pk K) fun _ w =>
 DoX Tryz.prog (mLoad 90 t6) w (pk K) fun t10 w =>
 CallX Tryz.prog 226 #[t10,(.int .i64 6),(.string ⟨#[93]⟩)] w (pk K) fun t11 w =>
 IfX t11 (DoX Tryz.prog (mLoad 27 t5) w (pk K) fun t12 w =>
 DoX Tryz.prog (mStore 27 t4 t12) w (pk K) fun _ w =>
 RetX Tryz.prog [.cell t4 27] w K) (JoinX (fun J2 =>
 DoX Tryz.prog (mLoad 90 t6) w (pk K) fun t13 w =>
 CallX Tryz.prog 179 #[t13] w (pk K) fun t14 w =>
 GDo t14 true (fun E => E t1 w) w fun t16 w =>
 GDo t14 true (fun E => DoX Tryz.prog (mBin .lss 3 t16 (.int .i64 24)) w (pk K) E) w fun t17 w =>
 DoX Tryz.prog (mPick t14 t17 (.bool false)) w (pk K) fun t18 w =>
 GDo t18 true (fun E => DoX Tryz.prog (mFA 27 t5 5) w (pk K) E) w fun t20 w =>
 GDo t18 true (fun E => DoX Tryz.prog (mLoad 25 t20) w (pk K) E) w fun t21 w =>
 GDo t18 true (fun E => DoX Tryz.prog (mB .len #[25] 3 #[false] #[t21]) w (pk K) E) w fun t22 w =>
 GDo t18 true (fun E => DoX Tryz.prog (mBin .geq 3 t22 (.int .i64 8191)) w (pk K) E) w fun t23 w =>
 DoX Tryz.prog (mPick t18 t23 (.bool false)) w (pk K) fun t24 w =>
 IfX t24 (DoX Tryz.prog (mIface 200 (.int .i64 6)) w (pk K) fun t25 w =>
 DoX Tryz.prog (mPanic t25) w (pk K) fun _ w =>
 J2 [] w) (J2 [] w)) (fun vs2 w => ∀ _ : Sg,S_parse_reader_array_1 t0 t1 t5 t6 w N1 K))
def S_parse_reader_array (t0 t1 : Value) (w : World) (K : Ending→World→Prop) : Prop :=
 DoX Tryz.prog (mAlloc 27) w (pk K) fun t4 w =>
 DoX Tryz.prog (mBuild 27 #[(0,(.int .i64 6))]) w (pk K) fun t7 w =>
 DoX Tryz.prog (mAlloc 27) w (pk K) fun t5 w =>
 DoX Tryz.prog (mStore 27 t5 t7) w (pk K) fun _ w =>
 LoopX [] w (fun vs1 w N1 => ∀ _ : Sg,S_parse_reader_array_0 t0 t1 t4 t5 w N1 K)
theorem S_parse_reader_array_eq (t0 t1 : Value) (w : World) (K : Ending→World→Prop) : wpX Tryz.prog 35 [(7,[])] [(2,[])] none (bodyOf Tryz.f187) (topQ Tryz.prog [.cell 4 27] K) (startX [t0,t1]) [] w = S_parse_reader_array t0 t1 w K := by kernel_rfl
theorem S_parse_reader_array_ok {t0 t1 : Value} {w : World} {K : Ending→World→Prop} (h : S_parse_reader_array t0 t1 w K) : Calls Tryz.prog 187 #[t0,t1] w K :=
 calls_of_wpX Tryz.func187 rfl rfl rfl rfl (Eq.mpr (S_parse_reader_array_eq t0 t1 w K) h)
def S_parse_reader_dict_3 (t0 t1 t5 t6 : Value) (w : World) (N1 : List Value→World→Prop) (K : Ending→World→Prop) : Prop :=
 HeldX w (fun S5 w =>
 HDo Tryz.prog S5 (mFA 90 t6 4) fun t40 =>
 HDo Tryz.prog S5 (mLoad 9 t40) fun t41 =>
 CallX Tryz.prog 118 #[t0] w (pm1 (pm1 (pm1 (pm1 (pm1 (pm1 (pk K))))))) fun t44 w =>
 S5 w∧(CallX Tryz.prog 117 #[t0,t44,t1] w (pm1 (pm1 (pm1 (pm1 (pm1 (pm1 (pk K))))))) fun t46 w =>
 S5 w∧(DoX Tryz.prog (mMapU 229 t5 t41 t46) w (pm1 (pm1 (pm1 (pm1 (pm1 (pm1 (pk K))))))) fun _ w =>
 S5 w∧(N1 [] w))))
def S_parse_reader_dict_2 (t4 t5 t9 t68 t69 t70 : Value) (w : World) (N3 : List Value→World→Prop) (K : Ending→World→Prop) : Prop :=
 DoX Tryz.prog (mBin .lss 3 t70 t69) w (pk K) fun t71 w =>
 IfX t71 (DoX Tryz.prog (mIA 24 t68 t70) w (pk K) fun t72 w =>
 DoX Tryz.prog (mLoad 9 t72) w (pk K) fun t73 w =>
 DoX Tryz.prog (mFA 27 t9 5) w (pk K) fun t74 w =>
 DoX Tryz.prog (mLoad 25 t74) w (pk K) fun t75 w =>
 DoX Tryz.prog (mLook 229 t5 t73 false) w (pk K) fun t78 w =>
 DoX Tryz.prog (mBuildS 25 1 #[(0,t78)]) w (pk K) fun t79 w =>
 DoX Tryz.prog (mB .append #[25,25] 25 #[false,false] #[t75,t79]) w (pk K) fun t80 w =>
 DoX Tryz.prog (mFA 27 t9 5) w (pk K) fun t81 w =>
 DoX Tryz.prog (mStore 25 t81 t80) w (pk K) fun _ w =>
 DoX Tryz.prog (mBin .add 3 t70 (.int .i64 1)) w (pk K) fun t82 w =>
 N3 [t82] w) (DoX Tryz.prog (mLoad 27 t9) w (pk K) fun t83 w =>
 DoX Tryz.prog (mStore 27 t4 t83) w (pk K) fun _ w =>
 RetX Tryz.prog [.cell t4 27] w K)
def S_parse_reader_dict_1 (t4 t5 t9 t49 : Value) (w : World) (N2 : List Value→World→Prop) (K : Ending→World→Prop) : Prop :=
 DoX Tryz.prog (mNext t49 false 0) w (pk K) fun t50 w =>
 DoX Tryz.prog (mExt t50 0) w (pk K) fun t51 w =>
 IfX t51 (DoX Tryz.prog (mEntry t49) w (pk K) fun t52 w =>
 DoX Tryz.prog (mExt t52 0) w (pk K) fun t53 w =>
 DoX Tryz.prog (mExt t52 1) w (pk K) fun t54 w =>
 DoX Tryz.prog (mAlloc 27) w (pk K) fun t11 w =>
 DoX Tryz.prog (mStore 27 t11 t54) w (pk K) fun _ w =>
 DoX Tryz.prog (mFA 27 t11 0) w (pk K) fun t55 w =>
 DoX Tryz.prog (mLoad 3 t55) w (pk K) fun t56 w =>
 DoX Tryz.prog (mEq .neq 3 (.tmp 56) (.const (.int .i64 0)) t56 (.int .i64 0)) w (pk K) fun t57 w =>
 IfX t57 (DoX Tryz.prog (mFA 27 t9 4) w (pk K) fun t58 w =>
 DoX Tryz.prog (mLoad 24 t58) w (pk K) fun t59 w =>
 DoX Tryz.prog (mBuildS 24 1 #[(0,t53)]) w (pk K) fun t61 w =>
 DoX Tryz.prog (mB .append #[24,24] 24 #[false,false] #[t59,t61]) w (pk K) fun t62 w =>
 DoX Tryz.prog (mFA 27 t9 4) w (pk K) fun t63 w =>
 DoX Tryz.prog (mStore 24 t63 t62) w (pk K) fun _ w =>
 N2 [] w) (N2 [] w)) (DoX Tryz.prog (mFA 27 t9 4) w (pk K) fun t64 w =>
 DoX Tryz.prog (mLoad 24 t64) w (pk K) fun t65 w =>
 CallX Tryz.prog 228 #[t65] w (pk K) fun t66 w =>
 DoX Tryz.prog (mFA 27 t9 4) w (pk K) fun t67 w =>
 DoX Tryz.prog (mLoad 24 t67) w (pk K) fun t68 w =>
 DoX Tryz.prog (mB .len #[24] 3 #[false] #[t68]) w (pk K) fun t69 w =>
 LoopX [(.int .i64 0)] w (fun vs3 w N3 => ∀ _ : Sg,S_parse_reader_dict_2 t4 t5 t9 t68 t69 (vs3.getD 0 undef) w N3 K))
def S_parse_reader_dict_0 (t0 t1 t4 t5 : Value) (w : World) (N1 : List Value→World→Prop) (K : Ending→World→Prop) : Prop :=
 CallX Tryz.prog 118 #[t0] w (pk K) fun t16 w =>
 DoX Tryz.prog (mAlloc 90) w (pk K) fun t6 w =>
 DoX Tryz.prog (mStore 90 t6 t16) w (pk K) fun _ w =>
 DoX Tryz.prog (mLoad 90 t6) w (pk K) fun t17 w =>
 CallX Tryz.prog 226 #[t17,(.int .i64 6),(.string ⟨#[62,62]⟩)] w (pk K) fun t18 w =>
 IfX t18 (DoX Tryz.prog (mBuild 27 #[(0,(.int .i64 7))]) w (pk K) fun t47 w =>
 DoX Tryz.prog (mAlloc 27) w (pk K) fun t9 w =>
 DoX Tryz.prog (mStore 27 t9 t47) w (pk K) fun _ w =>
 DoX Tryz.prog (mRange 229 t5) w (pk K) fun t49 w =>
 LoopX [] w (fun vs2 w N2 => ∀ _ : Sg,S_parse_reader_dict_1 t4 t5 t9 t49 w N2 K)) (DoX Tryz.prog (mFA 90 t6 4) w (pk K) fun t21 w =>
 DoX Tryz.prog (mLoad 9 t21) w (pk K) fun t22 w =>
 DoX Tryz.prog (mLook 229 t5 t22 true) w (pk K) fun t23 w =>
 DoX Tryz.prog (mExt t23 0) w (pk K) fun t24 w =>
 DoX Tryz.prog (mExt t23 1) w (pk K) fun t25 w =>
 DoX Tryz.prog (mAlloc 27) w (pk K) fun t7 w =>
 DoX Tryz.prog (mStore 27 t7 t24) w (pk K) fun _ w =>
 JoinX (fun J4 =>
 DoX Tryz.prog (mFA 90 t6 0) w (pk K) fun t27 w =>
 DoX Tryz.prog (mLoad 3 t27) w (pk K) fun t28 w =>
 DoX Tryz.prog (mEq .neq 3 (.tmp 28) (.const (.int .i64 4)) t28 (.int .i64 4)) w (pk K) fun t29 w =>
 IfX t29 (DoX Tryz.prog (mIface 200 (.int .i64 3)) w (pk K) fun t30 w =>
 DoX Tryz.prog (mPanic t30) w (pk K) fun _ w =>
 J4 [] w) (IfX t25 (DoX Tryz.prog (mIface 200 (.int .i64 9)) w (pk K) fun t33 w =>
 DoX Tryz.prog (mPanic t33) w (pk K) fun _ w =>
 J4 [] w) (DoX Tryz.prog (mB .len #[229] 3 #[false] #[t5]) w (pk K) fun t36 w =>
 DoX Tryz.prog (mBin .geq 3 t36 (.int .i64 8191)) w (pk K) fun t37 w =>
 IfX t37 (DoX Tryz.prog (mIface 200 (.int .i64 6)) w (pk K) fun t38 w =>
 DoX Tryz.prog (mPanic t38) w (pk K) fun _ w =>
 J4 [] w) (J4 [] w)))) (fun vs4 w => ∀ _ : Sg,S_parse_reader_dict_3 t0 t1 t5 t6 w N1 K))
def S_parse_reader_dict (t0 t1 : Value) (w : World) (K : Ending→World→Prop) : Prop :=
 DoX Tryz.prog (mAlloc 27) w (pk K) fun t4 w =>
 DoX Tryz.prog (mMap 229 none) w (pk K) fun t14 w =>
 LoopX [] w (fun vs1 w N1 => ∀ _ : Sg,S_parse_reader_dict_0 t0 t1 t4 t14 w N1 K)
theorem S_parse_reader_dict_eq (t0 t1 : Value) (w : World) (K : Ending→World→Prop) : wpX Tryz.prog 84 [(11,[])] [(2,[]),(14,[]),(20,[70])] none (bodyOf Tryz.f188) (topQ Tryz.prog [.cell 4 27] K) (startX [t0,t1]) [] w = S_parse_reader_dict t0 t1 w K := by kernel_rfl
theorem S_parse_reader_dict_ok {t0 t1 : Value} {w : World} {K : Ending→World→Prop} (h : S_parse_reader_dict t0 t1 w K) : Calls Tryz.prog 188 #[t0,t1] w K :=
 calls_of_wpX Tryz.func188 rfl rfl rfl rfl (Eq.mpr (S_parse_reader_dict_eq t0 t1 w K) h)
def S_parse_face (t0 r : Value) (w : World) (K : Ending→World→Prop) : Prop :=
 DoX Tryz.prog (mEq .eql 20 (.tmp 5) (.const .nilIface) r .nilIface) w (pk K) fun t7 w =>
 IfX t7 (K (.returned (.tuple #[])) w) (DoX Tryz.prog (mTA r 20 200 true) w (pk K) fun t8 w =>
 DoX Tryz.prog (mExt t8 1) w (pk K) fun t9 w =>
 DoX Tryz.prog (mExt t8 0) w (pk K) fun t10 w =>
 IfX t9 (DoX Tryz.prog (mNil t0) w (pk K) fun t13 w =>
 DoX Tryz.prog (mStore 30 t13 t10) w (pk K) fun _ w =>
 K (.returned (.tuple #[])) w) (DoX Tryz.prog (mPanic r) w (pk K) fun _ w =>
 K (.returned (.tuple #[])) w))
theorem S_parse_face_eq (t0 r : Value) (w : World) (K : Ending→World→Prop) : wpX Tryz.prog 14 [] [] none (sndOf (bodyOf Tryz.f116)) (topD Tryz.prog [] K) (upd (startX [t0]) 5 r) [] w = S_parse_face t0 r w K := by kernel_rfl
theorem S_parse_face_dok {t0 : Value} {u : FrameMode} {w : World} {R : Ending→FrameMode→World→Prop} (h : S_parse_face t0 (recV u) w (fun e w => R e (recM u) w)) : CallsD Tryz.prog 116 #[t0] u w R :=
 callsD_recover Tryz.func116 rfl rfl rfl rfl rfl rfl rfl rfl (Eq.mpr (S_parse_face_eq t0 (recV u) w _) h)
def S_parse_reader_read_p0 (x0 : Value) (x1 : Value) (K : Ending→World→Prop) := pd Tryz.prog [.cell x0 27,.cell x1 30] K [{ target := .fn (.func 116) #[],args := #[x1] }]
def S_parse_reader_read (t0 : Value) (w : World) (K : Ending→World→Prop) : Prop :=
 DoX Tryz.prog (mAlloc 27) w (pk K) fun t2 w =>
 DoX Tryz.prog (mAlloc 30) w (pk K) fun t3 w =>
 CallX Tryz.prog 118 #[t0] w (S_parse_reader_read_p0 t2 t3 K) fun t6 w =>
 CallX Tryz.prog 117 #[t0,t6,(.int .i64 0)] w (S_parse_reader_read_p0 t2 t3 K) fun t7 w =>
 DoX Tryz.prog (mStore 27 t2 t7) w (S_parse_reader_read_p0 t2 t3 K) fun _ w =>
 DoX Tryz.prog (mStore 30 t3 (.int .i64 0)) w (S_parse_reader_read_p0 t2 t3 K) fun _ w =>
 Leave Tryz.prog [.cell t2 27,.cell t3 30] K [{ target := .fn (.func 116) #[],args := #[t3] }] .returning w
theorem S_parse_reader_read_eq (t0 : Value) (w : World) (K : Ending→World→Prop) : wpX Tryz.prog 8 [] [] none (bodyOf Tryz.f68) (topQ Tryz.prog [.cell 2 27,.cell 3 30] K) (startX [t0]) [] w = S_parse_reader_read t0 w K := by kernel_rfl
theorem S_parse_reader_read_ok {t0 : Value} {w : World} {K : Ending→World→Prop} (h : S_parse_reader_read t0 w K) : Calls Tryz.prog 68 #[t0] w K :=
 calls_of_wpX Tryz.func68 rfl rfl rfl rfl (Eq.mpr (S_parse_reader_read_eq t0 w K) h)
def S_parse_Object (t0 t1 : Value) (w : World) (K : Ending→World→Prop) : Prop :=
 DoX Tryz.prog (mAlloc 27) w (pk K) fun t4 w =>
 DoX Tryz.prog (mBin .lss 3 t1 (.int .i64 0)) w (pk K) fun t11 w =>
 GDo t11 false (fun E => E t1 w) w fun t13 w =>
 GDo t11 false (fun E => E t0 w) w fun t14 w =>
 GDo t11 false (fun E => DoX Tryz.prog (mB .len #[9] 3 #[false] #[t14]) w (pk K) E) w fun t15 w =>
 GDo t11 false (fun E => DoX Tryz.prog (mBin .gtr 3 t13 t15) w (pk K) E) w fun t16 w =>
 DoX Tryz.prog (mPick t11 (.bool true) t16) w (pk K) fun t17 w =>
 IfX t17 (DoX Tryz.prog (mBuild 27 #[]) w (pk K) fun t18 w =>
 DoX Tryz.prog (mStore 27 t4 t18) w (pk K) fun _ w =>
 RetX Tryz.prog [.cell t4 27,.val (.int .i64 0),.val (.int .i64 1)] w K) (DoX Tryz.prog (mBuild 118 #[(0,t0),(1,t1)]) w (pk K) fun t21 w =>
 DoX Tryz.prog (mBox 118 t21) w (pk K) fun t22 w =>
 CallX Tryz.prog 68 #[t22] w (pk K) fun t25 w =>
 DoX Tryz.prog (mExt t25 0) w (pk K) fun t26 w =>
 DoX Tryz.prog (mExt t25 1) w (pk K) fun t27 w =>
 DoX Tryz.prog (mAlloc 27) w (pk K) fun t8 w =>
 DoX Tryz.prog (mStore 27 t8 t26) w (pk K) fun _ w =>
 DoX Tryz.prog (mEq .neq 30 (.tmp 28) (.const (.int .i64 0)) t27 (.int .i64 0)) w (pk K) fun t29 w =>
 IfX t29 (DoX Tryz.prog (mBuild 27 #[]) w (pk K) fun t30 w =>
 DoX Tryz.prog (mStore 27 t4 t30) w (pk K) fun _ w =>
 RetX Tryz.prog [.cell t4 27,.val (.int .i64 0),.val t27] w K) (HeldX w (fun S1 w =>
 HDo Tryz.prog S1 (mLoad 27 t8) fun t32 =>
 HDo Tryz.prog (fun _ => True) (mNil t22) fun t34 =>
 HDo Tryz.prog (fun _ => True) (mFA 118 t34 1) fun t35 =>
 HDo Tryz.prog S1 (mLoad 3 t35) fun t36 =>
 DoX Tryz.prog (mStore 27 t4 t32) w (pm1 (pm1 (pm1 (pm1 (pm1 (pm1 (pm1 (pk K)))))))) fun _ w =>
 S1 w∧(RetX Tryz.prog [.cell t4 27,.val t36,.val (.int .i64 0)] w K))))
theorem S_parse_Object_eq (t0 t1 : Value) (w : World) (K : Ending→World→Prop) : wpX Tryz.prog 37 [] [] none (bodyOf Tryz.f47) (topQ Tryz.prog [.cell 4 27,.tmp 5,.tmp 6] K) (startX [t0,t1]) [] w = S_parse_Object t0 t1 w K := by kernel_rfl
theorem S_parse_Object_ok {t0 t1 : Value} {w : World} {K : Ending→World→Prop} (h : S_parse_Object t0 t1 w K) : Calls Tryz.prog 47 #[t0,t1] w K :=
 calls_of_wpX Tryz.func47 rfl rfl rfl rfl (Eq.mpr (S_parse_Object_eq t0 t1 w K) h)
end Go.Proofs.YtjloddgofmdmgaaGreatDoor
namespace Go.Proofs.YtjloddgofmdmgaaGreatDoor
open Eng Go.RowKit
 attribute [local congr] g_congr
section
variable {w : World} {PK : List PanicEntry→World→Prop} {K : Value→World→Prop} {S : Nat→Prop} {w0 : World} {L : List Ent}
theorem o_tkb (x : Lx.Tok) (ho : OwnS S w0 w L) (k : ∀ b w',OwnS S w0 w' (tokE b x :: L)→K (.pointer (some ⟨b,0,none⟩)) w') : DoX Tryz.prog (mBox 90 (tokV x)) w PK K :=
 o_new (fun b => .pointer (some ⟨b,0,none⟩)) (tokC x) 90 (fun _ => by kernel_rfl) ho k
theorem tk_put (i : Nat) {b : Nat} {x y : Lx.Tok} (ho : OwnS S w0 w L) (hi : L[i]? = some (tokE b x)) (k : ∀ w',OwnS S w0 w' (L.set i (tokE b y))→K undef w') :
  DoX Tryz.prog (mStore 90 (.pointer (some ⟨b,0,none⟩)) (tokV y)) w PK K := o_put i ho hi (new := tokC y) szTok (tokC_one y) rfl k
theorem tk_k (ho : OwnS S w0 w L) (i : Nat) {b : Nat} {x : Lx.Tok} (hi : L[i]? = some (tokE b x)) : DoX Tryz.prog (mLoad 3 (.pointer (some ⟨b,0,none⟩))) w PK K = K (.int .i64 x.k) w := l_cell nInt (ho.cell i hi 0 rfl)
theorem tk_a (ho : OwnS S w0 w L) (i : Nat) {b : Nat} {x : Lx.Tok} (hi : L[i]? = some (tokE b x)) : DoX Tryz.prog (mLoad 3 (.pointer (some ⟨b,1,none⟩))) w PK K = K (.int .i64 x.a) w := l_cell nInt (ho.cell i hi 1 rfl)
theorem tk_t (ho : OwnS S w0 w L) (i : Nat) {b : Nat} {x : Lx.Tok} (hi : L[i]? = some (tokE b x)) : DoX Tryz.prog (mLoad 3 (.pointer (some ⟨b,2,none⟩))) w PK K = K (.int .i64 x.t) w := l_cell nInt (ho.cell i hi 2 rfl)
theorem tk_n (ho : OwnS S w0 w L) (i : Nat) {b : Nat} {x : Lx.Tok} (hi : L[i]? = some (tokE b x)) : DoX Tryz.prog (mLoad 2 (.pointer (some ⟨b,3,none⟩))) w PK K = K (.int .i64 x.n) w := l_cell nI65 (ho.cell i hi 3 rfl)
theorem tk_s (ho : OwnS S w0 w L) (i : Nat) {b : Nat} {x : Lx.Tok} (hi : L[i]? = some (tokE b x)) : DoX Tryz.prog (mLoad 9 (.pointer (some ⟨b,4,none⟩))) w PK K = K (.string ⟨x.s.toArray⟩) w := l_cell nStr (ho.cell i hi 4 rfl)
theorem tk_v (ho : OwnS S w0 w L) (i : Nat) {b : Nat} {x : Lx.Tok} (hi : L[i]? = some (tokE b x)) : DoX Tryz.prog (mLoad 90 (.pointer (some ⟨b,0,none⟩))) w PK K = K (tokV x) w := l_at (ho.agg i hi aggTok)
theorem ft4 : fOff Tryz.prog 90 4 = some 4 := by kernel_rfl
theorem tk_new {f : Nat} {args : Array Value} {r : Lx.Tok × Int} {PK1 PK2 PK3 PK4 PK5 : List PanicEntry→World→Prop} {K : Value→Value→World→Prop} (ho : OwnS S w0 w L) (h : Ret Tryz.prog f args w (fun v w' => v = tokR r∧Below w.heap.size w w'))
  (k : ∀ b w',OwnS S w0 w' (tokE b r.1 :: L)→K (.int .i64 r.2) (.pointer (some ⟨b,0,none⟩)) w') :
  CallX Tryz.prog f args w PK1 fun t w => DoX Tryz.prog (mExt t 0) w PK2 fun u w => DoX Tryz.prog (mExt t 1) w PK3 fun v w => DoX Tryz.prog (mAlloc 90) w PK4 fun q w => DoX Tryz.prog (mStore 90 q u) w PK5 fun _ w => K v q w:= by
 refine c_below ho h ?_
 rintro v w1 rfl ho
 rw [tokR,x_0,x_1]
 refine o_tok ho fun b w2 ho => ?_
 exact tk_put 0 ho rfl fun w3 ho => k b w3 ho
end
theorem pfirst_ret (t : Lx.Tok) (w : World) (h0 : t.k≠0) : Ret Tryz.prog 179 #[tokV t] w (fun v w' => v = .bool (Ps.begins t)∧Below w.heap.size w w'):= by
 refine ret_of fun K hK => S_parse_begins_ok ?_
 unfold S_parse_begins
 refine o_tkb t (Own.start w) fun b w1 ho => ?_
 have fin : ∀ {q : Bool},q = Ps.begins t→K (.returned (.bool q)) w1 := fun e => hK _ _ ⟨by rw [e],ho.done⟩
 by_cases h6 : t.k = 6
 ·by_cases h1 : t.s = [91]
  ·simp only [rs,fa_t0,fa_t4',tk_k ho 0 rfl,tk_s ho 0 rfl,h6,h1,decide_true,g_un,show ¬ (6 : Int) = 5 by decide,decide_false]
   exact fin (by simp [Ps.begins,h6,h1])
  ·simp only [rs,fa_t0,fa_t4',tk_k ho 0 rfl,tk_s ho 0 rfl,h6,decide_eq_false h1,decide_true,g_un,show ¬ (6 : Int) = 5 by decide,decide_false]
   exact fin (by simp [Ps.begins,h6,h1])
 by_cases h5 : t.k = 5
 ·by_cases h1 : t.s = Ps.tru
  ·have h1' : t.s = [116,114,117,101] := h1
   simp only [rs,fa_t0,fa_t4',tk_k ho 0 rfl,tk_s ho 0 rfl,h5,h1',decide_true,decide_false,g_un]
   exact fin (by simp [Ps.begins,h5,h1])
  have h1' : ¬ t.s = [116,114,117,101] := h1
  by_cases h2 : t.s = Ps.fal
  ·have h2' : t.s = [102,97,108,115,101] := h2
   simp only [rs,fa_t0,fa_t4',tk_k ho 0 rfl,tk_s ho 0 rfl,h5,h2',decide_true,decide_false,g_un,show ¬ ([102,97,108,115,101] : List UInt8) = [116,114,117,101] by decide]
   exact fin (by simp [Ps.begins,h5,h2])
  have h2' : ¬ t.s = [102,97,108,115,101] := h2
  simp only [rs,fa_t0,fa_t4',tk_k ho 0 rfl,tk_s ho 0 rfl,h5,decide_eq_false h1',decide_eq_false h2',decide_true,decide_false,g_un]
  exact fin (by simp [Ps.begins,h5,h1,h2]; first | exact Iff.rfl | exact decide_eq_decide.2 Iff.rfl)
 ·simp only [rs,fa_t0,fa_t4',tk_k ho 0 rfl,tk_s ho 0 rfl,h6,h5,decide_true,decide_false,g_un]
  exact fin (by simp [Ps.begins,h6,h5,h0])
theorem pword_ret (t : Lx.Tok) (k : Int) (s : List UInt8) (w : World) : Ret Tryz.prog 226 #[tokV t,.int .i64 k,.string ⟨s.toArray⟩] w (fun v w' => v = .bool (decide (t.k = k) && decide (t.s = s))∧Below w.heap.size w w'):= by
 refine ret_of fun K hK => S_parse_word_ok ?_
 unfold S_parse_word
 refine o_tkb t (Own.start w) fun b w1 ho => ?_
 by_cases h : t.k = k
 ·simp only [rs,fa_t0,fa_t4',tk_k ho 0 rfl,tk_s ho 0 rfl,decide_eq_true h,g_un]
  exact hK _ _ ⟨by rw [decide_eq_true h,Bool.true_and],ho.done⟩
 ·simp only [rs,fa_t0,fa_t4',tk_k ho 0 rfl,tk_s ho 0 rfl,decide_eq_false h,g_un]
  exact hK _ _ ⟨by rw [decide_eq_false h,Bool.false_and],ho.done⟩
end Go.Proofs.YtjloddgofmdmgaaGreatDoor
namespace Go.Proofs.YtjloddgofmdmgaaGreatDoor
set_option maxRecDepth 20000
open Eng Go.RowKit
section
variable {w : World} {S : Nat→Prop} {w0 : World} {L : List Ent} {PK : List PanicEntry→World→Prop} {K : Value→World→Prop}
theorem o_obs1 (o : Ob) {vk vc : Value} (hk : vk.oneCell' = true) (hc : vc.oneCell' = true) (ho : OwnS S w0 w L) (k : ∀ b w',OwnS S w0 w' (obE b o vk vc :: L)→K (.slice (some ⟨b,0,none⟩) 1 1) w') : DoX Tryz.prog (mBuildS 25 1 #[(0,obV o vk vc)]) w PK K:= by
 cases vk <;> first | (cases hk; done) | skip
 all_goals cases vc <;> first | (cases hc; done) | exact o_new (fun b => .slice (some ⟨b,0,none⟩) 1 1) (obC o _ _) 27 (fun _ => by kernel_rfl) ho k
theorem o_strb1 (s : List UInt8) (ho : OwnS S w0 w L) (k : ∀ b w',OwnS S w0 w' (.cells b [.string ⟨s.toArray⟩] 9 :: L)→K (.slice (some ⟨b,0,none⟩) 1 1) w') : DoX Tryz.prog (mBuildS 24 1 #[(0,.string ⟨s.toArray⟩)]) w PK K :=
 o_new (fun b => .slice (some ⟨b,0,none⟩) 1 1) [.string ⟨s.toArray⟩] 9 (fun _ => by kernel_rfl) ho k
end
theorem strsV_app (a b : List (List UInt8)) : strsV (a++b) = strsV a++strsV b := by simp [strsV]
end Go.Proofs.YtjloddgofmdmgaaGreatDoor
namespace Go.Proofs.YtjloddgofmdmgaaGreatDoor
set_option maxRecDepth 20000
open Eng Go.RowKit
theorem SlA.form {A : Nat→Prop} {w : World} {v : Value} {sz n : Nat} {cs : List Value} (h : SlA A w v sz n cs) : ∃ a cap,v = .slice a n cap∧n≤cap:= by
 obtain ⟨⟨_,a,cap,rfl,_⟩,_,h3⟩ := h
 exact ⟨a,cap,rfl,h3 a n cap rfl⟩
end Go.Proofs.YtjloddgofmdmgaaGreatDoor
namespace Go.Proofs.YtjloddgofmdmgaaGreatDoor
set_option maxRecDepth 20000
open Eng Go.RowKit
theorem elStr : elB Tryz.prog 9 1 16 = true := by kernel_rfl
theorem elOb : elB Tryz.prog 27 6 88 = true := by kernel_rfl
theorem szStr : (Tryz.prog.info? 9).map (·.size) = some 1 := by kernel_rfl
section
variable {w : World} {S : Nat→Prop} {w0 : World} {L : List Ent} {PK : List PanicEntry→World→Prop} {K : Value→World→Prop}
theorem o_apS (i : Nat) {v v2 : Value} {n m : Nat} {xs news : List Value} {cb : Array Bool} (ho : OwnS S w0 w L) (hi : L[i]? = some (.urow 9 1 v n xs)) (hs : Sl w v2 1 m news) (h1 : ∀ u ∈ news,u.oneCell' = true) (hb : n + m≤1000000000000)
  (k : ∀ v' w',OwnS S w0 w' (L.set i (.urow 9 1 v' (n + m) (xs++news)))→K v' w') : DoX Tryz.prog (mB .append #[24,24] 24 cb #[v,v2]) w PK K :=
 o_appendU i Tryz.underlying24 elStr (by decide) ho hi hs h1 (by omega) (by omega) k
theorem o_apO (i : Nat) {v v2 : Value} {n m : Nat} {xs news : List Value} {cb : Array Bool} (ho : OwnS S w0 w L) (hi : L[i]? = some (.urow 27 6 v n xs)) (hs : Sl w v2 6 m news) (h1 : ∀ u ∈ news,u.oneCell' = true) (hb : n + m≤1000000000000)
  (k : ∀ v' w',OwnS S w0 w' (L.set i (.urow 27 6 v' (n + m) (xs++news)))→K v' w') : DoX Tryz.prog (mB .append #[25,25] 25 cb #[v,v2]) w PK K :=
 o_appendU i Tryz.underlying25 elOb (by decide) ho hi hs h1 (by omega) (by omega) k
end
end Go.Proofs.YtjloddgofmdmgaaGreatDoor
namespace Go.Proofs.YtjloddgofmdmgaaGreatDoor
namespace Eng
open Go.RowKit
def strK (k : List UInt8) : Value := .string ⟨k.toArray⟩
def MapIs (w : World) (b : Nat) (al : List (List UInt8 × Value)) : Prop := ∃ es clock,w.heap[b]? = some (.map es clock)∧es.toList.map (fun e => (e.key,e.val)) = al.map fun p => (strK p.1,p.2)
def lookA (al : List (List UInt8 × Value)) (k : List UInt8) : Option Value := (al.find? fun p => decide (p.1 = k)).map (·.2)
theorem findNow_str (k : List UInt8) : ∀ (es : List MapEntry) (al : List (List UInt8 × Value)) (i : Nat),es.map (fun e => (e.key,e.val)) = al.map (fun p => (strK p.1,p.2)) →
  ∃ r,Instr.findNow .string (strK k) es i = some r∧r.map (·.2) = lookA al k
 | [],[],i,_ => ⟨none,rfl,rfl⟩
 | e :: es,p :: al,i,h => by
  simp only [List.map_cons,List.cons.injEq,Prod.mk.injEq] at h
  obtain ⟨⟨h1,h2⟩,h3⟩ := h
  have hs : Instr.sameNow .string (strK k) e.key = some (decide (k = p.1)):= by
   rw [h1]
   show some ((⟨k.toArray⟩ : ByteArray) == ⟨p.1.toArray⟩) = _
   congr 1
   show (k.toArray == p.1.toArray) = _
   by_cases hk : k = p.1 <;> simp [hk]
  by_cases hk : k = p.1
  ·refine ⟨some (i,e.val),?_,?_⟩
   ·rw [Instr.findNow,hs]; simp [hk]
   ·simp [lookA,hk,h2]
  ·obtain ⟨r,hr1,hr2⟩ := findNow_str k es al (i + 1) h3
   refine ⟨r,?_,?_⟩
   ·rw [Instr.findNow,hs]; simp [hk,hr1]
   ·have hk' : ¬ p.1 = k := fun e => hk e.symm
    rw [hr2]; simp [lookA,hk']
 | [],_ :: _,_,h => by simp at h
 | _ :: _,[],_,h => by simp at h
section
variable {S : Nat→Prop} {P : Program} {w w0 : World} {L : List Ent} {PK : List PanicEntry→World→Prop} {K : Value→World→Prop}
theorem run_checkStr {k : TypeId} {e : Bool} (hk : P.underlying k = some .string) (x : List UInt8) : (Instr.checkKey e 10000 k (strK x)).run P w = .ok () w:= by
 show (Instr.checkKey e (9999 + 1) k (strK x)).run P w = _
 rw [Instr.checkKey]
 simp [run_underlying hk,strK]
theorem run_findStr {k : TypeId} (hk : P.underlying k = some .string) (x : List UInt8) {es : List MapEntry} {al : List (List UInt8 × Value)} (h : es.map (fun e => (e.key,e.val)) = al.map (fun p => (strK p.1,p.2))) :
  ∃ r,(Instr.findKey k (strK x) es).run P w = .ok r w∧r.map (·.2) = lookA al x:= by
 obtain ⟨r,h1,h2⟩ := findNow_str x es al 0 h
 refine ⟨r,?_,h2⟩
 simp [Instr.findKey,run_underlying hk,h1]
theorem run_look {T k e : TypeId} {ok : Bool} {b : Nat} {al : List (List UInt8 × Value)} {z : Value} (ht : P.underlying T = some (.map k e)) (hk : P.underlying k = some .string) (hz : (P.info? e).bind (·.zero) = some z) (h : MapIs w b al) (x : List UInt8) :
  (mLook T (.map (some b)) (strK x) ok).run P w = .ok (.value (if ok then .tuple #[(lookA al x).getD z,.bool (lookA al x).isSome] else (lookA al x).getD z)) w:= by
 obtain ⟨es,clock,h1,h2⟩ := h
 obtain ⟨r,r1,r2⟩ := run_findStr (P := P) (w := w) hk x h2
 have hz' : (zeroValue e).run P w = .ok z w:= by
  obtain ⟨i,hi,hzi⟩ := Option.bind_eq_some_iff.1 hz
  simp [zeroValue,typeInfo,hi,hzi]
 refine mv_run ?_
 rw [← r2]
 cases r with
 | none => simp [Instr.lookup,run_underlying ht,getObj,Sem.run,h1,run_checkStr hk x,r1,hz']
 | some p =>
  obtain ⟨i,v⟩ := p
  simp [Instr.lookup,run_underlying ht,getObj,Sem.run,h1,run_checkStr hk x,r1]
end
theorem lookA_none {al : List (List UInt8 × Value)} {k : List UInt8} : lookA al k = none ↔ k ∉ al.map (·.1):= by
 unfold lookA
 rw [Option.map_eq_none_iff,List.find?_eq_none]
 exact ⟨fun h hm => by obtain ⟨p,hp,rfl⟩ := List.mem_map.1 hm; simpa using h p hp,fun h p hp hc => h (List.mem_map.2 ⟨p,hp,by simpa using hc⟩)⟩
end Eng
end Go.Proofs.YtjloddgofmdmgaaGreatDoor
namespace Go.Proofs.YtjloddgofmdmgaaGreatDoor
set_option maxRecDepth 20000
open Eng Go.RowKit
theorem Sl.cellAt {w : World} {b off cap sz n : Nat} {cs : List Value} (h : Sl w (.slice (some ⟨b,off,none⟩) n cap) sz n cs) : ∀ j u,cs[j]? = some u→w.cell? ⟨b,off + j,none⟩ = some u:= by
 obtain ⟨_,a,cap',e,_,h2⟩ := h
 injection e with e1 _ _
 exact fun j u hj => (h2 _ e1.symm).2 j u hj
theorem m_ob7 {w : World} {PK : List PanicEntry→World→Prop} {K : Value→World→Prop} : DoX Tryz.prog (mBuild 27 #[(0,(.int .i64 7))]) w PK K = K (obV (.mk 7 0 0 [] [] []) nilS nilS) w := do_eq (by kernel_rfl)
end Go.Proofs.YtjloddgofmdmgaaGreatDoor

namespace Go.Proofs.YtjloddgofmdmgaaGreatDoor
open Eng Go.RowKit Go.ChangeShapes Go.WideShapes
inductive Rws {α : Type} (R : List Value→α→Prop) : List Value→List α→Prop
 | nil : Rws R [] []
 | cons {a rest : List Value} {x : α} {xs : List α} : R a x→Rws R rest xs→Rws R (a++rest) (x :: xs)
section
variable {α : Type} {R R' : List Value→α→Prop}
theorem Rws.snoc {a : List Value} {x : α} (hx : R a x) : ∀ {cs : List Value} {xs : List α},Rws R cs xs→Rws R (cs++a) (xs++[x])
 | _,_,.nil => by
  have := Rws.cons hx (Rws.nil (R := R))
  simpa using this
 | _,_,.cons h t => by
  rw [List.append_assoc,List.cons_append]
  exact .cons h (Rws.snoc hx t)
end
section
variable {H : Type} {enc : TypeId × Value→H} {W : World} {sp : Nat→Bool} {held : Bool}
theorem open_slice_of {E T : TypeId} {n : Nat} {α : Type} {R : List Value→α→Prop} {wt : α→Nat} (ht : Tryz.prog.underlying T = some (.slice E)) (hc : Tryz.prog.cellsOf E = n) (hn : 0 < n)
  (hel : ∀ fuel cs x,DataW.trod enc Tryz.prog W 0 sp held fuel E cs = some x→∃ a,R cs a∧cs.length = n∧wt a≤Rows.uptoBulk x.1)
  {fuel : Nat} {cs : List Value} {x : DataW H × List MemPlace} (h : DataW.trod enc Tryz.prog W 0 sp held fuel T cs = some x) :
  ∃ (v : Value) (ds : List Value) (xs : List α),cs = [v]∧SlA (InW W) W v n xs.length ds∧Rws R ds xs∧xs.length≤9223372036854775807∧(xs.map wt).sum + 1≤Rows.uptoBulk x.1:= by
 rcases DataW.trod_slice ht h with ⟨rfl,rfl⟩ | ⟨a,len,cap,elems,rest,n',rfl,rfl,rfl,_,hlc,hcm,hel2,hat,_,_⟩
 ·exact ⟨_,[],[],rfl,SlA.nil _ _ _ _,.nil,by simp,by simp [Rows.uptoBulk]⟩
 ·rw [hc] at hat
  have step : ∀ k,k≤len→∃ (cs : List Value) (os : List α),os.length = k∧cs.length = k * n∧Rws R cs os∧(∀ j u,cs[j]? = some u→W.cell? (a.add j) = some u)∧(os.map wt).sum≤Rows.uptoBulkAll ((elems.take k).map (·.1)):= by
   intro k
   induction k with
   | zero => intro _; exact ⟨[],[],rfl,by simp,.nil,(fun j u hj => by simp at hj),by simp [Rows.uptoBulkAll]⟩
   | succ k ihk =>
    intro hk
    obtain ⟨cs,os,h1,hcl,h2,h3,h4⟩ := ihk (by omega)
    have hki : k < elems.length := by omega
    have hb := hat k (by omega)
    rw [List.getElem?_eq_getElem hki,Option.bind_eq_some_iff] at hb
    obtain ⟨ck,hck,htr⟩ := hb
    obtain ⟨o,ho,hlo,hw⟩ := hel n' ck _ htr
    refine ⟨cs++ck,os++[o],by simp [h1],by rw [List.length_append,hcl,hlo,Nat.add_mul,Nat.one_mul],Rws.snoc ho h2,fun j u hj => ?_,?_⟩
    ·rcases Nat.lt_or_ge j cs.length with hj1 | hj1
     ·rw [List.getElem?_append_left hj1] at hj; exact h3 j u hj
     ·rw [List.getElem?_append_right hj1] at hj
      have hj6 : j - cs.length < n:= by
       have := (List.getElem?_eq_some_iff.1 hj).1
       omega
      have := (World.cells?_some hck).2.2 (j - cs.length) hj6
      rw [← hj,← this,addr_add,show k * n + (j - cs.length) = j by omega]
    ·rw [List.take_succ_eq_append_getElem hki,List.map_append,List.map_append,bulkAll_append,List.sum_append]
     simp only [List.map_cons,List.map_nil,Rows.uptoBulkAll,List.sum_cons,List.sum_nil]
     omega
  obtain ⟨cs,os,h1,hcl,h2,h3,h4⟩ := step len (Nat.le_refl _)
  refine ⟨_,cs,os,rfl,?_,h2,?_,?_⟩
  ·rw [h1]
   exact SlA.of_cells hn (by rw [hcl]) h3 (fun b hb => hb) hlc
  ·rw [h1]; simp only [maxLen] at hcm; omega
  ·rw [← hel2,List.take_length] at h4
   simp only [Rows.uptoBulk]
   omega
end
end Go.Proofs.YtjloddgofmdmgaaGreatDoor
namespace Go.Proofs.YtjloddgofmdmgaaGreatDoor
set_option maxRecDepth 20000
open Eng Go.RowKit
theorem obV_inj {o p : Ob} {vk vc xk xc : Value} (h : obV o vk vc = obV p xk xc) : vk = xk∧vc = xc:= by
 have : (obC o vk vc).toArray = (obC p xk xc).toArray := by injection h
 have : obC o vk vc = obC p xk xc := by simpa using congrArg Array.toList this
 simp only [obC,List.cons.injEq,and_true] at this
 exact ⟨this.2.2.2.2.1,this.2.2.2.2.2⟩
theorem OV.slices {A : Nat→Prop} {w : World} {o : Ob} {vk vc : Value} (h : OV A w (obV o vk vc) o) : ∃ cs,ObAt A w o vk vc cs:= by
 obtain ⟨xk,xc,cs,e,ha⟩ := h.open
 obtain ⟨rfl,rfl⟩ := obV_inj e
 exact ⟨cs,ha⟩
theorem OV.oneK {A : Nat→Prop} {w : World} {o : Ob} {vk vc : Value} (h : OV A w (obV o vk vc) o) : vk.oneCell' = true := by obtain ⟨cs,ha⟩ := h.slices; exact ha.keys.one
theorem OV.oneC {A : Nat→Prop} {w : World} {o : Ob} {vk vc : Value} (h : OV A w (obV o vk vc) o) : vc.oneCell' = true := by obtain ⟨cs,ha⟩ := h.slices; exact ha.kids.one
section
variable {w : World} {PK : List PanicEntry→World→Prop} {K : Value→World→Prop} {S : Nat→Prop} {w0 : World} {L : List Ent}
end
end Go.Proofs.YtjloddgofmdmgaaGreatDoor










namespace Go.Proofs.YtjloddgofmdmgaaGreatDoor
set_option maxRecDepth 20000
open Eng Go.RowKit
namespace Eng
def Ent.two (e f : Ent) : Ent := ⟨fun k => e.blk k∨f.blk k,fun w => e.is w∧f.is w∧∀ k,e.blk k→¬ f.blk k,
 fun h k => ⟨e.keep h.1 fun b hb => k b (.inl hb),f.keep h.2.1 fun b hb => k b (.inr hb),h.2.2⟩,fun h k hk => hk.elim (e.lt h.1 k) (f.lt h.2.1 k)⟩
section
variable {S : Nat→Prop} {w w0 : World} {L : List Ent}
theorem OwnS.split {e f : Ent} (ho : OwnS S w0 w (.two e f :: L)) : OwnS S w0 w (e :: f :: L):= by
 obtain ⟨⟨he,hf,hd⟩,hb⟩ := ho.all (.two e f) (by simp)
 obtain ⟨a1,a2⟩ := List.pairwise_cons.1 ho.apart
 refine ⟨ho.grew,fun x hx => ?_,List.pairwise_cons.2 ⟨fun x hx k hk => ?_,List.pairwise_cons.2 ⟨fun x hx k hk => a1 x hx k (.inr hk),a2⟩⟩⟩
 ·rcases List.mem_cons.1 hx with rfl | hx
  ·exact ⟨he,fun k hk => hb k (.inl hk)⟩
  rcases List.mem_cons.1 hx with rfl | hx
  ·exact ⟨hf,fun k hk => hb k (.inr hk)⟩
  ·exact ho.all x (List.mem_cons_of_mem _ hx)
 ·rcases List.mem_cons.1 hx with rfl | hx
  ·exact hd k hk
  ·exact a1 x hx k (.inl hk)
end
end Eng
section
variable {P : Program} {S : World→Prop} {K : Value→Prop}
theorem hd_do {m : Sem Next} (v : Value) (h : ∀ w,S w→m.run P w = .ok (.value v) w) (k : K v) : HDo P S m K := ⟨v,h,k⟩
theorem hd_pure {m : Sem Next} (v : Value) (h : ∀ w,m.run P w = .ok (.value v) w) (k : K v) : HDo P S m K := ⟨v,fun w _ => h w,k⟩
end
section
variable {w : World} {PK : List PanicEntry→World→Prop} {K : Value→World→Prop} {S : Nat→Prop} {w0 : World} {L : List Ent}
end
end Go.Proofs.YtjloddgofmdmgaaGreatDoor
namespace Go.Proofs.YtjloddgofmdmgaaGreatDoor
namespace Eng
open Go.RowKit
section
variable {S : Nat→Prop} {P : Program} {w w0 : World} {L : List Ent} {PK : List PanicEntry→World→Prop} {K : Value→World→Prop}
theorem OwnS.pair {e f : Ent} (ho : OwnS S w0 w (e :: f :: L)) : OwnS S w0 w (.two e f :: L):= by
 obtain ⟨a1,a2⟩ := List.pairwise_cons.1 ho.apart
 obtain ⟨a3,a4⟩ := List.pairwise_cons.1 a2
 have h1 := ho.all e (by simp)
 have h2 := ho.all f (by simp)
 refine ⟨ho.grew,fun x hx => ?_,List.pairwise_cons.2 ⟨fun x hx k hk => ?_,a4⟩⟩
 ·rcases List.mem_cons.1 hx with rfl | hx
  ·exact ⟨⟨h1.1,h2.1,a1 f (by simp)⟩,fun k hk => hk.elim (h1.2 k) (h2.2 k)⟩
  ·exact ho.all x (by simp [hx])
 ·rcases hk with hk | hk
  ·exact a1 x (by simp [hx]) k hk
  ·exact a3 x hx k hk
structure Lent (P : Program) (f : Nat) (args : Array Value) (e : Ent) (M : Mem) (w : World) (ok : Prop) (e' : Ent) (R : Value→Mem→Prop) (c : List PanicEntry) : Prop where
 ret : ok→Ret P f args w (fun v w' => ∃ N,M.le N∧R v N∧Turn (.two e (.mem M)) (.two e' (.mem N)) w w')
 pan : ¬ ok→Pan P f args w (fun c' w' => c' = c∧∃ e2,Turn (.two e (.mem M)) (.two e2 (.mem M)) w w')
theorem lent_of {f : Nat} {args : Array Value} {e e' : Ent} {M : Mem} {ok : Prop} {R : Value→Mem→Prop} {c : List PanicEntry}
  (h : ∀ K : Ending→World→Prop,OwnS (Ent.two e (.mem M)).blk w w [e,.mem M] →
   (ok→∀ (v : Value) (N : Mem) (w' : World) (L : List Ent),OwnS (Ent.two e (.mem M)).blk w w' (e' :: .mem N :: L)→M.le N→R v N→K (.returned v) w') →
   (¬ ok→∀ (e2 : Ent) (N : Mem) (w' : World) (L : List Ent),OwnS (Ent.two e (.mem M)).blk w w' (e2 :: .mem N :: L)→M.le N→K (.panicked c) w')→Calls P f args w K)
  (h0 : (Ent.two e (.mem M)).is w) : Lent P f args e M w ok e' R c:= by
 have ho : OwnS (Ent.two e (.mem M)).blk w w [e,.mem M] := (OwnS.lend h0).split
 constructor
 ·intro hk
  refine ret_of fun K hK => h K ho (fun _ v N w' L hw hle hr => hK _ _ ⟨N,hle,hr,OwnS.back hw.pair⟩) fun hn => absurd hk hn
 ·intro hn
  refine pan_of fun K hK => h K ho (fun hk => absurd hk hn) fun _ e2 N w' L hw hle => ?_
  refine hK _ _ ⟨rfl,e2,?_⟩
  have hb := OwnS.back hw.pair
  refine ⟨hb.grew,?_,fun k hk => hb.new k (hk.elim .inl fun hm => .inr (hle.A k hm))⟩
  obtain ⟨i1,i2,i3⟩ := hb.is
  exact ⟨i1,Mem.has_of hle i2,fun k hk hm => i3 k hk (hle.A k hm)⟩
end
end Eng
end Go.Proofs.YtjloddgofmdmgaaGreatDoor
namespace Go.Proofs.YtjloddgofmdmgaaGreatDoor
set_option maxRecDepth 20000
open Eng Go.RowKit
abbrev keyE (v : Value) (ks : List (List UInt8)) : Ent := .urow 9 1 v ks.length (strsV ks)
abbrev kidE (v : Value) (n : Nat) (cs : List Value) : Ent := .urow 27 6 v n cs
section
variable {w : World} {S : Nat→Prop} {w0 : World} {L : List Ent} {PK PK2 : List PanicEntry→World→Prop} {K : Value→World→Prop}
theorem key_row (i : Nat) {v : Value} {ks : List (List UInt8)} (ho : OwnS S w0 w L) (hi : L[i]? = some (keyE v ks)) {j : Nat} (hj : j < ks.length) : ∃ g cap,v = .slice (some ⟨g,0,none⟩) ks.length cap ∧
  (∀ w,(mIA 24 v (.int .i64 (j : Int))).run Tryz.prog w = .ok (.value (.pointer (some ⟨g,j,none⟩))) w)∧∀ w',(keyE v ks).is w'→(mLoad 9 (.pointer (some ⟨g,j,none⟩))).run Tryz.prog w' = .ok (.value (.string ⟨ks[j].toArray⟩)) w':= by
 obtain ⟨g,cap,rfl⟩ := urow_open (ho.at_ i hi) (by omega)
 refine ⟨g,cap,rfl,fun w => ?_,fun w' h => ?_⟩
 ·refine (run_ia Tryz.underlying24 szStr (by omega) (by omega)).trans ?_
  rw [Int.toNat_natCast,Nat.mul_one,Nat.zero_add]
 ·obtain ⟨b,off,cap',e,hc⟩ := sl_open (Sl.urow h) (by omega)
  cases e
  exact run_load_cell nStr5 (by have := hc j _ (strsV_get hj); rwa [Nat.zero_add] at this)
end
end Go.Proofs.YtjloddgofmdmgaaGreatDoor
namespace Go.Proofs.YtjloddgofmdmgaaGreatDoor
set_option maxRecDepth 20000
open Eng Go.RowKit
def objR (e : Ps.R) (v : Value) (N : Mem) : Prop := ∃ u,v = .tuple #[u,.int .i64 e.2.1,.int .i64 e.2.2]∧OV N.A N.w u e.1
theorem ob0_ov2 {A : Nat→Prop} {w : World} : OV A w (obV Vl.ob0 nilS nilS) Vl.ob0 := ObAt.ov (o := Vl.ob0) ⟨SlA.nil _ _ _ _,SlA.nil _ _ _ _,OVs.nil⟩
section
variable {w : World} {S : Nat→Prop} {w0 : World} {L : List Ent}
theorem ret_bad {KE : Ending→World→Prop} {PK PK2 : List PanicEntry→World→Prop} (i : Nat) {b : Nat} {o : Ob} {vk vc : Value} {e : Int} (ho : OwnS S w0 w L) (hi : L[i]? = some (obE b o vk vc))
  (k : ∀ w',OwnS S w0 w' (L.set i (obE b Vl.ob0 nilS nilS))→KE (.returned (.tuple #[obV Vl.ob0 nilS nilS,.int .i64 0,.int .i64 e])) w') :
  DoX Tryz.prog (mBuild 27 #[]) w PK fun t w => DoX Tryz.prog (mStore 27 (.pointer (some ⟨b,0,none⟩)) t) w PK2 fun _ w => RetX Tryz.prog [.cell (.pointer (some ⟨b,0,none⟩)) 27,.val (.int .i64 0),.val (.int .i64 e)] w KE:= by
 rw [m_ob0]
 refine ob_put i rfl rfl ho hi fun w' ho => ?_
 have hil : i < L.length := (List.getElem?_eq_some_iff.1 hi).1
 have hi2 : (L.set i (obE b Vl.ob0 nilS nilS))[i]? = some (obE b Vl.ob0 nilS nilS) := by simp [hil]
 exact ret_v3 (rv_cell (ho.agg i hi2 aggOb)) rv_val rv_val (k w' ho)
end
end Go.Proofs.YtjloddgofmdmgaaGreatDoor

namespace Go.Proofs.YtjloddgofmdmgaaGreatDoor
open Go
structure Lx where
 off : Int
 sty : List UInt8
 pre : List UInt8
 first : Int
 deriving DecidableEq
namespace Lb
end Lb
end Go.Proofs.YtjloddgofmdmgaaGreatDoor


















namespace Go.Proofs.YtjloddgofmdmgaaGreatDoor
open Eng Go.RowKit
theorem text_ok {o : Ob} (h : (Wr.text o).2 = 0) : Vl.check 1 o = 0∧o.k≠9∧(Wr.text o).1 = Pl.join (Wr.parts o):= by
 unfold Wr.text at h ⊢
 split at h
 ·rename_i hc; exact absurd h hc
 split at h
 ·cases h
 rename_i hc h9
 rw [if_neg hc,if_neg h9]
 exact ⟨Classical.not_not.1 hc,h9,rfl⟩
end Go.Proofs.YtjloddgofmdmgaaGreatDoor







namespace Go.Proofs.YtjloddgofmdmgaaGreatDoor
open Go
namespace Ps
open Lx (next Tok Single)
open Wr (num parts partsL partsD)
def At (s : List UInt8) (a : Int) (p : List UInt8) (b : Int) : Prop := ∃ (x : Tok) (a' : Int),Single p x∧next s a = ({ x with a := a',t := b },0)
def Toks (s : List UInt8) : Int→List (List UInt8)→Int→Prop
 | a,[],b => a = b
 | a,p :: ps,b => ∃ c,At s a p c∧Toks s c ps b
end Ps
end Go.Proofs.YtjloddgofmdmgaaGreatDoor

namespace Go.Proofs.YtjloddgofmdmgaaGreatDoor
open Go
namespace Lx
open Oc
structure Form (x : Tok) : Prop where
 int : x.k = 1→-2147483647≤x.n∧x.n≤2147483647
 real : x.k = 2→Fx.okB x.n = true
 str : x.s.length≤32767
 name : x.k = 4→Vl.name x.s = true
 kind : x.k = 0∨x.k = 1∨x.k = 2∨x.k = 3∨x.k = 4∨x.k = 5∨x.k = 6
theorem none_form : Form none_ := ⟨fun e => by simp [none_] at e,fun e => by simp [none_] at e,by simp [none_],fun e => by simp [none_] at e,.inl rfl⟩
theorem told_form {k a t : Int} {x : List UInt8} {m : Int} (h : (told k a t x m).2 = 0) (hm : m≤32767) (hk : k = 3∨k = 4∨k = 5) (hn : k = 4→m≤127∧(0 : UInt8) ∉ x) : Form (told k a t x m).1:= by
 have e := told_ok h
 unfold told at h
 split at h
 ·simp [refused] at h
 rename_i hx
 rw [e]
 refine ⟨?_,?_,?_,?_,?_⟩
 ·intro h1; simp only at h1; omega
 ·intro h1; simp only at h1; omega
 ·show x.length≤_; omega
 ·intro h1
  obtain ⟨h2,h3⟩ := hn h1
  show Vl.name x = true
  unfold Vl.name
  simp only [Bool.and_eq_true,decide_eq_true_eq]
  exact ⟨by omega,h3⟩
 ·show k = 0∨k = 1∨k = 2∨k = 3∨k = 4∨k = 5∨k = 6
  omega
theorem regular_pos : ∀ c : UInt8,regular c = true→c≠0 := all8 (by decide +kernel)
theorem byte_pos (a b : UInt8) : ¬ (digit a < 0)→¬ (digit b < 0)→¬ (16 * digit a + digit b = 0)→byte (digit a) (digit b)≠0:= by
 have hd : ∀ c : UInt8,digit c≤15 := all8 (by decide +kernel)
 intro h1 h2 h3 h4
 have ha := hd a
 have hb := hd b
 unfold byte at h4
 have h5 := congrArg UInt8.toNat h4
 rw [UInt8.toNat_ofNat_of_lt' (by show _ < 256; omega)] at h5
 have : (0 : UInt8).toNat = 0 := rfl
 omega
theorem nameF_pos (n : Nat) : ∀ (l x : List UInt8),l.length≤n→l.all regular = true→nameF l = some x→(0 : UInt8) ∉ x:= by
 induction n with
 | zero =>
  intro l x hl _ h
  cases l with
  | nil => simp [nameF] at h; subst h; simp
  | cons _ _ => simp at hl
 | succ n ih =>
  intro l x hl hr h
  cases l with
  | nil => simp [nameF] at h; subst h; simp
  | cons c t =>
   simp only [List.all_cons,Bool.and_eq_true] at hr
   by_cases hc : c = 35
   ·subst hc
    match t,hl,hr,h with
    | [],_,_,h => simp [nameF] at h
    | [a],_,_,h => simp [nameF] at h
    | a :: b :: t,hl,hr,h =>
     simp only [nameF,if_true] at h
     split at h
     ·cases h
     ·rename_i hh
      simp only [not_or] at hh
      obtain ⟨y,hy,rfl⟩ := map_some h
      have h1 : (0 : UInt8) ∉ y := ih t y (by simp at hl; omega) (by simp at hr ⊢; exact hr.2.2.2) hy
      have h2 := byte_pos a b hh.1 hh.2.1 hh.2.2
      simp only [List.mem_cons,not_or]
      exact ⟨fun e => h2 e.symm,h1⟩
   ·rw [nameF_ne hc] at h
    obtain ⟨y,hy,rfl⟩ := map_some h
    have h1 : (0 : UInt8) ∉ y := ih t y (by simpa using hl) hr.2 hy
    simp only [List.mem_cons,not_or]
    exact ⟨fun e => regular_pos c hr.1 e.symm,h1⟩
theorem runF_reg : ∀ l : List UInt8,(l.take (runF l)).all regular = true := fun l => (runF_take l).1
theorem cut_run (s : List UInt8) (i : Nat) : (cut s i (run s i)).all regular = true:= by
 unfold cut run
 rw [Nat.add_sub_cancel_left]
 exact runF_reg _
theorem wordT_form {t : List UInt8} {a b : Int} (h : (wordT t a b).2 = 0) : Form (wordT t a b).1:= by
 unfold wordT at h ⊢
 split at h
 ·rename_i h1
  rw [if_pos h1]
  split at h
  ·rename_i h2; simp [refused] at h; exact absurd h h2
  rename_i h2
  rw [if_neg h2]
  have h2 := Classical.not_not.1 h2
  refine ⟨fun _ => ?_,fun e => ?_,by simp,fun e => ?_,.inr (.inl rfl)⟩
  ·unfold whole at h2 ⊢
   split at h2
   ·simp at h2
   ·rename_i h3
    rw [if_neg h3]
    simp only
    split <;> omega
  ·simp at e
  ·simp at e
 rename_i h1
 rw [if_neg h1]
 split at h
 ·rename_i h2
  rw [if_pos h2]
  refine ⟨fun e => ?_,fun _ => ?_,by simp,fun e => ?_,.inr (.inr (.inl rfl))⟩
  ·simp at e
  ·have h3 := h2.2
   show Fx.okB (Fx.read t).1 = true
   unfold Fx.read at h3 ⊢
   split at h3
   ·rename_i h4
    rw [if_pos h4]
    split at h3
    ·simp at h3
    ·rename_i h5
     rw [if_neg h5]
     generalize (if Fx.minus t = true then -Fx.mag t else Fx.mag t) = q at h3 ⊢
     unfold Fx.ans at h3 ⊢
     cases hq : Fx.okB q with
     | true => rw [if_pos rfl]; exact hq
     | false => rw [hq] at h3; simp at h3
   ·simp at h3
  ·simp at e
 rename_i h2
 rw [if_neg h2]
 split at h
 ·simp [refused] at h
 rename_i h3
 rw [if_neg h3]
 exact told_form h (by decide) (by decide) (fun h => absurd h (by decide))
theorem mark_form (s : List UInt8) (a n : Nat) (hn : n≤2) : Form (mark s a n).1:= by
 refine ⟨fun e => ?_,fun e => ?_,?_,fun e => ?_,by simp [mark]⟩
 ·simp [mark] at e
 ·simp [mark] at e
 ·show (cut s a (a + n)).length≤_
  unfold cut
  rw [List.length_take]; omega
 ·simp [mark] at e
theorem token_form {s : List UInt8} {a : Nat} (h : (token s a).2 = 0) : Form (token s a).1:= by
 unfold token at h ⊢
 split at h
 ·exact ⟨fun e => by simp at e,fun e => by simp at e,by simp,fun e => by simp at e,.inl rfl⟩
 rename_i c t hd
 split at h
 ·rename_i h1; rw [if_pos h1]; exact mark_form s a 1 (by omega)
 rename_i h1; rw [if_neg h1]
 split at h
 ·rename_i h2; rw [if_pos h2]
  split at h
  ·rename_i h3; rw [if_pos h3]; exact mark_form s a 2 (by omega)
  ·rename_i h3; rw [if_neg h3]
   unfold hex at h ⊢
   split at h
   ·exact none_form
   ·exact told_form h (by decide) (by decide) (fun h => absurd h (by decide))
 rename_i h2; rw [if_neg h2]
 split at h
 ·rename_i h3; rw [if_pos h3]
  split at h
  ·rename_i h4; rw [if_pos h4]; exact mark_form s a 2 (by omega)
  ·simp [refused] at h
 rename_i h3; rw [if_neg h3]
 split at h
 ·rename_i h4; rw [if_pos h4]
  unfold name at h ⊢
  split at h
  ·simp [refused] at h
  ·rename_i x hx
   refine told_form h (by decide) (by decide) (fun _ => ⟨by decide,nameF_pos _ _ _ (Nat.le_refl _) (cut_run s (a + 1)) hx⟩)
 rename_i h4; rw [if_neg h4]
 split at h
 ·rename_i h5; rw [if_pos h5]
  unfold text at h ⊢
  split at h
  ·simp [refused] at h
  ·exact told_form h (by decide) (by decide) (fun h => absurd h (by decide))
 rename_i h5; rw [if_neg h5]
 split at h
 ·simp [refused] at h
 rename_i h6; rw [if_neg h6]
 exact wordT_form h
theorem next_form {s : List UInt8} {i : Int} (h : (next s i).2 = 0) : Form (next s i).1:= by
 unfold next at h ⊢
 split at h
 ·simp [refused] at h
 rename_i h1
 rw [if_neg h1]
 exact token_form h
end Lx
end Go.Proofs.YtjloddgofmdmgaaGreatDoor
namespace Go.Proofs.YtjloddgofmdmgaaGreatDoor
open Go
namespace Ps
open Lx (next Tok)
theorem obj_open {s : List UInt8} {n : Nat} {a : Int} (h : (obj s n a).2.2 = 0) : (next s a).2 = 0∧(next s a).1.k≠0∧begins (next s a).1 = true∧∃ m,n = m + 1 ∧
  obj s n a = if (next s a).1.k≠6 then leaf s (next s a).1 else if (next s a).1.s = [91] then arr s (decide (m≠0)) (obj s m) (s.length + 1) (next s a).1.t [] else dict s (obj s m) (s.length + 1) (next s a).1.t dict0 []:= by
 cases n with
 | zero =>
  rw [obj] at h
  split at h
  ·rename_i h1; exact absurd h h1
  split at h
  ·simp [bad] at h
  split at h
  ·simp [bad] at h
  ·simp [bad] at h
 | succ n =>
  rw [obj] at h
  split at h
  ·rename_i h1; exact absurd h h1
  rename_i h1
  split at h
  ·simp [bad] at h
  rename_i h2
  split at h
  ·simp [bad] at h
  rename_i h3
  refine ⟨Classical.not_not.1 h1,h2,by simpa using h3,n,rfl,?_⟩
  rw [obj,if_neg h1,if_neg h2,if_neg h3]
theorem leaf_wt {s : List UInt8} {a : Int} (h0 : (next s a).2 = 0) : (leaf s (next s a).1).1.wt≤32773:= by
 have f := (Lx.next_form h0).str
 unfold leaf
 (repeat' split) <;> simp [Ob.wt,Ob.wts,Pl.tot,Vl.ob0] <;> omega
def GoodW (sub : Int→R) : Prop := ∀ a,(sub a).2.2 = 0→((sub a).1.wt : Int)≤40000 * ((sub a).2.1 - a)
theorem arr_wt {s : List UInt8} {ok : Bool} {sub : Int→R} (hg : GoodW sub) (hb : Good s sub) (a0 : Int) : ∀ (m : Nat) (a : Int) (acc : List Ob),(Ob.wts acc : Int)≤40000 * (a - a0)→(arr s ok sub m a acc).2.2 = 0→((arr s ok sub m a acc).1.wt : Int)≤6 + 40000 * ((arr s ok sub m a acc).2.1 - a0)
 | 0,a,acc,_,h => by simp [arr,bad] at h
 | m + 1,a,acc,hw,h => by
  rw [arr] at h ⊢
  split at h
  ·rename_i h1
   rw [if_pos h1]
   have b := Lx.next_bd h1.1 (by rw [h1.2.1]; decide)
   have := Lx.skip_ge s a.toNat
   simp [Ob.wt,Pl.tot]; omega
  rename_i h1
  rw [if_neg h1]
  split at h
  ·simp [bad] at h
  rename_i h2
  rw [if_neg h2]
  split at h
  ·rename_i h3; exact absurd h h3
  rename_i h3
  rw [if_neg h3]
  split at h
  ·rename_i h4; exact absurd h h4
  rename_i h4
  rw [if_neg h4]
  have h4 := Classical.not_not.1 h4
  have g := hg a h4
  exact arr_wt hg hb a0 m _ _ (by rw [Vl.wts_app,Ob.wts,Ob.wts]; omega) h
theorem join_wt {o v : Ob} {key : List UInt8} : (join o key v).wt≤o.wt + (key.length + 1) + v.wt:= by
 unfold join
 split
 ·exact Vl.put_wt o key v
 ·omega
theorem dict_wt {s : List UInt8} {sub : Int→R} (hg : GoodW sub) (hb : Good s sub) (a0 : Int) : ∀ (m : Nat) (a : Int) (o : Ob) (met : List (List UInt8)),(o.wt : Int)≤6 + 40000 * (a - a0)→(dict s sub m a o met).2.2 = 0→((dict s sub m a o met).1.wt : Int)≤6 + 40000 * ((dict s sub m a o met).2.1 - a0)
 | 0,a,o,met,_,h => by simp [dict,bad] at h
 | m + 1,a,o,met,hw,h => by
  rw [dict] at h ⊢
  split at h
  ·rename_i h1; exact absurd h h1
  rename_i h1
  rw [if_neg h1]
  have h1 := Classical.not_not.1 h1
  split at h
  ·rename_i h2
   rw [if_pos h2]
   have b := Lx.next_bd h1 (by rw [h2.1]; decide)
   have := Lx.skip_ge s a.toNat
   simp only; omega
  rename_i h2
  rw [if_neg h2]
  split at h
  ·simp [bad] at h
  rename_i h3
  rw [if_neg h3]
  split at h
  ·simp [bad] at h
  rename_i h4
  rw [if_neg h4]
  split at h
  ·simp [bad] at h
  rename_i h5
  rw [if_neg h5]
  split at h
  ·simp [bad] at h
  rename_i h6
  rw [if_neg h6]
  split at h
  ·rename_i h7; exact absurd h h7
  rename_i h7
  rw [if_neg h7]
  have h7 := Classical.not_not.1 h7
  have g := hg _ h7
  have b := Lx.next_bd h1 h3
  have := Lx.skip_ge s a.toNat
  have f := (Lx.next_form h1).str
  have hj := join_wt (o := o) (key := (next s a).1.s) (v := (sub (next s a).1.t).1)
  exact dict_wt hg hb a0 m _ _ _ (by omega) h
theorem obj_wt (s : List UInt8) : ∀ n,GoodW (obj s n):= by
 intro n
 induction n with
 | zero =>
  intro a h
  obtain ⟨_,_,_,m,hm,_⟩ := obj_open h
  omega
 | succ n ih =>
  intro a h
  obtain ⟨h1,h2,h3,m,hm,he⟩ := obj_open h
  have hm : n = m := by omega
  subst hm
  rw [he] at h ⊢
  have b := Lx.next_bd h1 h2
  have := Lx.skip_ge s a.toNat
  split at h
  ·rename_i h4
   rw [if_pos h4]
   have := leaf_wt h1
   have := leaf_bd h1 h2
   omega
  rename_i h4
  rw [if_neg h4]
  split at h
  ·rename_i h5
   rw [if_pos h5]
   have := arr_wt (ok := decide (n≠0)) ih (obj_good s n) (next s a).1.t (s.length + 1) (next s a).1.t [] (by simp [Ob.wts]) h
   omega
  ·rename_i h5
   rw [if_neg h5]
   have := dict_wt ih (obj_good s n) (next s a).1.t (s.length + 1) (next s a).1.t dict0 [] (by simp [dict0,Ob.wt,Ob.wts,Pl.tot]) h
   omega
end Ps
end Go.Proofs.YtjloddgofmdmgaaGreatDoor

namespace Go.Proofs.YtjloddgofmdmgaaGreatDoor
set_option maxRecDepth 20000
open Eng Go.RowKit
theorem ob1_ov2 {A : Nat→Prop} {w : World} {k n g : Int} {s : List UInt8} : OV A w (obV (ob1 k n g s) nilS nilS) (ob1 k n g s) := ObAt.ov (o := ob1 k n g s) ⟨SlA.nil _ _ _ _,SlA.nil _ _ _ _,OVs.nil⟩
end Go.Proofs.YtjloddgofmdmgaaGreatDoor
namespace Go.Proofs.YtjloddgofmdmgaaGreatDoor
set_option maxRecDepth 20000
open Eng Go.RowKit
namespace Eng
theorem Ent.below {e : Ent} {w w' : World} (h : e.is w) (hb : Below w.heap.size w w') : e.is w' := e.keep h fun k hk => hb.block k (e.lt h k hk)
section
variable {S : Nat→Prop} {P : Program} {w w0 : World} {L : List Ent} {PK : List PanicEntry→World→Prop} {K : Value→World→Prop}
theorem c_rm {f : Nat} {args : Array Value} {e e' : Ent} {M : Mem} {ok : Prop} {R : Value→Mem→Prop} {c : List PanicEntry} (ho : OwnS S w0 w L) (i : Nat) (hi : L[i]? = some (.two e (.mem M))) (h : Lent P f args e M w ok e' R c)
  (kr : ∀ v N w',ok→M.le N→R v N→OwnS S w0 w' (L.set i (.two e' (.mem N)))→K v w') (kp : ∀ e2 w',¬ ok→OwnS S w0 w' (L.set i (.two e2 (.mem M)))→PK c w') : CallX P f args w PK K:= by
 by_cases hk : ok
 ·exact c_ret (h.ret hk) fun v w' ⟨N,hle,hr,ht⟩ => kr v N w' hk hle hr (ho.turn i hi ht)
 ·exact c_pan (h.pan hk) fun c' w' ⟨hc,e2,ht⟩ => by subst hc; exact kp e2 w' hk (ho.turn i hi ht)
end
end Eng
def rdC (s : List UInt8) (a : Int) : List Value := [.string ⟨s.toArray⟩,.int .i64 a]
abbrev rdE (b : Nat) (s : List UInt8) (a : Int) : Ent := .cells b (rdC s a) 118
abbrev rmE (b : Nat) (s : List UInt8) (a : Int) (M : Mem) : Ent := .two (rdE b s a) (.mem M)
abbrev rdP (b : Nat) : Value := .pointer (some ⟨b,0,none⟩)
def wrongE (e : Int) : PanicEntry := { v := .iface 200 (.int .i64 e),recovered := false }
theorem fr0 : fOff Tryz.prog 118 0 = some 0 := by kernel_rfl
theorem fr1 : fOff Tryz.prog 118 1 = some 1 := by kernel_rfl
theorem nfW : notIface Tryz.prog 200 = true := by kernel_rfl
section
variable {w : World} {PK : List PanicEntry→World→Prop} {K : Value→World→Prop} {S : Nat→Prop} {w0 : World} {L : List Ent}
theorem fa_r0 {b : Nat} : DoX Tryz.prog (mFA 118 (.pointer (some ⟨b,0,none⟩)) 0) w PK K = K (.pointer (some ⟨b,0,none⟩)) w := f_addr fr0
theorem fa_r1 {b : Nat} : DoX Tryz.prog (mFA 118 (.pointer (some ⟨b,0,none⟩)) 1) w PK K = K (.pointer (some ⟨b,1,none⟩)) w := f_addr fr1
theorem rd_s {b : Nat} {s : List UInt8} {a : Int} (h : (rdE b s a).is w) : DoX Tryz.prog (mLoad 9 (.pointer (some ⟨b,0,none⟩))) w PK K = K (.string ⟨s.toArray⟩) w := l_cell nStr5 (cells_cell (T := 118) (cs := rdC s a) (i := 0) h rfl)
theorem rdr_s {b : Nat} {s : List UInt8} {a : Int} (h : (rdE b s a).is w) : (mLoad 9 (.pointer (some ⟨b,0,none⟩))).run Tryz.prog w = .ok (.value (.string ⟨s.toArray⟩)) w := run_load_cell nStr5 (cells_cell (T := 118) (cs := rdC s a) (i := 0) h rfl)
theorem rdr_a {b : Nat} {s : List UInt8} {a : Int} (h : (rdE b s a).is w) : (mLoad 3 (.pointer (some ⟨b,1,none⟩))).run Tryz.prog w = .ok (.value (.int .i64 a)) w := run_load_cell nInt5 (cells_cell (T := 118) (cs := rdC s a) (i := 1) h rfl)
theorem rd_put (i : Nat) {b : Nat} {s : List UInt8} {a a' : Int} (ho : OwnS S w0 w L) (hi : L[i]? = some (rdE b s a)) (k : ∀ w',OwnS S w0 w' (L.set i (rdE b s a'))→K undef w') : DoX Tryz.prog (mStore 3 (.pointer (some ⟨b,1,none⟩)) (.int .i64 a')) w PK K :=
 o_store i ho hi (by kernel_rfl) rfl (show 1 < 2 by omega) k
theorem throw {e : Int} {K2 : Value→Value→World→Prop} {PK2 : List PanicEntry→World→Prop} (h : PK2 [wrongE e] w) : DoX Tryz.prog (mIface 200 (.int .i64 e)) w PK fun t w => DoX Tryz.prog (mPanic t) w PK2 (K2 t):= by
 rw [m_iface nfW,m_panic]
 exact h
end
theorem peek_ret (b : Nat) (s : List UInt8) (a at_ : Int) (w : World) (hs : s.length≤1099511627776) (hr : (rdE b s a).is w) :
  Ret Tryz.prog 225 #[rdP b,.int .i64 at_] w (fun v w' => v = .tuple #[tokV (Lx.next s at_).1,.bool (decide ((Lx.next s at_).2 = 0))]∧Below w.heap.size w w'):= by
 refine ret_of fun K hK => S_parse_reader_peek_ok ?_
 unfold S_parse_reader_peek
 refine o_tok (Own.start w) fun b4 w1 ho => ?_
 rw [m_nil,fa_r0,rd_s (Ent.below (e := rdE b s a) hr ho.done)]
 refine tk_new ho (next_ret s at_ w1 hs) fun b6 w2 ho => ?_
 rw [tk_v ho 0 rfl]
 simp only [rs]
 refine tk_put 1 ho rfl fun w3 ho => ?_
 exact ret_v2 (rv_cell (ho.agg 1 rfl aggTok)) rv_val (hK _ _ ⟨rfl,ho.done⟩)
def Has (s : List UInt8) (a : Int) : Prop := (Lx.next s a).2 = 0∧(Lx.next s a).1.k≠0
def lacks (s : List UInt8) (a : Int) : Int := if (Lx.next s a).2≠0 then (Lx.next s a).2 else 4
theorem pnext_ret (b : Nat) (s : List UInt8) (a : Int) (M : Mem) (w : World) (hs : s.length≤1099511627776) (hr : (rmE b s a M).is w) :
  Lent Tryz.prog 118 #[rdP b] (rdE b s a) M w (Has s a) (rdE b s (Lx.next s a).1.t) (fun v N => v = tokV (Lx.next s a).1) [wrongE (lacks s a)]:= by
 refine lent_of (fun K ho hret hpan => S_parse_reader_next_ok ?_) hr
 unfold S_parse_reader_next
 refine o_tok ho fun b2 w1 ho => ?_
 have two : ∀ {W : World} {b3 : Nat},OwnS (rmE b s a M).blk w W [tokE b3 (Lx.next s a).1,tokE b2 Lx.none_,rdE b s a,.mem M]→S_parse_reader_next_0 (rdP b) (.pointer (some ⟨b2,0,none⟩)) (.pointer (some ⟨b3,0,none⟩)) (.int .i64 (Lx.next s a).2) W K:= by
  intro W b3 ho
  have bad : ∀ {e : Int},¬ Has s a→lacks s a = e→K (.panicked [wrongE e]) W:= by
   intro e hn he
   subst he
   exact hpan hn (rdE b s a) M W _ (ho.tail.tail) M.le_refl
  unfold Has lacks at *
  generalize Lx.next s a = x at *
  unfold S_parse_reader_next_0
  refine join fun J hJ => ?_
  simp only [rs]
  by_cases e1 : x.2 = 0
  case neg =>
   simp only [e1,ne_eq,not_false_eq_true,decide_true,i_t]
   exact throw (bad (fun h => e1 h.1) (if_pos e1))
  simp only [e1,ne_eq,not_true,decide_false,i_f]
  refine hJ _ _ fun _ => ?_
  unfold S_parse_reader_next_1
  refine join fun J hJ => ?_
  rw [fa_t0,tk_k ho 0 rfl]
  simp only [rs]
  by_cases e2 : x.1.k = 0
  ·simp only [e2,decide_true,i_t]
   exact throw (bad (fun h => h.2 e2) (if_neg (by rw [e1]; simp)))
  simp only [e2,decide_false,i_f]
  refine hJ _ _ fun _ => ?_
  unfold S_parse_reader_next_2
  rw [fa_t2,tk_t ho 0 rfl,m_nil,fa_r1]
  refine rd_put 2 ho rfl fun w2 ho => ?_
  have ho : OwnS (rmE b s a M).blk w w2 [tokE b3 x.1,tokE b2 Lx.none_,rdE b s x.1.t,.mem M] := ho
  rw [tk_v ho 0 rfl]
  refine tk_put 1 ho rfl fun w3 ho => ?_
  refine ret_v1 (rv_cell (ho.agg 1 rfl aggTok)) ?_
  have ho : OwnS (rmE b s a M).blk w w3 ([tokE b3 x.1,tokE b2 x.1]++([rdE b s x.1.t,.mem M]++[])) := ho
  exact hret ⟨e1,e2⟩ _ M w3 _ ho.front M.le_refl rfl
 have ho := ho.drew
 refine ⟨fun W => (rdE b s a).is W,ho.at_ 1 rfl,?_⟩
 refine hd_pure _ (fun _ => run_nil) (hd_pure _ (fun _ => run_fa fr0) (hd_do _ (fun W h => rdr_s h) ?_))
 refine hd_pure _ (fun _ => run_nil) (hd_pure _ (fun _ => run_fa fr1) (hd_do _ (fun W h => rdr_a h) ?_))
 refine ⟨?_,?_⟩
 ·refine c_below ho (R := fun v => v = tokR (Lx.next s a)) (next_ret s a _ hs) ?_
  rintro _ w2 rfl ho
  refine hd_pure _ (fun _ => run_ext0) (hd_pure _ (fun _ => run_ext1) ?_)
  refine o_tok ho fun b3 w3 ho => ⟨ho.at_ 2 rfl,?_⟩
  refine tk_put 0 ho rfl fun w4 ho => ?_
  exact two ho
 ·refine o_tok ho fun b3 w3 ho => ⟨ho.at_ 2 rfl,?_⟩
  refine c_below ho (R := fun v => v = tokR (Lx.next s a)) (next_ret s a _ hs) ?_
  rintro _ w2 rfl ho
  refine hd_pure _ (fun _ => run_ext0) (hd_pure _ (fun _ => run_ext1) ?_)
  refine tk_put 0 ho rfl fun w4 ho => ?_
  exact two ho
end Go.Proofs.YtjloddgofmdmgaaGreatDoor
namespace Go.Proofs.YtjloddgofmdmgaaGreatDoor
set_option maxRecDepth 20000
open Eng
def S_value_Real (t0 : Value) (w : World) (K : Ending→World→Prop) : Prop :=
 DoX Tryz.prog (mAlloc 27) w (pk K) fun t2 w =>
 DoX Tryz.prog (mBuild 27 #[(0,(.int .i64 3)),(1,t0)]) w (pk K) fun t4 w =>
 DoX Tryz.prog (mStore 27 t2 t4) w (pk K) fun _ w =>
 RetX Tryz.prog [.cell t2 27] w K
theorem S_value_Real_eq (t0 : Value) (w : World) (K : Ending→World→Prop) : wpX Tryz.prog 5 [] [] none (bodyOf Tryz.f182) (topQ Tryz.prog [.cell 2 27] K) (startX [t0]) [] w = S_value_Real t0 w K := by kernel_rfl
theorem S_value_Real_ok {t0 : Value} {w : World} {K : Ending→World→Prop} (h : S_value_Real t0 w K) : Calls Tryz.prog 182 #[t0] w K :=
 calls_of_wpX Tryz.func182 rfl rfl rfl rfl (Eq.mpr (S_value_Real_eq t0 w K) h)
def S_value_Ref (t0 t1 : Value) (w : World) (K : Ending→World→Prop) : Prop :=
 DoX Tryz.prog (mAlloc 27) w (pk K) fun t4 w =>
 DoX Tryz.prog (mBuild 27 #[(0,(.int .i64 8)),(1,t0),(2,t1)]) w (pk K) fun t7 w =>
 DoX Tryz.prog (mStore 27 t4 t7) w (pk K) fun _ w =>
 RetX Tryz.prog [.cell t4 27] w K
theorem S_value_Ref_eq (t0 t1 : Value) (w : World) (K : Ending→World→Prop) : wpX Tryz.prog 8 [] [] none (bodyOf Tryz.f227) (topQ Tryz.prog [.cell 4 27] K) (startX [t0,t1]) [] w = S_value_Ref t0 t1 w K := by kernel_rfl
theorem S_value_Ref_ok {t0 t1 : Value} {w : World} {K : Ending→World→Prop} (h : S_value_Ref t0 t1 w K) : Calls Tryz.prog 227 #[t0,t1] w K :=
 calls_of_wpX Tryz.func227 rfl rfl rfl rfl (Eq.mpr (S_value_Ref_eq t0 t1 w K) h)
def S_value_Bool_0 (t2 t3 : Value) (w : World) (K : Ending→World→Prop) : Prop :=
 DoX Tryz.prog (mLoad 27 t3) w (pk K) fun t7 w =>
 DoX Tryz.prog (mStore 27 t2 t7) w (pk K) fun _ w =>
 RetX Tryz.prog [.cell t2 27] w K
def S_value_Bool (t0 : Value) (w : World) (K : Ending→World→Prop) : Prop :=
 DoX Tryz.prog (mAlloc 27) w (pk K) fun t2 w =>
 DoX Tryz.prog (mBuild 27 #[(0,(.int .i64 1))]) w (pk K) fun t4 w =>
 DoX Tryz.prog (mAlloc 27) w (pk K) fun t3 w =>
 DoX Tryz.prog (mStore 27 t3 t4) w (pk K) fun _ w =>
 JoinX (fun J1 =>
 IfX t0 (DoX Tryz.prog (mFA 27 t3 1) w (pk K) fun t6 w =>
 DoX Tryz.prog (mStore 2 t6 (.int .i64 1)) w (pk K) fun _ w =>
 J1 [] w) (J1 [] w)) (fun vs1 w => ∀ _ : Sg,S_value_Bool_0 t2 t3 w K)
theorem S_value_Bool_eq (t0 : Value) (w : World) (K : Ending→World→Prop) : wpX Tryz.prog 8 [(4,[])] [] none (bodyOf Tryz.f186) (topQ Tryz.prog [.cell 2 27] K) (startX [t0]) [] w = S_value_Bool t0 w K := by kernel_rfl
theorem S_value_Bool_ok {t0 : Value} {w : World} {K : Ending→World→Prop} (h : S_value_Bool t0 w K) : Calls Tryz.prog 186 #[t0] w K :=
 calls_of_wpX Tryz.func186 rfl rfl rfl rfl (Eq.mpr (S_value_Bool_eq t0 w K) h)
end Go.Proofs.YtjloddgofmdmgaaGreatDoor
namespace Go.Proofs.YtjloddgofmdmgaaGreatDoor
set_option maxRecDepth 20000
open Eng Go.RowKit
theorem vreal_ret (n : Int) (w : World) : Ret Tryz.prog 182 #[.int .i64 n] w (obR (ob1 3 n 0 []) nilS nilS w):= by
 refine ret_of fun K hK => S_value_Real_ok ?_
 unfold S_value_Real
 refine o_oba (Own.start w) fun b w1 ho => ?_
 have hb : ∀ {PK : List PanicEntry→World→Prop} {K : Value→World→Prop},DoX Tryz.prog (mBuild 27 #[(0,(.int .i64 3)),(1,.int .i64 n)]) w1 PK K = K (obV (ob1 3 n 0 []) nilS nilS) w1 := do_eq (by kernel_rfl)
 rw [hb]
 refine ob_put 0 rfl rfl ho rfl fun w2 ho => ?_
 exact ret_ob ho (hK _ _ ⟨rfl,ho.done⟩)
theorem vref_ret (n g : Int) (w : World) : Ret Tryz.prog 227 #[.int .i64 n,.int .i64 g] w (obR (ob1 8 n g []) nilS nilS w):= by
 refine ret_of fun K hK => S_value_Ref_ok ?_
 unfold S_value_Ref
 refine o_oba (Own.start w) fun b w1 ho => ?_
 have hb : ∀ {PK : List PanicEntry→World→Prop} {K : Value→World→Prop},DoX Tryz.prog (mBuild 27 #[(0,(.int .i64 8)),(1,.int .i64 n),(2,.int .i64 g)]) w1 PK K = K (obV (ob1 8 n g []) nilS nilS) w1 := do_eq (by kernel_rfl)
 rw [hb]
 refine ob_put 0 rfl rfl ho rfl fun w2 ho => ?_
 exact ret_ob ho (hK _ _ ⟨rfl,ho.done⟩)
theorem vbool_ret (b : Bool) (w : World) : Ret Tryz.prog 186 #[.bool b] w (obR (ob1 1 (if b then 1 else 0) 0 []) nilS nilS w):= by
 refine ret_of fun K hK => S_value_Bool_ok ?_
 unfold S_value_Bool
 refine o_oba (Own.start w) fun b2 w1 ho => ?_
 have hb : ∀ {PK : List PanicEntry→World→Prop} {K : Value→World→Prop},DoX Tryz.prog (mBuild 27 #[(0,(.int .i64 1))]) w1 PK K = K (obV (ob1 1 0 0 []) nilS nilS) w1 := do_eq (by kernel_rfl)
 rw [hb]
 refine o_oba ho fun b3 w2 ho => ?_
 refine ob_put (o' := ob1 1 0 0 []) (vk' := nilS) (vc' := nilS) 0 rfl rfl ho rfl fun w3 ho => ?_
 refine join fun J hJ => ?_
 have fin : ∀ {W : World} {n : Int},Own w W [obE b3 (ob1 1 n 0 []) nilS nilS,obE b2 ob0 nilS nilS]→n = (if b then 1 else 0)→J [] W:= by
  intro W n ho hn
  refine hJ _ _ fun _ => ?_
  unfold S_value_Bool_0
  rw [ob_v ho 0 rfl]
  refine ob_put 1 rfl rfl ho rfl fun w4 ho => ?_
  exact ret_v1 (rv_cell (ho.agg 1 rfl aggOb)) (hK _ _ ⟨by rw [hn]; rfl,ho.done⟩)
 cases b with
 | true =>
  rw [i_t,fa_o1]
  exact o_store 0 ho rfl (by kernel_rfl) rfl (show 0 + 1 < 6 by omega) fun w4 ho => fin (n := 1) ho rfl
 | false =>
  rw [i_f]
  exact fin (n := 0) ho rfl
def pend (s : List UInt8) (t : Lx.Tok) (a : Int) : Int := match Ps.ref s t with | some p => p.2 | none => a
def refO (s : List UInt8) (t : Lx.Tok) : Ob := match Ps.ref s t with | some p => ob1 8 t.n p.1 [] | none => ob1 0 0 0 []
theorem pref_ret (b : Nat) (s : List UInt8) (t : Lx.Tok) (a : Int) (M : Mem) (w : World) (hs : s.length≤1099511627776) (hr : (rmE b s a M).is w) :
  Lent Tryz.prog 180 #[rdP b,tokV t] (rdE b s a) M w True (rdE b s (pend s t a)) (fun v N => v = .tuple #[obV (refO s t) nilS nilS,.bool (Ps.ref s t).isSome]) []:= by
 refine lent_of (fun K ho hret hpan => S_parse_reader_ref_ok ?_) hr
 clear hpan
 have hret := hret trivial
 unfold S_parse_reader_ref
 refine o_tkb t ho fun b3 w1 ho => ?_
 refine o_oba ho fun b4 w2 ho => ?_
 have no : ∀ {W : World} {L : List Ent} {o : Ob} (i : Nat),OwnS (rmE b s a M).blk w W (L++([rdE b s a,.mem M]++[]))→L[i]? = some (obE b4 o nilS nilS)→Ps.ref s t = none →
   DoX Tryz.prog (mBuild 27 #[]) W (pk K) (fun t W => DoX Tryz.prog (mStore 27 (.pointer (some ⟨b4,0,none⟩)) t) W (pk K) fun _ W => RetX Tryz.prog [.cell (.pointer (some ⟨b4,0,none⟩)) 27,.val (.bool false)] W K):= by
  intro W L o i ho hi hn
  rw [m_ob0]
  have hil : i < L.length := (List.getElem?_eq_some_iff.1 hi).1
  refine ob_put i rfl rfl ho (by rw [List.getElem?_append_left hil]; exact hi) fun w' ho => ?_
  rw [List.set_append_left _ _ hil] at ho
  refine ret_v2 (rv_cell (ho.agg (cs := obC Vl.ob0 nilS nilS) i (by rw [List.getElem?_append_left (by simp; omega)]; simp [hil]; rfl) aggOb)) rv_val ?_
  refine hret _ M w' (L.set i (obE b4 Vl.ob0 nilS nilS)++[]) ?_ M.le_refl ?_
  ·rw [pend,hn]; exact ho.front
  ·rw [refO,hn]; rfl
 have hpend := (rfl : pend s t a = pend s t a)
 unfold pend at hpend
 have hrefO : refO s t = _ := rfl
 by_cases h1 : t.n < 1∨8191 < t.n
 ·have hr : Ps.ref s t = none := by rw [Ps.ref,if_pos h1]
  by_cases h2 : t.n < 1
  ·simp only [rs,fa_t3,tk_n ho 1 rfl,decide_eq_true h2,g_un]
   exact no (L := [_,_]) 0 ho rfl hr
  ·have h3 : 8191 < t.n := by omega
   simp only [rs,fa_t3,tk_n ho 1 rfl,decide_eq_false h2,decide_eq_true h3,g_un]
   exact no (L := [_,_]) 0 ho rfl hr
 have h2 : ¬ t.n < 1 := by omega
 have h3 : ¬ 8191 < t.n := by omega
 simp only [rs,fa_t3,fa_t2,tk_n ho 1 rfl,tk_t ho 1 rfl,decide_eq_false h2,decide_eq_false h3,g_un]
 refine c_below ho (R := fun v => v = .tuple #[tokV (Lx.next s t.t).1,.bool (decide ((Lx.next s t.t).2 = 0))]) (peek_ret b s a t.t w2 hs (ho.at_ 2 rfl)) ?_
 rintro _ w3 rfl ho
 simp only [ex]
 refine o_tok ho fun b6 w4 ho => ?_
 refine tk_put 0 ho rfl fun w5 ho => ?_
 have ho : OwnS (rmE b s a M).blk w w5 [tokE b6 (Lx.next s t.t).1,obE b4 ob0 nilS nilS,tokE b3 t,rdE b s a,.mem M] := ho
 by_cases h4 : (Lx.next s t.t).2≠0∨(Lx.next s t.t).1.k≠1∨(Lx.next s t.t).1.n < 0∨65535 < (Lx.next s t.t).1.n
 ·have hr : Ps.ref s t = none := by rw [Ps.ref,if_neg h1,if_pos h4]
  have no' := no (W := w5) (L := [_,_,_]) 1 ho rfl hr
  by_cases q1 : (Lx.next s t.t).2 = 0
  ·by_cases q2 : (Lx.next s t.t).1.k = 1
   ·by_cases q3 : (Lx.next s t.t).1.n < 0
    ·simp only [rs,fa_t0,fa_t3,tk_k ho 0 rfl,tk_n ho 0 rfl,q1,q2,q3,ne_eq,not_true,decide_true,decide_false,g_un,Bool.not_true]
     exact no'
    ·have q4 : 65535 < (Lx.next s t.t).1.n:= by
      rcases h4 with h | h | h | h
      ·exact absurd q1 h
      ·exact absurd q2 h
      ·exact absurd h q3
      ·exact h
     simp only [rs,fa_t0,fa_t3,tk_k ho 0 rfl,tk_n ho 0 rfl,q1,q2,q3,q4,ne_eq,not_true,decide_true,decide_false,g_un,Bool.not_true]
     exact no'
   ·simp only [rs,fa_t0,fa_t3,tk_k ho 0 rfl,tk_n ho 0 rfl,q1,q2,ne_eq,not_true,not_false_eq_true,decide_true,decide_false,g_un,Bool.not_true]
    exact no'
  ·simp only [rs,fa_t0,fa_t3,tk_k ho 0 rfl,tk_n ho 0 rfl,q1,ne_eq,not_true,not_false_eq_true,decide_true,decide_false,g_un,Bool.not_false]
   exact no'
 have q : (Lx.next s t.t).2 = 0∧(Lx.next s t.t).1.k = 1∧¬ (Lx.next s t.t).1.n < 0∧¬ 65535 < (Lx.next s t.t).1.n:= by
  refine ⟨?_,?_,?_,?_⟩
  ·exact Classical.not_not.1 fun h => h4 (.inl h)
  ·exact Classical.not_not.1 fun h => h4 (.inr (.inl h))
  ·exact fun h => h4 (.inr (.inr (.inl h)))
  ·exact fun h => h4 (.inr (.inr (.inr h)))
 obtain ⟨q1,q2,q3,q4⟩ := q
 simp only [rs,fa_t0,fa_t2,fa_t3,tk_k ho 0 rfl,tk_n ho 0 rfl,tk_t ho 0 rfl,q1,q2,q3,q4,ne_eq,not_true,decide_true,decide_false,g_un,Bool.not_true]
 refine c_below ho (R := fun v => v = .tuple #[tokV (Lx.next s (Lx.next s t.t).1.t).1,.bool (decide ((Lx.next s (Lx.next s t.t).1.t).2 = 0))]) (peek_ret b s a (Lx.next s t.t).1.t w5 hs (ho.at_ 3 rfl)) ?_
 rintro _ w6 rfl ho
 simp only [ex]
 refine o_tok ho fun b8 w7 ho => ?_
 refine tk_put 0 ho rfl fun w8 ho => ?_
 have hr : Ps.ref s t = if (Lx.next s (Lx.next s t.t).1.t).2 = 0∧(Lx.next s (Lx.next s t.t).1.t).1.k = 5∧(Lx.next s (Lx.next s t.t).1.t).1.s = [82] then some ((Lx.next s t.t).1.n,(Lx.next s (Lx.next s t.t).1.t).1.t) else none:= by
  rw [Ps.ref,if_neg h1,if_neg h4]
 generalize Lx.next s (Lx.next s t.t).1.t = x at *
 have ho : OwnS (rmE b s a M).blk w w8 [tokE b8 x.1,tokE b6 (Lx.next s t.t).1,obE b4 ob0 nilS nilS,tokE b3 t,rdE b s a,.mem M] := ho
 by_cases e1 : x.2 = 0
 case neg =>
  simp only [e1,decide_false,rs,g_un,Bool.not_false]
  exact no (L := [_,_,_,_]) 2 ho rfl (by rw [hr,if_neg (fun h => e1 h.1)])
 simp only [e1,decide_true,rs,g_un,Bool.not_true,tk_v ho 0 rfl]
 refine c_below ho (R := fun v => v = .bool (decide (x.1.k = 5) && decide (x.1.s = [82]))) (pword_ret x.1 5 [82] w8) ?_
 rintro _ w9 rfl ho
 cases e2 : (decide (x.1.k = 5) && decide (x.1.s = [82])) with
 | false =>
  simp only [rs,Bool.not_false]
  have hnr : ¬ (x.2 = 0∧x.1.k = 5∧x.1.s = [82]) := fun h => by
   rw [decide_eq_true h.2.1,decide_eq_true h.2.2] at e2
   exact absurd e2 (by decide)
  exact no (L := [_,_,_,_]) 2 ho rfl (by rw [hr,if_neg hnr])
 | true =>
  simp only [Bool.and_eq_true,decide_eq_true_eq] at e2
  rw [if_pos ⟨e1,e2.1,e2.2⟩] at hr
  simp only [rs,Bool.not_true,fa_t2,tk_t ho 0 rfl,m_nil,fa_r1]
  refine rd_put 4 ho rfl fun w10 ho => ?_
  have ho : OwnS (rmE b s a M).blk w w10 [tokE b8 x.1,tokE b6 (Lx.next s t.t).1,obE b4 ob0 nilS nilS,tokE b3 t,rdE b s x.1.t,.mem M] := ho
  rw [tk_n ho 3 rfl,tk_n ho 1 rfl]
  refine c_below ho (R := fun v => v = obV (ob1 8 t.n (Lx.next s t.t).1.n []) nilS nilS) (vref_ret t.n (Lx.next s t.t).1.n w10) ?_
  rintro _ w11 rfl ho
  refine ob_put 2 rfl rfl ho rfl fun w12 ho => ?_
  refine ret_v2 (rv_cell (ho.agg 2 rfl aggOb)) rv_val ?_
  have ho : OwnS (rmE b s a M).blk w w12 ([tokE b8 x.1,tokE b6 (Lx.next s t.t).1,obE b4 (ob1 8 t.n (Lx.next s t.t).1.n []) nilS nilS,tokE b3 t]++([rdE b s x.1.t,.mem M]++[])) := ho
  have hf := ho.front
  rw [← show pend s t a = x.1.t by rw [pend,hr]] at hf
  exact hret _ M w12 _ hf M.le_refl (by rw [refO,hr]; rfl)
def PObj (s : List UInt8) (n : Nat) : Prop := ∀ (b : Nat) (a : Int) (M : Mem) (w : World),Has s a→(rmE b s (Lx.next s a).1.t M).is w →
 Lent Tryz.prog 117 #[rdP b,tokV (Lx.next s a).1,.int .i64 (24 - (n : Int))] (rdE b s (Lx.next s a).1.t) M w ((Ps.obj s n a).2.2 = 0) (rdE b s (Ps.obj s n a).2.1) (fun v N => OV N.A N.w v (Ps.obj s n a).1) [wrongE (Ps.obj s n a).2.2]
def PArr (s : List UInt8) (n : Nat) : Prop := ∀ (b : Nat) (a : Int) (M : Mem) (w : World),0≤a→a≤s.length→(rmE b s a M).is w →
 Lent Tryz.prog 187 #[rdP b,.int .i64 (24 - (n : Int))] (rdE b s a) M w ((Ps.arr s (decide (n≠0)) (Ps.obj s n) (s.length + 1) a []).2.2 = 0) (rdE b s (Ps.arr s (decide (n≠0)) (Ps.obj s n) (s.length + 1) a []).2.1) (fun v N => OV N.A N.w v (Ps.arr s (decide (n≠0)) (Ps.obj s n) (s.length + 1) a []).1) [wrongE (Ps.arr s (decide (n≠0)) (Ps.obj s n) (s.length + 1) a []).2.2]
def PDict (s : List UInt8) (n : Nat) : Prop := ∀ (b : Nat) (a : Int) (M : Mem) (w : World),0≤a→a≤s.length→(rmE b s a M).is w →
 Lent Tryz.prog 188 #[rdP b,.int .i64 (24 - (n : Int))] (rdE b s a) M w ((Ps.dict s (Ps.obj s n) (s.length + 1) a Ps.dict0 []).2.2 = 0) (rdE b s (Ps.dict s (Ps.obj s n) (s.length + 1) a Ps.dict0 []).2.1) (fun v N => OV N.A N.w v (Ps.dict s (Ps.obj s n) (s.length + 1) a Ps.dict0 []).1) [wrongE (Ps.dict s (Ps.obj s n) (s.length + 1) a Ps.dict0 []).2.2]
end Go.Proofs.YtjloddgofmdmgaaGreatDoor
namespace Go.Proofs.YtjloddgofmdmgaaGreatDoor
set_option maxRecDepth 20000
open Eng Go.RowKit
theorem obj_lacks {s : List UInt8} {n : Nat} {a : Int} (h : ¬ Has s a) : Ps.obj s n a = Ps.bad (lacks s a):= by
 unfold Has at h
 unfold lacks
 cases n
 all_goals
  rw [Ps.obj]
  by_cases e1 : (Lx.next s a).2 = 0
  ·have e2 : (Lx.next s a).1.k = 0 := Classical.not_not.1 fun h2 => h ⟨e1,h2⟩
   rw [if_neg (by rw [e1]; simp),if_pos e2,if_neg (by rw [e1]; simp)]
  ·rw [if_pos e1,if_pos e1]
theorem lacks_pos {s : List UInt8} {a : Int} : lacks s a≠0:= by
 unfold lacks
 split
 ·assumption
 ·decide
theorem pobj_ret (s : List UInt8) (hs : s.length≤1000000000) (harr : ∀ n,n≤23→PObj s n→PArr s n) (hdict : ∀ n,n≤23→PObj s n→PDict s n) : ∀ n : Nat,n≤24→PObj s n:= by
 intro n
 induction n with
 | zero =>
  intro _ b a M w hh hr
  have hob : Ps.obj s 0 a = _ := Ps.obj.eq_def s 0 a
  simp only at hob
  refine lent_of (fun K ho hret hpan => S_parse_reader_object_ok ?_) hr
  unfold S_parse_reader_object
  refine o_tkb _ ho fun b4 w1 ho => ?_
  refine o_oba ho fun b6 w2 ho => ?_
  clear hret
  obtain ⟨e1,e2⟩ := hh
  generalize Ps.obj s 0 a = R at *
  generalize Lx.next s a = x at *
  rw [if_neg (by rw [e1]; simp),if_neg e2] at hob
  refine join fun J hJ => ?_
  rw [tk_v ho 1 rfl]
  refine c_below ho (R := fun v => v = .bool (Ps.begins x.1)) (pfirst_ret x.1 w2 e2) ?_
  rintro _ w3 rfl ho
  have fail : ∀ {e : Int},R = Ps.bad e→e≠0→∀ {W : World},OwnS (rmE b s x.1.t M).blk w W [obE b6 ob0 nilS nilS,tokE b4 x.1,rdE b s x.1.t,.mem M]→K (.panicked [wrongE e]) W:= by
   intro e he h0 W ho
   subst he
   exact hpan h0 _ M W _ ho.tail.tail M.le_refl
  cases e3 : Ps.begins x.1 with
  | false =>
   simp only [rs,Bool.not_false,i_t]
   rw [if_pos e3] at hob
   exact throw (fail hob (by decide) ho)
  | true =>
   simp only [rs,Bool.not_true,i_f]
   rw [if_neg (by rw [e3]; simp)] at hob
   refine hJ _ _ fun _ => ?_
   unfold S_parse_reader_object_0
   refine join fun J hJ => ?_
   simp only [rs,show decide ((24 : Int)≤24 - ((0 : Nat) : Int)) = true by decide]
   exact throw (fail hob (by decide) ho)
 | succ n ih =>
  intro hn b a M w hh hr
  have ih := ih (by omega)
  have harr := harr n (by omega) ih
  have hdict := hdict n (by omega) ih
  have hob : Ps.obj s (n + 1) a = _ := Ps.obj.eq_def s (n + 1) a
  simp only at hob
  refine lent_of (fun K ho hret hpan => S_parse_reader_object_ok ?_) hr
  unfold S_parse_reader_object
  refine o_tkb _ ho fun b4 w1 ho => ?_
  refine o_oba ho fun b6 w2 ho => ?_
  obtain ⟨e1,e2⟩ := hh
  have hbd := @Lx.next_bd s a e1 e2
  have hfm := @Lx.next_form s a e1
  have hge := Lx.skip_ge s a.toNat
  generalize hR : Ps.obj s (n + 1) a = R at *
  clear hR
  generalize Lx.next s a = x at *
  rw [if_neg (by rw [e1]; simp),if_neg e2] at hob
  refine join fun J hJ => ?_
  rw [tk_v ho 1 rfl]
  refine c_below ho (R := fun v => v = .bool (Ps.begins x.1)) (pfirst_ret x.1 w2 e2) ?_
  rintro _ w3 rfl ho
  have fail : ∀ {e : Int},R = Ps.bad e→e≠0→∀ {W : World},OwnS (rmE b s x.1.t M).blk w W [obE b6 ob0 nilS nilS,tokE b4 x.1,rdE b s x.1.t,.mem M]→K (.panicked [wrongE e]) W:= by
   intro e he h0 W ho
   subst he
   exact hpan h0 _ M W _ ho.tail.tail M.le_refl
  cases e3 : Ps.begins x.1 with
  | false =>
   simp only [rs,Bool.not_false,i_t]
   rw [if_pos e3] at hob
   exact throw (fail hob (by decide) ho)
  | true =>
  simp only [rs,Bool.not_true,i_f]
  rw [if_neg (by rw [e3]; simp)] at hob
  refine hJ _ _ fun _ => ?_
  unfold S_parse_reader_object_0
  refine join fun J hJ => ?_
  have hdeep : ¬ (24 : Int)≤24 - ((n + 1 : Nat) : Int) := by omega
  simp only [rs,decide_eq_false hdeep]
  refine hJ _ _ fun _ => ?_
  unfold S_parse_reader_object_1
  simp only [rs,fa_t0,tk_k ho 1 rfl]
  -- what is returned
  have good : ∀ {W : World} {L : List Ent} {k m g t : Int} {z : List UInt8} (j : Nat),OwnS (rmE b s x.1.t M).blk w W (L++([rdE b s t,.mem M]++[]))→L[j]? = some (obE b6 (ob1 k m g z) nilS nilS)→R = (ob1 k m g z,t,0)→RetX Tryz.prog [.cell (.pointer (some ⟨b6,0,none⟩)) 27] W K:= by
   intro W L k m g t z j ho hj he
   have hjl : j < L.length := (List.getElem?_eq_some_iff.1 hj).1
   refine ret_v1 (rv_cell (ho.agg (cs := obC (ob1 k m g z) nilS nilS) j (by rw [List.getElem?_append_left hjl]; exact hj) aggOb)) ?_
   subst he
   exact hret rfl _ M W _ ho.front M.le_refl ob1_ov2
  have tail : ∀ {f : Nat} {args : Array Value} {k m g : Int} {z : List UInt8} {W : World} {L : List Ent} {PK1 PK2 : List PanicEntry→World→Prop} {o : Ob} {vk vc : Value} (j : Nat),OwnS (rmE b s x.1.t M).blk w W (L++([rdE b s x.1.t,.mem M]++[]))→L[j]? = some (obE b6 o vk vc)→Ret Tryz.prog f args W (obR (ob1 k m g z) nilS nilS W)→R = (ob1 k m g z,x.1.t,0) →
    CallX Tryz.prog f args W PK1 fun t W => DoX Tryz.prog (mStore 27 (.pointer (some ⟨b6,0,none⟩)) t) W PK2 fun _ W => RetX Tryz.prog [.cell (.pointer (some ⟨b6,0,none⟩)) 27] W K:= by
   intro f args k m g z W L PK1 PK2 o vk vc j ho hj hr he
   have hjl : j < L.length := (List.getElem?_eq_some_iff.1 hj).1
   refine c_below ho (R := fun v => v = obV (ob1 k m g z) nilS nilS) hr ?_
   rintro _ W2 rfl ho
   refine ob_put (o' := ob1 k m g z) (vk' := nilS) (vc' := nilS) j rfl rfl ho (by rw [List.getElem?_append_left hjl]; exact hj) fun W3 ho => ?_
   rw [List.set_append_left _ _ hjl] at ho
   exact good j ho (by simp [hjl]) he
  have hleafR : x.1.k≠6→R = Ps.leaf s x.1 := fun h => by rw [hob,if_pos h]
  rcases hfm.kind with k0 | k1 | k2 | k3 | k4 | k5 | k6
  ·exact absurd k0 e2
  ·have hk6 : x.1.k≠6 := by omega
   have hleaf : R = match Ps.ref s x.1 with
    | some p => (.mk 8 x.1.n p.1 [] [] [],p.2,0)
    | none => (.mk 2 x.1.n 0 [] [] [],x.1.t,0) := by rw [hleafR hk6,Ps.leaf,if_pos k1]; cases Ps.ref s x.1 <;> rfl
   simp only [decide_eq_true k1,i_t,tk_v ho 1 rfl]
   have ho : OwnS (rmE b s x.1.t M).blk w w3 ([obE b6 ob0 nilS nilS,tokE b4 x.1]++([rdE b s x.1.t,.mem M]++[])) := ho
   have ho := ho.front.pair
   refine c_rm ho 0 rfl (pref_ret b s x.1 x.1.t M w3 (by omega) (ho.at_ 0 rfl)) ?_ fun _ _ h => absurd trivial h
   rintro _ N w4 _ hle rfl ho
   simp only [ex]
   have ho := ho.split
   have ho : OwnS (rmE b s x.1.t M).blk w w4 ([rdE b s (pend s x.1 x.1.t),.mem N]++([obE b6 ob0 nilS nilS,tokE b4 x.1]++[])) := ho
   have ho := ho.front
   refine o_oba ho fun b7 w5 ho => ?_
   refine ob_put (vk' := nilS) (vc' := nilS) 0 rfl rfl ho rfl fun w6 ho => ?_
   have ho : OwnS (rmE b s x.1.t M).blk w w6 ([obE b7 (refO s x.1) nilS nilS,obE b6 ob0 nilS nilS,tokE b4 x.1]++([rdE b s (pend s x.1 x.1.t),.mem N]++[])) := ho
   unfold refO pend at ho
   cases hp : Ps.ref s x.1 with
   | some p =>
    rw [hp] at hleaf ho
    simp only at ho
    simp only [Option.isSome_some,i_t,ob_v ho 0 rfl]
    refine ob_put 1 rfl rfl ho rfl fun w7 ho => ?_
    have ho : OwnS (rmE b s x.1.t M).blk w w7 ([obE b7 (ob1 8 x.1.n p.1 []) nilS nilS,obE b6 (ob1 8 x.1.n p.1 []) nilS nilS,tokE b4 x.1]++([rdE b s p.2,.mem N]++[])) := ho
    refine ret_v1 (rv_cell (ho.agg 1 rfl aggOb)) ?_
    subst hleaf
    exact hret rfl _ N w7 _ ho.front hle ob1_ov2
   | none =>
    rw [hp] at hleaf ho
    simp only at ho
    simp only [Option.isSome_none,i_f,fa_t3,tk_n ho 2 rfl]
    refine c_below ho (R := fun v => v = obV (ob1 2 x.1.n 0 []) nilS nilS) (vint_ret x.1.n w6) ?_
    rintro _ w7 rfl ho
    refine ob_put 1 rfl rfl ho rfl fun w8 ho => ?_
    have ho : OwnS (rmE b s x.1.t M).blk w w8 ([obE b7 (ob1 0 0 0 []) nilS nilS,obE b6 (ob1 2 x.1.n 0 []) nilS nilS,tokE b4 x.1]++([rdE b s x.1.t,.mem N]++[])) := ho
    refine ret_v1 (rv_cell (ho.agg 1 rfl aggOb)) ?_
    subst hleaf
    exact hret rfl _ N w8 _ ho.front hle ob1_ov2
  ·have hk6 : x.1.k≠6 := by omega
   simp only [k2,show ¬ ((2 : Int) = 1) by decide,decide_true,decide_false,rs,fa_t3,tk_n ho 1 rfl]
   exact tail (L := [_,_]) 0 ho rfl (vreal_ret x.1.n _) (by rw [hleafR hk6,Ps.leaf,if_neg (by omega),if_pos k2])
  ·have hk6 : x.1.k≠6 := by omega
   simp only [k3,show ¬ ((3 : Int) = 1) by decide,show ¬ ((3 : Int) = 2) by decide,decide_true,decide_false,rs,fa_t4',tk_s ho 1 rfl]
   exact tail (L := [_,_]) 0 ho rfl (vstr_ret x.1.s _) (by rw [hleafR hk6,Ps.leaf,if_neg (by omega),if_neg (by omega),if_pos k3])
  ·have hk6 : x.1.k≠6 := by omega
   simp only [k4,show ¬ ((4 : Int) = 1) by decide,show ¬ ((4 : Int) = 2) by decide,show ¬ ((4 : Int) = 3) by decide,decide_true,decide_false,rs,fa_t4',tk_s ho 1 rfl]
   exact tail (L := [_,_]) 0 ho rfl (vname_ret x.1.s _) (by rw [hleafR hk6,Ps.leaf,if_neg (by omega),if_neg (by omega),if_neg (by omega),if_pos k4])
  ·have hk6 : x.1.k≠6 := by omega
   simp only [k5,show ¬ ((5 : Int) = 1) by decide,show ¬ ((5 : Int) = 2) by decide,show ¬ ((5 : Int) = 3) by decide,show ¬ ((5 : Int) = 4) by decide,decide_true,decide_false,rs,fa_t4',tk_s ho 1 rfl]
   by_cases hn : x.1.s = [110,117,108,108]
   ·simp only [decide_eq_true hn,i_t]
    exact tail (L := [_,_]) 0 ho rfl (vnull_ret _) (by rw [hleafR hk6,Ps.leaf,if_neg (by omega),if_neg (by omega),if_neg (by omega),if_neg (by omega),if_pos (show x.1.s = Ps.nul from hn)]; rfl)
   ·simp only [decide_eq_false hn,i_f]
    refine tail (L := [_,_]) 0 ho rfl (vbool_ret _ _) ?_
    rw [hleafR hk6,Ps.leaf,if_neg (by omega),if_neg (by omega),if_neg (by omega),if_neg (by omega),if_neg (show ¬ x.1.s = Ps.nul from hn)]
    simp only [decide_eq_true_eq]
    rfl
  ·have hs2 : x.1.s = [91]∨x.1.s = [60,60]:= by
    unfold Ps.begins at e3
    rw [if_pos k6] at e3
    simpa using e3
   rw [if_neg (show ¬ x.1.k≠6 by rw [k6]; simp)] at hob
   simp only [k6,show ¬ ((6 : Int) = 1) by decide,show ¬ ((6 : Int) = 2) by decide,show ¬ ((6 : Int) = 3) by decide,show ¬ ((6 : Int) = 4) by decide,show ¬ ((6 : Int) = 5) by decide,decide_true,decide_false,rs,fa_t4',tk_s ho 1 rfl]
   rw [wrap64_id (by omega) (by omega),show (24 : Int) - ((n + 1 : Nat) : Int) + 1 = 24 - (n : Int) by omega]
   have ho : OwnS (rmE b s x.1.t M).blk w w3 ([obE b6 ob0 nilS nilS,tokE b4 x.1]++([rdE b s x.1.t,.mem M]++[])) := ho
   have ho := ho.front.pair
   have fin : ∀ {W : World} {N : Mem} {u : Value},R.2.2 = 0→M.le N→OV N.A N.w u R.1→OwnS (rmE b s x.1.t M).blk w W [rmE b s R.2.1 N,obE b6 ob0 nilS nilS,tokE b4 x.1] →
     DoX Tryz.prog (mStore 27 (.pointer (some ⟨b6,0,none⟩)) u) W (pk K) fun _ w => RetX Tryz.prog [.cell (.pointer (some ⟨b6,0,none⟩)) 27] w K:= by
    intro W N u h0 hle hu ho
    obtain ⟨xk,xc,xcs,rfl,hx⟩ := hu.open
    refine ob_put 1 hx.keys.one hx.kids.one ho rfl fun W2 ho => ?_
    refine ret_v1 (rv_cell (ho.agg 1 rfl aggOb)) ?_
    exact hret h0 _ N W2 _ ho.split hle hx.ov
   have fall : ∀ {W : World} {e2 : Ent},¬ R.2.2 = 0→OwnS (rmE b s x.1.t M).blk w W [.two e2 (.mem M),obE b6 ob0 nilS nilS,tokE b4 x.1]→pk K [wrongE R.2.2] W :=
    fun h0 ho => hpan h0 _ M _ _ ho.split M.le_refl
   rcases hs2 with h2 | h2
   ·simp only [decide_eq_true h2,i_t]
    rw [if_pos h2] at hob
    have h := harr b x.1.t M w3 (by omega) (by omega) (ho.at_ 0 rfl)
    rw [← hob] at h
    exact c_rm ho 0 rfl h (fun v N w4 h0 hle hv ho => fin h0 hle hv ho) fun e2 w4 h0 ho => fall h0 ho
   ·have h91 : ¬ x.1.s = [91] := by rw [h2]; decide
    simp only [decide_eq_false h91,i_f]
    rw [if_neg h91] at hob
    have h := hdict b x.1.t M w3 (by omega) (by omega) (ho.at_ 0 rfl)
    rw [← hob] at h
    exact c_rm ho 0 rfl h (fun v N w4 h0 hle hv ho => fin h0 hle hv ho) fun e2 w4 h0 ho => fall h0 ho
end Go.Proofs.YtjloddgofmdmgaaGreatDoor
namespace Go.Proofs.YtjloddgofmdmgaaGreatDoor
set_option maxRecDepth 20000
open Eng Go.RowKit
def rdAt (b : Nat) (w : World) : Nat := match w.cell? ⟨b,1,none⟩ with | some (.int _ q) => q.toNat | _ => 0
theorem rdAt_is {b : Nat} {s : List UInt8} {a : Int} {w : World} (h : (rdE b s a).is w) : rdAt b w = a.toNat:= by
 unfold rdAt
 rw [cells_cell (T := 118) (cs := rdC s a) (i := 1) h rfl]
theorem meas {n : Nat} {a b : Int} (h0 : 0≤a) (h : a < b) (hb : b≤n) : n - b.toNat < n - a.toNat := by omega
theorem arr_lacks {s : List UInt8} {ok : Bool} {n m : Nat} {a : Int} {acc : List Ob} (h : ¬ Has s a) : Ps.arr s ok (Ps.obj s n) (m + 1) a acc = Ps.bad (lacks s a):= by
 rw [Ps.arr]
 have h1 : ¬ ((Lx.next s a).2 = 0∧(Lx.next s a).1.k = 6∧(Lx.next s a).1.s = [93]) := fun h2 => h ⟨h2.1,by rw [h2.2.1]; decide⟩
 rw [if_neg h1]
 by_cases e1 : (Lx.next s a).2 = 0
 ·have e2 : (Lx.next s a).1.k = 0 := Classical.not_not.1 fun h2 => h ⟨e1,h2⟩
  have hb : ¬ ((Lx.next s a).2 = 0∧acc.length = 8191∧Ps.begins (Lx.next s a).1 = true∧ok = true) := fun h2 => by
   have := h2.2.2.1
   unfold Ps.begins at this
   rw [if_neg (by rw [e2]; decide),e2] at this
   simp at this
  rw [if_neg hb,if_neg (by rw [e1]; simp),obj_lacks h,if_pos (show (Ps.bad (lacks s a)).2.2≠0 from lacks_pos)]
  rfl
 ·rw [if_neg (fun h2 => e1 h2.1),if_pos e1]
  unfold lacks
  rw [if_pos e1]
theorem parr_ret (s : List UInt8) (hs : s.length≤1000000000) (n : Nat) (hn : n≤23) (hsub : PObj s n) : PArr s n:= by
 intro b a M w h0 h1 hr
 generalize hR : Ps.arr s (decide (n≠0)) (Ps.obj s n) (s.length + 1) a [] = R
 refine lent_of (fun K ho hret hpan => S_parse_reader_array_ok ?_) hr
 unfold S_parse_reader_array
 have ho := ho.pair.nilU 27 6
 refine o_oba ho fun b4 w1 ho => ?_
 have hb6 : ∀ {PK : List PanicEntry→World→Prop} {K : Value→World→Prop},DoX Tryz.prog (mBuild 27 #[(0,(.int .i64 6))]) w1 PK K = K (obV (.mk 6 0 0 [] [] []) nilS nilS) w1 := do_eq (by kernel_rfl)
 rw [hb6]
 refine o_oba ho fun b5 w2 ho => ?_
 refine ob_put (o' := .mk 6 0 0 [] [] []) (vk' := nilS) (vc' := nilS) 0 rfl rfl ho rfl fun w3 ho => ?_
 generalize hS0 : (rmE b s a M).blk = S0 at *
 have ho : OwnS S0 w w3 [obE b5 (.mk 6 0 0 [] [] []) nilS nilS,obE b4 ob0 nilS nilS,kidE nilS 0 [],rmE b s a M] := ho
 have fall : ∀ {W : World} {L : List Ent} {e2 : Ent} {N : Mem} (e : Int),OwnS S0 w W (L++([.two e2 (.mem N)]++[]))→M.le N→R = Ps.bad e→e≠0→pk K [wrongE e] W:= by
  intro W L e2 N e ho hle he h0
  subst he
  exact hpan h0 e2 N W _ (ho.front).split hle
 refine loop (fun vs w' => ∃ (a' : Int) (m : Nat) (acc : List Ob) (cs : List Value) (vc : Value) (N : Mem),vs = []∧0≤a'∧a'≤s.length∧(acc.length : Int)≤a'∧acc.length≤8191∧acc.length + m = s.length + 1 ∧
   Ps.arr s (decide (n≠0)) (Ps.obj s n) m a' acc = R∧M.le N∧OVs N.A N.w cs acc ∧
   OwnS S0 w w' [obE b5 (.mk 6 0 0 [] [] acc) nilS vc,obE b4 ob0 nilS nilS,kidE vc acc.length cs,rmE b s a' N]) (fun _ w => s.length - rdAt b w)
  ⟨a,s.length + 1,[],[],nilS,M,rfl,h0,h1,by simpa using h0,by simp,by simp,hR,M.le_refl,OVs.nil,ho⟩ ?_
 clear ho hR
 rintro vs w4 ⟨a',m,acc,cs,vc,N,rfl,ha0,ha1,hla,hmx,hml,harr,hle,hall,ho⟩ _
 simp only [S_parse_reader_array_0]
 obtain ⟨m,rfl⟩ : ∃ k,m = k + 1 := ⟨m - 1,by omega⟩
 have hat : rdAt b w4 = a'.toNat := rdAt_is (ho.at_ 3 rfl).1
 refine c_rm ho 3 rfl (pnext_ret b s a' N w4 (by omega) (ho.at_ 3 rfl)) ?_ fun e2 w5 hn ho => ?_
 rotate_left
 ·rw [arr_lacks hn] at harr
  exact fall (L := [_,_,_]) _ ho hle harr.symm lacks_pos
 rintro _ N1 w5 hhas hle1 rfl ho
 have hbd := @Lx.next_bd s a' hhas.1 hhas.2
 have hge := Lx.skip_ge s a'.toNat
 have hopen := @Ps.obj_open s n a'
 have hsubl := fun (M : Mem) (w : World) => hsub b a' M w hhas
 have hbd2 := @Ps.obj_bd s n a'
 obtain ⟨e1,e2⟩ := hhas
 rw [Ps.arr] at harr
 generalize Ps.obj s n a' = e at *
 generalize Lx.next s a' = x at *
 have hvc := urow_one (ho.at_ 2 rfl)
 refine o_tok ho fun b6 w6 ho => ?_
 refine tk_put 0 ho rfl fun w7 ho => ?_
 have ho : OwnS S0 w w7 [tokE b6 x.1,obE b5 (.mk 6 0 0 [] [] acc) nilS vc,obE b4 ob0 nilS nilS,kidE vc acc.length cs,rmE b s x.1.t N1] := ho
 rw [tk_v ho 0 rfl]
 refine c_below ho (R := fun v => v = .bool (decide (x.1.k = 6) && decide (x.1.s = [93]))) (pword_ret x.1 6 [93] w7) ?_
 rintro _ w8 rfl ho
 cases e3 : (decide (x.1.k = 6) && decide (x.1.s = [93])) with
 | true =>
  simp only [Bool.and_eq_true,decide_eq_true_eq] at e3
  rw [if_pos ⟨e1,e3.1,e3.2⟩] at harr
  simp only [i_t,ob_v ho 1 rfl]
  refine ob_put 2 rfl hvc ho rfl fun w9 ho => ?_
  refine ret_v1 (rv_cell (ho.agg 2 rfl aggOb)) ?_
  have ho : OwnS S0 w w9 ([tokE b6 x.1,obE b5 (.mk 6 0 0 [] [] acc) nilS vc,obE b4 (.mk 6 0 0 [] [] acc) nilS vc,kidE vc acc.length cs]++([rmE b s x.1.t N1]++[])) := ho
  have ho := ho.front.split
  have ho : OwnS S0 w w9 ([rdE b s x.1.t,.mem N1,tokE b6 x.1,obE b5 (.mk 6 0 0 [] [] acc) nilS vc,obE b4 (.mk 6 0 0 [] [] acc) nilS vc]++([kidE vc acc.length cs]++[])) := ho
  obtain ⟨N2,hle2,hrow,ho⟩ := OwnS.freezeU (L := [rdE b s x.1.t,.mem N1,tokE b6 x.1,obE b5 (.mk 6 0 0 [] [] acc) nilS vc,obE b4 (.mk 6 0 0 [] [] acc) nilS vc]) ho.front 1 rfl
  subst harr
  exact hret rfl _ N2 w9 _ ho ((hle.trans hle1).trans hle2) (ObAt.ov (o := .mk 6 0 0 [] [] acc) ⟨SlA.nil _ _ _ _,hrow,(hall.le hle1).le hle2⟩)
 | false =>
 have e3' : ¬ (x.2 = 0∧x.1.k = 6∧x.1.s = [93]) := fun h => by
  rw [decide_eq_true h.2.1,decide_eq_true h.2.2] at e3
  exact absurd e3 (by decide)
 rw [if_neg e3'] at harr
 simp only [i_f]
 refine join fun J hJ => ?_
 -- the element
 have one : ∀ {W : World},OwnS S0 w W [tokE b6 x.1,obE b5 (.mk 6 0 0 [] [] acc) nilS vc,obE b4 ob0 nilS nilS,kidE vc acc.length cs,rmE b s x.1.t N1]→¬ (acc.length = 8191∧Ps.begins x.1 = true∧n≠0)→J [] W:= by
  intro W ho h6
  have h6' : ¬ (x.2 = 0∧acc.length = 8191∧Ps.begins x.1 = true∧decide (n≠0) = true) := fun h => h6 ⟨h.2.1,h.2.2.1,of_decide_eq_true h.2.2.2⟩
  rw [if_neg h6',if_neg (by rw [e1]; simp)] at harr
  refine hJ _ _ fun _ => ?_
  unfold S_parse_reader_array_1
  have ho := ho.drew
  refine ⟨fun W => (obE b5 (.mk 6 0 0 [] [] acc) nilS vc).is W∧(tokE b6 x.1).is W,⟨ho.at_ 1 rfl,ho.at_ 0 rfl⟩,?_⟩
  refine hd_pure _ (fun _ => run_fa fo_o5) ?_
  refine hd_do vc (fun W h => run_load_cell nSlOb (cells_cell (T := 27) (cs := obC (.mk 6 0 0 [] [] acc) nilS vc) (i := 5) h.1 rfl)) ?_
  refine hd_do (tokV x.1) (fun W h => run_load_at (AtV.agg aggTok (cs := tokC x.1) rfl fun j u hj => by rw [Nat.zero_add]; exact cells_cell (T := 90) h.2 hj)) ?_
  refine c_rm ho 4 rfl (hsubl N1 _ (ho.at_ 4 rfl)) ?_ fun e2 w9 hz ho => ?_
  rotate_left
  ·rw [if_pos hz] at harr
   exact fun _ _ _ _ _ _ => fall (L := [_,_,_,_]) _ ho (hle.trans hle1) harr.symm hz
  rintro u N2 w9 hz hle2 hu ho
  have ho : OwnS S0 w w9 [tokE b6 x.1,obE b5 (.mk 6 0 0 [] [] acc) nilS vc,obE b4 ob0 nilS nilS,kidE vc acc.length cs,rmE b s e.2.1 N2] := ho
  obtain ⟨xk,xc,xcs,rfl,hx⟩ := hu.open
  refine ⟨⟨ho.at_ 1 rfl,ho.at_ 0 rfl⟩,?_⟩
  refine o_obs1 e.1 hx.keys.one hx.kids.one ho fun nb w10 ho => ⟨⟨ho.at_ 2 rfl,ho.at_ 1 rfl⟩,?_⟩
  refine o_apO 4 ho rfl (ho.sl 0 rfl 6 1 1 rfl) (obC_one _ hx.keys.one hx.kids.one) (by omega) fun vc' w11 ho => ⟨⟨ho.at_ 2 rfl,ho.at_ 1 rfl⟩,?_⟩
  have ho := ho.tail.tail
  have ho : OwnS S0 w w11 [obE b5 (.mk 6 0 0 [] [] acc) nilS vc,obE b4 ob0 nilS nilS,kidE vc' (acc.length + 1) (cs++obC e.1 xk xc),rmE b s e.2.1 N2] := ho
  have hvc' := urow_one (ho.at_ 2 rfl)
  refine hd_pure _ (fun _ => run_fa fo_o5) ?_
  refine o_store 0 ho rfl (by kernel_rfl) hvc' (show 0 + 5 < 6 by omega) fun w12 ho => ?_
  have hbd3 := hbd2 hz
  rw [if_neg (by rw [hz]; simp)] at harr
  obtain ⟨o1,o2,o3,m',hm',_⟩ := hopen hz
  have hmx' : acc.length≠8191 := fun h => h6 ⟨h,o3,by omega⟩
  have el : (acc++[e.1]).length = acc.length + 1 := by simp
  refine nextX ⟨e.2.1,m,acc++[e.1],cs++obC e.1 xk xc,vc',N2,rfl,by omega,hbd3.2,by simp; omega,by simp; omega,by simp; omega,harr,(hle.trans hle1).trans hle2,ovs_app ((hall.le hle1).le hle2) (ovs_1 hx.ov),?_⟩ ?_
  ·rw [el]; exact ho
  ·have hat2 : rdAt b w12 = e.2.1.toNat := rdAt_is (ho.at_ 3 rfl).1
   show s.length - rdAt b w12 < s.length - rdAt b w4
   rw [hat,hat2]
   exact meas ha0 hbd3.1 hbd3.2
 rw [tk_v ho 0 rfl]
 refine c_below ho (R := fun v => v = .bool (Ps.begins x.1)) (pfirst_ret x.1 w8 e2) ?_
 rintro _ w9 rfl ho
 cases e4 : Ps.begins x.1 with
 | false =>
  simp only [rs,g_un]
  exact one ho fun h => by rw [e4] at h; exact absurd h.2.1 (by decide)
 | true =>
  simp only [rs]
  by_cases e5 : n = 0
  ·have : ¬ (24 : Int) - n < 24 := by omega
   simp only [decide_eq_false this,rs,g_un]
   exact one ho fun h => h.2.2 e5
  ·have : (24 : Int) - n < 24 := by omega
   simp only [decide_eq_true this,rs,fa_o5,ob_kids ho 1 rfl,sl_len Tryz.underlying25 (ho.slU 3 rfl)]
   by_cases e6 : (8191 : Int)≤(acc.length : Int)
   ·simp only [decide_eq_true e6,i_t]
    rw [if_pos ⟨e1,by omega,e4,decide_eq_true e5⟩] at harr
    exact throw (fall (L := [_,_,_,_]) 6 ho (hle.trans hle1) harr.symm (by decide))
   ·simp only [decide_eq_false e6,i_f]
    exact one ho fun h => e6 (by omega)
end Go.Proofs.YtjloddgofmdmgaaGreatDoor
namespace Go.Proofs.YtjloddgofmdmgaaGreatDoor
open Eng Go.RowKit
def sortS (ks : List (List UInt8)) : List (List UInt8) := ks.mergeSort fun x y => decide (x≤y)
theorem sortS_len (ks : List (List UInt8)) : (sortS ks).length = ks.length := List.length_mergeSort _
theorem sortS_perm (ks : List (List UInt8)) : (sortS ks).Perm ks := List.mergeSort_perm _ _
theorem sortS_rise {ks l : List (List UInt8)} (hp : ks.Perm l) (hr : Vl.Rise l) : sortS ks = l:= by
 have tr : ∀ a b c : List UInt8,decide (a≤b) = true→decide (b≤c) = true→decide (a≤c) = true := fun a b c h1 h2 => by simp only [decide_eq_true_eq] at *; exact List.le_trans h1 h2
 have tt : ∀ a b : List UInt8,(decide (a≤b) || decide (b≤a)) = true := fun a b => by simp only [Bool.or_eq_true,decide_eq_true_eq]; exact List.le_total a b
 refine List.Perm.eq_of_pairwise (le := fun a b => decide (a≤b) = true) (fun a b _ _ h1 h2 => ?_) (List.pairwise_mergeSort tr tt ks) (hr.imp fun {a b} h => ?_) ((sortS_perm ks).trans hp)
 ·simp only [decide_eq_true_eq] at h1 h2
  exact List.le_antisymm h1 h2
 ·have := (Vl.less_lt a b).1 h
  simp only [decide_eq_true_eq]
  exact List.le_of_lt this
theorem ssort_ret (v : Value) (ks : List (List UInt8)) (w : World) (h : (keyE v ks).is w) (hb : ks.length≤1000000000) :
  Ret Tryz.prog 228 #[v] w (fun r w' => r = .tuple #[]∧Turn (keyE v ks) (keyE v (sortS ks)) w w'):= by
 obtain ⟨h1,h2⟩ := (show w.ownsRow 0 9 1 v ks.length (strsV ks) from h)
 rcases h2 with ⟨rfl,h0⟩ | ⟨g,cap,cur,rfl,hb0,hg,hnc,hcm,hcs,htake⟩
 ·have hk : ks = [] := List.eq_nil_of_length_eq_zero h0
  subst hk
  refine Calls.mono (Tryz.slices_Sort_string_none none 0 w) ?_
  rintro e w' ⟨rfl,rfl⟩
  exact ⟨_,rfl,rfl,by simpa [sortS] using Turn.refl h⟩
 ·rw [Nat.mul_one] at hcs htake
  have hsz : ks.length≤cur.size := by rw [hcs]; exact hnc
  have hget : ∀ j,(hj : j < ks.length)→cur[j]? = some (Value.string ⟨ks[j].toArray⟩):= by
   intro j hj
   have h3 : (strsV ks)[j]? = some (.string ⟨ks[j].toArray⟩) := strsV_get hj
   rw [← htake,List.getElem?_take,if_pos hj,Array.getElem?_toList] at h3
   exact h3
  have hH : Go.Sort.Holds encStr w g 0 ks.toArray:= by
   intro j hj
   have hj' : j < ks.length := by simpa using hj
   constructor
   ·unfold World.cell?
    simp only [hg,Nat.zero_add]
    rw [hget j hj',getElem!_pos ks.toArray j hj]
    rfl
   ·unfold World.frozen?
    simp only [hg,Nat.zero_add]
    simp
  refine Calls.mono (Tryz.slices_Sort_string g 0 cap ks w hH (lt_of_get hg) (by omega)) ?_
  rintro e w' ⟨rfl,n,os,rfl⟩
  refine ⟨_,rfl,rfl,?_⟩
  have hlen := sortS_len ks
  have hheap : ∀ k,k < w.heap.size→(Go.Sort.grow (Go.Sort.putRow encStr (Go.Sort.ahead w n) g 0 (sortS ks).toArray) os).heap[k]? = (if g = k then (w.heap[k]?).map (Go.Sort.onCells (Go.Sort.putCells encStr 0 (sortS ks).toArray)) else w.heap[k]?):= by
   intro k hk
   show ((w.heap.modify g _)++os)[k]? = _
   rw [Array.getElem?_append_left (by simpa using hk),Array.getElem?_modify]
  refine ⟨⟨rfl,rfl,rfl,?_,fun k hk hn => ?_⟩,?_,fun k hk => .inl hk⟩
  ·show w.heap.size≤((w.heap.modify g _)++os).size
   simp
  ·have hne : g≠k := fun e => hn (by subst e; rfl)
   exact (hheap k hk).trans (if_neg hne)
  ·show (World.ownsRow _ 0 9 1 _ (sortS ks).length (strsV (sortS ks)))
   refine ⟨by simp [strsV],.inr ⟨g,cap,Go.Sort.putCells encStr 0 (sortS ks).toArray cur,by rw [hlen],hb0,?_,by rw [hlen]; exact hnc,hcm,?_,?_⟩⟩
   ·have := hheap g (lt_of_get hg)
    rw [if_pos rfl,hg] at this
    exact this
   ·simp [Go.Sort.putCells,hcs]
   ·rw [Nat.mul_one]
    apply List.ext_getElem?
    intro j
    rw [List.getElem?_take]
    by_cases hj : j < (sortS ks).length
    ·have hjc : j < cur.size := by omega
     rw [if_pos hj,strsV_get hj,Array.getElem?_toList]
     unfold Go.Sort.putCells
     rw [Array.getElem?_mapIdx,Array.getElem?_eq_getElem hjc,Option.map_some,if_pos ⟨by omega,by simpa using hj⟩,Nat.sub_zero,getElem!_pos (sortS ks).toArray j (by simpa using hj)]
     rfl
    ·rw [if_neg hj,List.getElem?_eq_none (by rw [strsV_length]; omega)]
end Go.Proofs.YtjloddgofmdmgaaGreatDoor
namespace Go.Proofs.YtjloddgofmdmgaaGreatDoor
open Go
namespace Ps
abbrev Kv := List UInt8 × Ob
def live (l : List Kv) : List (List UInt8) := (l.filter fun p => decide (p.2.k≠0)).map (·.1)
structure Made (o : Ob) (l : List Kv) : Prop where
 k : o.k = 7
 n : o.n = 0
 g : o.g = 0
 s : o.s = []
 rise : Vl.Rise o.keys
 len : o.keys.length = o.kids.length
 perm : (live l).Perm o.keys
 mem : ∀ q ∈ o.keys.zip o.kids,q ∈ l
theorem made0 : Made dict0 [] := ⟨rfl,rfl,rfl,rfl,List.Pairwise.nil,rfl,List.Perm.nil,fun q hq => by simp [dict0,Ob.keys] at hq⟩
theorem live_snoc (l : List Kv) (p : Kv) : live (l++[p]) = live l++(if p.2.k≠0 then [p.1] else []):= by
 unfold live
 rw [List.filter_append,List.map_append]
 congr 1
 by_cases h : p.2.k = 0 <;> simp [h]
theorem live_sub {l : List Kv} : ∀ k ∈ live l,k ∈ l.map (·.1):= by
 intro k hk
 obtain ⟨p,hp,rfl⟩ := List.mem_map.1 hk
 exact List.mem_map.2 ⟨p,(List.mem_filter.1 hp).1,rfl⟩
theorem made_join {o v : Ob} {l : List Kv} {key : List UInt8} (h : Made o l) (hn : key ∉ l.map (·.1)) : Made (join o key v) (l++[(key,v)]):= by
 unfold join
 by_cases hv : v.k = 0
 ·rw [if_neg (by rw [hv]; simp)]
  refine ⟨h.k,h.n,h.g,h.s,h.rise,h.len,?_,fun q hq => List.mem_append_left _ (h.mem q hq)⟩
  rw [live_snoc,if_neg (by rw [hv]; simp),List.append_nil]
  exact h.perm
 ·rw [if_pos hv]
  have hko : key ∉ o.keys := fun hk => hn (live_sub _ (h.perm.symm.subset hk))
  have hhit : Vl.hit o.keys key = false:= by
   unfold Vl.hit
   rw [decide_eq_false_iff_not]
   exact fun hk => hko (List.mem_of_getElem? hk)
  have hput : Vl.put o key v = .mk o.k o.n o.g o.s (o.keys.take (Vl.place o.keys key)++key :: o.keys.drop (Vl.place o.keys key)) (o.kids.take (Vl.place o.keys key)++v :: o.kids.drop (Vl.place o.keys key)):= by
   unfold Vl.put; rw [hhit]; rfl
  obtain ⟨r1,r2⟩ := Vl.rise_put (v := v) h.rise h.len (key := key)
  refine ⟨h.k,h.n,h.g,h.s,r1,r2,?_,?_⟩
  ·rw [live_snoc,if_pos hv,hput]
   refine (List.perm_append_singleton key (live l)).trans ?_
   refine (List.Perm.cons key h.perm).trans ?_
   have := (List.perm_middle (a := key) (l₁ := o.keys.take (Vl.place o.keys key)) (l₂ := o.keys.drop (Vl.place o.keys key))).symm
   rwa [List.take_append_drop] at this
  ·intro q hq
   rw [hput] at hq
   have hz : (o.keys.take (Vl.place o.keys key)++key :: o.keys.drop (Vl.place o.keys key)).zip (o.kids.take (Vl.place o.keys key)++v :: o.kids.drop (Vl.place o.keys key)) =
     (o.keys.take (Vl.place o.keys key)).zip (o.kids.take (Vl.place o.keys key))++(key,v) :: (o.keys.drop (Vl.place o.keys key)).zip (o.kids.drop (Vl.place o.keys key)):= by
    rw [List.zip_append (by simp [h.len])]; rfl
   have hq : q ∈ (o.keys.take (Vl.place o.keys key)++key :: o.keys.drop (Vl.place o.keys key)).zip (o.kids.take (Vl.place o.keys key)++v :: o.kids.drop (Vl.place o.keys key)) := hq
   rw [hz] at hq
   have hold : o.keys.zip o.kids = (o.keys.take (Vl.place o.keys key)).zip (o.kids.take (Vl.place o.keys key))++(o.keys.drop (Vl.place o.keys key)).zip (o.kids.drop (Vl.place o.keys key)):= by
    rw [← List.zip_append (by simp [h.len]),List.take_append_drop,List.take_append_drop]
   rcases List.mem_append.1 hq with hq | hq
   ·exact List.mem_append_left _ (h.mem q (by rw [hold]; exact List.mem_append_left _ hq))
   ·rcases List.mem_cons.1 hq with hq | hq
    ·subst hq; simp
    ·exact List.mem_append_left _ (h.mem q (by rw [hold]; exact List.mem_append_right _ hq))
theorem made_at {o : Ob} {l : List Kv} (h : Made o l) {i : Nat} (hi : i < o.keys.length) : (o.keys[i],o.kids[i]'(by have := h.len; omega)) ∈ l:= by
 refine h.mem _ ?_
 have : (o.keys.zip o.kids)[i]'(by simp [h.len] at *; omega) = (o.keys[i],o.kids[i]'(by have := h.len; omega)) := List.getElem_zip
 rw [← this]
 exact List.getElem_mem _
end Ps
end Go.Proofs.YtjloddgofmdmgaaGreatDoor
namespace Go.Proofs.YtjloddgofmdmgaaGreatDoor
namespace Eng
open Go.RowKit
structure MapF (al : List (List UInt8 × Value)) (es : Array MapEntry) (clock : Nat) : Prop where
 al : es.toList.map (fun e => (e.key,e.val)) = al.map fun p => (strK p.1,p.2)
 nodup : (es.toList.map (·.born)).Nodup
 old : ∀ e ∈ es.toList,e.born < clock
def Ent.mapB (b : Nat) (al : List (List UInt8 × Value)) : Ent := ⟨fun k => k = b,fun w => ∃ es clock,w.heap[b]? = some (.map es clock)∧MapF al es clock,fun {w w'} h k => by
  obtain ⟨es,clock,h1,h2⟩ := h
  exact ⟨es,clock,(k b rfl).trans h1,h2⟩,fun h k hk => by
  obtain ⟨es,clock,h1,h2⟩ := h
  cases hk; exact lt_of_get h1⟩
theorem mapB_is {w : World} {b : Nat} {al : List (List UInt8 × Value)} (h : (Ent.mapB b al).is w) : MapIs w b al:= by
 obtain ⟨es,clock,h1,h2⟩ := h
 exact ⟨es,clock,h1,h2.al⟩
def SeenM (es : Array MapEntry) (seen : Array Nat) (done : List (List UInt8 × Value)) : Prop :=
 ∃ ds : List MapEntry,seen.toList = ds.map (·.born)∧(∀ e ∈ ds,e ∈ es.toList)∧(ds.map (·.born)).Nodup∧ds.map (fun e => (e.key,e.val)) = done.map fun p => (strK p.1,p.2)
theorem born_inj : ∀ {l : List MapEntry},(l.map (·.born)).Nodup→∀ {x y : MapEntry},x ∈ l→y ∈ l→x.born = y.born→x = y
 | [],_,_,_,hx,_,_ => by cases hx
 | a :: l,hn,x,y,hx,hy,h => by
  rw [List.map_cons,List.nodup_cons] at hn
  rcases List.mem_cons.1 hx with ex | hx
  ·rcases List.mem_cons.1 hy with ey | hy
   ·rw [ex,ey]
   ·exact absurd (List.mem_map.2 ⟨y,hy,by rw [← h,ex]⟩) hn.1
  ·rcases List.mem_cons.1 hy with ey | hy
   ·exact absurd (List.mem_map.2 ⟨x,hx,by rw [h,ey]⟩) hn.1
   ·exact born_inj hn.2 hx hy h
theorem nodup_of_born : ∀ {l : List MapEntry},(l.map (·.born)).Nodup→l.Nodup
 | [],_ => List.nodup_nil
 | a :: l,h => by
  rw [List.map_cons,List.nodup_cons] at h
  exact List.nodup_cons.2 ⟨fun hm => h.1 (List.mem_map.2 ⟨a,hm,rfl⟩),nodup_of_born h.2⟩
theorem nodup_le {α : Type} : ∀ (a b : List α),a.Nodup→(∀ x ∈ a,x ∈ b)→a.length≤b.length
 | [],_,_,_ => by simp
 | x :: a,b,hn,hs => by
  obtain ⟨u,v,rfl⟩ := List.append_of_mem (hs x List.mem_cons_self)
  obtain ⟨h1,h2⟩ := List.nodup_cons.1 hn
  have := nodup_le a (u++v) h2 fun y hy => by
   have hy' := hs y (List.mem_cons_of_mem _ hy)
   rw [List.mem_append,List.mem_cons] at hy'
   rw [List.mem_append]
   rcases hy' with h | h | h
   ·exact .inl h
   ·subst h; exact absurd hy h1
   ·exact .inr h
  simp only [List.length_append,List.length_cons] at this ⊢
  omega
theorem perm_kv {a b : List (List UInt8 × Value)} (h : (a.map fun p => (strK p.1,p.2)).Perm (b.map fun p => (strK p.1,p.2))) : a.Perm b:= by
 -- a list that goes back
 let back : Value × Value→List UInt8 × Value := fun q => (match q.1 with | .string s => s.data.toList | _ => [],q.2)
 have hb : ∀ l : List (List UInt8 × Value),(l.map fun p => (strK p.1,p.2)).map back = l:= by
  intro l
  rw [List.map_map]
  conv => rhs; rw [← List.map_id l]
  refine List.map_congr_left fun p _ => ?_
  rfl
 have := h.map back
 rwa [hb,hb] at this
section
variable {S : Nat→Prop} {P : Program} {w w0 : World} {L : List Ent} {PK : List PanicEntry→World→Prop} {K : Value→World→Prop}
theorem o_mapNewB {T : TypeId} (ho : OwnS S w0 w L) (k : ∀ b w',OwnS S w0 w' (.mapB b [] :: L)→K (.map (some b)) w') : DoX P (mMap T none) w PK K:= by
 have hr : (Instr.makeMap T none).run P w = .ok (.map (some w.heap.size)) (w.alloc (.map #[] 0)) := rfl
 exact do_ok (mv_run hr) (k _ _ (ho.add (World.grownBy_alloc w _ none) (.mapB w.heap.size []) ⟨#[],0,heap_alloc_new w _,rfl,List.nodup_nil,fun e he => by simp at he⟩ (fun k hk => by cases hk; exact Nat.le_refl _)))
theorem o_mapAddB (i : Nat) {T k e : TypeId} {b : Nat} {al : List (List UInt8 × Value)} (ht : P.underlying T = some (.map k e)) (hk : P.underlying k = some .string) (ho : OwnS S w0 w L) (hi : L[i]? = some (.mapB b al)) (x : List UInt8) (v : Value) (hn : lookA al x = none)
  (kk : ∀ w',OwnS S w0 w' (L.set i (.mapB b (al++[(x,v)])))→K undef w') : DoX P (mMapU T (.map (some b)) (strK x) v) w PK K:= by
 obtain ⟨es,clock,h1,h2⟩ := (show ∃ es clock,w.heap[b]? = some (.map es clock)∧MapF al es clock from ho.at_ i hi)
 obtain ⟨r,r1,r2⟩ := run_findStr (P := P) (w := w) hk x h2.al
 have hr0 : r = none:= by
  cases r with
  | none => rfl
  | some p => rw [hn] at r2; cases r2
 subst hr0
 have hr : (Instr.mapUpdate T (.map (some b)) (strK x) v).run P w = .ok () { w with heap := w.heap.setIfInBounds b (.map (es.push { key := strK x,val := v,born := clock }) (clock + 1)) }:= by
  simp [Instr.mapUpdate,run_underlying ht,getObj,setObj,Sem.run,h1,run_checkStr hk x,r1]
 refine do_skip (mu_run hr) (kk _ ?_)
 refine ho.put i hi (w' := { w with heap := w.heap.setIfInBounds b _ }) ⟨rfl,rfl,rfl,by simp,fun k _ hk => ?_⟩ (.mapB b (al++[(x,v)])) ?_ (fun k hk => .inl hk)
 ·show (w.heap.setIfInBounds b _)[k]? = _
  exact Array.getElem?_setIfInBounds_ne (fun e => hk (by simp [Ent.mapB,e]))
 ·refine ⟨es.push { key := strK x,val := v,born := clock },clock + 1,?_,?_,?_,?_⟩
  ·show (w.heap.setIfInBounds b _)[b]? = _
   exact Array.getElem?_setIfInBounds_self_of_lt (lt_of_get h1)
  ·simp [h2.al]
  ·rw [Array.toList_push,List.map_append,List.nodup_append]
   refine ⟨h2.nodup,by simp,fun a ha c hc => ?_⟩
   obtain ⟨e,he,rfl⟩ := List.mem_map.1 ha
   have := h2.old e he
   simp at hc
   omega
  ·intro e he
   rw [Array.toList_push] at he
   rcases List.mem_append.1 he with he | he
   ·have := h2.old e he; omega
   ·rw [List.mem_singleton] at he; subst he; exact Nat.lt_succ_self _
theorem OwnS.openM {b : Nat} {al : List (List UInt8 × Value)} (ho : OwnS S w0 w L) (i : Nat) (hi : L[i]? = some (.mapB b al)) : ∃ es clock,MapF al es clock∧OwnS S w0 w (L.set i (.obj b (.map es clock))):= by
 obtain ⟨es,clock,h1,h2⟩ := (show ∃ es clock,w.heap[b]? = some (.map es clock)∧MapF al es clock from ho.at_ i hi)
 exact ⟨es,clock,h2,ho.turn i hi ⟨Grew.refl _ _,h1,fun _ hk => .inl hk⟩⟩
theorem OwnS.shutM {b : Nat} {al : List (List UInt8 × Value)} {es : Array MapEntry} {clock : Nat} (ho : OwnS S w0 w L) (i : Nat) (hi : L[i]? = some (.obj b (.map es clock))) (hf : MapF al es clock) : OwnS S w0 w (L.set i (.mapB b al)) :=
 ho.turn i hi ⟨Grew.refl _ _,⟨es,clock,ho.at_ i hi,hf⟩,fun _ hk => .inl hk⟩
theorem o_rangeM (i : Nat) {T k e : TypeId} {m clock : Nat} {es : Array MapEntry} (ht : P.underlying T = some (.map k e)) (ho : OwnS S w0 w L) (hi : L[i]? = some (.obj m (.map es clock)))
  (kk : ∀ b w',OwnS S w0 w' (.obj b (.mapIter (some m) clock #[] clock) :: L)→K (.pointer (some ⟨b,0,none⟩)) w') : DoX P (mRange T (.map (some m))) w PK K:= by
 have h1 : w.heap[m]? = some (.map es clock) := ho.at_ i hi
 have hr := run_range_map (P := P) w T k e m es clock ht h1
 exact do_ok (mv_run hr) (kk _ _ (ho.allocObj _))
theorem seen_nil (es : Array MapEntry) : SeenM es #[] [] := ⟨[],rfl,(fun e he => by cases he),List.nodup_nil,rfl⟩
theorem o_nextM (i j : Nat) {b m clock : Nat} {es : Array MapEntry} {seen : Array Nat} {al done : List (List UInt8 × Value)} {ty : TypeId} (ho : OwnS S w0 w L) (hi : L[i]? = some (.obj b (.mapIter (some m) clock seen clock))) (hj : L[j]? = some (.obj m (.map es clock)))
  (hf : MapF al es clock) (hs : SeenM es seen done) (kend : done.Perm al→K (.tuple #[.bool false]) w)
  (knext : ∀ (p : List UInt8 × Value) (e : MapEntry) (w' : World),p ∈ al→p ∉ done∨True→e ∈ es.toList→e.key = strK p.1→e.val = p.2→SeenM es (seen.push e.born) (done++[p])→done.length < al.length →
   OwnS S w0 w' (L.set i (.obj b (.mapIter (some m) clock (seen.push e.born) clock)))→K (.tuple #[.bool true,strK p.1,p.2]) w') :
  DoX P (mNext (.pointer (some ⟨b,0,none⟩)) false ty) w PK K:= by
 have h1 : w.heap[b]? = some (.mapIter (some m) clock seen clock) := ho.at_ i hi
 have h2 : w.heap[m]? = some (.map es clock) := ho.at_ j hj
 obtain ⟨ds,d1,d2,d3,d4⟩ := hs
 have hds : ds.length = done.length := by simpa using congrArg List.length d4
 have hel : es.toList.length = al.length := by simpa using congrArg List.length hf.al
 rcases Go.run_next_at (P := P) w ty b m clock clock seen es clock h1 h2 hf.old (Nat.le_refl _) with ⟨hl,hr⟩ | ⟨e,he,w1,hw1,hr⟩
 ·refine do_ok (mv_run hr) (kend ?_)
  -- all have come
  have hall : ∀ x ∈ es.toList,x ∈ ds:= by
   intro x hx
   have hc : seen.contains x.born = true:= by
    cases hcc : seen.contains x.born with
    | true => rfl
    | false =>
     exfalso
     have hm : x ∈ (leftOf es seen).toList:= by
      unfold leftOf
      rw [Array.toList_filter,List.mem_filter]
      exact ⟨hx,by simp only [hcc]; rfl⟩
     have : 0 < (leftOf es seen).size:= by
      rw [← Array.length_toList]
      exact List.length_pos_of_mem hm
     omega
   have hm : x.born ∈ seen.toList := by simpa using hc
   rw [d1] at hm
   obtain ⟨y,hy,hyb⟩ := List.mem_map.1 hm
   rw [← born_inj hf.nodup (d2 y hy) hx hyb]
   exact hy
  have hp : ds.Perm es.toList := (List.perm_ext_iff_of_nodup (nodup_of_born d3) (nodup_of_born hf.nodup)).2 fun x => ⟨d2 x,hall x⟩
  have := hp.map fun e => (e.key,e.val)
  rw [d4,hf.al] at this
  exact perm_kv this
 ·-- one comes
  have hem : e ∈ es.toList∧seen.contains e.born = false:= by
   unfold leftOf at he
   rw [Array.toList_filter,List.mem_filter] at he
   exact ⟨he.1,by simpa using he.2⟩
  have hk : (e.key,e.val) ∈ es.toList.map (fun e => (e.key,e.val)) := List.mem_map.2 ⟨e,hem.1,rfl⟩
  rw [hf.al] at hk
  obtain ⟨p,hp,hpe⟩ := List.mem_map.1 hk
  simp only [Prod.mk.injEq] at hpe
  have hnb : e.born ∉ ds.map (·.born):= by
   rw [← d1]
   intro hm
   have : seen.contains e.born = true := by simpa using hm
   rw [hem.2] at this; cases this
  have hs' : SeenM es (seen.push e.born) (done++[p]):= by
   refine ⟨ds++[e],by simp [d1],?_,?_,?_⟩
   ·intro x hx
    rcases List.mem_append.1 hx with hx | hx
    ·exact d2 x hx
    ·rw [List.mem_singleton] at hx; subst hx; exact hem.1
   ·rw [List.map_append,List.nodup_append]
    refine ⟨d3,by simp,fun a ha c hc => ?_⟩
    simp at hc
    subst hc
    intro e2
    exact hnb (by rw [← e2]; exact ha)
   ·simp [d4,hpe.1,hpe.2]
  have hlt : done.length < al.length:= by
   rw [← hds,← hel]
   exact nodup_le (e :: ds) es.toList (List.nodup_cons.2 ⟨fun hm => hnb (List.mem_map.2 ⟨e,hm,rfl⟩),nodup_of_born d3⟩) (fun x hx => by
    rcases List.mem_cons.1 hx with rfl | hx
    ·exact hem.1
    ·exact d2 x hx)
  have how : OwnS S w0 w1 L:= by
   rcases hw1 with rfl | rfl
   ·exact ho
   ·exact ho.drew
  have hkk := put_iter (o' := .mapIter (some m) clock (seen.push e.born) clock) how i hi
  rw [← hpe.1,← hpe.2] at hr
  exact do_ok (mv_run hr) (knext p e _ hp (.inr trivial) hem.1 hpe.1.symm hpe.2.symm hs' hlt hkk)
theorem e_entry (i j : Nat) {b m clock : Nat} {es : Array MapEntry} {seen : Array Nat} {e : MapEntry} {al : List (List UInt8 × Value)} (ho : OwnS S w0 w L) (hi : L[i]? = some (.obj b (.mapIter (some m) clock (seen.push e.born) clock))) (hj : L[j]? = some (.obj m (.map es clock)))
  (hf : MapF al es clock) (he : e ∈ es.toList) : DoX P (mEntry (.pointer (some ⟨b,0,none⟩))) w PK K = K (.tuple #[e.key,e.val]) w :=
 do_eq (mv_run (run_entry_at (P := P) w b m clock seen es clock e (ho.at_ i hi) (ho.at_ j hj) he hf.nodup))
end
end Eng
end Go.Proofs.YtjloddgofmdmgaaGreatDoor
namespace Go.Proofs.YtjloddgofmdmgaaGreatDoor
set_option maxRecDepth 20000
open Eng Go.RowKit
def KvR (A : Nat→Prop) (w : World) : List (List UInt8 × Value)→List Ps.Kv→Prop
 | [],[] => True
 | p :: al,q :: l => p.1 = q.1∧OV A w p.2 q.2∧KvR A w al l
 | _,_ => False
theorem KvR.le {M N : Mem} (h : M.le N) : ∀ {al : List (List UInt8 × Value)} {l : List Ps.Kv},KvR M.A M.w al l→KvR N.A N.w al l
 | [],[],_ => trivial
 | _ :: _,_ :: _,⟨h1,h2,h3⟩ => ⟨h1,h2.le h,KvR.le h h3⟩
 | [],_ :: _,h => h.elim
 | _ :: _,[],h => h.elim
section
variable {A : Nat→Prop} {w : World}
theorem KvR.fst : ∀ {al : List (List UInt8 × Value)} {l : List Ps.Kv},KvR A w al l→al.map (·.1) = l.map (·.1)
 | [],[],_ => rfl
 | _ :: _,_ :: _,⟨h1,_,h3⟩ => by rw [List.map_cons,List.map_cons,h1,KvR.fst h3]
 | [],_ :: _,h => h.elim
 | _ :: _,[],h => h.elim
theorem KvR.snoc {k : List UInt8} {v : Value} {o : Ob} (hv : OV A w v o) : ∀ {al : List (List UInt8 × Value)} {l : List Ps.Kv},KvR A w al l→KvR A w (al++[(k,v)]) (l++[(k,o)])
 | [],[],_ => ⟨rfl,hv,trivial⟩
 | _ :: _,_ :: _,⟨h1,h2,h3⟩ => ⟨h1,h2,KvR.snoc hv h3⟩
 | [],_ :: _,h => h.elim
 | _ :: _,[],h => h.elim
theorem KvR.mem : ∀ {al : List (List UInt8 × Value)} {l : List Ps.Kv},KvR A w al l→∀ {p : List UInt8 × Value},p ∈ al→∃ o,(p.1,o) ∈ l∧OV A w p.2 o
 | [],_,_,p,hp => by cases hp
 | a :: _,b :: _,⟨h1,h2,h3⟩,p,hp => by
  rcases List.mem_cons.1 hp with rfl | hp
  ·exact ⟨b.2,by rw [h1]; exact List.mem_cons_self,h2⟩
  ·obtain ⟨o,ho,hv⟩ := KvR.mem h3 hp
   exact ⟨o,List.mem_cons_of_mem _ ho,hv⟩
 | _ :: _,[],h,_,_ => h.elim
theorem KvR.look {k : List UInt8} {o : Ob} : ∀ {al : List (List UInt8 × Value)} {l : List Ps.Kv},KvR A w al l→(l.map (·.1)).Nodup→(k,o) ∈ l→∃ v,lookA al k = some v∧OV A w v o
 | [],[],_,_,hm => by cases hm
 | p :: al,q :: l,⟨h1,h2,h3⟩,hn,hm => by
  rw [List.map_cons,List.nodup_cons] at hn
  by_cases hk : p.1 = k
  ·have hq : (k,o) = q:= by
    rcases List.mem_cons.1 hm with h | h
    ·exact h
    ·exact absurd (List.mem_map.2 ⟨(k,o),h,by rw [← h1,hk]⟩) hn.1
   refine ⟨p.2,by unfold lookA; rw [List.find?_cons_of_pos (by simpa using hk)]; rfl,?_⟩
   rw [← hq] at h2
   exact h2
  ·have hm' : (k,o) ∈ l:= by
    rcases List.mem_cons.1 hm with h | h
    ·exact absurd (by rw [h1,← h]) hk
    ·exact h
   obtain ⟨v,hv,ho⟩ := KvR.look h3 hn.2 hm'
   refine ⟨v,?_,ho⟩
   unfold lookA at hv ⊢
   rw [List.find?_cons_of_neg (by simpa using hk)]
   exact hv
 | [],_ :: _,h,_,_ => h.elim
 | _ :: _,[],h,_,_ => h.elim
def kindV : Value→Int
 | .agg cs => match cs.toList with | .int _ k :: _ => k | _ => 0
 | _ => 0
theorem kindV_of {v : Value} {o : Ob} (h : OV A w v o) : kindV v = o.k:= by
 obtain ⟨vk,vc,cs,rfl,_⟩ := h.open
 rfl
def liveV (al : List (List UInt8 × Value)) : List (List UInt8) := (al.filter fun p => decide (kindV p.2≠0)).map (·.1)
theorem KvR.live : ∀ {al : List (List UInt8 × Value)} {l : List Ps.Kv},KvR A w al l→liveV al = Ps.live l
 | [],[],_ => rfl
 | p :: al,q :: l,⟨h1,h2,h3⟩ => by
  have ih := KvR.live h3
  unfold liveV Ps.live at *
  rw [List.filter_cons,List.filter_cons,kindV_of h2]
  split
  ·rw [List.map_cons,List.map_cons,ih,h1]
  ·exact ih
 | [],_ :: _,h => h.elim
 | _ :: _,[],h => h.elim
theorem liveV_snoc (al : List (List UInt8 × Value)) (p : List UInt8 × Value) : liveV (al++[p]) = liveV al++(if kindV p.2≠0 then [p.1] else []):= by
 unfold liveV
 rw [List.filter_append,List.map_append]
 congr 1
 by_cases h : kindV p.2 = 0 <;> simp [h]
theorem liveV_perm {a b : List (List UInt8 × Value)} (h : a.Perm b) : (liveV a).Perm (liveV b) := (h.filter _).map _
theorem liveV_len (al : List (List UInt8 × Value)) : (liveV al).length≤al.length:= by
 unfold liveV
 rw [List.length_map]
 exact List.length_filter_le _ _
end
section
variable {w : World} {PK : List PanicEntry→World→Prop} {K : Value→World→Prop} {S : Nat→Prop} {w0 : World} {L : List Ent}
theorem zOb : (Tryz.prog.info? 27).bind (·.zero) = some (obV ob0 nilS nilS) := by kernel_rfl
theorem lookT (i : Nat) {b : Nat} {al : List (List UInt8 × Value)} (ho : OwnS S w0 w L) (hi : L[i]? = some (.mapB b al)) (x : List UInt8) :
  DoX Tryz.prog (mLook 229 (.map (some b)) (.string ⟨x.toArray⟩) true) w PK K = K (.tuple #[(lookA al x).getD (obV ob0 nilS nilS),.bool (lookA al x).isSome]) w :=
 do_eq (run_look (ok := true) Tryz.underlying229 Tryz.underlying9 zOb (mapB_is (ho.at_ i hi)) x)
theorem lookF (i : Nat) {b : Nat} {al : List (List UInt8 × Value)} (ho : OwnS S w0 w L) (hi : L[i]? = some (.mapB b al)) {x : List UInt8} {v : Value} (hv : lookA al x = some v) :
  DoX Tryz.prog (mLook 229 (.map (some b)) (.string ⟨x.toArray⟩) false) w PK K = K v w:= by
 have := do_eq (PK := PK) (K := K) (run_look (ok := false) Tryz.underlying229 Tryz.underlying9 zOb (mapB_is (ho.at_ i hi)) x)
 rw [hv] at this
 exact this
theorem lenM (i : Nat) {b : Nat} {al : List (List UInt8 × Value)} {cs : Array Bool} (ho : OwnS S w0 w L) (hi : L[i]? = some (.mapB b al)) :
  DoX Tryz.prog (mB .len #[229] 3 cs #[.map (some b)]) w PK K = K (.int .i64 (al.length : Int)) w:= by
 obtain ⟨es,clock,h1,h2⟩ := (show ∃ es clock,w.heap[b]? = some (.map es clock)∧MapF al es clock from ho.at_ i hi)
 have hl : es.size = al.length:= by
  have := congrArg List.length h2.al
  simpa using this
 refine do_eq ?_
 simp [mB,builtin,Builtin.len_,run_underlying Tryz.underlying229,getObj,h1,goInt,hl,Sem.run]
end
def itAt (b : Nat) (w : World) : Nat := match w.heap[b]? with | some (.mapIter _ _ seen _) => seen.size | _ => 0
theorem itAt_is {b : Nat} {m clock : Nat} {seen : Array Nat} {w : World} (h : (Ent.obj b (.mapIter (some m) clock seen clock)).is w) : itAt b w = seen.size:= by
 unfold itAt
 rw [show w.heap[b]? = _ from h]
theorem seen_size {es : Array MapEntry} {seen : Array Nat} {done : List (List UInt8 × Value)} (h : SeenM es seen done) : seen.size = done.length:= by
 obtain ⟨ds,d1,_,_,d4⟩ := h
 rw [← Array.length_toList,d1,List.length_map]
 simpa using congrArg List.length d4
theorem pbuild {S0 : Nat→Prop} {w W : World} {b b4 b5 b9 : Nat} {s : List UInt8} {a : Int} {N : Mem} {al : List (List UInt8 × Value)} {l : List Ps.Kv} {o : Ob} {K : Ending→World→Prop}
  (hkv : KvR N.A N.w al l) (hnd : (l.map (·.1)).Nodup) (hmade : Ps.Made o l) (hlen : l.length≤8191)
  (ho : OwnS S0 w W [obE b9 Ps.dict0 nilS nilS,keyE nilS [],kidE nilS 0 [],obE b4 ob0 nilS nilS,.mapB b5 al,rmE b s a N])
  (kend : ∀ (W' : World) (N2 : Mem) (L : List Ent) (v : Value),OwnS S0 w W' (rdE b s a :: .mem N2 :: L)→N.le N2→OV N2.A N2.w v o→K (.returned v) W') :
  DoX Tryz.prog (mRange 229 (.map (some b5))) W (pk K) fun t49 w => LoopX [] w (fun vs2 w N2 => ∀ _ : Sg,S_parse_reader_dict_1 (.pointer (some ⟨b4,0,none⟩)) (.map (some b5)) (.pointer (some ⟨b9,0,none⟩)) t49 w N2 K):= by
 have hall : al.length = l.length := by simpa using congrArg List.length hkv.fst
 obtain ⟨es,clock,hf,ho⟩ := ho.openM 4 rfl
 refine o_rangeM 4 Tryz.underlying229 ho rfl fun it w1 ho => ?_
 refine loop (fun vs w' => ∃ (seen : Array Nat) (done : List (List UInt8 × Value)) (vk : Value),vs = []∧SeenM es seen done∧done.length≤al.length∧(∀ p ∈ done,p ∈ al) ∧
   OwnS S0 w w' [.obj it (.mapIter (some b5) clock seen clock),obE b9 Ps.dict0 vk nilS,keyE vk (liveV done),kidE nilS 0 [],obE b4 ob0 nilS nilS,.obj b5 (.map es clock),rmE b s a N]) (fun _ w => al.length - itAt it w)
  ⟨#[],[],nilS,rfl,seen_nil es,by simp,by simp,ho⟩ ?_
 clear ho
 rintro vs w2 ⟨seen,done,vk,rfl,hs,hdl,hda,ho⟩ _
 simp only [S_parse_reader_dict_1]
 have hit : itAt it w2 = seen.size := itAt_is (ho.at_ 0 rfl)
 have hss := seen_size hs
 refine o_nextM 0 5 ho rfl rfl hf hs (fun hperm => ?_) fun p e w3 hpa _ he hek hev hs' hlt ho => ?_
 ·-- all have come
  simp only [ex,i_f]
  have ho := ho.tail
  have ho : OwnS S0 w w2 [obE b9 Ps.dict0 vk nilS,keyE vk (liveV done),kidE nilS 0 [],obE b4 ob0 nilS nilS,.obj b5 (.map es clock),rmE b s a N] := ho
  have ho := ho.shutM 4 rfl hf
  have ho : OwnS S0 w w2 [obE b9 Ps.dict0 vk nilS,keyE vk (liveV done),kidE nilS 0 [],obE b4 ob0 nilS nilS,.mapB b5 al,rmE b s a N] := ho
  rw [fa_o4,ob_keys ho 0 rfl]
  have hll := liveV_len done
  refine c_ret (ssort_ret vk (liveV done) w2 (ho.at_ 1 rfl) (by omega)) ?_
  rintro _ w3 ⟨rfl,ht⟩
  have ho := ho.turn 1 rfl ht
  have hsort : sortS (liveV done) = o.keys := sortS_rise ((liveV_perm hperm).trans (by rw [hkv.live]; exact hmade.perm)) hmade.rise
  rw [hsort] at ho
  have ho : OwnS S0 w w3 [obE b9 Ps.dict0 vk nilS,keyE vk o.keys,kidE nilS 0 [],obE b4 ob0 nilS nilS,.mapB b5 al,rmE b s a N] := ho
  have hkl : o.keys.length≤8191:= by
   have h1 := hmade.perm.length_eq
   have h2 := hkv.live (A := N.A)
   have h3 := liveV_len al
   rw [← h1,← h2]; omega
  rw [fa_o4,ob_keys ho 0 rfl,sl_len Tryz.underlying24 (ho.slU 1 rfl)]
  refine loop (fun vs w' => ∃ (i : Nat) (cs : List Value) (vc : Value),vs = [.int .i64 i]∧i≤o.keys.length∧OVs N.A N.w cs (o.kids.take i) ∧
   OwnS S0 w w' [obE b9 Ps.dict0 vk vc,keyE vk o.keys,kidE vc i cs,obE b4 ob0 nilS nilS,.mapB b5 al,rmE b s a N]) (fun vs _ => o.keys.length - n0 vs) ⟨0,[],nilS,rfl,by omega,OVs.nil,ho⟩ ?_
  clear ho
  rintro vs w4 ⟨i,cs,vc,rfl,hi,hov,ho⟩ _
  simp only [S_parse_reader_dict_2,gd,rs]
  by_cases hlt : (i : Int) < (o.keys.length : Int)
  ·have hi' : i < o.keys.length := by omega
   simp only [decide_eq_true hlt,i_t]
   obtain ⟨g,cap,_,ia,ld⟩ := key_row 1 ho rfl hi'
   refine do_eq (ia w4) |>.mpr (do_eq (ld w4 (ho.at_ 1 rfl)) |>.mpr ?_)
   rw [fa_o5,ob_kids ho 0 rfl]
   obtain ⟨v,hv,hvo⟩ := hkv.look hnd (Ps.made_at hmade hi')
   rw [lookF 4 ho rfl hv]
   obtain ⟨xk,xc,xcs,rfl,hx⟩ := hvo.open
   refine o_obs1 _ hx.keys.one hx.kids.one ho fun nb w5 ho => ?_
   refine o_apO 3 ho rfl (ho.sl 0 rfl 6 1 1 rfl) (obC_one _ hx.keys.one hx.kids.one) (by omega) fun vc' w6 ho => ?_
   have ho := ho.tail
   have hvc' := urow_one (ho.at_ 2 rfl)
   rw [fa_o5]
   refine o_store 0 ho rfl (by kernel_rfl) hvc' (show 0 + 5 < 6 by omega) fun w7 ho => ?_
   rw [wrap64_id (by omega) (by omega)]
   refine nextX ⟨i + 1,_,vc',rfl,by omega,?_,ho⟩ (by show o.keys.length - Int.toNat ((i : Int) + 1) < o.keys.length - Int.toNat (i : Int); omega)
   have hkl2 : i < o.kids.length := by have := hmade.len; omega
   rw [List.take_succ_eq_append_getElem hkl2]
   exact ovs_app hov (ovs_1 hx.ov)
  ·have hi' : i = o.keys.length := by omega
   simp only [decide_eq_false hlt,i_f]
   subst hi'
   rw [hmade.len,List.take_length] at hov
   have hvk := urow_one (ho.at_ 1 rfl)
   have hvc := urow_one (ho.at_ 2 rfl)
   rw [ob_v ho 0 rfl]
   refine ob_put (o' := Ps.dict0) 3 hvk hvc ho rfl fun w5 ho => ?_
   refine ret_v1 (rv_cell (ho.agg 3 rfl aggOb)) ?_
   have ho : OwnS S0 w w5 ([obE b9 Ps.dict0 vk vc,keyE vk o.keys,kidE vc o.keys.length cs,obE b4 Ps.dict0 vk vc,.mapB b5 al]++([rmE b s a N]++[])) := ho
   have ho := ho.front.split
   have ho : OwnS S0 w w5 ([rdE b s a,.mem N,obE b9 Ps.dict0 vk vc]++([keyE vk o.keys,kidE vc o.keys.length cs]++[obE b4 Ps.dict0 vk vc,.mapB b5 al])) := ho
   have ho := ho.front
   obtain ⟨N2,hle2,hrow2,ho⟩ := OwnS.freezeU (L := [kidE vc o.keys.length cs,rdE b s a,.mem N,obE b9 Ps.dict0 vk vc,obE b4 Ps.dict0 vk vc,.mapB b5 al]) ho 2 rfl
   obtain ⟨N3,hle3,hrow3,ho⟩ := OwnS.freezeU (L := [rdE b s a,.mem N2,obE b9 Ps.dict0 vk vc,obE b4 Ps.dict0 vk vc,.mapB b5 al]) ho 1 rfl
   have hval : obV Ps.dict0 vk vc = obV o vk vc:= by
    unfold obV obC
    rw [hmade.k,hmade.n,hmade.g,hmade.s]; rfl
   refine kend w5 N3 _ _ ho (hle2.trans hle3) ?_
   show OV N3.A N3.w (obV Ps.dict0 vk vc) o
   rw [hval]
   rw [hmade.len] at hrow3
   exact ObAt.ov ⟨hrow2.le hle3,hrow3,(hov.le hle2).le hle3⟩
 ·simp only [ex,i_t]
  have ho : OwnS S0 w w3 [.obj it (.mapIter (some b5) clock (seen.push e.born) clock),obE b9 Ps.dict0 vk nilS,keyE vk (liveV done),kidE nilS 0 [],obE b4 ob0 nilS nilS,.obj b5 (.map es clock),rmE b s a N] := ho
  rw [e_entry 0 5 ho rfl rfl hf he,hek,hev]
  simp only [ex]
  obtain ⟨x,hxl,hxo⟩ := hkv.mem hpa
  have hkind := kindV_of hxo
  obtain ⟨xk,xc,xcs,hpe,hx⟩ := hxo.open
  obtain ⟨pk1,pv⟩ := p
  simp only at hpe hkind
  subst hpe
  refine o_oba ho fun b11 w4 ho => ?_
  refine ob_put (o' := x) 0 hx.keys.one hx.kids.one ho rfl fun w5 ho => ?_
  have ho : OwnS S0 w w5 [obE b11 x xk xc,.obj it (.mapIter (some b5) clock (seen.push e.born) clock),obE b9 Ps.dict0 vk nilS,keyE vk (liveV done),kidE nilS 0 [],obE b4 ob0 nilS nilS,.obj b5 (.map es clock),rmE b s a N] := ho
  rw [fa_o0,ob_k ho 0 rfl]
  simp only [rs]
  have hsn := liveV_snoc done (pk1,obV x xk xc)
  have mea : ∀ {W : World} {L : List Ent},OwnS S0 w W L→L[0]? = some (.obj it (.mapIter (some b5) clock (seen.push e.born) clock))→al.length - itAt it W < al.length - itAt it w2:= by
   intro W L ho hi
   rw [hit,itAt_is (ho.at_ 0 hi),Array.size_push]
   omega
  have hda' : ∀ q ∈ done++[(pk1,obV x xk xc)],q ∈ al:= by
   intro q hq
   rcases List.mem_append.1 hq with hq | hq
   ·exact hda q hq
   ·rw [List.mem_singleton] at hq; subst hq; exact hpa
  by_cases hk : x.k = 0
  ·simp only [hk,ne_eq,not_true,decide_false,i_f]
   rw [if_neg (by rw [hkind,hk]; simp),List.append_nil] at hsn
   refine nextX ⟨_,done++[(pk1,obV x xk xc)],vk,rfl,hs',by simp; omega,hda',?_⟩ (mea ho.tail rfl)
   rw [hsn]
   exact ho.tail
  ·simp only [hk,ne_eq,not_false_eq_true,decide_true,i_t]
   rw [if_pos (by rw [hkind]; exact hk)] at hsn
   rw [fa_o4,ob_keys ho 2 rfl]
   have hll := liveV_len done
   show DoX Tryz.prog (mBuildS 24 1 #[(0,.string ⟨pk1.toArray⟩)]) w5 _ _
   refine o_strb1 pk1 ho fun nb w6 ho => ?_
   refine o_apS 4 ho rfl (ho.sl 0 rfl 1 1 1 rfl) (by simp [Value.oneCell']) (by omega) fun vk' w7 ho => ?_
   have ho := ho.tail.tail
   have ho : OwnS S0 w w7 [.obj it (.mapIter (some b5) clock (seen.push e.born) clock),obE b9 Ps.dict0 vk nilS,keyE vk' (liveV done++[pk1]),kidE nilS 0 [],obE b4 ob0 nilS nilS,.obj b5 (.map es clock),rmE b s a N]:= by
    have e : strsV (liveV done++[pk1]) = strsV (liveV done)++[.string ⟨pk1.toArray⟩] := by rw [strsV_app]; rfl
    rw [keyE,List.length_append,List.length_singleton,e]
    exact ho
   have hvk' := urow_one (ho.at_ 2 rfl)
   rw [fa_o4]
   refine o_store 1 ho rfl (by kernel_rfl) hvk' (show 0 + 4 < 6 by omega) fun w8 ho => ?_
   refine nextX ⟨_,done++[(pk1,obV x xk xc)],vk',rfl,hs',by simp; omega,hda',?_⟩ (mea ho rfl)
   rw [hsn]
   exact ho
end Go.Proofs.YtjloddgofmdmgaaGreatDoor
namespace Go.Proofs.YtjloddgofmdmgaaGreatDoor
set_option maxRecDepth 20000
open Eng Go.RowKit
theorem dict_lacks {s : List UInt8} {sub : Int→Ps.R} {m : Nat} {a : Int} {o : Ob} {met : List (List UInt8)} (h : ¬ Has s a) : Ps.dict s sub (m + 1) a o met = Ps.bad (lacks s a):= by
 rw [Ps.dict]
 unfold Has at h
 unfold lacks
 by_cases e1 : (Lx.next s a).2 = 0
 ·have e2 : (Lx.next s a).1.k = 0 := Classical.not_not.1 fun h2 => h ⟨e1,h2⟩
  rw [if_neg (by rw [e1]; simp),if_neg (fun h3 => by rw [e2] at h3; exact absurd h3.1 (by decide)),if_pos e2,if_neg (by rw [e1]; simp)]
 ·rw [if_pos e1,if_pos e1]
theorem pdict_ret (s : List UInt8) (hs : s.length≤1000000000) (n : Nat) (hn : n≤23) (hsub : PObj s n) : PDict s n:= by
 intro b a M w h0 h1 hr
 generalize hR : Ps.dict s (Ps.obj s n) (s.length + 1) a Ps.dict0 [] = R
 refine lent_of (fun K ho hret hpan => S_parse_reader_dict_ok ?_) hr
 unfold S_parse_reader_dict
 have ho := ho.pair
 refine o_oba ho fun b4 w1 ho => ?_
 refine o_mapNewB ho fun b5 w2 ho => ?_
 generalize hS0 : (rmE b s a M).blk = S0 at *
 have ho : OwnS S0 w w2 [.mapB b5 [],obE b4 ob0 nilS nilS,rmE b s a M] := ho
 have fall : ∀ {W : World} {L : List Ent} {e2 : Ent} {N : Mem} (e : Int),OwnS S0 w W (L++([.two e2 (.mem N)]++[]))→M.le N→R = Ps.bad e→e≠0→pk K [wrongE e] W:= by
  intro W L e2 N e ho hle he h0
  subst he
  exact hpan h0 e2 N W _ (ho.front).split hle
 refine loop (fun vs w' => ∃ (a' : Int) (m : Nat) (o : Ob) (l : List Ps.Kv) (al : List (List UInt8 × Value)) (N : Mem),vs = []∧0≤a'∧a'≤s.length∧(l.length : Int)≤a'∧l.length≤8191∧l.length + m = s.length + 1 ∧
   Ps.dict s (Ps.obj s n) m a' o (l.map (·.1)) = R∧M.le N∧KvR N.A N.w al l∧(l.map (·.1)).Nodup∧Ps.Made o l ∧
   OwnS S0 w w' [.mapB b5 al,obE b4 ob0 nilS nilS,rmE b s a' N]) (fun _ w => s.length - rdAt b w)
  ⟨a,s.length + 1,Ps.dict0,[],[],M,rfl,h0,h1,by simpa using h0,by simp,by simp,hR,M.le_refl,trivial,List.nodup_nil,Ps.made0,ho⟩ ?_
 clear ho hR
 rintro vs w4 ⟨a',m,o,l,al,N,rfl,ha0,ha1,hla,hmx,hml,hdict,hle,hkv,hnd,hmade,ho⟩ _
 simp only [S_parse_reader_dict_0]
 obtain ⟨m,rfl⟩ : ∃ k,m = k + 1 := ⟨m - 1,by omega⟩
 have hall : al.length = l.length := by simpa using congrArg List.length hkv.fst
 have hat : rdAt b w4 = a'.toNat := rdAt_is (ho.at_ 2 rfl).1
 refine c_rm ho 2 rfl (pnext_ret b s a' N w4 (by omega) (ho.at_ 2 rfl)) ?_ fun e2 w5 hn ho => ?_
 rotate_left
 ·rw [dict_lacks hn] at hdict
  exact fall (L := [_,_]) _ ho hle hdict.symm lacks_pos
 rintro _ N1 w5 hhas hle1 rfl ho
 have hbd := @Lx.next_bd s a' hhas.1 hhas.2
 have hge := Lx.skip_ge s a'.toNat
 obtain ⟨e1,e2⟩ := hhas
 rw [Ps.dict] at hdict
 generalize Lx.next s a' = x at *
 rw [if_neg (by rw [e1]; simp)] at hdict
 refine o_tok ho fun b6 w6 ho => ?_
 refine tk_put 0 ho rfl fun w7 ho => ?_
 have ho : OwnS S0 w w7 [tokE b6 x.1,.mapB b5 al,obE b4 ob0 nilS nilS,rmE b s x.1.t N1] := ho
 rw [tk_v ho 0 rfl]
 refine c_below ho (R := fun v => v = .bool (decide (x.1.k = 6) && decide (x.1.s = [62,62]))) (pword_ret x.1 6 [62,62] w7) ?_
 rintro _ w8 rfl ho
 cases e3 : (decide (x.1.k = 6) && decide (x.1.s = [62,62])) with
 | true =>
  simp only [Bool.and_eq_true,decide_eq_true_eq] at e3
  rw [if_pos ⟨e3.1,e3.2⟩] at hdict
  simp only [i_t]
  have hb7 : ∀ {PK : List PanicEntry→World→Prop} {K : Value→World→Prop},DoX Tryz.prog (mBuild 27 #[(0,(.int .i64 7))]) w8 PK K = K (obV Ps.dict0 nilS nilS) w8 := do_eq (by kernel_rfl)
  rw [hb7]
  have ho := (ho.nilU 27 6).nilU 9 1
  refine o_oba ho fun b9 w9 ho => ?_
  refine ob_put (o' := Ps.dict0) (vk' := nilS) (vc' := nilS) 0 rfl rfl ho rfl fun w10 ho => ?_
  have ho : OwnS S0 w w10 ([obE b9 Ps.dict0 nilS nilS,keyE nilS [],kidE nilS 0 []]++([tokE b6 x.1]++[.mapB b5 al,obE b4 ob0 nilS nilS,rmE b s x.1.t N1])) := ho
  have ho := ho.front.tail
  have ho : OwnS S0 w w10 ([obE b9 Ps.dict0 nilS nilS,keyE nilS [],kidE nilS 0 []]++([.mapB b5 al]++([obE b4 ob0 nilS nilS]++[rmE b s x.1.t N1]))) := ho
  have ho : OwnS S0 w w10 [obE b9 Ps.dict0 nilS nilS,keyE nilS [],kidE nilS 0 [],obE b4 ob0 nilS nilS,.mapB b5 al,rmE b s x.1.t N1] :=
   ho.perm (List.Perm.append_left [obE b9 Ps.dict0 nilS nilS,keyE nilS [],kidE nilS 0 []] (List.Perm.swap _ _ _))
  refine pbuild (hkv.le hle1) hnd hmade hmx ho fun W N2 L v ho hle2 hv => ?_
  subst hdict
  exact hret rfl v N2 W L ho ((hle.trans hle1).trans hle2) hv
 | false =>
 have e3' : ¬ (x.1.k = 6∧x.1.s = [62,62]) := fun h => by
  rw [decide_eq_true h.1,decide_eq_true h.2] at e3
  exact absurd e3 (by decide)
 rw [if_neg e3',if_neg e2] at hdict
 simp only [i_f,fa_t4',tk_s ho 0 rfl]
 rw [lookT 1 ho rfl]
 simp only [ex]
 have hlook : ∃ o' vk vc,(lookA al x.1.s).getD (obV ob0 nilS nilS) = obV o' vk vc∧vk.oneCell' = true∧vc.oneCell' = true:= by
  cases hl : lookA al x.1.s with
  | none => exact ⟨ob0,nilS,nilS,rfl,rfl,rfl⟩
  | some v =>
   have hm : (x.1.s,v) ∈ al:= by
    unfold lookA at hl
    obtain ⟨p,hp,hpv⟩ := Option.map_eq_some_iff.1 hl
    have h1 := List.find?_some hp
    have h2 := List.mem_of_find?_eq_some hp
    simp only [decide_eq_true_eq] at h1
    rw [← h1,← hpv]; exact h2
   obtain ⟨q,_,hq⟩ := hkv.mem hm
   obtain ⟨vk,vc,cs,he,ha⟩ := hq.open
   exact ⟨q,vk,vc,he,ha.keys.one,ha.kids.one⟩
 obtain ⟨o',vk7,vc7,hlv,ok7,oc7⟩ := hlook
 rw [hlv]
 refine o_oba ho fun b7 w9 ho => ?_
 refine ob_put (o' := o') 0 ok7 oc7 ho rfl fun w10 ho => ?_
 have ho := ho.tail
 have ho : OwnS S0 w w10 [tokE b6 x.1,.mapB b5 al,obE b4 ob0 nilS nilS,rmE b s x.1.t N1] := ho
 have hmet : (lookA al x.1.s).isSome = decide (x.1.s ∈ l.map (·.1)):= by
  rw [← hkv.fst]
  cases hl : lookA al x.1.s with
  | none => rw [decide_eq_false (lookA_none.1 hl)]; rfl
  | some v =>
   have : ¬ x.1.s ∉ al.map (·.1) := fun h => by rw [lookA_none.2 h] at hl; cases hl
   rw [decide_eq_true (Classical.not_not.1 this)]; rfl
 refine join fun J hJ => ?_
 rw [fa_t0,tk_k ho 0 rfl]
 simp only [rs]
 by_cases e4 : x.1.k = 4
 case neg =>
  rw [if_pos e4] at hdict
  simp only [e4,ne_eq,not_false_eq_true,decide_true,i_t]
  exact throw (fall (L := [_,_,_]) 3 ho (hle.trans hle1) hdict.symm (by decide))
 rw [if_neg (by rw [e4]; simp)] at hdict
 simp only [e4,ne_eq,not_true,decide_false,i_f,hmet]
 by_cases e5 : x.1.s ∈ l.map (·.1)
 ·rw [if_pos e5] at hdict
  simp only [decide_eq_true e5,i_t]
  exact throw (fall (L := [_,_,_]) 9 ho (hle.trans hle1) hdict.symm (by decide))
 rw [if_neg e5] at hdict
 simp only [decide_eq_false e5,i_f]
 rw [lenM 1 ho rfl,List.length_map] at *
 simp only [rs]
 by_cases e6 : l.length = 8191
 ·rw [if_pos e6] at hdict
  simp only [show (8191 : Int)≤(al.length : Int) by omega,decide_true,i_t]
  exact throw (fall (L := [_,_,_]) 6 ho (hle.trans hle1) hdict.symm (by decide))
 rw [if_neg e6] at hdict
 simp only [decide_eq_false (show ¬ (8191 : Int)≤(al.length : Int) by omega),i_f]
 refine hJ _ _ fun _ => ?_
 unfold S_parse_reader_dict_3
 have ho := ho.drew
 refine ⟨fun W => (tokE b6 x.1).is W,ho.at_ 0 rfl,?_⟩
 refine hd_pure _ (fun _ => run_fa ft4) ?_
 refine hd_do (.string ⟨x.1.s.toArray⟩) (fun W h => run_load_cell nStr (cells_cell (T := 90) (cs := tokC x.1) (i := 4) h rfl)) ?_
 refine c_rm ho 3 rfl (pnext_ret b s x.1.t N1 _ (by omega) (ho.at_ 3 rfl)) ?_ fun e2 w11 hn ho => ?_
 rotate_left
 ·rw [obj_lacks hn,if_pos (show (Ps.bad (lacks s x.1.t)).2.2≠0 from lacks_pos)] at hdict
  exact fun _ _ _ _ _ _ => fall (L := [_,_,_]) _ ho (hle.trans hle1) hdict.symm lacks_pos
 rintro _ N2 w11 hhas2 hle2 rfl ho
 refine ⟨ho.at_ 0 rfl,?_⟩
 have hbd2 := @Ps.obj_bd s n x.1.t
 have hob := hsub b x.1.t N2 w11 hhas2 (ho.at_ 3 rfl)
 generalize Ps.obj s n x.1.t = e at *
 refine c_rm ho 3 rfl hob ?_ fun e2 w12 hz ho => ?_
 rotate_left
 ·rw [if_pos hz] at hdict
  exact fun _ _ _ _ _ _ => fall (L := [_,_,_]) _ ho ((hle.trans hle1).trans hle2) hdict.symm hz
 rintro u N3 w12 hz hle3 hu ho
 have ho : OwnS S0 w w12 [tokE b6 x.1,.mapB b5 al,obE b4 ob0 nilS nilS,rmE b s e.2.1 N3] := ho
 refine ⟨ho.at_ 0 rfl,?_⟩
 have hln : lookA al x.1.s = none := lookA_none.2 (by rw [hkv.fst]; exact e5)
 refine o_mapAddB 1 Tryz.underlying229 Tryz.underlying9 ho rfl x.1.s u hln fun w13 ho => ⟨ho.at_ 0 rfl,?_⟩
 rw [if_neg (by rw [hz]; simp)] at hdict
 have hbd3 := hbd2 hz
 have hm2 := Ps.made_join (v := e.1) hmade e5
 have hnd2 : ((l++[(x.1.s,e.1)]).map (·.1)).Nodup:= by
  rw [List.map_append,List.nodup_append]
  refine ⟨hnd,by simp,fun p hp q hq => ?_⟩
  simp at hq
  subst hq
  exact fun h => e5 (h ▸ hp)
 have h5 : a' < e.2.1:= by
  have := hbd3.1
  omega
 refine nextX ⟨e.2.1,m,Ps.join o x.1.s e.1,l++[(x.1.s,e.1)],al++[(x.1.s,u)],N3,rfl,by omega,hbd3.2,by simp; omega,by simp; omega,by simp; omega,?_,((hle.trans hle1).trans hle2).trans hle3,(((hkv.le hle1).le hle2).le hle3).snoc hu,hnd2,hm2,ho.tail⟩ ?_
 ·rw [List.map_append]; exact hdict
 ·have hat2 : rdAt b w13 = e.2.1.toNat := rdAt_is (ho.at_ 3 rfl).1
  show s.length - rdAt b w13 < s.length - rdAt b w4
  rw [hat,hat2]
  exact meas ha0 h5 hbd3.2
theorem pobject_ret (s : List UInt8) (hs : s.length≤1000000000) (n : Nat) (hn : n≤24) : PObj s n :=
 pobj_ret s hs (fun n hn h => parr_ret s hs n hn h) (fun n hn h => pdict_ret s hs n hn h) n hn
end Go.Proofs.YtjloddgofmdmgaaGreatDoor
namespace Go.Proofs.YtjloddgofmdmgaaGreatDoor
set_option maxRecDepth 20000
open Eng Go.RowKit
namespace Ps
theorem arr_err {s : List UInt8} {ok : Bool} {sub : Int→R} : ∀ (m : Nat) (a : Int) (acc : List Ob),(arr s ok sub m a acc).2.2≠0→arr s ok sub m a acc = bad (arr s ok sub m a acc).2.2
 | 0,_,_,_ => rfl
 | m + 1,a,acc,h => by
  rw [arr] at h ⊢
  split
  ·rename_i h1; rw [if_pos h1] at h; exact absurd rfl h
  rename_i h1
  rw [if_neg h1] at h
  split
  ·rfl
  rename_i h2
  rw [if_neg h2] at h
  split
  ·rfl
  rename_i h3
  rw [if_neg h3] at h
  split
  ·rfl
  rename_i h4
  rw [if_neg h4] at h
  exact arr_err m _ _ h
theorem dict_err {s : List UInt8} {sub : Int→R} : ∀ (m : Nat) (a : Int) (o : Ob) (met : List (List UInt8)),(dict s sub m a o met).2.2≠0→dict s sub m a o met = bad (dict s sub m a o met).2.2
 | 0,_,_,_,_ => rfl
 | m + 1,a,o,met,h => by
  rw [dict] at h ⊢
  split
  ·rfl
  rename_i h1
  rw [if_neg h1] at h
  split
  ·rename_i h2; rw [if_pos h2] at h; exact absurd rfl h
  rename_i h2
  rw [if_neg h2] at h
  split
  ·rfl
  rename_i h3
  rw [if_neg h3] at h
  split
  ·rfl
  rename_i h4
  rw [if_neg h4] at h
  split
  ·rfl
  rename_i h5
  rw [if_neg h5] at h
  split
  ·rfl
  rename_i h6
  rw [if_neg h6] at h
  split
  ·rfl
  rename_i h7
  rw [if_neg h7] at h
  exact dict_err m _ _ _ h
theorem leaf_ok {s : List UInt8} {t : Lx.Tok} : (leaf s t).2.2 = 0:= by
 unfold leaf
 split
 ·cases ref s t <;> rfl
 all_goals (repeat' split) <;> rfl
theorem obj_err {s : List UInt8} {n : Nat} {a : Int} (h : (obj s n a).2.2≠0) : obj s n a = bad (obj s n a).2.2:= by
 have hob : obj s n a = _ := obj.eq_def s n a
 simp only at hob
 revert h
 rw [hob]
 intro h
 split
 ·rfl
 rename_i h1
 rw [if_neg h1] at h
 split
 ·rfl
 rename_i h2
 rw [if_neg h2] at h
 split
 ·rfl
 rename_i h3
 rw [if_neg h3] at h
 cases n with
 | zero => rfl
 | succ n =>
  simp only at h ⊢
  split
  ·rename_i h4; rw [if_pos h4] at h; exact absurd leaf_ok h
  rename_i h4
  rw [if_neg h4] at h
  split
  ·rename_i h5; rw [if_pos h5] at h; exact arr_err _ _ _ h
  ·rename_i h5; rw [if_neg h5] at h; exact dict_err _ _ _ _ h
end Ps
theorem psface_plain : plainB Tryz.prog 116 = true := by kernel_rfl
theorem psread_ret (b : Nat) (s : List UInt8) (a : Int) (M : Mem) (w : World) (hs : s.length≤1000000000) (hr : (rmE b s a M).is w) :
  Ret Tryz.prog 68 #[rdP b] w (fun v w' => ∃ N u e2,M.le N∧v = .tuple #[u,.int .i64 (Ps.obj s 24 a).2.2]∧OV N.A N.w u (Ps.obj s 24 a).1∧((Ps.obj s 24 a).2.2 = 0→e2 = rdE b s (Ps.obj s 24 a).2.1)∧Turn (rmE b s a M) (.two e2 (.mem N)) w w'):= by
 refine ret_of fun K hK => S_parse_reader_read_ok ?_
 unfold S_parse_reader_read
 have ho : OwnS (rmE b s a M).blk w w [rmE b s a M] := OwnS.lend hr
 generalize hS0 : (rmE b s a M).blk = S0 at ho
 refine o_oba ho fun b2 w1 ho => ?_
 refine o_new (fun b => .pointer (some ⟨b,0,none⟩)) [.int .i64 0] 30 (fun _ => by kernel_rfl) ho fun b3 w2 ho => ?_
 have ho : OwnS S0 w w2 [.cells b3 [.int .i64 0] 30,obE b2 ob0 nilS nilS,rmE b s a M] := ho
 -- a syntax error
 have fail2 : ∀ {W : World} {e2 : Ent} {e : Int} {N : Mem},OwnS S0 w W [.cells b3 [.int .i64 0] 30,obE b2 ob0 nilS nilS,.two e2 (.mem N)]→M.le N→Ps.obj s 24 a = Ps.bad e→e≠0→S_parse_reader_read_p0 (.pointer (some ⟨b2,0,none⟩)) (.pointer (some ⟨b3,0,none⟩)) K [wrongE e] W:= by
  intro W e2 e N ho hle he h0
  show pd Tryz.prog _ K _ [wrongE e] W
  unfold pd
  refine leave_fn (by simp) psface_plain (S_parse_face_dok ?_)
  simp only [S_parse_face,recV,recM,wrongE,Eng.e_some Tryz.underlying20,rs,t_hit nfW,ex,i_t,i_f]
  refine o_store 0 ho rfl (by kernel_rfl) rfl (by simp) fun w7 ho => ?_
  refine ret_v2 (rv_cell (ho.agg 1 rfl aggOb)) (rv_cell (AtV.cell nErr5 (ho.cell 0 rfl 0 rfl))) (hK _ _ ⟨N,obV ob0 nilS nilS,e2,hle,?_,?_,?_,?_⟩)
  ·rw [he]; rfl
  ·rw [he]; exact ob0_ov2
  ·rw [he]; exact fun h => absurd h h0
  ·have ho : OwnS S0 w w7 ([.cells b3 [.int .i64 e] 30,obE b2 ob0 nilS nilS]++([.two e2 (.mem N)]++[])) := ho
   have ho := ho.front
   subst hS0
   exact OwnS.back ho
 refine c_rm ho 2 rfl (pnext_ret b s a M w2 (by omega) (ho.at_ 2 rfl)) ?_ fun e2 w3 hn ho => fail2 ho M.le_refl (obj_lacks hn) lacks_pos
 rintro _ N w3 hh hle rfl ho
 have hob := pobject_ret s hs 24 (by omega) b a N w3 hh (ho.at_ 2 rfl)
 rw [show (24 : Int) - ((24 : Nat) : Int) = 0 by decide] at hob
 refine c_rm ho 2 rfl hob ?_ fun e2 w4 hz ho => fail2 ho hle (Ps.obj_err hz) hz
 rintro u N2 w4 hz hle2 hu ho
 obtain ⟨xk,xc,xcs,rfl,hx⟩ := hu.open
 refine ob_put 1 hx.keys.one hx.kids.one ho rfl fun w5 ho => ?_
 refine o_store 0 ho rfl (by kernel_rfl) rfl (by simp) fun w6 ho => ?_
 refine leave_fn (by simp) psface_plain (S_parse_face_dok ?_)
 simp only [S_parse_face,recV,recM,Eng.e_nil Tryz.underlying20,rs]
 have ho : OwnS S0 w w6 ([.cells b3 [.int .i64 0] 30,obE b2 (Ps.obj s 24 a).1 xk xc]++([.two (rdE b s (Ps.obj s 24 a).2.1) (.mem N2)]++[])) := ho
 refine ret_v2 (rv_cell (ho.agg 1 rfl aggOb)) (rv_cell (AtV.cell nErr5 (ho.cell 0 rfl 0 rfl))) (hK _ _ ⟨N2,obV (Ps.obj s 24 a).1 xk xc,_,hle.trans hle2,?_,hx.ov,fun _ => rfl,?_⟩)
 ·rw [hz]; rfl
 ·have ho := ho.front
  subst hS0
  exact OwnS.back ho
theorem psobject_ret (s : List UInt8) (a : Int) (hs : s.length≤1000000000) (M : Mem) (w : World) (hM : M.has w) : RetM Tryz.prog 47 #[.string ⟨s.toArray⟩,.int .i64 a] M w (objR (Ps.object s a)):= by
 refine retM_of hM fun K hK => S_parse_Object_ok ?_
 unfold S_parse_Object
 refine o_oba (OwnS.memS hM) fun b4 w1 ho => ?_
 have fail : a < 0∨(s.length : Int) < a→DoX Tryz.prog (mBuild 27 #[]) w1 (pk K) (fun t W => DoX Tryz.prog (mStore 27 (.pointer (some ⟨b4,0,none⟩)) t) W (pk K) fun _ W => RetX Tryz.prog [.cell (.pointer (some ⟨b4,0,none⟩)) 27,.val (.int .i64 0),.val (.int .i64 1)] W K):= by
  intro h
  refine ret_bad 0 ho rfl fun w' ho => ?_
  refine hK _ _ M _ 1 ho rfl M.le_refl ?_
  rw [Ps.object,if_pos h]
  exact ⟨_,rfl,ob0_ov2⟩
 by_cases h1 : a < 0
 ·simp only [rs,decide_eq_true h1,g_un]
  exact fail (.inl h1)
 by_cases h2 : (s.length : Int) < a
 ·simp only [rs,decide_eq_false h1,s_len Tryz.underlying9,decide_eq_true h2,g_un]
  exact fail (.inr h2)
 simp only [rs,decide_eq_false h1,s_len Tryz.underlying9,decide_eq_false h2,g_un]
 clear fail
 have hPs : Ps.object s a = Ps.obj s 24 a := by rw [Ps.object,if_neg (by omega)]
 rw [hPs] at hK
 have hb1 : ∀ {PK : List PanicEntry→World→Prop} {K : Value→World→Prop},DoX Tryz.prog (mBuild 118 #[(0,.string ⟨s.toArray⟩),(1,.int .i64 a)]) w1 PK K = K (.agg (rdC s a).toArray) w1 := do_eq (by kernel_rfl)
 rw [hb1]
 refine o_new (fun b => .pointer (some ⟨b,0,none⟩)) (rdC s a) 118 (fun _ => by kernel_rfl) ho fun b22 w2 ho => ?_
 have ho : OwnS M.A w w2 ([rdE b22 s a]++([obE b4 ob0 nilS nilS]++([.mem M]++[]))) := ho
 have ho : OwnS M.A w w2 ([rdE b22 s a]++([.mem M]++([obE b4 ob0 nilS nilS]))) := ho.perm (List.Perm.append_left _ (List.Perm.swap _ _ _))
 have ho := ho.pair
 refine c_ret (psread_ret b22 s a M w2 hs (ho.at_ 0 rfl)) ?_
 rintro _ w3 ⟨N,u,e2,hle,rfl,hu,he2,ht⟩
 have ho := (ho.turn 0 rfl ht).split
 have ho : OwnS M.A w w3 [e2,.mem N,obE b4 ob0 nilS nilS] := ho
 simp only [ex]
 obtain ⟨xk,xc,xcs,rfl,hx⟩ := hu.open
 refine o_oba ho fun b8 w4 ho => ?_
 refine ob_put 0 hx.keys.one hx.kids.one ho rfl fun w5 ho => ?_
 have ho : OwnS M.A w w5 [obE b8 (Ps.obj s 24 a).1 xk xc,e2,.mem N,obE b4 ob0 nilS nilS] := ho
 simp only [rs]
 by_cases hz : (Ps.obj s 24 a).2.2 = 0
 case neg =>
  simp only [hz,ne_eq,not_false_eq_true,decide_true,i_t]
  refine ret_bad 3 ho rfl fun w' ho => ?_
  refine hK _ _ N _ 2 ho rfl hle ?_
  rw [Ps.obj_err hz]
  exact ⟨_,rfl,ob0_ov2⟩
 simp only [hz,ne_eq,not_true,decide_false,i_f]
 rw [he2 hz] at ho
 have ho := ho.drew
 refine ⟨fun W => (obE b8 (Ps.obj s 24 a).1 xk xc).is W∧(rdE b22 s (Ps.obj s 24 a).2.1).is W,⟨ho.at_ 0 rfl,ho.at_ 1 rfl⟩,?_⟩
 refine hd_do (obV (Ps.obj s 24 a).1 xk xc) (fun W h => run_load_at (AtV.agg aggOb (cs := obC (Ps.obj s 24 a).1 xk xc) rfl fun j u hj => by rw [Nat.zero_add]; exact cells_cell (T := 27) h.1 hj)) ?_
 refine hd_pure _ (fun _ => run_nil) (hd_pure _ (fun _ => run_fa fr1) (hd_do _ (fun W h => rdr_a h.2) ?_))
 refine ob_put 3 hx.keys.one hx.kids.one ho rfl fun w6 ho => ⟨⟨ho.at_ 0 rfl,ho.at_ 1 rfl⟩,?_⟩
 refine ret_v3 (rv_cell (ho.agg 3 rfl aggOb)) rv_val rv_val (hK _ _ N _ 2 ho rfl hle ?_)
 exact ⟨_,by rw [hz]; rfl,hx.ov⟩
end Go.Proofs.YtjloddgofmdmgaaGreatDoor
namespace Go.Proofs.YtjloddgofmdmgaaGreatDoor
open Go
structure Slt where
 num : Int
 kind : Int
 a : Int
 b : Int
 deriving DecidableEq
structure Sec where
 at_ : Int
 slots : List Slt
 trailer : Ob
 prev : Int
 hybrid : Int
 own : Int
namespace Tl
open Lx (next Tok)
def xrefW : List UInt8 := [120,114,101,102]
def trailW : List UInt8 := [116,114,97,105,108,101,114]
def prevK : List UInt8 := [80,114,101,118]
def hybK : List UInt8 := [88,82,101,102,83,116,109]
def number (s : List UInt8) (at_ least most : Int) : Option (Int × Int) :=
 if (next s at_).2≠0∨(next s at_).1.k≠1∨(next s at_).1.n < least∨most < (next s at_).1.n then none else some ((next s at_).1.n,(next s at_).1.t)
def word (s : List UInt8) (at_ : Int) (w : List UInt8) : Option Int :=
 if (next s at_).2 = 0∧(next s at_).1.k = 5∧(next s at_).1.s = w then some (next s at_).1.t else none
def entry (s : List UInt8) (at_ num : Int) : Option (Slt × Int) :=
 match number s at_ 0 2147483647 with
 | none => none
 | some a => match number s a.2 0 65535 with
  | none => none
  | some b => match word s b.2 [110] with
   | some t => some (⟨num,1,a.1,b.1⟩,t)
   | none => match word s b.2 [102] with
    | some t => some (⟨num,0,a.1,b.1⟩,t)
    | none => none
def lay (l : List Slt) (x : Slt) : Option (List Slt) :=
 if (l.map (·.num)).contains x.num then none else some ((l.takeWhile fun y => decide (y.num < x.num))++x :: (l.dropWhile fun y => decide (y.num < x.num)))
def entries (s : List UInt8) : Nat→Int→Int→List Slt→Option (List Slt × Int)
 | 0,_,at_,l => some (l,at_)
 | n + 1,num,at_,l => match entry s at_ num with
  | none => none
  | some e => match lay l e.1 with
   | none => none
   | some l' => entries s n (num + 1) e.2 l'
def slots (s : List UInt8) : Nat→Int→List Slt→Option (List Slt × Int)
 | 0,_,_ => none
 | m + 1,at_,l => match word s at_ trailW with
  | some t => some (l,t)
  | none => match number s at_ 0 8191 with
   | none => none
   | some f => match number s f.2 0 (8192 - f.1) with
    | none => none
    | some c => match entries s c.1.toNat f.1 c.2 l with
     | none => none
     | some r => slots s m r.2 r.1
def leads (o : Ob) (k : List UInt8) : Option Int := match Vl.get o k with
 | none => some (-1)
 | some v => if v.k = 2∧0≤v.n then some v.n else none
def sec0 : Sec := ⟨0,[],Vl.ob0,0,0,0⟩
def bad : Sec × Int × Int := (sec0,0,19)
def beginsX (s : List UInt8) (at_ : Int) : Bool := decide (0≤at_) && decide (at_≤(s.length : Int)) && xrefW.isPrefixOf (s.drop at_.toNat)
def finish (s : List UInt8) (at_ : Int) (l : List Slt) (t : Int) : Sec × Int × Int :=
 if (Ps.object s t).2.2≠0∨(Ps.object s t).1.k≠7 then bad
 else match leads (Ps.object s t).1 prevK,leads (Ps.object s t).1 hybK with
  | some p,some h => (⟨at_,l,(Ps.object s t).1,p,h,0⟩,(Ps.object s t).2.1,0)
  | _,_ => bad
def read (s : List UInt8) (at_ : Int) : Sec × Int × Int :=
 if beginsX s at_ = false then bad
 else match word s at_ xrefW with
  | none => bad
  | some t => match slots s (s.length + 1) t [] with
   | none => bad
   | some r => finish s at_ r.1 r.2
def okS (x : Slt) : Int :=
 if x.num < 0∨8191 < x.num then 2 else if x.kind < 0∨2 < x.kind then 10
 else if x.kind = 2 then (if x.a < 1∨8191 < x.a∨x.b < 0∨8191 < x.b then 2 else 0) else if x.a < 0∨2147483647 < x.a∨x.b < 0∨65535 < x.b then 2 else 0
def checkG : Option Int→List Slt→Int
 | _,[] => 0
 | last,x :: l => if okS x≠0 then okS x else if last.any (fun n => decide (x.num = n)) then 9 else if last.any (fun n => decide (x.num < n)) then 1 else checkG (some x.num) l
def check (l : List Slt) : Int := checkG none l
end Tl
end Go.Proofs.YtjloddgofmdmgaaGreatDoor
